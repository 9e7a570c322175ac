import Derived.Test.YtdjgnbkclcjiiaaGreatDoorPg
import Derived.Test.YtdjgnbkclcjiiaaGreatDoorPb
import Derived.StillTail
import Derived.Deep.QuietTactic
import Derived.BigQuiet
import Derived.Lib.QuietBelow
import Derived.Test.YtdjgnbkclcjiiaaGreatDoorG0
import Derived.Test.YtdjgnbkclcjiiaaGreatDoorSn
import Derived.Test.YtdjgnbkclcjiiaaGreatDoorVcU
import Derived.Test.YtdjgnbkclcjiiaaGreatDoorProg
import Derived.Shelf.Spec.SlicesInsertGrow
import Derived.Lib.AppendZerosOnto
import Derived.Laws.CopyRow
import Derived.Below
import Derived.Maps.AppendAt
import Derived.Deep.RegionHeld3
section
set_option linter.unusedVariables false
set_option linter.unusedSimpArgs false
set_option maxRecDepth 100000
namespace Go.Proofs.YtdjgnbkclcjiiaaGreatDoor
open Go Go.RowKit Go.Proofs Wk
open Vc (SlAt OV iteI Vl zwa ze)
attribute [local irreducible] Go.Calls
def cmpT(s:List UInt8)(ask:Int)(nm:List UInt8)(wi:Int)(p:Sx):Sx × Rl :=
 if cmpS s p < 0 then (if ask=0 then (p,.mk 1 0 nm wi 5 0 nilV [])else (failS p (tokS s p.i).a 5,.mk 1 ask nm wi (cmpS s p) 0 nilV []))
 else ((numS s (-1073741824) 1073741824 ⟨(tokS s p.i).t,p.a,p.e⟩).1,.mk 1 ask nm wi (cmpS s p) (numS s (-1073741824) 1073741824 ⟨(tokS s p.i).t,p.a,p.e⟩).2 nilV [])
def a5(s:List UInt8)(ask:Int)(nm:List UInt8)(wi:Int)(p:Sx):Sx × Rl:=cmpT s ask nm wi (wantS s [41] p)
def a4(s:List UInt8)(ask:Int)(nm:List UInt8)(p:Sx):Sx × Rl:=a5 s ask nm (numS s 0 1000 p).2 (numS s 0 1000 p).1
def a3(s:List UInt8)(ask:Int)(nm:List UInt8)(p:Sx):Sx × Rl:=a4 s ask nm (wantS s [44] p)
def a2(s:List UInt8)(ask:Int)(p:Sx):Sx × Rl:=a3 s ask (nameS s p).2 (nameS s p).1
def a1(s:List UInt8)(ask:Int)(p:Sx):Sx × Rl:=a2 s ask (wantS s [40] p)
end Go.Proofs.YtdjgnbkclcjiiaaGreatDoor
end
section
set_option linter.unusedVariables false
set_option linter.unusedSimpArgs false
namespace Go.Proofs.YtdjgnbkclcjiiaaGreatDoor
open Go Go.RowKit Go.Proofs
def Rel{α:Type}(s:List UInt8)(r:Pr α)(z:Sx × α):Prop:=match r with
 | .ok v j=>z=(⟨j,0,0⟩,v)
 | .err a e=>z.1.a=a∧z.1.e=e∧e≠0∧z.1.i≤s.length
 | .out=>True
def Dd(s:List UInt8)(p q:Sx):Prop:=q.a=p.a∧q.e=p.e∧q.i≤s.length
theorem Dd.next{s:List UInt8}{p q r:Sx}(h:Dd s p q)(h':Dd s q r):Dd s p r:=⟨h'.1.trans h.1,h'.2.1.trans h.2.1,h'.2.2⟩
section
attribute [local irreducible] wantS nameS numS cmpT pWant pName pNum pCmp Rel Dd
end
end Go.Proofs.YtdjgnbkclcjiiaaGreatDoor
end
section
set_option linter.unusedVariables false
set_option linter.unusedSimpArgs false
namespace Wk
open Go Go.RowKit Go.Sort
open Vc (Ret)
section
variable {P:Program} {ops:Array Oper} {md:Region.Mode} {C:World→Prop}
end
theorem Kn.grown{w0 w w':World}{L}(h:Kn w0 w L)(hw:∃ p:Regrown,w'=grow (redrawn w p.d) p.os):Kn w0 w' L:=by
 obtain⟨p,rfl⟩:=hw;exact h.next (below_regrown w p.d p.os)
end Wk
end
section
set_option linter.unusedVariables false
set_option maxRecDepth 100000
namespace Go.Proofs.YtdjgnbkclcjiiaaGreatDoor
open Go Go.RowKit
theorem zzg(p0:Nat × Nat)(x0 x1 x2 x3 x4 x5 x6:Int)(b0:Bool)(s0:List UInt8)(w:World)(v:Value)(h :
 ∃ (x7:Int),(Vq w 45 #[.agg #[.int .i64 x0,.int .i64 x1,.string ⟨s0.toArray⟩,.int .i64 x2,.int .i64 x3,.int .i64 x4,(if b0=true then .slice none 0 0 else .slice (some (Vc.qad p0 (Int.toNat x5) (Int.toNat x6))) (Int.toNat x5) (Int.toNat x6):Value)],.int .i64 3000] (.int .i64 x7)) ∧
 (.bool (decide (x7 > 3000)):Value)=v):Calls Tryz.prog 15 #[.agg #[.int .i64 x0,.int .i64 x1,.string ⟨s0.toArray⟩,.int .i64 x2,.int .i64 x3,.int .i64 x4,(if b0=true then .slice none 0 0 else .slice (some (Vc.qad p0 (Int.toNat x5) (Int.toNat x6))) (Int.toNat x5) (Int.toNat x6):Value)]] w (Vc.Ret v w) :=
 Vc.zi base [] [] 200 Tryz.func15 (b:=(Tryz.f15.body).getD .skip) (by kernel_rfl) [.cv (.agg [.int .i64 (.var 0),.int .i64 (.var 1),.sv 0,.int .i64 (.var 2),.int .i64 (.var 3),.int .i64 (.var 4),.qsl 0 0 7 (.var 5) (.var 6)])] ⟨7,1,0,1,0,1,0⟩ [] (Vc.envOf [x0,x1,x2,x3,x4,x5,x6] [b0] [] [p0] [s0]) (by kernel_rfl) Vc.zg (by kernel_rfl) (by kernel_rfl) h
end Go.Proofs.YtdjgnbkclcjiiaaGreatDoor
end
section
set_option linter.unusedVariables false
set_option maxRecDepth 100000
namespace Go.Proofs.YtdjgnbkclcjiiaaGreatDoor
open Go Go.RowKit
theorem zah(x0 x1 x2:Int)(w:World)(v:Value)(h :
 (0≤x1) ∧
 (x1 < 6) ∧
 ((x1=0)→(
 (.bool (decide (x0 < x2)):Value)=v))∧(¬ (x1=0)→(
 ((x1=1)→(
 (.bool (decide (x0≤x2)):Value)=v))∧(¬ (x1=1)→(
 ((x1=2)→(
 (.bool (decide (x0 > x2)):Value)=v))∧(¬ (x1=2)→(
 ((x1=3)→(
 (.bool (decide (x0 ≥ x2)):Value)=v))∧(¬ (x1=3)→(
 ((x1=4)→(
 (.bool (x0 == x2):Value)=v))∧(¬ (x1=4)→(
 (.bool (x0 != x2):Value)=v))))))))))):Calls Tryz.prog 103 #[.int .i64 x0,.int .i64 x1,.int .i64 x2] w (Vc.Ret v w) :=
 Vc.zi base [] [] 200 Tryz.func103 (b:=(Tryz.f103.body).getD .skip) (by kernel_rfl) [.cv (.one (.int .i64 (.var 0))),.cv (.one (.int .i64 (.var 1))),.cv (.one (.int .i64 (.var 2)))] ⟨3,0,0,0,0,0,0⟩ [] (Vc.envOf [x0,x1,x2] [] [] []) (by kernel_rfl) Vc.zg (by kernel_rfl) (by kernel_rfl) h
abbrev Vj_ullageref10_answer_T4(x6:Int)(Ib0:List Vc.Vl→Prop)(b2:Bool)(mb0:List Vc.Vl→Nat)(b0:Bool)(b1:Bool):Prop :=
 ∀ x7:Int,x7=IntKind.i64.wrap (x6 + 1) →
 Ib0 [.b b2,.b false,.i x7]∧mb0 [.b b2,.b false,.i x7] < mb0 [.b b0,.b b1,.i x6]
abbrev Vj_ullageref10_answer_T3(w:World)(x0:Int)(x2:Int)(x3:Int)(x6:Int)(Ib0:List Vc.Vl→Prop)(b2:Bool)(mb0:List Vc.Vl→Nat)(b0:Bool)(b1:Bool):Prop :=
 ∃ (b3:Bool),(Vq w 103 #[.int .i64 x0,.int .i64 x2,.int .i64 x3] (.bool b3)) ∧
 ∀ x7:Int,x7=IntKind.i64.wrap (x6 + 1) →
 Ib0 [.b b2,.b (!b3),.i x7]∧mb0 [.b b2,.b (!b3),.i x7] < mb0 [.b b0,.b b1,.i x6]
end Go.Proofs.YtdjgnbkclcjiiaaGreatDoor
end
section
set_option linter.unusedVariables false
set_option linter.unusedSimpArgs false
set_option maxRecDepth 100000
namespace Go.Proofs.YtdjgnbkclcjiiaaGreatDoor
open Go Go.RowKit Go.Proofs Wk
open Vc (SlAt OV iteI Vl zwa ze)
attribute [local irreducible] Go.Calls
theorem zfca(r:Rl):(FM r).oneCell'=true:=by
 obtain⟨op,ask,nm,wi,cm,k,v,ks⟩:=r;unfold FM;rw [fmV];split
 ·rfl
 ·exact zps _ _ _ op _
end Go.Proofs.YtdjgnbkclcjiiaaGreatDoor
end
section
set_option linter.unusedVariables false
set_option linter.unusedSimpArgs false
set_option maxRecDepth 100000
namespace Go.Proofs.YtdjgnbkclcjiiaaGreatDoor
open Go Go.RowKit Go.Proofs Wk
open Vc (SlAt OV iteI Vl zwa ze)
attribute [local irreducible] Go.Calls
theorem zoz{w:World}{v:Value}{sz:Nat}{xs:List Value}(h:SlAt w v sz xs):∃ a l c,v=.slice a l c:=by
 rcases h with ⟨rfl,_⟩ | ⟨_,rfl,_⟩ | ⟨_,_,_,_,rfl,_⟩ <;> exact⟨_,_,_,rfl⟩
end Go.Proofs.YtdjgnbkclcjiiaaGreatDoor
end
section
set_option linter.unusedVariables false
set_option linter.unusedSimpArgs false
set_option maxRecDepth 4000
namespace Wk
open Go Go.RowKit
theorem via2{P:Program}{f:FuncId}{args:Array Value}{w0 W:World}{R:Ending→World→Prop}{Q:Ending→World→Prop}{L:List (Nat × Array Value × TypeId)}(hL:Kn w0 W L)
  (h:Calls P f args W fun e w1=>R e w1∧Below W.heap.size W w1) (k:∀ e w1,R e w1→Kn w0 w1 L→Opened w1 L→Q e w1):Calls P f args W Q :=
 h.mono fun e w1 ⟨he,hb⟩=>k e w1 he (hL.next hb) (Kn.opened_of (hL.next hb).all)
end Wk
namespace Go.Proofs.YtdjgnbkclcjiiaaGreatDoor
open Go Go.RowKit Go.Proofs Wk
attribute [local irreducible] Go.Calls
open Vc (SlAt OV iteI Vl zwa ze)
end Go.Proofs.YtdjgnbkclcjiiaaGreatDoor
end
section
set_option linter.unusedVariables false
set_option linter.unusedSimpArgs false
set_option maxRecDepth 4000
namespace Go.Proofs.YtdjgnbkclcjiiaaGreatDoor
open Go Go.RowKit Vc
attribute [local irreducible] Go.Calls
def sg:Bool→Int
 | true=>1
 | false => -1
theorem zgca{w:World}(a:Int){c:Int}(n:Int)(hc:0≤c∧c≤5):Calls Tryz.prog 103 #[.int .i64 a,.int .i64 c,.int .i64 n] w (Vc.Ret (.bool (cmpB c a n)) w):=by
 refine zah a c n w _ ⟨by omega,by omega, ?_⟩;unfold cmpB;refine iteI (fun h => ?_) (fun h=>iteI (fun h1 => ?_) (fun h1=>iteI (fun h2 => ?_) (fun h2=>iteI (fun h3 => ?_) (fun h3=>iteI (fun h4 => ?_) (fun h4 => ?_)))))
 ·rw [if_pos h]
 ·rw [if_neg h,if_pos h1]
 ·rw [if_neg h,if_neg h1,if_pos h2]
 ·rw [if_neg h,if_neg h1,if_neg h2,if_pos h3]
 ·rw [if_neg h,if_neg h1,if_neg h2,if_neg h3,if_pos h4];refine zwa ?_;rw [Bool.eq_iff_iff];simp
 ·rw [if_neg h,if_neg h1,if_neg h2,if_neg h3,if_neg h4];refine zwa ?_;rw [Bool.eq_iff_iff];simp
end Go.Proofs.YtdjgnbkclcjiiaaGreatDoor
end
section
set_option linter.unusedVariables false
set_option linter.unusedSimpArgs false
set_option maxRecDepth 4000
namespace Go.Proofs.YtdjgnbkclcjiiaaGreatDoor
open Go Go.RowKit Go.Proofs Wk
open Vc (SlAt OV iteI Vl zwa ze)
attribute [local irreducible] Go.Calls
def aS(f:Nat→Bool):Nat→Bool | 0=>true | n + 1=>aS f n && f n
def nS(f:Nat→Bool):Nat→Bool | 0=>true | n + 1=>nS f n && !f n
def msQ3:List Vl→Nat | [_,_,.i a]=>3 - a.toNat | _=>0
def fS(c n lo hi mid:Int):Nat→Bool | 0=>cmpB c lo n | 1=>cmpB c hi n | _=>cmpB c mid n
section
variable {w:World} {x c n lo hi mid:Int} {i:Nat} {b0 b1 b2:Bool} (hc:0≤c∧c≤5) (hi3:i < 3) (hx:cmpB c x n=fS c n lo hi mid i) (h0:b0=aS (fS c n lo hi mid) i) (h1:b1=nS (fS c n lo hi mid) i)
def IS(c n lo hi mid:Int):List Vl→Prop:=fun L=>∃ i:Nat,L=[.b (aS (fS c n lo hi mid) i),.b (nS (fS c n lo hi mid) i),.i i]∧i≤3
include hc hi3 hx h0 h1
theorem s3(hb2:b2=fS c n lo hi mid i)(e0:b0=true)(e1:b1=true):Vj_ullageref10_answer_T3 w x c n (i:Int) (IS c n lo hi mid) b2 msQ3 b0 b1:=by
 refine⟨_,fun w' _=>zgca x n hc, ?_⟩;rintro x7 rfl;rw [ze (by omega)];refine⟨⟨i + 1, ?_,by omega⟩,by simp only [msQ3];omega⟩;simp only [aS,nS];rw [← h0,← h1,e0,e1,hx,hb2,Bool.true_and,Bool.true_and];rfl
omit hc hx in
theorem s4(hb2:b2=fS c n lo hi mid i)(e0:b0=true)(e1:¬ b1=true):Vj_ullageref10_answer_T4 (i:Int) (IS c n lo hi mid) b2 msQ3 b0 b1:=by
 rintro x7 rfl;rw [ze (by omega)];refine⟨⟨i + 1, ?_,by omega⟩,by simp only [msQ3];omega⟩;simp only [aS,nS];rw [← h0,← h1,e0,Bool.eq_false_iff.2 e1,hb2,Bool.true_and,Bool.false_and];rfl
end
end Go.Proofs.YtdjgnbkclcjiiaaGreatDoor
end
section
set_option linter.unusedVariables false
set_option linter.unusedSimpArgs false
namespace Vc
open Go
section
variable {α:Type}
end
def sK(s:List UInt8):Value := .string ⟨s.toArray⟩
end Vc
end
section
set_option linter.unusedVariables false
set_option linter.unusedSimpArgs false
set_option maxRecDepth 4000
namespace Go.Proofs.YtdjgnbkclcjiiaaGreatDoor
open Go Go.RowKit Go.Proofs Wk
open Vc (SlAt OV iteI Vl zwa ze sK)
attribute [local irreducible] Go.Calls
structure TM(p:List Sn)(K:List (List UInt8)):Prop where
 nd:K.Nodup
 no:∀ nm,nm ∉ K→lastT p nm=0
end Go.Proofs.YtdjgnbkclcjiiaaGreatDoor
end
section
set_option linter.unusedVariables false
set_option linter.unusedSimpArgs false
set_option linter.unusedSimpArgs false
namespace Go.Proofs.YtdjgnbkclcjiiaaGreatDoor
open Go Go.RowKit Go.Proofs Go.Shelf Go.Lib
theorem zfr:Tryz.prog.underlying 52=some (.slice 61):=by kernel_rfl
theorem zpz:(Tryz.prog.info? 61).map (·.zero)=some (some (.agg #[.string ⟨#[]⟩,.int .i64 0,.int .i64 0])):=by kernel_rfl
theorem zrs:(Tryz.prog.info? 61).map (fun i=>(i.size,i.bytes))=some (3,32):=by kernel_rfl
theorem zjj(w:World)(ty:TypeId)(g o dLen dCap:Nat)(a:Addr)(sLen sCap n:Nat)(cur:Array Value)(t:TypeId)(cs:List Value)
  (hg:w.heap[g]? = some (.cells cur t (0,0))) (hm:Nat.min sLen dLen=n) (hn:cs.length=n * 3)
  (hsrc:∀ j v,cs[j]? = some v→w.cell? (a.add j)=some v) (hfit:o + cs.length≤cur.size) (h1:∀ v∈cs,v.oneCell'=true) :
  (Builtin.copy_ #[52,52] ty #[.slice (some ⟨g,o,none⟩) dLen dCap,.slice (some a) sLen sCap]).run Tryz.prog w =
   .ok (goInt n) (w.setRow g (cur.toList.take o++cs++cur.toList.drop (o + cs.length)).toArray):=by
 have hl:=run_loadCells_list (P:=Tryz.prog) w a cs hsrc;have hst:=run_storeCells_at Tryz.prog g o t cs 0 cur w hg (by simpa using hfit) h1;obtain⟨i,hi,hi2⟩:=Option.map_eq_some_iff.1 zrs;have hs:i.size=3:=by injection hi2
 simp [Builtin.copy_,run_underlying zfr,Builtin.lenOf,Builtin.firstCells,sizeOf,typeInfo,hi,hs,hm,← hn,hl,hst]
theorem cellsAt{w:World}{b:Nat}{cur:Array Value}{t:TypeId}{fr:Nat × Nat}(h:w.heap[b]? = some (.cells cur t fr))(o:Nat)(cs:List Value)(n:Nat)(hc:(cur.toList.drop o).take n=cs):∀ j v,cs[j]? = some v→w.cell? ((⟨b,o,none⟩:Addr).add j)=some v:=by
 intro j v hj;have hadd:(⟨b,o,none⟩:Addr).add j=⟨b,o + j,none⟩:=by unfold Addr.add;split <;> simp_all
 rw [hadd];subst hc;rw [List.getElem?_take]at hj;split at hj
 ·rw [List.getElem?_drop]at hj;simp only [World.cell?,h];simpa using hj
 ·cases hj
set_option maxHeartbeats 4000000 in
set_option maxRecDepth 100000 in
theorem zgr(b c vb:Nat)(cur:Array Value)(xs vs:List Value)(w:World)(hc2:2≤c)(hcm:c≤maxLen)(hx:w.heap[b]? = some (.cells cur 61 (0,0)))(hcs:cur.size=c * 3)(hxs:cur.toList.take 3=xs)
  (hv:w.heap[vb]? = some (.cells vs.toArray 61 (0,0))) (hvl:vs.length=3) (hne:vb≠b) (h1x:∀ v∈xs,v.oneCell'=true) (h1v:∀ v∈vs,v.oneCell'=true) :
  Calls Tryz.prog 154 #[.slice (some ⟨b,0,none⟩) 1 c,.int .i64 0,.slice (some ⟨vb,0,none⟩) 1 1] w fun e w' =>
   e=.returned (.slice (some ⟨b,0,none⟩) 2 c)∧w'=w.drew.setRow b (vs++xs++cur.toList.drop 6).toArray:=by
 have hcz:c≤9223372036854775807:=by unfold maxLen at hcm;omega
 have hxl:xs.length=3:=by rw [← hxs,List.length_take,Array.length_toList,hcs];omega
 have mixed:Tryz.prog.follows Departure.mixedOrders=true:=by kernel_rfl
 have u52:=run_underlying (P:=Tryz.prog) zfr;have u3:Tryz.prog.underlying 3=some (.int .i64):=by kernel_rfl
 have ub:Tryz.prog.underlying 4=some .bool:=by kernel_rfl
 have w1:IntKind.i64.wrap 1=1:=by decide
 have hn1:¬ (c=1):=by omega
 have hn0:¬ (c=0):=by omega
 have hgt:¬ ((c:Int) < 2):=by omega
 have hov:∀ lb cb,(callFunc 168 #[.slice (some ⟨vb,0,none⟩) 1 1,.slice (some ⟨b,3,none⟩) lb cb]).run Tryz.prog w=.ok (.value (.bool false)) w:=fun lb cb=>by
  rw [run_callFunc_extern Tryz.func168 (by kernel_rfl) (by kernel_rfl) (by kernel_rfl) (e:=Extern.SlicesOverlaps.overlaps #[52,52] #[4]) (by kernel_rfl),
   Lib.run_overlaps_apart w 52 4 61 zfr 3 (fun w=>by
    obtain⟨i,hi,hi2⟩:=Option.map_eq_some_iff.1 zrs;have hs:i.size=3:=by injection hi2
    simp [sizeOf,typeInfo,hi,hs]) ⟨vb,0,none⟩ ⟨b,3,none⟩ 1 1 lb cb hne 61 61 3 (c * 3) (by simp [World.shape?,hv,hvl]) (by simp [World.shape?,hx,hcs]) (by omega) (by simp [World.frozen?,hv]) (by simp [World.frozen?,hv])]
  rfl
 have hcp1:∀ ty dc sc,(Builtin.copy_ #[52,52] ty #[.slice (some ⟨b,3,none⟩) 1 dc,.slice (some ⟨b,0,none⟩) 2 sc]).run Tryz.prog w.drew=.ok (goInt 1) (w.drew.setRow b (cur.toList.take 3++xs++cur.toList.drop (3 + xs.length)).toArray):=fun ty dc sc =>
  zjj w.drew ty b 3 1 dc ⟨b,0,none⟩ 2 sc 1 cur _ xs hx rfl hxl (cellsAt (w:=w.drew) hx 0 xs 3 hxs) (by rw [hxl,hcs];omega) h1x
 obtain⟨W1,hW1⟩:∃ W1,W1=w.drew.setRow b (cur.toList.take 3++xs++cur.toList.drop (3 + xs.length)).toArray:=⟨_,rfl⟩
 have hW1b:W1.heap[b]? = some (.cells (cur.toList.take 3++xs++cur.toList.drop (3 + xs.length)).toArray 61 (0,0)):=by
  rw [hW1];exact setRow_heap w.drew b cur _ _ _ hx
 have hW1v:W1.heap[vb]? = some (.cells vs.toArray 61 (0,0)):=by
  rw [hW1,setRow_other w.drew b vb _ hne];exact hv
 have hcp2:∀ ty dc,(Builtin.copy_ #[52,52] ty #[.slice (some ⟨b,0,none⟩) 2 dc,.slice (some ⟨vb,0,none⟩) 1 1]).run Tryz.prog W1=.ok (goInt 1) (w.drew.setRow b (vs++xs++cur.toList.drop 6).toArray):=fun ty dc=>by
  rw [zjj W1 ty b 0 2 dc ⟨vb,0,none⟩ 1 1 1 _ _ vs hW1b rfl hvl (cellsAt hW1v 0 vs 3 (by simp [← hvl])) (by simp [hvl,hxl];omega) h1v];rw [hW1,setRow_setRow]
  have e:(cur.toList.take 3++xs++cur.toList.drop (3 + xs.length)).toArray.toList.drop (0 + vs.length)=xs++cur.toList.drop 6:=by
   rw [hxl,hvl];have h3:(cur.toList.take 3).length=3:=by rw [hxs,hxl]
   show (cur.toList.take 3++xs++cur.toList.drop 6).drop 3=_;rw [List.append_assoc,List.drop_append_of_le_length (by omega),List.drop_of_length_le (by omega)];rfl
  rw [e];simp
 rw [← hW1]at hcp1;clear hW1 hW1b hW1v hx hxs hcs hv;obtain⟨F,hF⟩:∃ F,F=w.drew.setRow b (vs++xs++cur.toList.drop 6).toArray:=⟨_,rfl⟩;rw [← hF]at hcp2 ⊢;clear hF
 go_enter Tryz.func154,Tryz.ntmps154
 go_wp2_with (simp only [hov])
 go_region_law_o (refine step_copy_runI rfl _ _ 52 52 rfl _ _ (by simp [Act.eval,Act.put]) (by simp [Act.eval,Act.put]) (hcp1 _ _ _) ?_)
 go_wp2_with (at_builtin;refine wpList_copy_runI _ rfl _ _ 52 52 rfl _ _ rfl rfl (hcp2 _ _) ?_)
 go_ret
 exact⟨rfl,rfl⟩
theorem zgg(z:Value)(hz:z.cells.size=3)(n:Nat):(Builtin.zeroCells z.cells n).size=n * 3:=by simp [Builtin.zeroCells,hz]
set_option maxHeartbeats 4000000 in
set_option maxRecDepth 100000 in
theorem zss(b vb:Nat)(cur:Array Value)(xs vs:List Value)(w:World)(hx:w.heap[b]? = some (.cells cur 61 (0,0)))(hcs:cur.size=3)(hxs:cur.toList=xs)
    (hv:w.heap[vb]? = some (.cells vs.toArray 61 (0,0))) (hvl:vs.length=3) (h1x:∀ v∈xs,v.oneCell'=true) (h1v:∀ v∈vs,v.oneCell'=true) :
    Calls Tryz.prog 154 #[.slice (some ⟨b,0,none⟩) 1 1,.int .i64 0,.slice (some ⟨vb,0,none⟩) 1 1] w fun e w' =>
      ∃ (G:Nat) (cur':List Value),2≤G∧G≤maxLen∧cur'.length=G * 3∧cur'.take 6=vs++xs∧e=.returned (.slice (some ⟨w.heap.size,0,none⟩) 2 G) ∧
        w'.heap[w.heap.size]? = some (.cells cur'.toArray 61 (0,0))∧w'.os=w.os∧w'.tape=w.tape∧w'.output=w.output∧w'.heap.size=w.heap.size + 1∧∀ x,x < w.heap.size→w'.heap[x]? = w.heap[x]? := by
  have hbw:b < w.heap.size:=by
    rcases Nat.lt_or_ge b w.heap.size with h | h
    · exact h
    · rw [Array.getElem?_eq_none h]at hx;cases hx
  have hvw:vb < w.heap.size:=by
    rcases Nat.lt_or_ge vb w.heap.size with h | h
    · exact h
    · rw [Array.getElem?_eq_none h]at hv;cases hv
  have hxl:xs.length=3:=by rw [← hxs,Array.length_toList,hcs]
  obtain⟨i0,hi0,hi2⟩:=Option.map_eq_some_iff.1 zrs;have hzs:i0.size=3:=by injection hi2
  have hzb:i0.bytes=32:=by injection hi2
  have hz0:i0.zero=some (.agg #[.string ⟨#[]⟩,.int .i64 0,.int .i64 0]):=by
    have:=zpz
    rw [hi0]at this;simpa using this
  have mixed:Tryz.prog.follows Departure.mixedOrders=true:=by kernel_rfl
  have u52:=run_underlying (P:=Tryz.prog) zfr;have u3:Tryz.prog.underlying 3=some (.int .i64):=by kernel_rfl
  have ub:Tryz.prog.underlying 4=some .bool:=by kernel_rfl
  have w1:IntKind.i64.wrap 1=1:=by decide
  have w2:IntKind.i64.wrap 2=2:=by decide
  have w0:IntKind.i64.wrap 0=0:=by decide
  obtain⟨G,hG⟩:∃ G,G=grownCap w 2 1 61:=⟨_,rfl⟩;have hG2:2≤G:=by rw [hG];exact grownCap_ge w _ _ _
  have hGm:G≤maxLen:=by rw [hG];exact grownCap_le_maxLen w 2 1 _ (by decide)
  obtain⟨ROW,hROW⟩:∃ ROW:Array Value,ROW=Builtin.zeroCells (Value.agg #[.string ⟨#[]⟩,.int .i64 0,.int .i64 0]).cells 2++Builtin.zeroCells (Value.agg #[.string ⟨#[]⟩,.int .i64 0,.int .i64 0]).cells (G - 2):=⟨_,rfl⟩
  have hRl:ROW.size=G * 3:=by
    rw [hROW,Array.size_append,zgg _ rfl,zgg _ rfl];omega
  have hold:(Builtin.firstCells i0.size 0 (.slice (some ⟨b,0,none⟩) 0 1)).run Tryz.prog w.drew=.ok ([]:List Value).toArray w.drew :=
    run_firstCells_some w.drew i0.size 0 ⟨b,0,none⟩ 0 1 [] (by simp) (fun j v hj=>by simp at hj)
  have hrz:∀ ty,(Builtin.append_ #[52,3] ty #[.slice (some ⟨b,0,none⟩) 0 1,.int .i64 2]).run Tryz.prog w =
      .ok (.slice (some ⟨w.heap.size,0,none⟩) 2 G) (w.drew.alloc (.cells ROW 61)):=fun ty=>by
    have h:=Lib.run_append_grow_zeros w 52 3 ty 61 i0 _ .i64 .i64 zfr u3 hi0 hz0 (some ⟨b,0,none⟩) 0 1 [] hold 2 (by omega) (by omega) (by omega) (by decide) (by rw [hzb];omega) (by rw [hzb];decide);rw [hG,hROW,hG];simpa using h
  obtain⟨W1,hW1⟩:∃ W1,W1=w.drew.alloc (.cells ROW 61):=⟨_,rfl⟩;have h1h:W1.heap=w.heap.push (.cells ROW 61 (0,0)):=by rw [hW1];rfl
  have h1N:W1.heap[w.heap.size]? = some (.cells ROW 61 (0,0)):=by rw [h1h,Array.getElem?_push_size]
  have h1o:∀ x,x < w.heap.size→W1.heap[x]? = w.heap[x]? := fun x hx=>by rw [h1h,Array.getElem?_push,if_neg (Nat.ne_of_lt hx)]
  have hcp1:∀ ty dc,(Builtin.copy_ #[52,52] ty #[.slice (some ⟨w.heap.size,0,none⟩) 2 dc,.slice (some ⟨vb,0,none⟩) 1 1]).run Tryz.prog W1=.ok (goInt 1) (W1.setRow w.heap.size (ROW.toList.take 0++vs++ROW.toList.drop (0 + vs.length)).toArray):=fun ty dc =>
    zjj W1 ty w.heap.size 0 2 dc ⟨vb,0,none⟩ 1 1 1 ROW _ vs h1N rfl hvl (cellsAt (w:=W1) ((h1o vb hvw).trans hv) 0 vs 3 (by simp [← hvl])) (by omega) h1v
  obtain⟨W2,hW2⟩:∃ W2,W2=W1.setRow w.heap.size (ROW.toList.take 0++vs++ROW.toList.drop (0 + vs.length)).toArray:=⟨_,rfl⟩;rw [← hW2]at hcp1;have h2N:W2.heap[w.heap.size]? = some (.cells (ROW.toList.take 0++vs++ROW.toList.drop (0 + vs.length)).toArray 61 (0,0)):=by rw [hW2];exact setRow_heap W1 _ ROW _ _ _ h1N
  have h2o:∀ x,x < w.heap.size→W2.heap[x]? = w.heap[x]? := fun x hx=>by rw [hW2,setRow_other W1 _ x _ (Nat.ne_of_lt hx)];exact h1o x hx
  have hcp2:∀ ty dc,(Builtin.copy_ #[52,52] ty #[.slice (some ⟨w.heap.size,3,none⟩) 1 dc,.slice (some ⟨b,0,none⟩) 1 1]).run Tryz.prog W2.drew=.ok (goInt 1) (W2.drew.setRow w.heap.size ((ROW.toList.take 0++vs++ROW.toList.drop (0 + vs.length)).toArray.toList.take 3++xs++(ROW.toList.take 0++vs++ROW.toList.drop (0 + vs.length)).toArray.toList.drop (3 + xs.length)).toArray):=fun ty dc =>
    zjj W2.drew ty w.heap.size 3 1 dc ⟨b,0,none⟩ 1 1 1 _ _ xs h2N rfl hxl (cellsAt (w:=W2.drew) ((h2o b hbw).trans hx) 0 xs 3 (by rw [List.drop_zero,hxs,← hxl,List.take_length])) (by simp [hvl,hRl];omega) h1x
  obtain⟨W3,hW3⟩:∃ W3,W3=W2.drew.setRow w.heap.size ((ROW.toList.take 0++vs++ROW.toList.drop (0 + vs.length)).toArray.toList.take 3++xs++(ROW.toList.take 0++vs++ROW.toList.drop (0 + vs.length)).toArray.toList.drop (3 + xs.length)).toArray:=⟨_,rfl⟩;rw [← hW3]at hcp2
  have h3N:W3.heap[w.heap.size]? = some (.cells (vs++xs++ROW.toList.drop 6).toArray 61 (0,0)):=by
    rw [hW3,setRow_heap W2.drew _ _ _ _ _ h2N];have e1:(ROW.toList.take 0++vs++ROW.toList.drop (0 + vs.length)).toArray.toList=vs++ROW.toList.drop 3:=by simp [hvl]
    rw [e1,List.take_append_of_le_length (by omega),List.take_of_length_le (by omega),hxl,List.drop_append,List.drop_of_length_le (by omega),hvl,List.drop_drop];simp
  have h3o:∀ x,x < w.heap.size→W3.heap[x]? = w.heap[x]? := fun x hx=>by rw [hW3,setRow_other W2.drew _ x _ (Nat.ne_of_lt hx)];exact h2o x hx
  have h3s:W3.heap.size=w.heap.size + 1:=by
    have e1:W3.heap.size=W1.heap.size:=by rw [hW3,hW2];simp [World.setRow]
    rw [e1,h1h,Array.size_push]
  have h3t:W3.os=w.os∧W3.tape=w.tape∧W3.output=w.output:=by rw [hW3,hW2,hW1];exact⟨rfl,rfl,rfl⟩
  rw [← hW1]at hrz
  have fin:∃ cur':List Value,cur'.length=G * 3∧cur'.take 6=vs++xs∧W3.heap[w.heap.size]? = some (.cells cur'.toArray 61 (0,0)) :=
    ⟨vs++xs++ROW.toList.drop 6,by simp [hvl,hxl,hRl];omega,by rw [List.take_append_of_le_length (by simp [hvl,hxl]),List.take_of_length_le (by simp [hvl,hxl])],h3N⟩
  obtain⟨cur',f1,f2,f3⟩:=fin;have hGi:¬ (G=1):=by omega
  have hG0:¬ (G=0):=by omega
  have hG63:G≤9223372036854775807:=by unfold maxLen at hGm;omega
  clear h1h hW1 hW2 hW3 hROW hG hold h1N h1o h2N h2o hx hv hxs hcs h3N
  have main:Calls Tryz.prog 154 #[.slice (some ⟨b,0,none⟩) 1 1,.int .i64 0,.slice (some ⟨vb,0,none⟩) 1 1] w fun e w'=>e=.returned (.slice (some ⟨w.heap.size,0,none⟩) 2 G)∧w'=W3:=by
    clear f1 f2 f3 h3o h3s h3t
    go_enter Tryz.func154,Tryz.ntmps154
    go_wp2_with (first
      | (at_builtin;refine Lib.wpList_append_run _ rfl _ _ _ _ rfl _ _ rfl rfl _ _ (hrz _) ?_)
      | (at_builtin;refine wpList_copy_runI _ rfl _ _ 52 52 rfl _ _ rfl rfl (hcp1 _ _) ?_))
    go_region_law_o (refine step_copy_runI rfl _ _ 52 52 rfl _ _ (by simp [Act.eval,Act.put]) (by simp [Act.eval,Act.put]) (hcp2 _ _) ?_)
    go_wp2
    go_ret
    exact⟨rfl,rfl⟩
  refine main.mono ?_;rintro e w' ⟨rfl,rfl⟩;exact⟨G,cur',hG2,hGm,f1,f2,rfl,f3,h3t.1,h3t.2.1,h3t.2.2,h3s,h3o⟩
end Go.Proofs.YtdjgnbkclcjiiaaGreatDoor
end
section
set_option linter.unusedVariables false
set_option linter.unusedSimpArgs false
set_option maxRecDepth 4000
namespace Go.Proofs.YtdjgnbkclcjiiaaGreatDoor
open Go Go.RowKit Go.Proofs Wk
open Vc (SlAt OV iteI Vl zwa ze)
attribute [local irreducible] Go.Calls
attribute [local irreducible] wpQuiet
theorem zqz{w:World}{p:Nat × Array Value × TypeId}(h:w.heap[p.1]? = some (.cells p.2.1 p.2.2)):p.1 < w.heap.size:=heap_lt h
structure Hd(p:Prop):Prop where
 out:p
end Go.Proofs.YtdjgnbkclcjiiaaGreatDoor
end
section
set_option linter.unusedVariables false
set_option linter.unusedSimpArgs false
set_option maxRecDepth 100000
namespace Go.Proofs.YtdjgnbkclcjiiaaGreatDoor
open Go Go.RowKit Go.Proofs Wk
open Vc (SlAt OV iteI Vl zwa ze)
attribute [local irreducible] Go.Calls
attribute [local irreducible] wpQuiet
mutual
def erR:Rl→Rl
 | .mk op ask nm wi cm n _ ks=>.mk op ask nm wi cm n nilV (erL ks)
def erL:List Rl→List Rl
 | []=>[]
 | r::l=>erR r::erL l
end
def Rw(S:Nat→Prop)(w:World)(R:Rl):Prop:=∀ w'':World,(∀ k,S k→k < w.heap.size→w''.heap[k]? = w.heap[k]?)→RlAt w'' R
theorem Rw.at_{S:Nat→Prop}{w:World}{R:Rl}(h:Rw S w R):RlAt w R:=h w (fun _ _ _=>rfl)
theorem Rw.mono{S S':Nat→Prop}{w:World}{R:Rl}(h:Rw S w R)(hs:∀ k,k < w.heap.size→S k→S' k):Rw S' w R:=fun w'' h'=>h w'' fun k hk hlt=>h' k (hs k hlt hk) hlt
theorem Rw.next{S:Nat→Prop}{w w1:World}{R:Rl}(h:Rw S w R)(hz:w.heap.size≤w1.heap.size)(ha:∀ k,S k→k < w.heap.size→w1.heap[k]? = w.heap[k]?):Rw S w1 R :=
 fun w'' h'=>h w'' fun k hk hlt=>(h' k hk (Nat.lt_of_lt_of_le hlt hz)).trans (ha k hk hlt)
theorem Rw.one{S:Nat→Prop}{w:World}{R:Rl}{X:Nat}{op:Int}(h:Rw S w R)(hX:S X)(hB:w.heap[X]? = some (.cells (rlc R).toArray 30)):Rw S w (.mk op 0 [] 0 0 0 (.slice (some ⟨X,0,none⟩) 1 1) [R]):=fun w'' h'=>by
 simp only [RlAt,RlAtL,and_true];have hB':=(h' X hX (heap_lt hB)).trans hB;refine⟨.inr (.inr ⟨X,0,1,1,rfl,rfl,fun j u hj => ?_⟩),h w'' h'⟩;simp only [List.flatMap_cons,List.flatMap_nil,List.append_nil]at hj;simp only [World.cell?,hB',Nat.zero_add];simpa using hj
theorem Rw.two{S:Nat→Prop}{w:World}{R R2:Rl}{X:Nat}{op:Int}(h:Rw S w R)(h2:Rw S w R2)(hX:S X)(hB:w.heap[X]? = some (.cells (rlc R++rlc R2).toArray 30)):Rw S w (.mk op 0 [] 0 0 0 (.slice (some ⟨X,0,none⟩) 2 2) [R,R2]):=fun w'' h'=>by
 simp only [RlAt,RlAtL,and_true];have hB':=(h' X hX (heap_lt hB)).trans hB;refine⟨.inr (.inr ⟨X,0,2,2,rfl,rfl,fun j u hj => ?_⟩),h w'' h',h2 w'' h'⟩;simp only [List.flatMap_cons,List.flatMap_nil,List.append_nil]at hj;simp only [World.cell?,hB',Nat.zero_add];simpa using hj
def RcP(s:List UInt8)(w:World)(P:Sx→Rl→Prop)(e:Ending)(w':World):Prop:=(∃ q R xa xl xc,e=.returned (.tuple #[.agg #[.string ⟨s.toArray⟩,.int .i64 (q.i:Nat),.int .i64 (q.a:Nat),.int .i64 q.e],.agg #[.int .i64 R.op,.int .i64 R.ask,.string ⟨R.nm.toArray⟩,.int .i64 R.wi,.int .i64 R.cm,.int .i64 R.n,.slice xa xl xc]])∧R.v=.slice xa xl xc∧Rw (fun k=>w.heap.size≤k) w' R∧P q R)∧Below w.heap.size w w'
theorem zix{R:Rl}{xa:Option Addr}{xl xc:Nat}(h:R.v=.slice xa xl xc):(rlc R).toArray=#[.int .i64 R.op,.int .i64 R.ask,.string ⟨R.nm.toArray⟩,.int .i64 R.wi,.int .i64 R.cm,.int .i64 R.n,.slice xa xl xc]:=by
 unfold rlc;rw [h]
theorem zjx{R R':Rl}{xa xa':Option Addr}{xl xc xl' xc':Nat}(h:R.v=.slice xa xl xc)(h':R'.v=.slice xa' xl' xc'):(rlc R++rlc R').toArray=#[.int .i64 R.op,.int .i64 R.ask,.string ⟨R.nm.toArray⟩,.int .i64 R.wi,.int .i64 R.cm,.int .i64 R.n,.slice xa xl xc,.int .i64 R'.op,.int .i64 R'.ask,.string ⟨R'.nm.toArray⟩,.int .i64 R'.wi,.int .i64 R'.cm,.int .i64 R'.n,.slice xa' xl' xc']:=by
 unfold rlc;rw [h,h'];rfl
end Go.Proofs.YtdjgnbkclcjiiaaGreatDoor
end
