import Derived.Test.YtdjgnbkclcjiiaaGreatDoorSj
import Derived.Test.YtdjgnbkclcjiiaaGreatDoorM8
set_option linter.unusedVariables false
set_option linter.unusedSimpArgs false
set_option maxRecDepth 100000
namespace Go.Proofs.YtdjgnbkclcjiiaaGreatDoor
open Go Go.RowKit Go.Proofs Wk
open Vc (SlAt OV iteI Vl zgd zk zdc)
attribute [local irreducible] Go.Calls
def mostR(nm:List UInt8)(wi n:Int):Rl := .mk 1 1 nm wi 0 n (.slice none 0 0) []
def leastR(nm:List UInt8)(wi n:Int):Rl := .mk 1 2 nm wi 3 n (.slice none 0 0) []
theorem ztm(nm:List UInt8)(l:List Sn)(now fresh wi n:Int):(judgeI (mostR nm wi n) l now fresh).2=(judgeI (leastR nm wi n) l now fresh).2∧((judgeI (mostR nm wi n) l now fresh).1=1→(judgeI (leastR nm wi n) l now fresh).1=1→False):=by
 have hv:validR (mostR nm wi n)=validR (leastR nm wi n):=by
  simp [validR,mostR,leastR,nodesR,nodesL,depthR,depthL,rightR,atomB,inB,Rl.ask,Rl.nm,Rl.wi,Rl.cm,Rl.n,Rl.ks]
  try rfl
 unfold judgeI;rw [hv];by_cases h1:(validR (leastR nm wi n) && obsB l)=false
 ·simp [h1]
 by_cases h2:(inB now 0 1073741824 && inB fresh 0 1000)=false
 ·simp [h1,h2]
 rw [if_neg h1,if_neg h1,if_neg h2,if_neg h2];refine⟨rfl,fun e1 e2 => ?_⟩
 have hn:n≤1073741824:=by
  have h3:validR (leastR nm wi n)=true:=by
   rw [Bool.not_eq_false,Bool.and_eq_true]at h1;exact h1.1
  have hr:=zlk h3;rw [zpm,if_pos (show (leastR nm wi n).op=1 from rfl)]at hr;exact (zki.1 hr).2.2.2.2.2.1.2
 rw [zlr rfl]at e1 e2;exact zzp (c1:=0) (c2:=3) hn e1 e2
theorem zpf{w:World}(s:ByteArray){v:Value}{l:List Sn}(hl:SlAt w v 3 (l.flatMap snc))(hn:l.length < 4611686018427387904)(now fresh wi n:Int)(hV:VG w) :
  Calls Tryz.prog 9 #[.string s,.agg #[v,.int .i64 now,.int .i64 fresh],.agg #[.int .i64 wi,.int .i64 n]] w (Vc.Ret (.bool true) w):=by
 have haw:∀ w',Below w.heap.size w w'→Calls Tryz.prog 16 #[] w' (Vc.Ret (.bool true) w'):=fun w' hb=>zlu w' (hV.below hb).1 (hV.below hb).2.1 (hV.below hb).2.2.1 (hV.below hb).2.2.2;obtain⟨nm,rfl⟩:∃ nm:List UInt8,s=⟨nm.toArray⟩:=⟨s.data.toList,by cases s;simp⟩;have T:Vj_ullagelaw10_CountdownBetween_T1 w (.bool true):=⟨true,fun w' hb=>haw w' hb,rfl⟩;have hl':=hl;obtain⟨b1,p1,c1,e1,f1,g1⟩:=zmi hl;have hno1:=zuo f1;rw [e1];obtain⟨q1,q2⟩:=ztm nm l now fresh wi n;have hr1:∀ w',RlAt w' (mostR nm wi n):=fun w'=>⟨.inl ⟨rfl,rfl⟩,trivial⟩;have hr2:∀ w',RlAt w' (leastR nm wi n):=fun w'=>⟨.inl ⟨rfl,rfl⟩,trivial⟩;refine ztb p1 (l.length:Nat) c1 now fresh wi n b1 nm w _ ?_;rintro x6 rfl;refine iteI (fun _=>T) (fun _=>⟨by omega,hno1,iteI (fun _=>T) (fun _ => ?_)⟩);refine⟨_,_,fun w' hb=>by rw [← e1];exact zuw (r:=mostR nm wi n) (vgk hb hV.1) (vgk hb hV.2.1) (vgk hb hV.2.2.2) (hr1 w') (zdc hb hl') hn,_,_,fun w' hb=>by rw [← e1];exact zuw (r:=leastR nm wi n) (vgk hb hV.1) (vgk hb hV.2.1) (vgk hb hV.2.2.2) (hr2 w') (zdc hb hl') hn, ?_⟩;exact iteI (fun _=>iteI (fun h1=>iteI (fun h2=>(q2 h1 h2).elim) (fun _=>T)) (fun _=>T)) (fun hc=>absurd q1 hc)
end Go.Proofs.YtdjgnbkclcjiiaaGreatDoor
