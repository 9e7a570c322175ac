import Derived.Test.YtdjgnbkclcjiiaaGreatDoorPj
import Derived.WalkKit
import Derived.ProofKit
import Derived.OpenShut
import Derived.Lib.SmallJoins
import Derived.SizedLaws
set_option linter.unusedVariables false
set_option linter.unusedSimpArgs false
set_option maxRecDepth 4000
namespace Go.Proofs.YtdjgnbkclcjiiaaGreatDoor
open Go Go.RowKit Go.ChangeShapes Go.WideShapes Go.ChangeAt Go.Joins Go.Deep Vc
theorem zcy{α:Type}{R:Nat→α→Prop}:∀ (n:Nat),(∀ i,i < n→∃ a,R i a)→∃ l:List α,l.length=n∧∀ i a,l[i]? = some a→R i a
  | 0,_=>⟨[],rfl,fun i a h=>by simp at h⟩
  | n + 1,h=>by
    obtain⟨l,h1,h2⟩:=zcy n fun i hi=>h i (by omega);obtain⟨a,ha⟩:=h n (by omega);refine⟨l ++ [a],by simp [h1],fun i b hb => ?_⟩;by_cases hi:i < l.length
    · rw [List.getElem?_append_left hi]at hb;exact h2 i b hb
    · rw [List.getElem?_append_right (by omega)]at hb
      have:i - l.length=0:=by
        have:=(List.getElem?_eq_some_iff.1 hb).1
        simp at this;omega
      rw [this]at hb;simp at hb;subst hb
      have:i=n:=by omega
      subst this;exact ha
section
variable {H:Type} {enk:TypeId × Value→H} {P:Program} {w:World} {base:Nat} {sp:Nat→Bool} {held:Bool}
def Wt(P:Program)(t:TypeId)(d:DataW H):Prop:=∀ n∈d.weights P t,n≤reachBytes
theorem zkh{e:TypeId}{d:DataW H}{n:Nat}:∀ {l:List (DataW H)},d∈l→n∈d.weights P e→n∈DataW.weightsAll P e l
  | x::l,hd,hn=>by
    simp only [DataW.weightsAll,List.mem_append];rcases List.mem_cons.1 hd with rfl | hd
    · exact .inl hn
    · exact .inr (zkh hd hn)
theorem zdba{t:TypeId}{fs:Array Field}{ds:List (DataW H)}(ht:P.underlying t=some (.struct fs))(hw:Wt P t (.agg ds)){j:Nat}{u:TypeId}{d:DataW H}(hu:(fs.toList.map (·.type))[j]? = some u)(hd:ds[j]? = some d):Wt P u d:=by
 intro n hn;refine hw n ?_;simp only [DataW.weights,ht];exact DataW.weights_mem_each hu hd n hn
theorem zuea{t:TypeId}{s:List UInt8}(hw:Wt P t (.lit (.string s):DataW H)):s.length≤reachBytes:=hw _ (by simp [DataW.weights])
theorem zvea{α:Type}{f:α→List Value}{G:α→Prop}{c:Nat}{t e:TypeId}{fuel:Nat}(hsp:∀ b,sp b=true)(ht:P.underlying t=some (.slice e))(hc:P.cellsOf e=c)(c0:0 < c)(hf:∀ a,(f a).length=c)
  (hE:∀ n cs x,n < fuel→DataW.trod enk P w base sp held n e cs=some x→Wt P e x.1→∃ a,cs=f a∧G a) {v:Value} {x:DataW H × List MemPlace} (hx:DataW.trod enk P w base sp held fuel t [v]=some x) (hw:Wt P t x.1) (hb0:0 < P.bytesOf e) :
  ∃ l:List α,SlAt w v c (l.flatMap f)∧(∀ a∈l,G a)∧l.length≤reachBytes:=by
 rcases DataW.trod_slice ht hx with ⟨h1,_⟩ | ⟨a,len,cap,elems,rest,n,hfu,h1,hx1,hb,hl,hm,hlen,hel,hspare,_⟩
 ·simp only [List.cons.injEq,and_true]at h1;exact⟨[],.inl ⟨h1,rfl⟩,(fun a ha=>by cases ha),by simp⟩
 ·simp only [List.cons.injEq,and_true]at h1;subst h1;obtain⟨b,o,spot⟩:=a;by_cases hcap:cap=0
  ·obtain rfl:len=0:=by omega
   subst hcap;exact⟨[],.inr (.inl ⟨_,rfl,rfl⟩),(fun a ha=>by cases ha),by simp⟩
  have hs:spot=none:=by
   have some_cell:∀ k cs,k * c=k * c→w.cells? base ((⟨b,o,spot⟩:Addr).add (k * c)) c=some cs→k=0→spot=none:=fun k cs _ h hk=>by
    subst hk;have h2:=(World.cells?_some h).2;have h3:=h2.2 0 c0;rw [List.getElem?_eq_getElem (by omega)]at h3;simpa [Addr.add]using World.cell?_spot h3
   by_cases hlen0:len=0
   ·obtain⟨hr1,hr2⟩:=hspare (hsp b);have h2:=hr2 0 (by omega);rw [List.getElem?_eq_getElem (by omega),hc,Option.bind_eq_some_iff]at h2;obtain⟨cs,h3,_⟩:=h2;rw [hlen0]at h3;exact some_cell 0 cs rfl (by simpa using h3) rfl
   ·have h2:=hel 0 (by omega);rw [List.getElem?_eq_getElem (by omega),hc,Option.bind_eq_some_iff]at h2;obtain⟨cs,h3,_⟩:=h2;exact some_cell 0 cs rfl h3 rfl
  subst hs
  have hws:∀ n∈((elems.map (·.1)).length + (rest.map (·.1)).length) * P.bytesOf e::(DataW.weightsAll P e (elems.map (·.1))++DataW.weightsAll P e (rest.map (·.1))),n≤reachBytes:=by
   intro n hn;refine hw n ?_;rw [hx1];simp only [DataW.weights,ht];exact hn
  have hlr:len≤reachBytes:=by
   have h9:=hws _ (List.mem_cons_self ..);rw [List.length_map,List.length_map,hlen]at h9
   have:len * 1≤(len + rest.length) * P.bytesOf e:=Nat.mul_le_mul (by omega) hb0
   omega
  have each:∀ i,i < len→∃ y:α,G y∧∀ j,j < c→w.cell? ⟨b,o + (i * c + j),none⟩=(f y)[j]? := fun i hi=>by
   have h2:=hel i hi;rw [List.getElem?_eq_getElem (by omega),hc,Option.bind_eq_some_iff]at h2;obtain⟨cs,h3,h4⟩:=h2;obtain⟨y,rfl,hg⟩:=hE _ _ _ (by omega) h4 (fun n hn=>hws n (List.mem_cons_of_mem _ (List.mem_append_left _ (zkh (List.mem_map_of_mem (List.getElem_mem (by omega))) hn))));refine⟨y,hg,fun j hj => ?_⟩;rw [← (World.cells?_some h3).2.2 j hj,zob,zob,Nat.add_assoc]
  obtain⟨l,hl1,hl2⟩:=zcy len each;refine⟨l,.inr (.inr ⟨b,o,len,cap,rfl,by rw [zxk hf,hl1],fun j u hj => ?_⟩),fun a ha => ?_,by omega⟩
  ·have hjl:j < l.length * c:=by
    have:=(List.getElem?_eq_some_iff.1 hj).1
    rwa [zxk hf]at this
   have hi:j / c < l.length:=(Nat.div_lt_iff_lt_mul c0).2 hjl;have hr:j % c < c:=Nat.mod_lt _ c0;have hjd:j=j / c * c + j % c:=by rw [Nat.mul_comm];exact (Nat.div_add_mod j c).symm
   have hp:=List.getElem?_eq_getElem hi;rw [hjd]at hj ⊢;rw [zgf hf hp hr]at hj;rw [← hj];exact (hl2 _ _ hp).2 _ hr
  ·obtain⟨i,hi⟩:=List.getElem?_of_mem ha;exact (hl2 i a hi).1
end
theorem zru{w:World}:∀ {l:List Rl},(∀ r∈l,RlAt w r)→RlAtL w l
  | [],_=>trivial
  | r::l,h=>by
    simp only [RlAtL];exact⟨h r (by simp),zru fun x hx=>h x (by simp [hx])⟩
theorem zsu:∀ {l:List Rl},(∀ r∈l,RlSz r)→RlSzL l
  | [],_=>trivial
  | r::l,h=>by
    simp only [RlSzL];exact⟨h r (by simp),zsu fun x hx=>h x (by simp [hx])⟩
theorem ztu{n:Nat}(h:n≤reachBytes):n < 4611686018427387904:=by
 have:reachBytes < 140737488355329:=by decide
 omega
section
variable {H:Type} {enk:TypeId × Value→H} {w:World} {base:Nat} {sp:Nat→Bool} {held:Bool}
theorem ztca{P:Program}(hsp:∀ b,sp b=true)(hP:P=Tryz.prog){fuel:Nat}(ih:∀ n cs x,n < fuel→DataW.trod enk P w base sp held n 30 cs=some x→Wt P 30 x.1→∃ z:Rl,cs=rlc z∧(RlAt w z∧RlSz z)){v:Value}{cs:List Value}{x:DataW H × List MemPlace}(h:DataW.trod enk P w base sp held fuel 25 cs=some x)(hcs:cs=[v])(hw:Wt P 25 x.1):∃ l:List Rl,SlAt w v 7 (l.flatMap rlc)∧(∀ z∈l,RlAt w z∧RlSz z)∧l.length≤reachBytes:=by
 subst hcs;have hu:P.underlying 25=some (.slice 30):=by rw [hP];kernel_rfl
 have hc:P.cellsOf 30=7:=by rw [hP];kernel_rfl
 have hb:0 < P.bytesOf 30:=by rw [hP];exact of_decide_eq_true (by kernel_rfl)
 clear hP;exact zvea hsp hu hc (by omega) zhf ih h hw hb
set_option maxRecDepth 100000 in
theorem zbaa(hsp:∀ b,sp b=true):∀ (m:Nat) (fuel:Nat),fuel≤m→∀ (cs:List Value) (x:DataW H × List MemPlace),DataW.trod enk Tryz.prog w base sp held fuel 30 cs=some x→Wt Tryz.prog 30 x.1→∃ z:Rl,cs=rlc z∧(RlAt w z∧RlSz z):=by
  intro m
  induction m with
  | zero => intro fuel hf cs x h;obtain rfl:fuel=0:=by omega
            simp [DataW.trod]at h
  | succ m ih =>
  intro fuel hfm cs x h hw;obtain⟨xs,n,hfn,rfl,hl,hlen,hf⟩:=DataW.trod_struct Tryz.underlying30 h;have e0:Tryz.prog.cellsOf 9=1:=by kernel_rfl
  have e1:Tryz.prog.cellsOf 3=1:=by kernel_rfl
  have e4:Tryz.prog.cellsOf 25=1:=by kernel_rfl
  have e3:Tryz.prog.cellsOf 30=7:=by kernel_rfl
  rw [e3]at hl
  match xs,hlen with
  | [y0,y1,y2,y3,y4,y5,y6],_ =>
    match cs,hl with
    | [c0,c1,c2,c3,c4,c5,c6],_ =>
      have g0:=hf 0 _ rfl;have g1:=hf 1 _ rfl;have g2:=hf 2 _ rfl;have g3:=hf 3 _ rfl;have g4:=hf 4 _ rfl;have g5:=hf 5 _ rfl;have g6:=hf 6 _ rfl;have w2:Wt Tryz.prog 9 y2.1:=zdba Tryz.underlying30 hw (j:=2) rfl rfl;have w6:Wt Tryz.prog 25 y6.1:=zdba Tryz.underlying30 hw (j:=6) rfl rfl;simp [e0,e1,e4]at g0 g1 g2 g3 g4 g5 g6;obtain⟨a0,q0,_,_⟩:=DataW.trod_int Tryz.underlying3 g0;obtain⟨a1,q1,_,_⟩:=DataW.trod_int Tryz.underlying3 g1;obtain⟨s,q2,hs1,_⟩:=DataW.trod_string Tryz.underlying9 g2;obtain⟨a3,q3,_,_⟩:=DataW.trod_int Tryz.underlying3 g3;obtain⟨a4,q4,_,_⟩:=DataW.trod_int Tryz.underlying3 g4;obtain⟨a5,q5,_,_⟩:=DataW.trod_int Tryz.underlying3 g5;obtain⟨l,l1,l2,l3⟩:=ztca hsp rfl (fun n' cs x hn h hw=>ih n' (by omega) cs x h hw) g6 rfl w6;simp at q0 q1 q2 q3 q4 q5;rw [hs1]at w2;refine⟨.mk a0 a1 s.data.toList a3 a4 a5 c6 l,by rw [q0,q1,q2,q3,q4,q5];rfl, ?_, ?_⟩
      · simp only [RlAt];exact⟨l1,zru fun r hr=>(l2 r hr).1⟩
      · simp only [RlSz];exact⟨ztu (zuea w2),ztu l3,zsu fun r hr=>(l2 r hr).2⟩
theorem zov{P:Program}(hsp:∀ b,sp b=true)(hP:P=Tryz.prog){r:Reach}{b0:Nat}{v:Value}{d:DataW H}{ps:List MemPlace}(hval:Value.okWide P w r b0 30 v)(hd:DataW.Trod enk P w base sp held 30 v d ps)(hw:Wt P 30 d) :
  ∃ p:Rl,v=RV7 p∧RlAt w p∧RlSz p:=by
 obtain⟨fs,hfs⟩:∃ fs,P.underlying 30=some (.struct fs):=⟨_,by rw [hP];exact Tryz.underlying30⟩;have hz:∀ fuel cs x,DataW.trod enk P w base sp held fuel 30 cs=some x→Wt P 30 x.1→∃ z:Rl,cs=rlc z∧(RlAt w z∧RlSz z):=fun fuel cs x h hw=>by rw [hP]at h hw;exact zbaa hsp _ _ (Nat.le_refl _) _ _ h hw
 clear hP;obtain⟨cs,rfl,_⟩:=okWide_struct hfs hval;obtain⟨fuel,hf⟩:=hd;obtain⟨z,h1,h2⟩:=hz _ _ _ hf hw;refine⟨z, ?_,h2⟩
 have:cs.toList=rlc z:=h1
 obtain rfl:cs=(rlc z).toArray:=by rw [← this]
 rfl
end
end Go.Proofs.YtdjgnbkclcjiiaaGreatDoor
