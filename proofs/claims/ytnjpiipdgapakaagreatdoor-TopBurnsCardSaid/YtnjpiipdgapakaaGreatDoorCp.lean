import Derived.Test.YtnjpiipdgapakaaGreatDoorLe
import Derived.Test.YtnjpiipdgapakaaGreatDoorMp
set_option linter.unusedVariables false
set_option linter.unusedSimpArgs false
namespace Go.Proofs.YtnjpiipdgapakaaGreatDoor
open Go Go.RowKit Vc
structure En where
 nm:List UInt8
 n:Int
 (tl th fl fh le sl sh pl ph:Int)
def enc(e:En):List Value := [.string ⟨e.nm.toArray⟩,.int .i64 e.n,.int .i64 e.tl,.int .i64 e.th,.int .i64 e.fl,.int .i64 e.fh,.int .i64 e.le,.int .i64 e.sl,.int .i64 e.sh,.int .i64 e.pl,.int .i64 e.ph]
theorem sX(e:En):(enc e).length=11:=rfl
structure je where
 nm:List UInt8
 (dl dh pl ph:Int)
 v:Value
 es:List En
def BX(s:je):List Value := [.string ⟨s.nm.toArray⟩,.int .i64 s.dl,.int .i64 s.dh,.int .i64 s.pl,.int .i64 s.ph,s.v]
theorem yv(s:je):(BX s).length=6:=rfl
structure Pt where
 (a lo hi:Int)
def AJ(p:Pt):List Value := [.int .i64 p.a,.int .i64 p.lo,.int .i64 p.hi]
theorem EJ(p:Pt):(AJ p).length=3:=rfl
structure Vh where
 nm:List UInt8
 sv:Value
 ss:List je
 (yl yh:Int)
 dv:Value
 dr:List Pt
 (ax be:Int)
def kq(v:Vh):Value := .agg #[.string ⟨v.nm.toArray⟩,v.sv,.int .i64 v.yl,.int .i64 v.yh,v.dv,.int .i64 v.ax,.int .i64 v.be]
structure jV(w:World)(v:Vh):Prop where
 st:gP w v.sv 6 (v.ss.flatMap BX)
 es:∀s∈v.ss,gP w s.v 11 (s.es.flatMap enc)
 dr:gP w v.dv 3 (v.dr.flatMap AJ)
structure oB(v:Vh):Prop where
 nm:v.nm.length<4611686018427387904
 st:∀s∈v.ss,s.nm.length<4611686018427387904/\s.es.length<4611686018427387904/\∀e∈s.es,e.nm.length<4611686018427387904
 sn:v.ss.length<4611686018427387904
 dn:v.dr.length<4611686018427387904
theorem jV.below{w w':World}{v:Vh}(hb:Below w.heap.size w w')(h:jV w v):jV w' v:=⟨sV hb h.st,λs hs=>sV hb (h.es s hs),sV hb h.dr⟩
def mq(lo hi least:Int):Bool:=decide (least<=lo) && decide (lo<=hi) && decide (hi<=4503599627370496)
def kt(e:En):Bool:=decide (1<=e.n) && decide (e.n<=64) && mq e.tl e.th 1 && mq e.fl e.fh 1 && (decide (0<=e.le) && decide (e.le<=4294967296)) && mq e.sl e.sh 0 && mq e.pl e.ph 0
def iZ(prev:List (List UInt8))(e:En):Int:=if fU e.nm=false then 2 else if e.nm∈prev then 8 else if kt e=false then 4 else 0
def sY(F:Nat->Int):Nat->Nat->Option (Nat × Int)
 |0,_=>none
 |m+1,i=>if F i=0 then sY F m (i+1)else some (i,F i)
theorem Me{F:Nat->Int}:∀(m i j:Nat),i<=j->j<i+m->(∀t,i<=t->t<j->F t=0)->F j≠0->sY F m i=some (j,F j)
  |0,i,j,h1,h2,_,_=>by omega
  |m+1,i,j,h1,h2,h3,h4=>by
    rcases Nat.eq_or_lt_of_le h1 with rfl|h
    · rw [sY,if_neg h4]
    · rw [sY,if_pos (h3 i (Nat.le_refl _) h)];exact Me m (i+1) j h (by omega) (λt h5 h6=>h3 t (by omega) h6) h4
theorem Mf{F:Nat->Int}:∀(m i:Nat),(∀t,i<=t->t<i+m->F t=0)->sY F m i=none
  |0,i,_=>rfl
  |m+1,i,h=>by
    rw [sY,if_pos (h i (Nat.le_refl _) (by omega))];exact Mf m (i+1) λt h1 h2=>h t (by omega) (by omega)
def k8(pe:List (List UInt8))(es:List En)(k:Nat):Int:=match es[k]? with
 |some e=>iZ (pe++(es.take k).map (·.nm)) e
 |none=>0
def kJ(pe:List (List UInt8))(es:List En):Int:=match sY (k8 pe es) es.length 0 with
 |some (_,e)=>e
 |none=>0
def i5(ps pe:List (List UInt8))(s:je):Int:=if fU s.nm=false then 2 else if s.nm∈ps then 8 else if (mq s.dl s.dh 1 && mq s.pl s.ph 0)=false then 4 else if 16<s.es.length then 3 else kJ pe s.es
def dQ(ss:List je):List (List UInt8):=ss.map (·.nm)
def dA(ss:List je):List (List UInt8):=ss.flatMap λs=>s.es.map (·.nm)
def mr(ss:List je)(i:Nat):Int:=match ss[i]? with
 |some s=>i5 (dQ (ss.take i)) (dA (ss.take i)) s
 |none=>0
def qM:Int->List Pt->Bool
 |_,[]=>true
 |last,p::r=>decide (last<p.a) && decide (p.a<=4503599627370496) && mq p.lo p.hi 0 && qM p.a r
def mU(l:List Pt):Bool:=qM (-1) l && (decide (1<=l.length) && decide (l.length<=64))
def jn(n:Int):Bool:=decide (1<=n) && decide (n<=4503599627370496)
def bU(v:Vh):Int × Int × Int :=
 if fU v.nm=false∨v.ss.length=0 then (0,0,2)
 else if 8<v.ss.length then (0,0,3)
 else match sY (mr v.ss) v.ss.length 0 with
  |some (i,e)=>(1,(i:Int),e)
  |none=>if mq v.yl v.yh 0=false then (2,0,4)else if mU v.dr=false then (3,0,2)else if (jn v.ax && jn v.be)=false then (4,0,4)else (0,0,0)
def CV(r:Int × Int × Int):Value := .tuple #[.int .i64 r.1,.int .i64 r.2.1,.int .i64 r.2.2]
theorem Mg{pe:List (List UInt8)}{es:List En}{k:Nat}{e:En}(he:es[k]? = some e)(h1:∀t,t<k->k8 pe es t=0)(h2:iZ (pe++(es.take k).map (·.nm)) e≠0):kJ pe es=iZ (pe++(es.take k).map (·.nm)) e:=by
 have hk:k<es.length:=(List.getElem?_eq_some_iff.1 he).1;have hg:k8 pe es k=iZ (pe++(es.take k).map (·.nm)) e:=by unfold k8;rw [he]
 unfold kJ;rw [Me es.length 0 k (Nat.zero_le _) (by omega) (λt _ h=>h1 t h) (by rw [hg];exact h2)];exact hg
theorem Mh{pe:List (List UInt8)}{es:List En}(h1:∀t,t<es.length->k8 pe es t=0):kJ pe es=0:=by
 unfold kJ;rw [Mf es.length 0 (λt _ h=>h1 t (by omega))]
theorem Mi{v:Vh}(h1:fU v.nm=true)(h2:v.ss.length≠0)(h3:¬8<v.ss.length){i:Nat}{s:je}(hs:v.ss[i]? = some s)(h4:∀t,t<i->mr v.ss t=0)(h5:i5 (dQ (v.ss.take i)) (dA (v.ss.take i)) s≠0) :
  CV (1,(i:Int),i5 (dQ (v.ss.take i)) (dA (v.ss.take i)) s)=CV (bU v):=by
 have hi:i<v.ss.length:=(List.getElem?_eq_some_iff.1 hs).1;have hg:mr v.ss i=i5 (dQ (v.ss.take i)) (dA (v.ss.take i)) s:=by unfold mr;rw [hs]
 unfold bU;rw [if_neg (by rw [h1];simp [h2]),if_neg h3,Me v.ss.length 0 i (Nat.zero_le _) (by omega) (λt _ h=>h4 t h) (by rw [hg];exact h5),hg]
theorem Mj{v:Vh}(h1:fU v.nm=true)(h2:v.ss.length≠0)(h3:¬8<v.ss.length)(h4:∀t,t<v.ss.length->mr v.ss t=0) :
  bU v=if mq v.yl v.yh 0=false then (2,0,4)else if mU v.dr=false then (3,0,2)else if (jn v.ax && jn v.be)=false then (4,0,4)else (0,0,0):=by
 unfold bU;rw [if_neg (by rw [h1];simp [h2]),if_neg h3,Mf v.ss.length 0 (λt _ h=>h4 t (by omega))]
theorem VN{ss:List je}{i:Nat}{s:je}(h:ss[i]? = some s):dA (ss.take (i+1))=dA (ss.take i)++s.es.map (·.nm):=by
 unfold dA;rw [List.take_add_one,h];simp
theorem VO{ss:List je}{i:Nat}{s:je}(h:ss[i]? = some s):dQ (ss.take (i+1))=dQ (ss.take i) ++ [s.nm]:=by
 unfold dQ;rw [List.take_add_one,h];simp
end Go.Proofs.YtnjpiipdgapakaaGreatDoor
