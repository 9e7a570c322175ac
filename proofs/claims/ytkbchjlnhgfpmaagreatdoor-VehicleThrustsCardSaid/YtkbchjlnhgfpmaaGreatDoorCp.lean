import Derived.Test.YtkbchjlnhgfpmaaGreatDoorLh
import Derived.Test.YtkbchjlnhgfpmaaGreatDoorMp
set_option linter.unusedVariables false
set_option linter.unusedSimpArgs false
namespace Go.Proofs.YtkbchjlnhgfpmaaGreatDoor
open Go Go.RowKit Vc
structure En where
 nm:List UInt8
 n:Int
 (tl th fl fh le sl sh pl ph:Int)
def enc(e:En):List Value := [.string ⟨e.nm.toArray⟩,.int .i64 e.n,.int .i64 e.tl,.int .i64 e.th,.int .i64 e.fl,.int .i64 e.fh,.int .i64 e.le,.int .i64 e.sl,.int .i64 e.sh,.int .i64 e.pl,.int .i64 e.ph]
theorem vw(e:En):(enc e).length=11:=rfl
structure f_ where
 nm:List UInt8
 (dl dh pl ph:Int)
 v:Value
 es:List En
def Bz(s:f_):List Value := [.string ⟨s.nm.toArray⟩,.int .i64 s.dl,.int .i64 s.dh,.int .i64 s.pl,.int .i64 s.ph,s.v]
theorem BA(s:f_):(Bz s).length=6:=rfl
structure Pt where
 (a lo hi:Int)
def yG(p:Pt):List Value := [.int .i64 p.a,.int .i64 p.lo,.int .i64 p.hi]
theorem Hz(p:Pt):(yG p).length=3:=rfl
structure Vh where
 nm:List UInt8
 sv:Value
 ss:List f_
 (yl yh:Int)
 dv:Value
 dr:List Pt
 (ax be:Int)
def gY(v:Vh):Value := .agg #[.string ⟨v.nm.toArray⟩,v.sv,.int .i64 v.yl,.int .i64 v.yh,v.dv,.int .i64 v.ax,.int .i64 v.be]
structure iH(w:World)(v:Vh):Prop where
 st:e_ w v.sv 6 (v.ss.flatMap Bz)
 es:∀s∈v.ss,e_ w s.v 11 (s.es.flatMap enc)
 dr:e_ w v.dv 3 (v.dr.flatMap yG)
structure j9(v:Vh):Prop where
 nm:v.nm.length<4611686018427387904
 st:∀s∈v.ss,s.nm.length<4611686018427387904/\s.es.length<4611686018427387904/\∀e∈s.es,e.nm.length<4611686018427387904
 sn:v.ss.length<4611686018427387904
 dn:v.dr.length<4611686018427387904
theorem iH.below{w w':World}{v:Vh}(hb:Below w.heap.size w w')(h:iH w v):iH w' v:=⟨zg hb h.st,λs hs=>zg hb (h.es s hs),zg hb h.dr⟩
def jl(lo hi least:Int):Bool:=decide (least<=lo) && decide (lo<=hi) && decide (hi<=4503599627370496)
def jg(e:En):Bool:=decide (1<=e.n) && decide (e.n<=64) && jl e.tl e.th 1 && jl e.fl e.fh 1 && (decide (0<=e.le) && decide (e.le<=4294967296)) && jl e.sl e.sh 0 && jl e.pl e.ph 0
def gZ(prev:List (List UInt8))(e:En):Int:=if fD e.nm=false then 2 else if e.nm∈prev then 8 else if jg e=false then 4 else 0
def vx(F:Nat->Int):Nat->Nat->Option (Nat × Int)
 |0,_=>none
 |m+1,i=>if F i=0 then vx F m (i+1)else some (i,F i)
theorem Qx{F:Nat->Int}:∀(m i j:Nat),i<=j->j<i+m->(∀t,i<=t->t<j->F t=0)->F j≠0->vx F m i=some (j,F j)
  |0,i,j,h1,h2,_,_=>by omega
  |m+1,i,j,h1,h2,h3,h4=>by
    rcases Nat.eq_or_lt_of_le h1 with rfl|h
    · rw [vx,if_neg h4]
    · rw [vx,if_pos (h3 i (Nat.le_refl _) h)];exact Qx m (i+1) j h (by omega) (λt h5 h6=>h3 t (by omega) h6) h4
theorem Qy{F:Nat->Int}:∀(m i:Nat),(∀t,i<=t->t<i+m->F t=0)->vx F m i=none
  |0,i,_=>rfl
  |m+1,i,h=>by
    rw [vx,if_pos (h i (Nat.le_refl _) (by omega))];exact Qy m (i+1) λt h1 h2=>h t (by omega) (by omega)
def lR(pe:List (List UInt8))(es:List En)(k:Nat):Int:=match es[k]? with
 |some e=>gZ (pe++(es.take k).map (·.nm)) e
 |none=>0
def ku(pe:List (List UInt8))(es:List En):Int:=match vx (lR pe es) es.length 0 with
 |some (_,e)=>e
 |none=>0
def iI(ps pe:List (List UInt8))(s:f_):Int:=if fD s.nm=false then 2 else if s.nm∈ps then 8 else if (jl s.dl s.dh 1 && jl s.pl s.ph 0)=false then 4 else if 16<s.es.length then 3 else ku pe s.es
def cR(ss:List f_):List (List UInt8):=ss.map (·.nm)
def bN(ss:List f_):List (List UInt8):=ss.flatMap λs=>s.es.map (·.nm)
def lS(ss:List f_)(i:Nat):Int:=match ss[i]? with
 |some s=>iI (cR (ss.take i)) (bN (ss.take i)) s
 |none=>0
def kI:Int->List Pt->Bool
 |_,[]=>true
 |last,p::r=>decide (last<p.a) && decide (p.a<=4503599627370496) && jl p.lo p.hi 0 && kI p.a r
def jM(l:List Pt):Bool:=kI (-1) l && (decide (1<=l.length) && decide (l.length<=64))
def gC(n:Int):Bool:=decide (1<=n) && decide (n<=4503599627370496)
def bU(v:Vh):Int × Int × Int :=
 if fD v.nm=false\/v.ss.length=0 then (0,0,2)
 else if 8<v.ss.length then (0,0,3)
 else match vx (lS v.ss) v.ss.length 0 with
  |some (i,e)=>(1,(i:Int),e)
  |none=>if jl v.yl v.yh 0=false then (2,0,4)else if jM v.dr=false then (3,0,2)else if (gC v.ax && gC v.be)=false then (4,0,4)else (0,0,0)
def CV(r:Int × Int × Int):Value := .tuple #[.int .i64 r.1,.int .i64 r.2.1,.int .i64 r.2.2]
theorem VQ{pe:List (List UInt8)}{es:List En}{k:Nat}{e:En}(he:es[k]? = some e)(h1:∀t,t<k->lR pe es t=0)(h2:gZ (pe++(es.take k).map (·.nm)) e≠0):ku pe es=gZ (pe++(es.take k).map (·.nm)) e:=by
 have hk:k<es.length:=(List.getElem?_eq_some_iff.1 he).1;have hg:lR pe es k=gZ (pe++(es.take k).map (·.nm)) e:=by unfold lR;rw [he]
 unfold ku;rw [Qx es.length 0 k (Nat.zero_le _) (by omega) (λt _ h=>h1 t h) (by rw [hg];exact h2)];exact hg
theorem VR{pe:List (List UInt8)}{es:List En}(h1:∀t,t<es.length->lR pe es t=0):ku pe es=0:=by
 unfold ku;rw [Qy es.length 0 (λt _ h=>h1 t (by omega))]
theorem VS{v:Vh}(h1:fD v.nm=true)(h2:v.ss.length≠0)(h3:¬8<v.ss.length){i:Nat}{s:f_}(hs:v.ss[i]? = some s)(h4:∀t,t<i->lS v.ss t=0)(h5:iI (cR (v.ss.take i)) (bN (v.ss.take i)) s≠0) :
  CV (1,(i:Int),iI (cR (v.ss.take i)) (bN (v.ss.take i)) s)=CV (bU v):=by
 have hi:i<v.ss.length:=(List.getElem?_eq_some_iff.1 hs).1;have hg:lS v.ss i=iI (cR (v.ss.take i)) (bN (v.ss.take i)) s:=by unfold lS;rw [hs]
 unfold bU;rw [if_neg (by rw [h1];simp [h2]),if_neg h3,Qx v.ss.length 0 i (Nat.zero_le _) (by omega) (λt _ h=>h4 t h) (by rw [hg];exact h5),hg]
theorem VT{v:Vh}(h1:fD v.nm=true)(h2:v.ss.length≠0)(h3:¬8<v.ss.length)(h4:∀t,t<v.ss.length->lS v.ss t=0) :
  bU v=if jl v.yl v.yh 0=false then (2,0,4)else if jM v.dr=false then (3,0,2)else if (gC v.ax && gC v.be)=false then (4,0,4)else (0,0,0):=by
 unfold bU;rw [if_neg (by rw [h1];simp [h2]),if_neg h3,Qy v.ss.length 0 (λt _ h=>h4 t (by omega))]
theorem VU{ss:List f_}{i:Nat}{s:f_}(h:ss[i]? = some s):bN (ss.take (i+1))=bN (ss.take i)++s.es.map (·.nm):=by
 unfold bN;rw [List.take_add_one,h];simp
theorem VV{ss:List f_}{i:Nat}{s:f_}(h:ss[i]? = some s):cR (ss.take (i+1))=cR (ss.take i) ++ [s.nm]:=by
 unfold cR;rw [List.take_add_one,h];simp
end Go.Proofs.YtkbchjlnhgfpmaaGreatDoor
