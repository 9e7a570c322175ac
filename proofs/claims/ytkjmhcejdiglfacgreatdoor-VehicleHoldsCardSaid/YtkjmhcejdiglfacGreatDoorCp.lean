import Derived.Test.YtkjmhcejdiglfacGreatDoorLh
import Derived.Test.YtkjmhcejdiglfacGreatDoorMp
set_option linter.unusedVariables false
set_option linter.unusedSimpArgs false
namespace Go.Proofs.YtkjmhcejdiglfacGreatDoor
open Go Go.RowKit Vc
structure En where
 nm:List UInt8
 n:Int
 (tl th fl fh le sl sh pl ph:Int)
def enc(e:En):List Value := [.string ⟨e.nm.toArray⟩,.int .i64 e.n,.int .i64 e.tl,.int .i64 e.th,.int .i64 e.fl,.int .i64 e.fh,.int .i64 e.le,.int .i64 e.sl,.int .i64 e.sh,.int .i64 e.pl,.int .i64 e.ph]
theorem zzb(e:En):(enc e).length=11:=rfl
structure Stg where
 nm:List UInt8
 (dl dh pl ph:Int)
 v:Value
 es:List En
def stc(s:Stg):List Value := [.string ⟨s.nm.toArray⟩,.int .i64 s.dl,.int .i64 s.dh,.int .i64 s.pl,.int .i64 s.ph,s.v]
theorem zif(s:Stg):(stc s).length=6:=rfl
structure Pt where
 (a lo hi:Int)
def ptc(p:Pt):List Value := [.int .i64 p.a,.int .i64 p.lo,.int .i64 p.hi]
theorem ztm(p:Pt):(ptc p).length=3:=rfl
structure Vh where
 nm:List UInt8
 sv:Value
 ss:List Stg
 (yl yh:Int)
 dv:Value
 dr:List Pt
 (ax be:Int)
def VHV(v:Vh):Value := .agg #[.string ⟨v.nm.toArray⟩,v.sv,.int .i64 v.yl,.int .i64 v.yh,v.dv,.int .i64 v.ax,.int .i64 v.be]
structure VhAt(w:World)(v:Vh):Prop where
 st:SlAt w v.sv 6 (v.ss.flatMap stc)
 es:∀ s∈v.ss,SlAt w s.v 11 (s.es.flatMap enc)
 dr:SlAt w v.dv 3 (v.dr.flatMap ptc)
structure VhSz(v:Vh):Prop where
 nm:v.nm.length < 4611686018427387904
 st:∀ s∈v.ss,s.nm.length < 4611686018427387904∧s.es.length < 4611686018427387904∧∀ e∈s.es,e.nm.length < 4611686018427387904
 sn:v.ss.length < 4611686018427387904
 dn:v.dr.length < 4611686018427387904
theorem VhAt.below{w w':World}{v:Vh}(hb:Below w.heap.size w w')(h:VhAt w v):VhAt w' v:=⟨zle hb h.st,fun s hs=>zle hb (h.es s hs),zle hb h.dr⟩
def bdd(lo hi least:Int):Bool:=decide (least≤lo) && decide (lo≤hi) && decide (hi≤4503599627370496)
def rng(e:En):Bool:=decide (1≤e.n) && decide (e.n≤64) && bdd e.tl e.th 1 && bdd e.fl e.fh 1 && (decide (0≤e.le) && decide (e.le≤4294967296)) && bdd e.sl e.sh 0 && bdd e.pl e.ph 0
def engF(prev:List (List UInt8))(e:En):Int:=if pNamed e.nm=false then 2 else if e.nm∈prev then 8 else if rng e=false then 4 else 0
def ffF(F:Nat→Int):Nat→Nat→Option (Nat × Int)
 | 0,_=>none
 | m + 1,i=>if F i=0 then ffF F m (i + 1)else some (i,F i)
theorem zpt{F:Nat→Int}:∀ (m i j:Nat),i≤j→j < i + m→(∀ t,i≤t→t < j→F t=0)→F j≠0→ffF F m i=some (j,F j)
  | 0,i,j,h1,h2,_,_=>by omega
  | m + 1,i,j,h1,h2,h3,h4=>by
    rcases Nat.eq_or_lt_of_le h1 with rfl | h
    · rw [ffF,if_neg h4]
    · rw [ffF,if_pos (h3 i (Nat.le_refl _) h)];exact zpt m (i + 1) j h (by omega) (fun t h5 h6=>h3 t (by omega) h6) h4
theorem zqt{F:Nat→Int}:∀ (m i:Nat),(∀ t,i≤t→t < i + m→F t=0)→ffF F m i=none
  | 0,i,_=>rfl
  | m + 1,i,h=>by
    rw [ffF,if_pos (h i (Nat.le_refl _) (by omega))];exact zqt m (i + 1) fun t h1 h2=>h t (by omega) (by omega)
def engG(pe:List (List UInt8))(es:List En)(k:Nat):Int:=match es[k]? with
 | some e=>engF (pe++(es.take k).map (·.nm)) e
 | none=>0
def engsF(pe:List (List UInt8))(es:List En):Int:=match ffF (engG pe es) es.length 0 with
 | some (_,e)=>e
 | none=>0
def stgF(ps pe:List (List UInt8))(s:Stg):Int:=if pNamed s.nm=false then 2 else if s.nm∈ps then 8 else if (bdd s.dl s.dh 1 && bdd s.pl s.ph 0)=false then 4 else if 16 < s.es.length then 3 else engsF pe s.es
def sNames(ss:List Stg):List (List UInt8):=ss.map (·.nm)
def eNames(ss:List Stg):List (List UInt8):=ss.flatMap fun s=>s.es.map (·.nm)
def stgG(ss:List Stg)(i:Nat):Int:=match ss[i]? with
 | some s=>stgF (sNames (ss.take i)) (eNames (ss.take i)) s
 | none=>0
def tblF:Int→List Pt→Bool
 | _,[]=>true
 | last,p::r=>decide (last < p.a) && decide (p.a≤4503599627370496) && bdd p.lo p.hi 0 && tblF p.a r
def tblB(l:List Pt):Bool:=tblF (-1) l && (decide (1≤l.length) && decide (l.length≤64))
def limB(n:Int):Bool:=decide (1≤n) && decide (n≤4503599627370496)
def pCheck(v:Vh):Int × Int × Int :=
 if pNamed v.nm=false∨v.ss.length=0 then (0,0,2)
 else if 8 < v.ss.length then (0,0,3)
 else match ffF (stgG v.ss) v.ss.length 0 with
  | some (i,e)=>(1,(i:Int),e)
  | none=>if bdd v.yl v.yh 0=false then (2,0,4)else if tblB v.dr=false then (3,0,2)else if (limB v.ax && limB v.be)=false then (4,0,4)else (0,0,0)
def CV(r:Int × Int × Int):Value := .tuple #[.int .i64 r.1,.int .i64 r.2.1,.int .i64 r.2.2]
theorem zmy{pe:List (List UInt8)}{es:List En}{k:Nat}{e:En}(he:es[k]? = some e)(h1:∀ t,t < k→engG pe es t=0)(h2:engF (pe++(es.take k).map (·.nm)) e≠0):engsF pe es=engF (pe++(es.take k).map (·.nm)) e:=by
 have hk:k < es.length:=(List.getElem?_eq_some_iff.1 he).1;have hg:engG pe es k=engF (pe++(es.take k).map (·.nm)) e:=by unfold engG;rw [he]
 unfold engsF;rw [zpt es.length 0 k (Nat.zero_le _) (by omega) (fun t _ h=>h1 t h) (by rw [hg];exact h2)];exact hg
theorem zny{pe:List (List UInt8)}{es:List En}(h1:∀ t,t < es.length→engG pe es t=0):engsF pe es=0:=by
 unfold engsF;rw [zqt es.length 0 (fun t _ h=>h1 t (by omega))]
theorem zoy{v:Vh}(h1:pNamed v.nm=true)(h2:v.ss.length≠0)(h3:¬ 8 < v.ss.length){i:Nat}{s:Stg}(hs:v.ss[i]? = some s)(h4:∀ t,t < i→stgG v.ss t=0)(h5:stgF (sNames (v.ss.take i)) (eNames (v.ss.take i)) s≠0) :
  CV (1,(i:Int),stgF (sNames (v.ss.take i)) (eNames (v.ss.take i)) s)=CV (pCheck v):=by
 have hi:i < v.ss.length:=(List.getElem?_eq_some_iff.1 hs).1;have hg:stgG v.ss i=stgF (sNames (v.ss.take i)) (eNames (v.ss.take i)) s:=by unfold stgG;rw [hs]
 unfold pCheck;rw [if_neg (by rw [h1];simp [h2]),if_neg h3,zpt v.ss.length 0 i (Nat.zero_le _) (by omega) (fun t _ h=>h4 t h) (by rw [hg];exact h5),hg]
theorem zpy{v:Vh}(h1:pNamed v.nm=true)(h2:v.ss.length≠0)(h3:¬ 8 < v.ss.length)(h4:∀ t,t < v.ss.length→stgG v.ss t=0) :
  pCheck v=if bdd v.yl v.yh 0=false then (2,0,4)else if tblB v.dr=false then (3,0,2)else if (limB v.ax && limB v.be)=false then (4,0,4)else (0,0,0):=by
 unfold pCheck;rw [if_neg (by rw [h1];simp [h2]),if_neg h3,zqt v.ss.length 0 (fun t _ h=>h4 t (by omega))]
theorem zrt{ss:List Stg}{i:Nat}{s:Stg}(h:ss[i]? = some s):eNames (ss.take (i + 1))=eNames (ss.take i)++s.es.map (·.nm):=by
 unfold eNames;rw [List.take_add_one,h];simp
theorem zst{ss:List Stg}{i:Nat}{s:Stg}(h:ss[i]? = some s):sNames (ss.take (i + 1))=sNames (ss.take i) ++ [s.nm]:=by
 unfold sNames;rw [List.take_add_one,h];simp
end Go.Proofs.YtkjmhcejdiglfacGreatDoor
