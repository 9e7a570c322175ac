import Derived.Test.YtocleppbcngcjaaGreatDoorTz
import Derived.Test.YtocleppbcngcjaaGreatDoorOkv
set_option linter.unusedVariables false
set_option linter.unusedSimpArgs false
set_option linter.unusedSimpArgs false
namespace Go.Proofs.YtocleppbcngcjaaGreatDoor
open Go Go.RowKit Vc
def iF(v:Vh):List (List UInt8) := [[118,101,104,105,99,108,101,32],v.nm,[59,10]]
def sf(s:cD):List (List UInt8) := [[115,116,97,103,101,32],s.nm,[32,123,32,100,114,121,32,61,32],ja s.dl s.dh [116],[59,32,112,114,111,112,32,61,32],ja s.pl s.ph [116],[59,32,125,10]]
def qQ(s:cD)(x:En):List (List UInt8) := [[101,110,103,105,110,101,32],x.nm,[32,105,110,32],s.nm,[32,123,32,99,111,117,110,116,32,61,32],Lib.itoa x.n,[59,32,116,104,114,117,115,116,32,61,32],ja x.tl x.th [77,78],[59,32,102,108,111,119,32,61,32],ja x.fl x.fh [116,32,47,32,115]]
def tC(x:En):List (List UInt8) := [[59,32,108,101,97,115,116,32,61,32],i_ x.le [],[59,32,115,116,97,114,116,32,61,32],ja x.sl x.sh [115],[59,32,115,116,111,112,32,61,32],ja x.pl x.ph [115],[59,32,125,10]]
def NU(p:Pt):List (List UInt8) := [[32],i_ p.a [107,109,32,47,32,115],[32,58,32],ja p.lo p.hi [107,109,32,42,32,107,109],[59]]
def oo:List (List UInt8) := [[100,114,97,103,32,123]]
def xe(v:Vh):List (List UInt8) := [[32,125,10,108,105,109,105,116,115,32,123,32,97,120,105,97,108,32,61,32],i_ v.ax [107,109,32,47,32,115,32,47,32,115],[59,32,98,101,110,100,105,110,103,32,61,32],i_ v.be [80,97],[59,32,125,10,112,97,121,108,111,97,100,32,61,32],ja v.yl v.yh [116],[59,10]]
def pD(s:cD)(x:En):List UInt8:=(qQ s x).flatten++(tC x).flatten
def k9(s:cD):List UInt8:=(sf s).flatten++s.es.flatMap (pD s)
def yO(p:Pt):List UInt8:=(NU p).flatten
def mc(v:Vh):List UInt8:=(iF v).flatten++v.ss.flatMap k9++oo.flatten++v.dr.flatMap yO++(xe v).flatten
def pE(v:Vh):List UInt8:=if ng v=true then mc v else []
theorem NV{s:List UInt8}(h:du s=true):s.length<=32:=by
 unfold du at h;rw [Bool.and_eq_true]at h;obtain⟨h1,h2,h3,h4⟩:=of_decide_eq_true h.1;unfold fF at h1 h2 h3 h4;dsimp only at h1 h2 h3 h4;split at h1
 ·rename_i ha;rw [if_pos ha]at h2 h3 h4;split at h1
  ·rename_i hb;rw [if_pos hb]at h2 h3 h4;dsimp only at h2 h3 h4;split at h2
   ·simp at h2
   ·rename_i hc;omega
  ·split at h1
   ·simp at h1
   ·split at h1<;>simp at h1
 ·simp at h1
theorem tB.names{v:Vh}(h:tB v){s:cD}(hs:s∈v.ss):du s.nm=true/\∀e∈s.es,du e.nm=true:=by
 obtain⟨i,hi⟩:=List.getElem?_of_mem hs;have hl:=(List.getElem?_eq_some_iff.1 hi).1
 have:=h.st i hl
 unfold jL at this;rw [hi]at this;unfold fw at this;simp only at this;split at this
 ·simp at this
 rename_i h1;split at this
 ·simp at this
 split at this
 ·simp at this
 split at this
 ·simp at this
 refine⟨by simpa using h1,λe he => ?_⟩;obtain⟨k,hk⟩:=List.getElem?_of_mem he;have gi:=NT this k (List.getElem?_eq_some_iff.1 hk).1;unfold jK at gi;rw [hk]at gi;unfold e_ at gi;simp only at gi;split at gi
 ·simp at gi
 rename_i hr;simpa using hr
theorem F_:∀{l:List Pt} {last:Int},-1<=last->jM last l=true->∀p∈l,(0<=p.a/\p.a<=4503599627370496)/\iw p.lo p.hi 0=true
  | [],_,_,_,p,hp=>by cases hp
  |q::r,last,hl,h,p,hp=>by
    simp only [jM,Bool.and_eq_true,decide_eq_true_eq]at h;rcases List.mem_cons.1 hp with rfl|hp
    · exact⟨⟨by omega,h.1.1.2⟩,h.1.2⟩
    · exact F_ (by omega) h.2 p hp
abbrev Rg(n:Int):Prop := -9223372036854775808<=n/\n<=9223372036854775807
structure H7(x:En):Prop where
 (n:Rg x.n) (tl:Rg x.tl) (th:Rg x.th) (fl:Rg x.fl) (fh:Rg x.fh) (le:Rg x.le) (sl:Rg x.sl) (sh:Rg x.sh) (pl:Rg x.pl) (ph:Rg x.ph)
 nm:x.nm.length<=32
structure Ga(s:cD):Prop where
 (dl:Rg s.dl) (dh:Rg s.dh) (pl:Rg s.pl) (ph:Rg s.ph)
 nm:s.nm.length<=32
 ec:s.es.length<=16
 es:∀x∈s.es,H7 x
structure TA(p:Pt):Prop where
 (a:Rg p.a) (lo:Rg p.lo) (hi:Rg p.hi)
structure NW(v:Vh):Prop where
 (ax:Rg v.ax) (be:Rg v.be) (yl:Rg v.yl) (yh:Rg v.yh)
 nm:v.nm.length<=32
 sc:v.ss.length<=8
 ss:∀s∈v.ss,Ga s
 pc:v.dr.length<=64
 dr:∀p∈v.dr,TA p
theorem tB.g{v:Vh}(h:tB v):NW v:=by
 have hp:=H6 h.py;have hl:=h.li;simp only [fx,Bool.and_eq_true,decide_eq_true_eq]at hl;refine⟨⟨by omega,by omega⟩,⟨by omega,by omega⟩,⟨by omega,by omega⟩,⟨by omega,by omega⟩,NV h.nm,h.s8,λs hs => ?_,h.dr.2,λp hp => ?_⟩
 ·have h1:=(h.Tz hs).1;rw [Bool.and_eq_true]at h1;have h2:=H6 h1.1;have h3:=H6 h1.2;refine⟨⟨by omega,by omega⟩,⟨by omega,by omega⟩,⟨by omega,by omega⟩,⟨by omega,by omega⟩,NV (h.names hs).1,h.es hs,λx hx => ?_⟩;have h4:=(h.Tz hs).2 x hx;simp only [ly,iw,Bool.and_eq_true,decide_eq_true_eq]at h4;exact⟨⟨by omega,by omega⟩,⟨by omega,by omega⟩,⟨by omega,by omega⟩,⟨by omega,by omega⟩,⟨by omega,by omega⟩,⟨by omega,by omega⟩,⟨by omega,by omega⟩,⟨by omega,by omega⟩,⟨by omega,by omega⟩,⟨by omega,by omega⟩,NV ((h.names hs).2 x hx)⟩
 ·have ht:=h.tb;unfold jc at ht;rw [Bool.and_eq_true]at ht;have h1:=F_ (by decide) ht.1 p hp;have h2:=H6 h1.2;exact⟨⟨by omega,by omega⟩,⟨by omega,by omega⟩,⟨by omega,by omega⟩⟩
theorem Ar{a b:Int}(ha:Rg a)(hb:Rg b)(u:List UInt8):(ja a b u).length<=104+2*u.length:=by
 have h1:=Ag ha.1 ha.2 u;have h2:=Ag hb.1 hb.2 u;unfold ja;simp only [List.length_append,List.length_cons,List.length_nil];omega
theorem Gb{α:Type}{f:α->List UInt8}{M:Nat}:∀{l:List α},(∀a∈l,(f a).length<=M)->(l.flatMap f).length<=l.length*M
  | [],_=>by simp
  |a::r,h=>by
    have h1:=h a (List.mem_cons_self ..);have h2:=Gb (l:=r) λb hb=>h b (List.mem_cons_of_mem _ hb);have h3:(r.length+1)*M=r.length*M+M:=Nat.succ_mul _ _;simp only [List.flatMap_cons,List.length_append,List.length_cons];omega
theorem TB{s:cD}{x:En}(hs:Ga s)(hx:H7 x):(qQ s x).flatten.length<=1000:=by
 have h1:=hs.nm;have h2:=hx.nm;have h3:=FF hx.n.1 hx.n.2;have h4:=Ar hx.tl hx.th [77,78];have h5:=Ar hx.fl hx.fh [116,32,47,32,115];simp only [qQ,List.flatten_cons,List.flatten_nil,List.length_append,List.length_cons,List.length_nil]at h4 h5 ⊢;omega
theorem TC{x:En}(hx:H7 x):(tC x).flatten.length<=1000:=by
 have h3:=Ag hx.le.1 hx.le.2 [];have h4:=Ar hx.sl hx.sh [115];have h5:=Ar hx.pl hx.ph [115];simp only [tC,List.flatten_cons,List.flatten_nil,List.length_append,List.length_cons,List.length_nil]at h3 h4 h5 ⊢;omega
theorem TD{s:cD}(hs:Ga s):(sf s).flatten.length<=1000:=by
 have h1:=hs.nm;have h4:=Ar hs.dl hs.dh [116];have h5:=Ar hs.pl hs.ph [116];simp only [sf,List.flatten_cons,List.flatten_nil,List.length_append,List.length_cons,List.length_nil]at h4 h5 ⊢;omega
theorem TE{s:cD}{x:En}(hs:Ga s)(hx:H7 x):(pD s x).length<=2000:=by
 have h1:=TB hs hx;have h2:=TC hx;unfold pD;rw [List.length_append];omega
theorem NX{s:cD}(hs:Ga s):(k9 s).length<=40000:=by
 have h1:=TD hs;have h2:=Gb (l:=s.es) (f:=pD s) (M:=2000) λx hx=>TE hs (hs.es x hx);have h3:=hs.ec;unfold k9;rw [List.length_append];omega
theorem Gc{p:Pt}(hp:TA p):(yO p).length<=1000:=by
 have h1:=Ag hp.a.1 hp.a.2 [107,109,32,47,32,115];have h2:=Ar hp.lo hp.hi [107,109,32,42,32,107,109];simp only [yO,NU,List.flatten_cons,List.flatten_nil,List.length_append,List.length_cons,List.length_nil]at h1 h2 ⊢;omega
theorem NY{v:Vh}(h:NW v):(xe v).flatten.length<=1000:=by
 have h1:=Ag h.ax.1 h.ax.2 [107,109,32,47,32,115,32,47,32,115];have h2:=Ag h.be.1 h.be.2 [80,97];have h3:=Ar h.yl h.yh [116];simp only [xe,List.flatten_cons,List.flatten_nil,List.length_append,List.length_cons,List.length_nil]at h1 h2 h3 ⊢;omega
theorem TF{v:Vh}(h:NW v):(iF v).flatten.length<=1000:=by
 have h1:=h.nm;simp only [iF,List.flatten_cons,List.flatten_nil,List.length_append,List.length_cons,List.length_nil];omega
end Go.Proofs.YtocleppbcngcjaaGreatDoor
