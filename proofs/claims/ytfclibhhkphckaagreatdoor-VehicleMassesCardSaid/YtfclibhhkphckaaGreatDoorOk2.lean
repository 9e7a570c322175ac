import Derived.Test.YtfclibhhkphckaaGreatDoorMs
set_option linter.unusedVariables false
set_option linter.unusedSimpArgs false
namespace Go.Proofs.YtfclibhhkphckaaGreatDoor
open Go Go.RowKit Vc
def okC(v:Vh):Bool:=decide ((pCheck v).2.2=0)
theorem zvea{F:Nat→Int}:∀ (m i j:Nat) (e:Int),ffF F m i=some (j,e)→e≠0
  | 0,i,j,e,h=>by simp [ffF]at h
  | m + 1,i,j,e,h=>by
    unfold ffF at h;split at h
    · exact zvea m (i + 1) j e h
    · rename_i h0;injection h with h;injection h with _ h;rw [← h];exact h0
theorem zbaa{F:Nat→Int}:∀ (m i:Nat),ffF F m i=none→∀ t,i≤t→t < i + m→F t=0
  | 0,i,h,t,h1,h2=>by omega
  | m + 1,i,h,t,h1,h2=>by
    unfold ffF at h;split at h
    · rename_i h0;rcases Nat.eq_or_lt_of_le h1 with rfl | hlt
      · exact h0
      · exact zbaa m (i + 1) h t hlt (by omega)
    · cases h
structure OkV(v:Vh):Prop where
 nm:pNamed v.nm=true
 s0:v.ss.length≠0
 s8:v.ss.length≤8
 st:∀ t,t < v.ss.length→stgG v.ss t=0
 py:bdd v.yl v.yh 0=true
 tb:tblB v.dr=true
 li:(limB v.ax && limB v.be)=true
theorem zwea{v:Vh}(h:okC v=true):OkV v:=by
 have h:=of_decide_eq_true h;unfold pCheck at h;split at h
 ·simp at h
 rename_i h1;split at h
 ·simp at h
 rename_i h2;split at h
 ·rename_i i e he;exact absurd h (zvea _ _ _ _ he)
 rename_i hn;split at h
 ·simp at h
 split at h
 ·simp at h
 split at h
 ·simp at h
 rename_i h3 h4 h5;exact⟨by cases hh:pNamed v.nm <;> simp_all,by simp_all,by omega,fun t ht=>zbaa _ _ hn t (Nat.zero_le _) (by omega),by simpa using h3,by simpa using h4,by simpa using h5⟩
theorem zsha{v:Vh}(h:OkV v):okC v=true:=by
 refine decide_eq_true ?_;rw [zfn h.nm h.s0 (by have:=h.s8;omega) h.st,h.py,h.tb,h.li];simp
theorem zwga{ps pe:List (List UInt8)}{s:Stg}(h:stgF ps pe s=0):s.es.length≤16:=by
 unfold stgF at h;split at h
 ·simp at h
 split at h
 ·simp at h
 split at h
 ·simp at h
 split at h
 ·simp at h
 omega
theorem OkV.es{v:Vh}(h:OkV v){s:Stg}(hs:s∈v.ss):s.es.length≤16:=by
 obtain⟨i,hi⟩:=List.getElem?_of_mem hs;have hl:=(List.getElem?_eq_some_iff.1 hi).1
 have:=h.st i hl
 unfold stgG at this;rw [hi]at this;exact zwga this
theorem OkV.dr{v:Vh}(h:OkV v):1≤v.dr.length∧v.dr.length≤64:=by
 have:=h.tb
 unfold tblB at this;simp only [Bool.and_eq_true,decide_eq_true_eq]at this;exact this.2
def Stg.er(s:Stg):Stg := {s with v := .nilFunc}
theorem zcaa{p q:List (List UInt8)}(hpq:∀ x∈q,x∈p){e:En}(h:engF p e=0):engF q e=0:=by
 unfold engF at h ⊢;split at h
 ·simp at h
 rename_i h1;split at h
 ·simp at h
 rename_i h2;split at h
 ·simp at h
 rename_i h3;rw [if_neg h1,if_neg (fun hh=>h2 (hpq _ hh)),if_neg h3]
theorem zjca{pe:List (List UInt8)}{es:List En}(h:engsF pe es=0):∀ t,t < es.length→engG pe es t=0:=by
 unfold engsF at h;split at h
 ·rename_i i e he;exact absurd h (zvea _ _ _ _ he)
 ·rename_i hn;exact fun t ht=>zbaa _ _ hn t (Nat.zero_le _) (by omega)
theorem zdaa{p q:List (List UInt8)}(hpq:∀ x∈q,x∈p){es:List En}(h:engsF p es=0):engsF q es=0:=by
 refine zen fun t ht => ?_
 have:=zjca h t ht
 unfold engG at this ⊢;rw [List.getElem?_eq_getElem ht]at this ⊢;refine zcaa (fun x hx => ?_) this;rcases List.mem_append.1 hx with hx | hx
 ·exact List.mem_append_left _ (hpq x hx)
 ·exact List.mem_append_right _ hx
theorem zeaa{ps qs pe qe:List (List UInt8)}(h1:∀ x∈qs,x∈ps)(h2:∀ x∈qe,x∈pe){s s':Stg}(hs:s'.er=s.er)(h:stgF ps pe s=0):stgF qs qe s'=0:=by
 obtain⟨n,a,b,c,d,sv,es⟩:=s;obtain⟨n',a',b',c',d',sv',es'⟩:=s';simp only [Stg.er,Stg.mk.injEq]at hs;obtain⟨rfl,rfl,rfl,rfl,rfl,_,rfl⟩:=hs;unfold stgF at h ⊢;simp only at h ⊢;split at h
 ·simp at h
 rename_i g1;split at h
 ·simp at h
 rename_i g2;split at h
 ·simp at h
 rename_i g3;split at h
 ·simp at h
 rename_i g4;rw [if_neg g1,if_neg (fun hh=>g2 (h1 _ hh)),if_neg g3,if_neg g4];exact zdaa h2 h
theorem zkca{l m:List Stg}(h:l.map Stg.er=m.map Stg.er):sNames l=sNames m∧eNames l=eNames m:=by
 have e1:∀ l:List Stg,sNames l=(l.map Stg.er).map (·.nm):=fun l=>by unfold sNames;rw [List.map_map];rfl
 have e2:∀ l:List Stg,eNames l=(l.map Stg.er).flatMap (fun s=>s.es.map (·.nm)):=fun l=>by unfold eNames;rw [List.flatMap_map];rfl
 exact⟨by rw [e1,e1,h],by rw [e2,e2,h]⟩
theorem OkV.drop{v u:Vh}(h:OkV v){n:Nat}(hn:n < v.ss.length)(h1:u.nm=v.nm)(h2:u.ss.map Stg.er=(v.ss.drop n).map Stg.er)(h3:u.yl=v.yl)(h4:u.yh=v.yh)(h5:u.dr=v.dr)(h6:u.ax=v.ax)(h7:u.be=v.be):OkV u:=by
 have hl:u.ss.length=v.ss.length - n:=by
  have:=congrArg List.length h2
  simpa using this
 have h8:=h.s8;refine⟨by rw [h1];exact h.nm,by omega,by omega,fun t ht => ?_,by rw [h3,h4];exact h.py,by rw [h5];exact h.tb,by rw [h6,h7];exact h.li⟩;have hu:=List.getElem?_eq_getElem ht;have hv:v.ss[n + t]? = some v.ss[n + t]:=List.getElem?_eq_getElem (by omega)
 have hs:u.ss[t].er=v.ss[n + t].er:=by
  have:=congrArg (fun l=>l[t]?) h2
  simp only [List.getElem?_map,List.getElem?_drop,hu,hv]at this;simpa using this
 have hg:=h.st (n + t) (by omega);unfold stgG at hg ⊢;rw [hv]at hg;rw [hu];have ht2:(u.ss.take t).map Stg.er=((v.ss.drop n).take t).map Stg.er:=by rw [List.map_take,h2,← List.map_take]
 obtain⟨q1,q2⟩:=zkca ht2
 have hsub:∀ s∈(v.ss.drop n).take t,s∈v.ss.take (n + t):=fun s hs=>by
  rw [List.take_drop]at hs;exact List.mem_of_mem_drop hs
 refine zeaa (fun x hx => ?_) (fun x hx => ?_) hs hg
 ·rw [q1]at hx;obtain⟨s,hs,rfl⟩:=List.mem_map.1 hx;exact List.mem_map.2 ⟨s,hsub s hs,rfl⟩
 ·rw [q2]at hx;obtain⟨s,hs,hx⟩:=List.mem_flatMap.1 hx;exact List.mem_flatMap.2 ⟨s,hsub s hs,hx⟩
theorem zbw{f g:Stg→Int}(hf:∀ s,f s.er=f s)(hg:∀ s,g s.er=g s):∀ l:List Stg,acc f g (l.map Stg.er)=acc f g l
  | []=>rfl
  | s::r=>by
    unfold acc;simp only [List.map_cons,List.map_map];rw [hf];congr 2;exact List.map_congr_left fun s _=>by simp [hf,hg]
theorem zfaa{v u:Vh}(h:okC v=true){n:Nat}(hn:n < v.ss.length)(h1:u.nm=v.nm)(h2:u.ss.map Stg.er=(v.ss.drop n).map Stg.er)(h3:u.yl=v.yl)(h4:u.yh=v.yh)(h5:u.dr=v.dr)(h6:u.ax=v.ax)(h7:u.be=v.be) :
  pMass u 0 0 0=pMass v n 0 0∧(pMass v n 0 0).2.2=0:=by
 have hu:okC u=true:=zsha ((zwea h).drop hn h1 h2 h3 h4 h5 h6 h7)
 have hl:u.ss.length=v.ss.length - n:=by
  have:=congrArg List.length h2
  simpa using this
 have c1:=of_decide_eq_true h;have c2:=of_decide_eq_true hu;have gu:u.ss[(0:Int).toNat]? = some u.ss[0]:=List.getElem?_eq_getElem (by omega);have gv:v.ss[((n:Nat):Int).toNat]? = some v.ss[n]:=by rw [Int.toNat_natCast];exact List.getElem?_eq_getElem hn
 have hs:u.ss[0].er=v.ss[n].er:=by
  have:=congrArg (fun l=>l[0]?) h2
  have g2:v.ss[n]? = some v.ss[n]:=List.getElem?_eq_getElem hn;have g3:u.ss[0]? = some u.ss[0]:=List.getElem?_eq_getElem (by omega);simp only [List.getElem?_map,List.getElem?_drop,Nat.add_zero,g2,g3]at this;simpa using this
 have a1:acc (·.dl) (·.pl) u.ss=acc (·.dl) (·.pl) (v.ss.drop n):=by rw [← zbw (fun _=>rfl) (fun _=>rfl) u.ss,h2,zbw (fun _=>rfl) (fun _=>rfl)]
 have a2:acc (·.dh) (·.ph) u.ss=acc (·.dh) (·.ph) (v.ss.drop n):=by rw [← zbw (fun _=>rfl) (fun _=>rfl) u.ss,h2,zbw (fun _=>rfl) (fun _=>rfl)]
 have p1:u.ss[0].pl=v.ss[n].pl:=congrArg (·.pl) hs;have p2:u.ss[0].ph=v.ss[n].ph:=congrArg (·.ph) hs;unfold pMass;rw [if_neg (by omega),if_neg (by omega),if_neg (by omega),gu,if_neg (by omega),if_neg (by omega),if_neg (by omega),gv];simp only [Int.toNat_natCast,Int.toNat_zero,List.drop_zero,a1,a2,p1,p2,h3,h4];refine⟨?_, ?_⟩ <;> first | trivial | rfl
end Go.Proofs.YtfclibhhkphckaaGreatDoor
