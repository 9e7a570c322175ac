import Derived.Test.YtnjpiipdgapakaaGreatDoorCe
set_option linter.unusedVariables false
set_option linter.unusedSimpArgs false
namespace Go.Proofs.YtnjpiipdgapakaaGreatDoor
open Go Go.RowKit Vc
def A8(v:Vh):Bool:=decide ((bU v).2.2=0)
theorem AV{F:Nat->Int}:∀(m i j:Nat) (e:Int),sY F m i=some (j,e)->e≠0
  |0,i,j,e,h=>by simp [sY]at h
  |m+1,i,j,e,h=>by
    unfold sY at h;split at h
    · exact AV m (i+1) j e h
    · rename_i h0;injection h with h;injection h with _ h;rw [<-h];exact h0
theorem AX{F:Nat->Int}:∀(m i:Nat),sY F m i=none->∀t,i<=t->t<i+m->F t=0
  |0,i,h,t,h1,h2=>by omega
  |m+1,i,h,t,h1,h2=>by
    unfold sY at h;split at h
    · rename_i h0;rcases Nat.eq_or_lt_of_le h1 with rfl|cw
      · exact h0
      · exact AX m (i+1) h t cw (by omega)
    · cases h
structure AY(v:Vh):Prop where
 nm:fU v.nm=true
 s0:v.ss.length≠0
 s8:v.ss.length<=8
 st:∀t,t<v.ss.length->mr v.ss t=0
 py:mq v.yl v.yh 0=true
 tb:mU v.dr=true
 li:(jn v.ax && jn v.be)=true
theorem xj{v:Vh}(h:A8 v=true):AY v:=by
 have h:=of_decide_eq_true h;unfold bU at h;split at h
 ·simp at h
 rename_i h1;split at h
 ·simp at h
 rename_i h2;split at h
 ·rename_i i e he;exact absurd h (AV _ _ _ _ he)
 rename_i hn;split at h
 ·simp at h
 split at h
 ·simp at h
 split at h
 ·simp at h
 rename_i h3 h4 h5;exact⟨by cases hh:fU v.nm<;>simp_all,by simp_all,by omega,λt ht=>AX _ _ hn t (Nat.zero_le _) (by omega),by simpa using h3,by simpa using h4,by simpa using h5⟩
theorem ML{ps pe:List (List UInt8)}{s:je}(h:i5 ps pe s=0):s.es.length<=16:=by
 unfold i5 at h;split at h
 ·simp at h
 split at h
 ·simp at h
 split at h
 ·simp at h
 split at h
 ·simp at h
 omega
theorem AY.es{v:Vh}(h:AY v){s:je}(hs:s∈v.ss):s.es.length<=16:=by
 obtain⟨i,hi⟩:=List.getElem?_of_mem hs;have hl:=(List.getElem?_eq_some_iff.1 hi).1
 have:=h.st i hl
 unfold mr at this;rw [hi]at this;exact ML this
theorem AY.dr{v:Vh}(h:AY v):1<=v.dr.length/\v.dr.length<=64:=by
 have:=h.tb
 unfold mU at this;simp only [Bool.and_eq_true,decide_eq_true_eq]at this;exact this.2
theorem MM{pe:List (List UInt8)}{es:List En}(h:kJ pe es=0):∀t,t<es.length->k8 pe es t=0:=by
 unfold kJ at h;split at h
 ·rename_i i e he;exact absurd h (AV _ _ _ _ he)
 ·rename_i hn;exact λt ht=>AX _ _ hn t (Nat.zero_le _) (by omega)
theorem AY.B2{v:Vh}(h:AY v){s:je}(hs:s∈v.ss):(mq s.dl s.dh 1 && mq s.pl s.ph 0)=true/\∀e∈s.es,kt e=true:=by
 obtain⟨i,hi⟩:=List.getElem?_of_mem hs;have hl:=(List.getElem?_eq_some_iff.1 hi).1
 have:=h.st i hl
 unfold mr at this;rw [hi]at this;unfold i5 at this;simp only at this;split at this
 ·simp at this
 split at this
 ·simp at this
 split at this
 ·simp at this
 rename_i h3;split at this
 ·simp at this
 refine⟨by simpa using h3,λe he => ?_⟩;obtain⟨k,hk⟩:=List.getElem?_of_mem he;have gJ:=MM this k (List.getElem?_eq_some_iff.1 hk).1;unfold k8 at gJ;rw [hk]at gJ;unfold iZ at gJ;simp only at gJ;split at gJ
 ·simp at gJ
 split at gJ
 ·simp at gJ
 split at gJ
 ·simp at gJ
 rename_i hr;simpa using hr
theorem EV{lo hi least:Int}(h:mq lo hi least=true):least<=lo/\lo<=hi/\hi<=4503599627370496:=by
 simp only [mq,Bool.and_eq_true,decide_eq_true_eq]at h;omega
end Go.Proofs.YtnjpiipdgapakaaGreatDoor
