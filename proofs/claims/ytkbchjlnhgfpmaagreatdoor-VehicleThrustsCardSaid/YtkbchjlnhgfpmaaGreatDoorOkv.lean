import Derived.Test.YtkbchjlnhgfpmaaGreatDoorCe
set_option linter.unusedVariables false
set_option linter.unusedSimpArgs false
namespace Go.Proofs.YtkbchjlnhgfpmaaGreatDoor
open Go Go.RowKit Vc
def DJ(v:Vh):Bool:=decide ((bU v).2.2=0)
theorem Dq{F:Nat->Int}:∀(m i j:Nat) (e:Int),vx F m i=some (j,e)->e≠0
  |0,i,j,e,h=>by simp [vx]at h
  |m+1,i,j,e,h=>by
    unfold vx at h;split at h
    · exact Dq m (i+1) j e h
    · rename_i h0;injection h with h;injection h with _ h;rw [<-h];exact h0
theorem Dr{F:Nat->Int}:∀(m i:Nat),vx F m i=none->∀t,i<=t->t<i+m->F t=0
  |0,i,h,t,h1,h2=>by omega
  |m+1,i,h,t,h1,h2=>by
    unfold vx at h;split at h
    · rename_i h0;rcases Nat.eq_or_lt_of_le h1 with rfl|ct
      · exact h0
      · exact Dr m (i+1) h t ct (by omega)
    · cases h
structure Ds(v:Vh):Prop where
 nm:fD v.nm=true
 s0:v.ss.length≠0
 s8:v.ss.length<=8
 st:∀t,t<v.ss.length->lS v.ss t=0
 py:jl v.yl v.yh 0=true
 tb:jM v.dr=true
 li:(gC v.ax && gC v.be)=true
theorem BF{v:Vh}(h:DJ v=true):Ds v:=by
 have h:=of_decide_eq_true h;unfold bU at h;split at h
 ·simp at h
 rename_i h1;split at h
 ·simp at h
 rename_i h2;split at h
 ·rename_i i e he;exact absurd h (Dq _ _ _ _ he)
 rename_i hn;split at h
 ·simp at h
 split at h
 ·simp at h
 split at h
 ·simp at h
 rename_i h3 h4 h5;exact⟨by cases hh:fD v.nm<;>simp_all,by simp_all,by omega,λt ht=>Dr _ _ hn t (Nat.zero_le _) (by omega),by simpa using h3,by simpa using h4,by simpa using h5⟩
theorem QS{ps pe:List (List UInt8)}{s:f_}(h:iI ps pe s=0):s.es.length<=16:=by
 unfold iI at h;split at h
 ·simp at h
 split at h
 ·simp at h
 split at h
 ·simp at h
 split at h
 ·simp at h
 omega
theorem Ds.es{v:Vh}(h:Ds v){s:f_}(hs:s∈v.ss):s.es.length<=16:=by
 obtain⟨i,hi⟩:=List.getElem?_of_mem hs;have hl:=(List.getElem?_eq_some_iff.1 hi).1
 have:=h.st i hl
 unfold lS at this;rw [hi]at this;exact QS this
theorem Ds.dr{v:Vh}(h:Ds v):1<=v.dr.length/\v.dr.length<=64:=by
 have:=h.tb
 unfold jM at this;simp only [Bool.and_eq_true,decide_eq_true_eq]at this;exact this.2
theorem QT{pe:List (List UInt8)}{es:List En}(h:ku pe es=0):∀t,t<es.length->lR pe es t=0:=by
 unfold ku at h;split at h
 ·rename_i i e he;exact absurd h (Dq _ _ _ _ he)
 ·rename_i hn;exact λt ht=>Dr _ _ hn t (Nat.zero_le _) (by omega)
theorem Ds.An{v:Vh}(h:Ds v){s:f_}(hs:s∈v.ss):(jl s.dl s.dh 1 && jl s.pl s.ph 0)=true/\∀e∈s.es,jg e=true:=by
 obtain⟨i,hi⟩:=List.getElem?_of_mem hs;have hl:=(List.getElem?_eq_some_iff.1 hi).1
 have:=h.st i hl
 unfold lS at this;rw [hi]at this;unfold iI at this;simp only at this;split at this
 ·simp at this
 split at this
 ·simp at this
 split at this
 ·simp at this
 rename_i h3;split at this
 ·simp at this
 refine⟨by simpa using h3,λe he => ?_⟩;obtain⟨k,hk⟩:=List.getElem?_of_mem he;have gE:=QT this k (List.getElem?_eq_some_iff.1 hk).1;unfold lR at gE;rw [hk]at gE;unfold gZ at gE;simp only at gE;split at gE
 ·simp at gE
 split at gE
 ·simp at gE
 split at gE
 ·simp at gE
 rename_i hr;simpa using hr
theorem HJ{lo hi least:Int}(h:jl lo hi least=true):least<=lo/\lo<=hi/\hi<=4503599627370496:=by
 simp only [jl,Bool.and_eq_true,decide_eq_true_eq]at h;omega
end Go.Proofs.YtkbchjlnhgfpmaaGreatDoor
