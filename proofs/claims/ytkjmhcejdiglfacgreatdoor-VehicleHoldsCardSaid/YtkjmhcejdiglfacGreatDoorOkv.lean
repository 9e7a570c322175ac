import Derived.Test.YtkjmhcejdiglfacGreatDoorCe
set_option linter.unusedVariables false
set_option linter.unusedSimpArgs false
namespace Go.Proofs.YtkjmhcejdiglfacGreatDoor
open Go Go.RowKit Vc
def okC(v:Vh):Bool:=decide ((pCheck v).2.2=0)
theorem zkda{F:Nat→Int}:∀ (m i j:Nat) (e:Int),ffF F m i=some (j,e)→e≠0
  | 0,i,j,e,h=>by simp [ffF]at h
  | m + 1,i,j,e,h=>by
    unfold ffF at h;split at h
    · exact zkda m (i + 1) j e h
    · rename_i h0;injection h with h;injection h with _ h;rw [← h];exact h0
theorem zqy{F:Nat→Int}:∀ (m i:Nat),ffF F m i=none→∀ t,i≤t→t < i + m→F t=0
  | 0,i,h,t,h1,h2=>by omega
  | m + 1,i,h,t,h1,h2=>by
    unfold ffF at h;split at h
    · rename_i h0;rcases Nat.eq_or_lt_of_le h1 with rfl | hlt
      · exact h0
      · exact zqy m (i + 1) h t hlt (by omega)
    · cases h
structure OkV(v:Vh):Prop where
 nm:pNamed v.nm=true
 s0:v.ss.length≠0
 s8:v.ss.length≤8
 st:∀ t,t < v.ss.length→stgG v.ss t=0
 py:bdd v.yl v.yh 0=true
 tb:tblB v.dr=true
 li:(limB v.ax && limB v.be)=true
theorem ztaa{v:Vh}(h:okC v=true):OkV v:=by
 have h:=of_decide_eq_true h;unfold pCheck at h;split at h
 ·simp at h
 rename_i h1;split at h
 ·simp at h
 rename_i h2;split at h
 ·rename_i i e he;exact absurd h (zkda _ _ _ _ he)
 rename_i hn;split at h
 ·simp at h
 split at h
 ·simp at h
 split at h
 ·simp at h
 rename_i h3 h4 h5;exact⟨by cases hh:pNamed v.nm <;> simp_all,by simp_all,by omega,fun t ht=>zqy _ _ hn t (Nat.zero_le _) (by omega),by simpa using h3,by simpa using h4,by simpa using h5⟩
theorem zgfa{ps pe:List (List UInt8)}{s:Stg}(h:stgF ps pe s=0):s.es.length≤16:=by
 unfold stgF at h;split at h
 ·simp at h
 split at h
 ·simp at h
 split at h
 ·simp at h
 split at h
 ·simp at h
 omega
theorem OkV.es{v:Vh}(h:OkV v){s:Stg}(hs:s∈v.ss):s.es.length≤16:=by
 obtain⟨i,hi⟩:=List.getElem?_of_mem hs;have hl:=(List.getElem?_eq_some_iff.1 hi).1
 have:=h.st i hl
 unfold stgG at this;rw [hi]at this;exact zgfa this
theorem OkV.dr{v:Vh}(h:OkV v):1≤v.dr.length∧v.dr.length≤64:=by
 have:=h.tb
 unfold tblB at this;simp only [Bool.and_eq_true,decide_eq_true_eq]at this;exact this.2
theorem zuaa{pe:List (List UInt8)}{es:List En}(h:engsF pe es=0):∀ t,t < es.length→engG pe es t=0:=by
 unfold engsF at h;split at h
 ·rename_i i e he;exact absurd h (zkda _ _ _ _ he)
 ·rename_i hn;exact fun t ht=>zqy _ _ hn t (Nat.zero_le _) (by omega)
theorem OkV.stg{v:Vh}(h:OkV v){s:Stg}(hs:s∈v.ss):(bdd s.dl s.dh 1 && bdd s.pl s.ph 0)=true∧∀ e∈s.es,rng e=true:=by
 obtain⟨i,hi⟩:=List.getElem?_of_mem hs;have hl:=(List.getElem?_eq_some_iff.1 hi).1
 have:=h.st i hl
 unfold stgG at this;rw [hi]at this;unfold stgF at this;simp only at this;split at this
 ·simp at this
 split at this
 ·simp at this
 split at this
 ·simp at this
 rename_i h3;split at this
 ·simp at this
 refine⟨by simpa using h3,fun e he => ?_⟩;obtain⟨k,hk⟩:=List.getElem?_of_mem he;have hk':=zuaa this k (List.getElem?_eq_some_iff.1 hk).1;unfold engG at hk';rw [hk]at hk';unfold engF at hk';simp only at hk';split at hk'
 ·simp at hk'
 split at hk'
 ·simp at hk'
 split at hk'
 ·simp at hk'
 rename_i hr;simpa using hr
theorem zxba{lo hi least:Int}(h:bdd lo hi least=true):least≤lo∧lo≤hi∧hi≤4503599627370496:=by
 simp only [bdd,Bool.and_eq_true,decide_eq_true_eq]at h;omega
end Go.Proofs.YtkjmhcejdiglfacGreatDoor
