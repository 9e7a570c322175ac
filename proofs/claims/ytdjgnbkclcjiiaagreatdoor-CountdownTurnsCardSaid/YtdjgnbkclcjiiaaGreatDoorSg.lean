import Derived.Test.YtdjgnbkclcjiiaaGreatDoorRv
set_option linter.unusedVariables false
set_option linter.unusedSimpArgs false
namespace Go.Proofs.YtdjgnbkclcjiiaaGreatDoor
open Go Go.RowKit Vc
def oldL(l:List Sn)(nm:List UInt8)(now win:Int):List Sn:=(sampL l nm now).filter fun x=>decide (x.t≤now - win)
def nwL(l:List Sn)(nm:List UInt8)(now win:Int):List Sn:=(sampL l nm now).filter fun x => !decide (x.t≤now - win)
def FS(l:List Sn)(nm:List UInt8)(now win:Int):Option Nat→Prop
 | none=>oldL l nm now win=[]
 | some j=>∃ x,l[j]? = some x∧(oldL l nm now win).getLast? = some x
theorem zvk(l:List Sn)(nm:List UInt8)(now:Int){i:Nat}{z:Sn}(h:l[i]? = some z):sampL (l.take (i + 1)) nm now=sampL (l.take i) nm now++(if z.nm=nm∧z.t≤now then [z]else []):=by
 unfold sampL;rw [List.take_add_one,h,List.filter_append];congr 1;simp only [Option.toList_some,List.filter_cons,List.filter_nil,Bool.and_eq_true,decide_eq_true_eq]
section
variable {l:List Sn} {nm:List UInt8} {now win:Int} {k:Nat} {z:Sn} {fo:Option Nat}
theorem zyu(hk:l[k]? = some z)(h:FS (l.take k) nm now win fo)(e:oldL (l.take (k + 1)) nm now win=oldL (l.take k) nm now win):FS (l.take (k + 1)) nm now win fo:=by
  cases fo with
  | none=>exact e.trans h
  | some j =>
    obtain⟨x,h1,h2⟩:=h;refine⟨x, ?_,by rw [e];exact h2⟩;have hj:=(List.getElem?_eq_some_iff.1 h1).1;rw [List.length_take]at hj;rw [List.getElem?_take_of_lt (by omega)]at h1 ⊢;exact h1
theorem zan(hk:l[k]? = some z)(h:FS (l.take k) nm now win fo)(hz:¬ (z.nm=nm∧z.t≤now)):FS (l.take (k + 1)) nm now win fo∧nwL (l.take (k + 1)) nm now win=nwL (l.take k) nm now win:=by
 have e:sampL (l.take (k + 1)) nm now=sampL (l.take k) nm now:=by rw [zvk l nm now hk,if_neg hz,List.append_nil]
 exact⟨zyu hk h (by unfold oldL;rw [e]),by unfold nwL;rw [e]⟩
theorem zpx(hk:l[k]? = some z)(hz:z.nm=nm∧z.t≤now)(h1:z.t≤now - win):FS (l.take (k + 1)) nm now win (some k)∧nwL (l.take (k + 1)) nm now win=nwL (l.take k) nm now win:=by
 have e:sampL (l.take (k + 1)) nm now=sampL (l.take k) nm now ++ [z]:=by rw [zvk l nm now hk,if_pos hz]
 refine⟨⟨z,by rw [List.getElem?_take_of_lt (by omega)];exact hk, ?_⟩, ?_⟩
 ·unfold oldL;rw [e,List.filter_append,List.filter_cons_of_pos (by simpa using h1)];simp
 ·unfold nwL;rw [e,List.filter_append,List.filter_cons_of_neg (by simpa using h1)];simp
theorem zzz(hk:l[k]? = some z)(h:FS (l.take k) nm now win fo)(hz:z.nm=nm∧z.t≤now)(h1:¬ z.t≤now - win):FS (l.take (k + 1)) nm now win fo∧nwL (l.take (k + 1)) nm now win=nwL (l.take k) nm now win ++ [z]:=by
 have e:sampL (l.take (k + 1)) nm now=sampL (l.take k) nm now ++ [z]:=by rw [zvk l nm now hk,if_pos hz]
 refine⟨zyu hk h ?_, ?_⟩
 ·unfold oldL;rw [e,List.filter_append,List.filter_cons_of_neg (by simpa using h1)];simp
 ·unfold nwL;rw [e,List.filter_append,List.filter_cons_of_pos (by simpa using h1)];simp
end
def nextT(now:Int):List Sn→Int
 | b::_=>b.t
 | []=>now
def gapN(fresh now:Int):List Sn→Bool
 | []=>true
 | a::l=>decide (nextT now l - a.t≤fresh) && gapN fresh now l
theorem zzu(fresh now:Int):∀ (a:Sn) (l:List Sn),gapN fresh now (a::l)=(gapsB fresh (a::l) && decide (now - endT (a::l)≤fresh))
  | a,[]=>by
    simp [gapN,gapsB,endT,nextT]
    try rfl
  | a,b::l=>by
    have:=zzu fresh now b l
    rw [gapN,this];have e:endT (a::b::l)=endT (b::l):=by simp [endT,List.getLast?_cons_cons]
    rw [e,gapsB,Bool.and_assoc,nextT]
theorem zqx(l:List Sn)(nm:List UInt8)(now win:Int):(nwL l nm now win).length≤l.length:=Nat.le_trans (List.length_filter_le _ _) (List.length_filter_le _ _)
theorem zaaa{l:List Sn}{nm:List UInt8}{now win:Int}{x:Sn}(h:x∈nwL l nm now win):x∈l:=(List.mem_filter.1 (List.mem_filter.1 h).1).1
theorem zrw{l:List Sn}{nm:List UInt8}{now fresh win:Int}{fo:Option Nat}(h:FS l nm now win fo) :
    (∀ j f,fo=some j→l[j]? = some f→now - win - fresh≤f.t→sightP (sampL l nm now) now fresh win=(f::nwL l nm now win,gapN fresh now (f::nwL l nm now win))) ∧
    ((∀ j f,fo=some j→l[j]? = some f→¬ now - win - fresh≤f.t)→sightP (sampL l nm now) now fresh win=(nwL l nm now win,false)):=by
  constructor
  · rintro j f rfl hj hf;obtain⟨x,h1,h2⟩:=h;obtain rfl:x=f:=Option.some.inj (h1.symm.trans hj);unfold oldL at h2;unfold sightP;rw [zzu];simp only [h2,if_pos hf];rfl
  · intro hno;unfold sightP;cases fo with
    | none =>
      have h2:(oldL l nm now win).getLast? = none:=by rw [show oldL l nm now win=[] from h];rfl
      unfold oldL at h2;simp only [h2];rfl
    | some j =>
      obtain⟨x,h1,h2⟩:=h;unfold oldL at h2;simp only [h2,if_neg (hno j x rfl h1)];rfl
end Go.Proofs.YtdjgnbkclcjiiaaGreatDoor
