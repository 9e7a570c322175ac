import Derived.Test.YtdjgnbkclcjiiaaGreatDoorRw
set_option linter.unusedVariables false
set_option linter.unusedSimpArgs false
namespace Go.Proofs.YtdjgnbkclcjiiaaGreatDoor
open Go Go.RowKit Vc
def seenL(nm:List UInt8):Int→List Int→List Sn
 | _,[]=>[]
 | t,v::l=>⟨nm,t,v⟩::seenL nm (t + 1) l
theorem zbl(nm:List UInt8):∀ (t:Int) (l:List Int),(seenL nm t l).length=l.length
 | _,[]=>rfl
 | t,v::l=>by simp [seenL,zbl nm (t + 1) l]
theorem zoh(nm:List UInt8):∀ (t:Int) (l:List Int) (s:Sn),s∈seenL nm t l→s.nm=nm∧t≤s.t∧s.t < t + l.length
  | _,[],s,h=>by cases h
  | t,v::l,s,h=>by
    simp only [seenL,List.mem_cons]at h;rcases h with rfl | h
    · simp only [List.length_cons];exact⟨trivial,by omega,by omega⟩
    · have:=zoh nm (t + 1) l s h
      simp only [List.length_cons];exact⟨this.1,by omega,by omega⟩
theorem zdv(nm:List UInt8)(t:Int)(l:List Int){now:Int}(h:t + l.length≤now + 1):sampL (seenL nm t l) nm now=seenL nm t l:=by
 unfold sampL;rw [List.filter_eq_self];intro s hs
 have:=zoh nm t l s hs
 simp only [Bool.and_eq_true,decide_eq_true_eq];exact⟨this.1,by omega⟩
theorem zci(nm:List UInt8):∀ (t:Int) (a b:List Int),seenL nm t (a++b)=seenL nm t a++seenL nm (t + a.length) b
  | t,[],b=>by simp [seenL]
  | t,v::a,b=>by
    simp only [List.cons_append,seenL,zci nm (t + 1) a b,List.length_cons];rw [show t + 1 + (a.length:Int)=t + ((a.length + 1:Nat):Int) by omega]
theorem zlp(nm:List UInt8){fresh:Int}(hf:1≤fresh):∀ (t:Int) (l:List Int),gapsB fresh (seenL nm t l)=true
  | t,[]=>rfl
  | t,[v]=>rfl
  | t,v::x::l=>by
    have:=zlp nm hf (t + 1) (x::l)
    simp only [seenL]at this ⊢;simp only [gapsB,Bool.and_eq_true,decide_eq_true_eq];exact⟨by omega,this⟩
theorem zph(nm:List UInt8):∀ (t:Int) (l:List Int) (h:l ≠ []),(seenL nm t l).getLast? = some ⟨nm,t + l.length - 1,l.getLast h⟩
  | t,[v],h=>by simp [seenL]
  | t,v::x::l,h=>by
    have:=zph nm (t + 1) (x::l) (by simp)
    simp only [seenL]at this ⊢;rw [List.getLast?_cons_cons,this];simp only [List.length_cons,List.getLast_cons_cons,Option.some.injEq,Sn.mk.injEq,true_and,and_true];omega
theorem zyr(nm:List UInt8):∀ (t:Int) (l:List Int) (a:Int),(seenL nm t l).foldl (fun a s=>max a s.v) a=l.foldl max a
 | t,[],a=>rfl
 | t,v::l,a=>by simp only [seenL,List.foldl_cons];exact zyr nm (t + 1) l _
theorem zzr(nm:List UInt8):∀ (t:Int) (l:List Int) (a:Int),(seenL nm t l).foldl (fun a s=>min a s.v) a=l.foldl min a
 | t,[],a=>rfl
 | t,v::l,a=>by simp only [seenL,List.foldl_cons];exact zzr nm (t + 1) l _
theorem zzs(nm:List UInt8)(a b:List Int)(k:Int)(h:(a.length:Int)=k + 1):(seenL nm 0 (a++b)).filter (fun x=>decide (x.t≤k))=seenL nm 0 a∧(seenL nm 0 (a++b)).filter (fun x => !decide (x.t≤k))=seenL nm (0 + a.length) b:=by
 rw [zci,List.filter_append,List.filter_append];have h1:∀ s∈seenL nm 0 a,decide (s.t≤k)=true:=fun s hs=>by have:=zoh nm 0 a s hs;simp only [decide_eq_true_eq];omega
 have h2:∀ s∈seenL nm (0 + a.length) b,decide (s.t≤k)=false:=fun s hs=>by have:=zoh nm _ b s hs;simp only [decide_eq_false_iff_not];omega
 refine⟨?_, ?_⟩
 ·rw [List.filter_eq_self.2 h1,List.filter_eq_nil_iff.2 (fun s hs=>by rw [h2 s hs];simp),List.append_nil]
 ·rw [List.filter_eq_nil_iff.2 (fun s hs=>by rw [h1 s hs];simp),List.filter_eq_self.2 (fun s hs=>by rw [h2 s hs];rfl),List.nil_append]
def winL(vals:List Int)(w:Nat):List Int:=vals.drop (vals.length - 1 - w)
theorem zat(nm:List UInt8){vals:List Int}{w:Nat}{fresh:Int}(hf:1≤fresh)(hw:w < vals.length) :
  sightP (seenL nm 0 vals) ((vals.length:Int) - 1) fresh (w:Int)=(seenL nm ((vals.length:Int) - 1 - w) (winL vals w),true):=by
 obtain⟨a,x,b,rfl,ha⟩:∃ a x b,vals=a++x::b∧a.length=vals.length - 1 - w:=by
  have h1:vals.length - 1 - w < vals.length:=by omega
  refine⟨vals.take (vals.length - 1 - w),vals[vals.length - 1 - w],vals.drop (vals.length - 1 - w + 1), ?_,by rw [List.length_take];omega⟩;rw [← List.drop_eq_getElem_cons h1,List.take_append_drop]
 have hl:(a++x::b).length=a.length + 1 + b.length:=by simp;omega
 have hwin:winL (a++x::b) w=x::b:=by unfold winL;rw [← ha,List.drop_left]
 have hk:((a ++ [x]).length:Int)=(((a++x::b).length:Int) - 1 - w) + 1:=by rw [hl];simp only [List.length_append,List.length_cons,List.length_nil];omega
 obtain⟨f1,f2⟩:=zzs nm (a ++ [x]) b (((a++x::b).length:Int) - 1 - w) hk;rw [show (a ++ [x])++b=a++x::b by simp]at f1 f2;unfold sightP;dsimp only;rw [f1,f2,zph nm 0 (a ++ [x]) (by simp)];dsimp only;rw [show (a ++ [x]).getLast (by simp)=x from by simp,if_pos (by omega),hwin]
 have e1:(⟨nm,0 + ((a ++ [x]).length:Int) - 1,x⟩:Sn)::seenL nm (0 + ((a ++ [x]).length:Int)) b=seenL nm (((a++x::b).length:Int) - 1 - w) (x::b):=by
  simp only [seenL];rw [show 0 + ((a ++ [x]).length:Int) - 1=((a++x::b).length:Int) - 1 - w by omega,show 0 + ((a ++ [x]).length:Int)=((a++x::b).length:Int) - 1 - w + 1 by omega]
 have e3:∀ (t:Int) (y:Int) (l:List Int),endT (seenL nm t (y::l))=t + (y::l).length - 1:=fun t y l=>by
  unfold endT;rw [zph nm t (y::l) (by simp)]
 rw [e1,e3,zlp nm hf];refine Prod.ext rfl ?_;simp only [Bool.true_and,decide_eq_true_eq,List.length_cons];rw [hl];omega
theorem zcl(n c m:Int):ansI (n,n) c m=if cmpB c n m=true then 1 else -1:=by
 unfold ansI
 have:max n (min n m)=n:=by omega
 simp only [this];cases cmpB c n m <;> simp
def knowN(ask:Int)(vals:List Int)(w:Nat):Int:=if ask=1 then (winL vals w).foldl max (vals.getLast?.getD 0)else if ask=2 then (winL vals w).foldl min (vals.getLast?.getD 0)else vals.getLast?.getD 0
theorem zee:∀ (l:List Int) (a b:Int),b∈l→a≤b→l.foldl max a=l.foldl max b
  | x::l,a,b,h,hab=>by
    simp only [List.foldl_cons];rcases List.mem_cons.1 h with rfl | h
    · rw [show max a b=max b b by omega]
    · by_cases hx:x≤b
      · by_cases hx2:x≤a
        · rw [show max a x=a by omega,show max b x=b by omega];exact zee l a b h hab
        · rw [show max a x=x by omega,show max b x=b by omega];exact zee l x b h hx
      · rw [show max a x=x by omega,show max b x=x by omega]
theorem zfe:∀ (l:List Int) (a b:Int),b∈l→b≤a→l.foldl min a=l.foldl min b
  | x::l,a,b,h,hab=>by
    simp only [List.foldl_cons];rcases List.mem_cons.1 h with rfl | h
    · rw [show min a b=min b b by omega]
    · by_cases hx:b≤x
      · by_cases hx2:a≤x
        · rw [show min a x=a by omega,show min b x=b by omega];exact zfe l a b h hab
        · rw [show min a x=x by omega,show min b x=b by omega];exact zfe l x b h hx
      · rw [show min a x=x by omega,show min b x=x by omega]
end Go.Proofs.YtdjgnbkclcjiiaaGreatDoor
