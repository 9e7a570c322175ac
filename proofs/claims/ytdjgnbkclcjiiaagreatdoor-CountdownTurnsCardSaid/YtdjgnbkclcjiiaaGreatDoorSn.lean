import Derived.Test.YtdjgnbkclcjiiaaGreatDoorRw
set_option linter.unusedVariables false
set_option linter.unusedSimpArgs false
namespace Go.Proofs.YtdjgnbkclcjiiaaGreatDoor
open Go Go.RowKit Vc
def nilV:Value := .slice none 0 0
def nR(a:Rl):Rl := .mk 2 0 [] 0 0 0 nilV [a]
def aR(a b:Rl):Rl := .mk 3 0 [] 0 0 0 nilV [a,b]
def oR(a b:Rl):Rl := .mk 4 0 [] 0 0 0 nilV [nR a,nR b]
theorem zwi{r:Rl}{l:List Sn}{now fresh:Int}(h:(judgeI r l now fresh).2=0):(judgeI r l now fresh).1=valR (askQ l now fresh) r:=by
 unfold judgeI at h ⊢;by_cases h1:(validR r && obsB l)=false
 ·rw [if_pos h1]at h;simp at h
 by_cases h2:(inB now 0 1073741824 && inB fresh 0 1000)=false
 ·rw [if_neg h1,if_pos h2]at h;simp at h
 rw [if_neg h1,if_neg h2]
theorem zzr(r:Rl)(l:List Sn)(now fresh:Int):-1≤(judgeI r l now fresh).1∧(judgeI r l now fresh).1≤1:=by
 unfold judgeI;split
 ·simp
 ·split
  ·simp
  ·exact zmq _ _
theorem zsw{a:Rl}{l:List Sn}{now fresh:Int}(h1:(judgeI a l now fresh).2=0)(h2:(judgeI (nR a) l now fresh).2=0):(judgeI a l now fresh).1 = -(judgeI (nR a) l now fresh).1:=by
 rw [zwi h1,zwi h2,show nR a=notR nilV a from rfl,ztm];omega
theorem ztw{a b:Rl}{l:List Sn}{now fresh:Int}(h1:(judgeI (nR (aR a b)) l now fresh).2=0)(h2:(judgeI (oR a b) l now fresh).2=0):(judgeI (nR (aR a b)) l now fresh).1=(judgeI (oR a b) l now fresh).1:=by
 rw [zwi h1,zwi h2];exact ziw _ nilV nilV nilV nilV nilV a b
end Go.Proofs.YtdjgnbkclcjiiaaGreatDoor
