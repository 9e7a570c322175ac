import Derived.Test.YtocleppbcngcjaaGreatDoorQp
import Derived.Test.YtocleppbcngcjaaGreatDoorVal
set_option linter.unusedVariables false
set_option linter.unusedSimpArgs false
namespace Go.Proofs.YtocleppbcngcjaaGreatDoor
open Go Go.RowKit Vc
def lB(c:UInt8):Bool:=decide (c.toNat=32∨c.toNat=10)
def lL(c:UInt8):Bool:=decide (97<=c.toNat/\c.toNat<=122) || decide (65<=c.toNat/\c.toNat<=90)
def lD(c:UInt8):Bool:=decide (48<=c.toNat/\c.toNat<=57)
def lW(c:UInt8):Bool:=lL c || (lD c || decide (c.toNat=45))
def runN(p:UInt8->Bool)(s:List UInt8)(at':Nat):Nat:=at'+((s.drop at').takeWhile p).length
theorem Ds(p:UInt8->Bool)(s:List UInt8)(n:Nat):n<=runN p s n:=Nat.le_add_right _ _
theorem BW{p:UInt8->Bool}{s:List UInt8}{n:Nat}(h:n<=s.length):runN p s n<=s.length:=by
 have:=(List.takeWhile_sublist p (l:=s.drop n)).length_le
 rw [List.length_drop]at this;unfold runN;omega
theorem FN{p:UInt8->Bool}{s:List UInt8}{n:Nat}(h:s.length<=n):runN p s n=n:=by
 unfold runN;rw [List.drop_eq_nil_of_le h];rfl
theorem HV{p:UInt8->Bool}{s:List UInt8}{n:Nat}(h:n<s.length)(hp:p (s.getD n 0)=false):runN p s n=n:=by
 have hg:s.getD n 0=s[n]:=by simp [List.getD,h]
 unfold runN;rw [List.drop_eq_getElem_cons h,List.takeWhile_cons,<-hg,hp];rfl
theorem MS{p:UInt8->Bool}{s:List UInt8}{n:Nat}(h:n<s.length)(hp:p (s.getD n 0)=true):runN p s (n+1)=runN p s n:=by
 have hg:s.getD n 0=s[n]:=by simp [List.getD,h]
 unfold runN;rw [List.drop_eq_getElem_cons h,List.takeWhile_cons,<-hg,hp];simp only [if_true,List.length_cons];omega
def dq(l:List UInt8):List UInt8:=(l.reverse.dropWhile λc=>decide (c.toNat=45)).reverse
theorem MT(l:List UInt8)(c:UInt8):dq (l ++ [c])=if c.toNat=45 then dq l else l ++ [c]:=by
 unfold dq;rw [List.reverse_append];simp only [List.reverse_cons,List.reverse_nil,List.nil_append,List.singleton_append,List.dropWhile_cons,decide_eq_true_eq];split<;>simp
theorem X_(l:List UInt8):(dq l).length<=l.length:=by
 unfold dq;rw [List.length_reverse]
 have:=(List.dropWhile_sublist (λc:UInt8=>decide (c.toNat=45)) (l:=l.reverse)).length_le
 simpa using this
def cr(s:List UInt8)(a b:Nat):List UInt8:=(s.drop a).take (b-a)
theorem S0{s:List UInt8}{a b:Nat}(h:b<=s.length):(cr s a b).length=b-a:=by
 unfold cr;rw [List.length_take,List.length_drop];omega
structure Tk where
 kind:Int
 fr:Nat
 to:Nat
 text:List UInt8
 q:Int × Int × Int × Int × Int
 e:Int
def nL(t:Tk):Value := .agg #[.int .i64 t.kind,.int .i64 t.fr,.int .i64 t.to,.string ⟨t.text.toArray⟩,.int .i64 t.q.1,.int .i64 t.q.2.1,.int .i64 t.q.2.2.1,.int .i64 t.q.2.2.2.1,.int .i64 t.q.2.2.2.2,.int .i64 t.e]
def q0:Int × Int × Int × Int × Int:=(0,0,0,0,0)
def dt:List (List UInt8) := [[43,45],[46,46],[123],[125],[59],[58],[61],[43],[45],[42],[47],[40],[41]]
def ct(s:List UInt8):List UInt8:=s.takeWhile λc=>decide (c.toNat≠46)
def cM(s:List UInt8):List UInt8:=(s.dropWhile λc=>decide (c.toNat≠46)).drop 1
abbrev Q5:=Int × Int × Int × Int × Int
def kH:List (List UInt8 × Q5) := [([107,109],(1,1,1,0,0)),([109],(1,1000,1,0,0)),([99,109],(1,100000,1,0,0)),([115],(1,1,0,1,0)),([109,115],(1,1000,0,1,0)),([109,105,110],(60,1,0,1,0)),([104],(3600,1,0,1,0)),([116],(1,1,0,0,1)),([107,103],(1,1000,0,0,1)),([77,78],(1,1,1,-2,1)),([107,78],(1,1000,1,-2,1)),([78],(1,1000000,1,-2,1)),([80,97],(1,1,-1,-2,1)),([107,80,97],(1000,1,-1,-2,1))]
def om:List (List UInt8 × Q5)->List UInt8->Option Q5
 | [],_=>none
 |e::r,s=>if e.1=s then some e.2 else om r s
def mZ(s:List UInt8):Option Q5:=om kH s
def MU(q:Q5):Value := .agg #[.int .i64 q.1,.int .i64 q.2.1,.int .i64 q.2.2.1,.int .i64 q.2.2.2.1,.int .i64 q.2.2.2.2]
def qN:List (List UInt8) := [[118,101,104,105,99,108,101],[108,101,116],[115,116,97,103,101],[101,110,103,105,110,101],[105,110],[100,114,97,103],[108,105,109,105,116,115],[112,97,121,108,111,97,100],[100,114,121],[112,114,111,112],[99,111,117,110,116],[116,104,114,117,115,116],[102,108,111,119],[108,101,97,115,116],[115,116,97,114,116],[115,116,111,112],[97,120,105,97,108],[98,101,110,100,105,110,103]]
def Ai:List (List UInt8)->List UInt8->Bool
 | [],_=>false
 |e::r,s=>if s=e then true else Ai r s
def dW(s:List UInt8):Bool:=(mZ s).isSome || Ai qN s
def b_(s:List UInt8)(a:Nat):Nat :=
 if runN lD s a+1<s.length/\(s.getD (runN lD s a) 0).toNat=46/\lD (s.getD (runN lD s a+1) 0)=true then runN lD s (runN lD s a+1)else runN lD s a
theorem MV{s:List UInt8}{a:Nat}(h:a<=s.length):b_ s a<=s.length:=by
 unfold b_;split
 ·rename_i h1;exact BW (by omega)
 ·exact BW h
theorem MW{s:List UInt8}{a:Nat}:a<=b_ s a:=by
 unfold b_;split
 ·have h1:=Ds lD s a;have h2:=Ds lD s (runN lD s a+1);omega
 ·exact Ds lD s a
def Qr.q(r:Qr):Q5:=(r.n,r.d,r.k,r.s,r.t)
def lR(s:List UInt8):Q5 × Int:=if 18<(ct s).length+(cM s).length then (q0,4)else
 ((kG (gY (ct s++cM s)) ((10:Int) ^ (cM s).length) 0 0 0).q,(kG (gY (ct s++cM s)) ((10:Int) ^ (cM s).length) 0 0 0).e)
def fE:List (List UInt8)->List UInt8->Option (List UInt8)
 | [],_=>none
 |e::r,s=>if e.isPrefixOf s=true then some e else fE r s
def fF(s:List UInt8)(n:Nat):Tk :=
 let a:=runN lB s n
 if a<s.length then
  let c:=s.getD a 0
  if lL c=true then
   let t:=dq (cr s a (runN lW s a))
   ⟨1,a,a+t.length,t,q0,if 32<t.length then 5 else 0⟩
  else if lD c=true then ⟨2,a,b_ s a,[],(lR (cr s a (b_ s a))).1,(lR (cr s a (b_ s a))).2⟩
  else match fE dt (s.drop a)with
   |some g=>⟨3,a,a+g.length,g,q0,0⟩
   |none=>⟨3,a,a,[],q0,5⟩
 else ⟨0,a,a,[],q0,0⟩
def du(s:List UInt8):Bool:=decide ((fF s 0).kind=1/\(fF s 0).e=0/\(fF s 0).fr=0/\(fF s 0).to=s.length) && !dW s
end Go.Proofs.YtocleppbcngcjaaGreatDoor
