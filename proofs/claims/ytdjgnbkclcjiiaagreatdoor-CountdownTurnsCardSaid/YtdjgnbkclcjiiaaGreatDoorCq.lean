import Derived.Test.YtdjgnbkclcjiiaaGreatDoorVcU
set_option linter.unusedVariables false
set_option linter.unusedSimpArgs false
namespace Vc
open Go Go.RowKit
theorem iteI{p A B:Prop}(a:p→A)(b:¬ p→B):(p→A)∧(¬ p→B):=⟨a,b⟩
theorem Ret.as{P:Program}{f:FuncId}{args:Array Value}{W:World}{u v:Value}(h:Calls P f args W (Ret u W))(e:u=v):Calls P f args W (Ret v W):=e▸h
theorem zrc{a a':Bool}(h:a=a'):Value.bool a=.bool a':=by rw [h]
theorem zbb{α:Type}{f:α→List Value}{c:Nat}(hf:∀ a,(f a).length=c):∀ l:List α,(l.flatMap f).length=l.length * c
 | []=>by simp
 | a::l=>by rw [List.flatMap_cons,List.length_append,hf,zbb hf l,List.length_cons,Nat.add_mul];omega
theorem zj{α:Type}{f:α→List Value}{c:Nat}(hf:∀ a,(f a).length=c):∀ {ps:List α} {i:Nat} {q:α} {o:Nat},ps[i]? = some q→o < c→(ps.flatMap f)[i * c + o]? = (f q)[o]?
  | [],i,q,o,h,_=>by simp at h
  | p::ps,i,q,o,h,ho=>by
    rw [List.flatMap_cons];cases i with
    | zero =>
      simp only [List.getElem?_cons_zero,Option.some.injEq]at h;subst h;rw [List.getElem?_append_left (by rw [hf];omega)];simp
    | succ i =>
      have hm:(i + 1) * c=i * c + c:=Nat.succ_mul i c;rw [List.getElem?_append_right (by rw [hf];omega),← zj hf (ps:=ps) (i:=i) (by simpa using h) ho];congr 1;rw [hf];omega
theorem ziu{v:Value}{sz n:Nat}{xs:List Value}{w:World}(h:SlAt w v sz xs)(hz:0 < sz)(hn:xs.length=n * sz) :
  ∃ (b0:Bool) (p0:Nat × Nat) (x1:Int),v=(if b0=true then .slice none 0 0 else .slice (some (Vc.qad p0 (Int.toNat (n:Int)) (Int.toNat x1))) (Int.toNat (n:Int)) (Int.toNat x1))∧(b0=true→n=0)∧∀ j u,xs[j]? = some u→w.cell? ⟨p0.1,p0.2 + j,none⟩=some u:=by
 have empty:xs=[]→n=0:=fun h2=>by
  rw [h2]at hn;rcases Nat.mul_eq_zero.1 hn.symm with h | h <;> omega
 have weird:∀ a,v=.slice (some a) 0 0→xs=[]→∃ (b0:Bool) (p0:Nat × Nat) (x1:Int),v=(if b0=true then .slice none 0 0 else .slice (some (Vc.qad p0 (Int.toNat (n:Int)) (Int.toNat x1))) (Int.toNat (n:Int)) (Int.toNat x1))∧(b0=true→n=0)∧∀ j u,xs[j]? = some u→w.cell? ⟨p0.1,p0.2 + j,none⟩=some u:=fun a h1 h2=>by
  obtain⟨p,hp⟩:=zux a;have h0:=empty h2;subst h0;refine⟨false,p,0, ?_,fun h=>(by cases h),fun j u hj=>(by rw [h2]at hj;simp at hj)⟩;rw [if_neg (by decide),show Int.toNat ((0:Nat):Int)=0 from rfl,show Int.toNat (0:Int)=0 from rfl,hp];exact h1
 rcases h with ⟨h1,h2⟩ | ⟨a,h1,h2⟩ | ⟨b,o,len,cap,h1,h2,h3⟩
 ·exact⟨true,(0,0),0,(by rw [if_pos rfl];exact h1),fun _=>empty h2,fun j u hj=>(by rw [h2]at hj;simp at hj)⟩
 ·exact weird a h1 h2
 ·have hl:len=n:=Nat.eq_of_mul_eq_mul_right hz (by rw [← h2,hn]);subst hl;by_cases h0:len=0∧cap=0
  ·obtain⟨rfl,rfl⟩:=h0;exact weird _ h1 (List.eq_nil_of_length_eq_zero (by rw [h2];omega))
  ·refine⟨false,(b,o),(cap:Int), ?_,fun h=>(by cases h),h3⟩;rw [if_neg (by decide),zyi (by omega)];exact h1
theorem zcb{v:Value}{sz:Nat}{xs:List Value}{w w':World}(hb:Below w.heap.size w w')(h:SlAt w v sz xs):SlAt w' v sz xs:=by
 rcases h with h | h | ⟨b,o,len,cap,h1,h2,h3⟩
 ·exact .inl h
 ·exact .inr (.inl h)
 ·refine .inr (.inr ⟨b,o,len,cap,h1,h2,fun j u hj=>by
   have:=h3 j u hj
   rw [hb.cell (World.block_lt_of_cell? _ _ this)];exact this⟩)
end Vc
