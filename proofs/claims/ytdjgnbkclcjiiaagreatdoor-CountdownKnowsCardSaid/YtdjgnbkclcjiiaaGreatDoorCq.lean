import Derived.Test.YtdjgnbkclcjiiaaGreatDoorVcU
set_option linter.unusedVariables false
set_option linter.unusedSimpArgs false
namespace Vc
open Go Go.RowKit
theorem iteI{p A B:Prop}(a:p→A)(b:¬ p→B):(p→A)∧(¬ p→B):=⟨a,b⟩
theorem Ret.as{P:Program}{f:FuncId}{args:Array Value}{W:World}{u v:Value}(h:Calls P f args W (Ret u W))(e:u=v):Calls P f args W (Ret v W):=e▸h
theorem zhd{a a':Bool}(h:a=a'):Value.bool a=.bool a':=by rw [h]
theorem zkz{lo b code n base sz k:Nat}{xs:List Value}{t:TypeId}{w:World}(h:RowOk lo b code n base xs sz t w)(hk:xs.length=k * sz)(k0:0 < k)(hz:0 < sz:=by decide) :
  ∃ m:Nat,ownV b code n base=.slice (some ⟨b,0,none⟩) k m∧k≤m∧∀ j u,xs[j]? = some u→w.cell? ⟨b,j,none⟩=some u:=by
 obtain⟨h1,h2,h3⟩:=RowOkP.old h hz;have hn:n=k:=Nat.eq_of_mul_eq_mul_right h2 (by rw [← h1,hk]);subst hn;rcases h3 with ⟨_,h0⟩ | ⟨c1,c2,c3,c4,c5,cur,c6,c7,c8⟩
 ·omega
 ·subst c2;refine⟨code - 1, ?_,c4,fun j u hj => ?_⟩
  ·unfold ownV;rw [if_neg (by omega)]
  ·have hlt:j < n * sz:=by
    have:=(List.getElem?_eq_some_iff.1 hj).1
    omega
   rw [← c8,List.getElem?_take,if_pos hlt]at hj;simp only [World.cell?,c6];simpa using hj
theorem zbb{α:Type}{f:α→List Value}{c:Nat}(hf:∀ a,(f a).length=c):∀ l:List α,(l.flatMap f).length=l.length * c
 | []=>by simp
 | a::l=>by rw [List.flatMap_cons,List.length_append,hf,zbb hf l,List.length_cons,Nat.add_mul];omega
theorem zr{α:Type}{f:α→List Value}{c:Nat}(hf:∀ a,(f a).length=c):∀ {ps:List α} {i:Nat} {q:α} {o:Nat},ps[i]? = some q→o < c→(ps.flatMap f)[i * c + o]? = (f q)[o]?
  | [],i,q,o,h,_=>by simp at h
  | p::ps,i,q,o,h,ho=>by
    rw [List.flatMap_cons];cases i with
    | zero =>
      simp only [List.getElem?_cons_zero,Option.some.injEq]at h;subst h;rw [List.getElem?_append_left (by rw [hf];omega)];simp
    | succ i =>
      have hm:(i + 1) * c=i * c + c:=Nat.succ_mul i c;rw [List.getElem?_append_right (by rw [hf];omega),← zr hf (ps:=ps) (i:=i) (by simpa using h) ho];congr 1;rw [hf];omega
theorem zlz{lo b code n base sz:Nat}{xs:List Value}{t:TypeId}{w:World}(h:RowOk lo b code n base xs sz t w)(hz:0 < sz:=by decide):SlAt w (ownV b code n base) sz xs:=by
 obtain⟨h1,h2,h3⟩:=h.old hz;by_cases hn:n=0
 ·have hx:xs=[]:=List.eq_nil_of_length_eq_zero (by rw [h1,hn];omega);unfold ownV;by_cases hc:code=0
  ·rw [if_pos hc];exact .inl ⟨rfl,hx⟩
  ·rw [if_neg hc];exact .inr (.inr ⟨b,base,n,code - 1,rfl,h1,fun j u hj=>by rw [hx]at hj;simp at hj⟩)
 ·obtain⟨m,e1,e2,e3⟩:=zkz h h1 (by omega) hz;exact .inr (.inr ⟨b,0,n,m,e1,h1,fun j u hj=>by rw [Nat.zero_add];exact e3 j u hj⟩)
theorem zmq{v:Value}{sz n:Nat}{xs:List Value}{w:World}(h:SlAt w v sz xs)(hz:0 < sz)(hn:xs.length=n * sz) :
  ∃ (b0:Bool) (p0:Nat × Nat) (x1:Int),v=(if b0=true then .slice none 0 0 else .slice (some (Vc.qad p0 (Int.toNat (n:Int)) (Int.toNat x1))) (Int.toNat (n:Int)) (Int.toNat x1))∧(b0=true→n=0)∧∀ j u,xs[j]? = some u→w.cell? ⟨p0.1,p0.2 + j,none⟩=some u:=by
 have empty:xs=[]→n=0:=fun h2=>by
  rw [h2]at hn;rcases Nat.mul_eq_zero.1 hn.symm with h | h <;> omega
 have weird:∀ a,v=.slice (some a) 0 0→xs=[]→∃ (b0:Bool) (p0:Nat × Nat) (x1:Int),v=(if b0=true then .slice none 0 0 else .slice (some (Vc.qad p0 (Int.toNat (n:Int)) (Int.toNat x1))) (Int.toNat (n:Int)) (Int.toNat x1))∧(b0=true→n=0)∧∀ j u,xs[j]? = some u→w.cell? ⟨p0.1,p0.2 + j,none⟩=some u:=fun a h1 h2=>by
  obtain⟨p,hp⟩:=zsx a;have h0:=empty h2;subst h0;refine⟨false,p,0, ?_,fun h=>(by cases h),fun j u hj=>(by rw [h2]at hj;simp at hj)⟩;rw [if_neg (by decide),show Int.toNat ((0:Nat):Int)=0 from rfl,show Int.toNat (0:Int)=0 from rfl,hp];exact h1
 rcases h with ⟨h1,h2⟩ | ⟨a,h1,h2⟩ | ⟨b,o,len,cap,h1,h2,h3⟩
 ·exact⟨true,(0,0),0,(by rw [if_pos rfl];exact h1),fun _=>empty h2,fun j u hj=>(by rw [h2]at hj;simp at hj)⟩
 ·exact weird a h1 h2
 ·have hl:len=n:=Nat.eq_of_mul_eq_mul_right hz (by rw [← h2,hn]);subst hl;by_cases h0:len=0∧cap=0
  ·obtain⟨rfl,rfl⟩:=h0;exact weird _ h1 (List.eq_nil_of_length_eq_zero (by rw [h2];omega))
  ·refine⟨false,(b,o),(cap:Int), ?_,fun h=>(by cases h),h3⟩;rw [if_neg (by decide),zcj (by omega)];exact h1
theorem zbe{v:Value}{sz:Nat}{xs:List Value}{w w':World}(hb:Below w.heap.size w w')(h:SlAt w v sz xs):SlAt w' v sz xs:=by
 rcases h with h | h | ⟨b,o,len,cap,h1,h2,h3⟩
 ·exact .inl h
 ·exact .inr (.inl h)
 ·refine .inr (.inr ⟨b,o,len,cap,h1,h2,fun j u hj=>by
   have:=h3 j u hj
   rw [hb.cell (World.block_lt_of_cell? _ _ this)];exact this⟩)
end Vc
