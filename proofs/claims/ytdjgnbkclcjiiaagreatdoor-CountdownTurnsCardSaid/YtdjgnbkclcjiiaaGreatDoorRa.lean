import Derived.Test.YtdjgnbkclcjiiaaGreatDoorM1
import Derived.Test.YtdjgnbkclcjiiaaGreatDoorRw
set_option linter.unusedVariables false
set_option linter.unusedSimpArgs false
set_option maxRecDepth 4000
namespace Go.Proofs.YtdjgnbkclcjiiaaGreatDoor
open Go Go.RowKit Vc
attribute [local irreducible] Go.Calls
theorem zkw(c:UInt8)(w:World):Calls Tryz.prog 113 #[.int .u8 (c.toNat:Int)] w (Vc.Ret (.bool (letB c)) w):=by
 refine zlg _ w _ (iteI (fun h => ?_) (fun h => ?_))
 all_goals (refine zrc ?_;unfold letB;rw [Bool.eq_iff_iff];simp;omega)
theorem znu(c:UInt8)(w:World):Calls Tryz.prog 114 #[.int .u8 (c.toNat:Int)] w (Vc.Ret (.bool (markB c)) w):=by
 have e:markB c=decide ((97≤c.toNat∧c.toNat≤122)∨(48≤c.toNat∧c.toNat≤57)∨c.toNat=45):=by
  unfold markB letB digB;rw [Bool.eq_iff_iff];simp only [Bool.or_eq_true,Bool.and_eq_true,decide_eq_true_eq,or_assoc]
 refine zyh _ w _ (iteI (fun h=>iteI (fun h2 => ?_) (fun h2=>iteI (fun h3=>iteI (fun h4 => ?_) (fun h4 => ?_)) (fun h3 => ?_))) (fun h=>iteI (fun h3=>iteI (fun h4 => ?_) (fun h4 => ?_)) (fun h3 => ?_)))
 all_goals (refine zrc ?_;rw [e,Bool.eq_iff_iff];simp;omega)
theorem zep{s:List UInt8}(h:¬ (1≤((s.length:Nat):Int)∧((s.length:Nat):Int)≤32)):nameB s=false:=by
 by_cases h1:1≤s.length
 ·have:¬ s.length≤32:=by omega
  simp [nameB,this]
 ·simp [nameB,h1]
def msN(n:Nat)(L:List Vl):Nat:=match L with
 | [.b _,.i i]=>n - i.toNat
 | _=>0
theorem zfp{w:World}(hV:Vg_0 w)(s:List UInt8):Calls Tryz.prog 127 #[.string ⟨s.toArray⟩] w (Vc.Ret (.bool (nameB s)) w):=by
 refine zih s w _ ?_;rintro x0 rfl;refine iteI (fun h1=>iteI (fun h2 => ?_) (fun h2=>by rw [zep (by omega)])) (fun h1=>by rw [zep (by omega)]);rintro x1 rfl;refine⟨by omega, ?_⟩;rintro x2 rfl
 obtain⟨c,r,rfl⟩:∃ c r,s=c::r:=by
  cases s with
  | nil=>simp at h1
  | cons c r=>exact⟨c,r,rfl⟩
 have hl32:(c::r).length≤32:=by omega
 refine⟨_,fun w' _=>zkw c w',iteI (fun hl => ?_) (fun hl => ?_)⟩;rotate_left
 ·refine zrc ?_;simp only [nameB];rw [Bool.eq_false_iff.2 hl];simp
 refine⟨hV,iteI (fun he=>by rw [he];rfl) (fun he=>⟨hV,iteI (fun he2=>by rw [he2];rfl) (fun he2 => ?_)⟩)⟩
 have fin:nameB (c::r)=(c::r).all markB:=by
  have a1:decide ((c::r)=wMost)=false:=decide_eq_false he;have a2:decide ((c::r)=wLeast)=false:=decide_eq_false he2;have a3:decide (1≤(c::r).length)=true:=decide_eq_true (by simp);have a4:decide ((c::r).length≤32)=true:=decide_eq_true hl32;unfold nameB;rw [a1,a2,a3,a4];simp only [hl,Bool.not_false,Bool.and_true,Bool.true_and]
 rw [fin];clear fin he he2 hl;generalize (c::r)=s at *;intro l0 hl0 x3 hx3;have hlen:l0.length=s.length:=by have:=congrArg List.length hl0;simpa using this
 have hx:x3=(s.length:Nat):=by rw [hx3];simp only [Nat.zero_add,Nat.add_zero,Nat.div_one,hlen]
 subst hx;clear hx3;refine⟨fun L=>∃ (b:Bool) (i:Nat),L=[.b b,.i i]∧i≤s.length∧(s.take i).all markB=true,msN s.length,⟨false,0,rfl,Nat.zero_le _,rfl⟩, ?_⟩;rintro b1 x4 ⟨b,i,hy,hi,hA⟩;simp only [List.cons.injEq,Vl.i.injEq,Vl.b.injEq,and_true]at hy;obtain⟨rfl,rfl⟩:=hy;refine iteI (fun hlt => ?_) (fun hge => ?_)
 ·have hi':i < s.length:=by omega
  have hs:s[i]? = some s[i]:=List.getElem?_eq_getElem hi';generalize s[i]=a at hs;rintro x5 hx5;have hx:x5=(s.length:Nat):=by rw [hx5];simp only [Nat.zero_add,Nat.add_zero,Nat.div_one,hlen]
  subst hx;refine⟨by omega,by omega,((a.toNat:Nat):Int), ?_,_,fun w' _=>znu a w',iteI (fun hm => ?_) (fun hm => ?_)⟩
  ·rw [hl0,List.append_nil,Int.toNat_natCast,Nat.mul_one,Nat.add_zero,List.getElem?_map,hs];rfl
  ·rintro x7 rfl;rw [zf (by omega)];refine⟨⟨b1,i + 1,rfl,by omega, ?_⟩,by simp only [msN];omega⟩;rw [List.take_add_one,hs,List.all_append,hA];simp [hm]
  ·refine zrc ?_;symm;rw [Bool.eq_false_iff];intro hall;exact hm (List.all_eq_true.1 hall a (List.mem_of_getElem? hs))
 ·obtain rfl:i=s.length:=by omega
  rw [List.take_length]at hA;rw [hA]
theorem zpz{x y:Nat}{w w':World}{a:Addr}{u:Value}(hb:BelX x w w')(hy:y=x∨w.heap.size≤y)(h:(hideB x w).cell? a=some u):(hideB y w').cell? a=some u:=by
 obtain⟨h1,h2⟩:=zkn h;have hlt:=World.block_lt_of_cell? _ _ h2;rw [← h2];unfold World.cell? hideB;rw [Array.getElem?_setIfInBounds_ne (by omega),hb.block a.block hlt h1]
theorem zqz{y:Nat}{w w':World}{a:Addr}{u:Value}(hb:Below w.heap.size w w')(hy:w.heap.size≤y)(h:w.cell? a=some u):(hideB y w').cell? a=some u:=by
 have hlt:=World.block_lt_of_cell? _ _ h;rw [← h];unfold World.cell? hideB;rw [Array.getElem?_setIfInBounds_ne (by omega),hb.block a.block hlt]
theorem sl_y{x y sz:Nat}{w w':World}{v:Value}{xs:List Value}(hb:BelX x w w')(hy:y=x∨w.heap.size≤y)(h:SlAt (hideB x w) v sz xs):SlAt (hideB y w') v sz xs:=by
 rcases h with h | h | ⟨b,o,len,cap,h1,h2,h3⟩
 ·exact .inl h
 ·exact .inr (.inl h)
 ·exact .inr (.inr ⟨b,o,len,cap,h1,h2,fun j u hj=>zpz hb hy (h3 j u hj)⟩)
theorem sl_n{y sz:Nat}{w w':World}{v:Value}{xs:List Value}(hb:Below w.heap.size w w')(hy:w.heap.size≤y)(h:SlAt w v sz xs):SlAt (hideB y w') v sz xs:=by
 rcases h with h | h | ⟨b,o,len,cap,h1,h2,h3⟩
 ·exact .inl h
 ·exact .inr (.inl h)
 ·exact .inr (.inr ⟨b,o,len,cap,h1,h2,fun j u hj=>zqz hb hy (h3 j u hj)⟩)
mutual
theorem RlAt.y{x y:Nat}{w w':World}(hb:BelX x w w')(hy:y=x∨w.heap.size≤y):∀ {r:Rl},RlAt (hideB x w) r→RlAt (hideB y w') r
  | .mk _ _ _ _ _ _ v ks,h=>by
    simp only [RlAt]at h ⊢;exact⟨sl_y hb hy h.1,RlAtL.y hb hy h.2⟩
theorem RlAtL.y{x y:Nat}{w w':World}(hb:BelX x w w')(hy:y=x∨w.heap.size≤y):∀ {l:List Rl},RlAtL (hideB x w) l→RlAtL (hideB y w') l
  | [],h=>trivial
  | r::l,h=>by
    simp only [RlAtL]at h ⊢;exact⟨RlAt.y hb hy h.1,RlAtL.y hb hy h.2⟩
end
mutual
theorem RlAt.n{y:Nat}{w w':World}(hb:Below w.heap.size w w')(hy:w.heap.size≤y):∀ {r:Rl},RlAt w r→RlAt (hideB y w') r
  | .mk _ _ _ _ _ _ v ks,h=>by
    simp only [RlAt]at h ⊢;exact⟨sl_n hb hy h.1,RlAtL.n hb hy h.2⟩
theorem RlAtL.n{y:Nat}{w w':World}(hb:Below w.heap.size w w')(hy:w.heap.size≤y):∀ {l:List Rl},RlAtL w l→RlAtL (hideB y w') l
  | [],h=>trivial
  | r::l,h=>by
    simp only [RlAtL]at h ⊢;exact⟨RlAt.n hb hy h.1,RlAtL.n hb hy h.2⟩
end
theorem zzb{w:World}{v:Value}{l:List Rl}(h:SlAt w v 7 (l.flatMap rlc)):∃ (b0:Bool) (p0:Nat × Nat) (x1:Int),v=(if b0=true then .slice none 0 0 else .slice (some (Vc.qad p0 (Int.toNat (l.length:Int)) (Int.toNat x1))) (Int.toNat (l.length:Int)) (Int.toNat x1))∧(b0=true→l.length=0) ∧
  (∀ (i:Nat) (z:Rl),l[i]? = some z→w.cell? ⟨p0.1,p0.2 + i * 7 + 0,none⟩=some (.int .i64 z.op)∧w.cell? ⟨p0.1,p0.2 + i * 7 + 1,none⟩=some (.int .i64 z.ask)∧w.cell? ⟨p0.1,p0.2 + i * 7 + 2,none⟩=some (.string ⟨z.nm.toArray⟩) ∧
   w.cell? ⟨p0.1,p0.2 + i * 7 + 3,none⟩=some (.int .i64 z.wi)∧w.cell? ⟨p0.1,p0.2 + i * 7 + 4,none⟩=some (.int .i64 z.cm)∧w.cell? ⟨p0.1,p0.2 + i * 7 + 5,none⟩=some (.int .i64 z.n)∧w.cell? ⟨p0.1,p0.2 + i * 7 + 6,none⟩=some z.v):=by
 obtain⟨b0,p0,x1,h1,h2,h3⟩:=ziu h (by decide) (zbb zbe l);refine⟨b0,p0,x1,h1,h2,fun i p hp => ?_⟩;simp only [Nat.add_assoc]
 exact⟨h3 (i * 7 + 0) _ (zj zbe hp (by decide)),h3 (i * 7 + 1) _ (zj zbe hp (by decide)),h3 (i * 7 + 2) _ (zj zbe hp (by decide)),h3 (i * 7 + 3) _ (zj zbe hp (by decide)),
  h3 (i * 7 + 4) _ (zj zbe hp (by decide)),h3 (i * 7 + 5) _ (zj zbe hp (by decide)),h3 (i * 7 + 6) _ (zj zbe hp (by decide))⟩
theorem zpk{b:Bool}{n:Nat}(h:b=true→n=0):(¬ b=true)∨((n:Int)=0):=by
 by_cases hb:b=true
 ·exact .inr (by rw [h hb];rfl)
 ·exact .inl hb
end Go.Proofs.YtdjgnbkclcjiiaaGreatDoor
