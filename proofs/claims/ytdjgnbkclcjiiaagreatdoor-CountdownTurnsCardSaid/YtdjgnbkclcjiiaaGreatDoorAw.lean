import Derived.Test.YtdjgnbkclcjiiaaGreatDoorGx
import Derived.Test.YtdjgnbkclcjiiaaGreatDoorIns
set_option linter.unusedVariables false
set_option linter.unusedSimpArgs false
namespace Go.Proofs.YtdjgnbkclcjiiaaGreatDoor
open Go Go.RowKit
theorem zsq{N bk ck nk ak vb:Nat}{xs vs:List Value}{w:World}(hr:Vc.RowOk N bk ck nk ak xs 3 61 w)(hv:w.heap[vb]? = some (.cells vs.toArray 61 (0,0)))(hvl:vs.length=3)(hxl:xs.length=3)(hne:vs≠xs)
  (h1x:∀ v∈xs,v.oneCell'=true) (h1v:∀ v∈vs,v.oneCell'=true) :
  Calls Tryz.prog 154 #[Vc.ownV bk ck nk ak,.int .i64 0,.slice (some ⟨vb,0,none⟩) 1 1] w (Vc.Give bk ck (vs++xs) 3 61 w):=by
 obtain⟨e1,_,h⟩:=Vc.RowOkP.old hr (by omega);rw [hxl]at e1;obtain rfl:nk=1:=by omega
 rcases h with ⟨_,h⟩ | ⟨hc2,rfl,hN,hn,hm,cur,hcur,hcs,hct⟩
 ·omega
 have hxs:cur.toList.take 3=xs:=hct
 have hvb:vb≠bk:=fun e=>by
  subst e;rw [hv]at hcur;injection hcur with hcur;injection hcur with hcur;subst hcur
  have:vs.take 3=xs:=hxs
  rw [← hvl,List.take_length]at this;exact hne this
 obtain⟨c,rfl⟩:∃ c,ck=c + 1:=⟨ck - 1,by omega⟩;have hov:Vc.ownV bk (c + 1) 1 0=.slice (some ⟨bk,0,none⟩) 1 c:=by unfold Vc.ownV;rw [if_neg (by omega)];rfl
 rw [hov];rw [Nat.add_sub_cancel]at hm hcs hn;by_cases hc:2≤c
 ·refine (zjp bk c vb cur xs vs w hc hm hcur hcs hxs hv hvl hvb h1x h1v).mono ?_;rintro e w' ⟨rfl,rfl⟩;have hl:(vs++xs++cur.toList.drop 6).length=c * 3:=by simp [hvl,hxl,hcs];omega
  refine⟨bk,c + 1,2,0, ?_,.inl ⟨by simp [hvl,hxl],by omega,.inr ⟨by omega,rfl,trivial,by omega,by omega,(vs++xs++cur.toList.drop 6).toArray, ?_, ?_, ?_⟩⟩,⟨rfl,rfl,rfl, ?_⟩,fun x hx h => ?_,fun _=>.inr ⟨by omega,rfl⟩⟩
  ·unfold Vc.ownV;rw [if_neg (by omega)];rfl
  ·exact setRow_heap w.drew bk cur _ _ _ hcur
  ·simpa using hl
  ·show (vs++xs++cur.toList.drop 6).take 6=_;rw [List.take_append_of_le_length (by simp [hvl,hxl]),List.take_of_length_le (by simp [hvl,hxl])]
  ·simp [World.setRow]
  ·exact setRow_other w.drew bk x _ (h (by omega))
 ·obtain rfl:c=1:=by omega
  have hxs2:cur.toList=xs:=by rw [← hxs,List.take_of_length_le (by rw [Array.length_toList,hcs];omega)]
  refine (zrq bk vb cur xs vs w hcur (by simpa using hcs) hxs2 hv hvl h1x h1v).mono ?_;rintro e w' ⟨G,cur',g1,g2,g3,g4,rfl,g5,g6,g7,g8,g9,g10⟩;refine⟨w.heap.size,G + 1,2,0, ?_,.inl ⟨by simp [hvl,hxl],by omega,.inr ⟨by omega,rfl,trivial,by omega,by omega,cur'.toArray,g5,by simpa using g3,g4⟩⟩,⟨g6,g7,g8,by omega⟩,fun x hx _=>g10 x hx,fun _=>.inl (Nat.le_refl _)⟩;unfold Vc.ownV;rw [if_neg (by omega)];rfl
theorem zbv(w:World)(h0:Vg_0 w)(h1:Vg_1 w)(h2:Vg_2 w)(h3:Vg_3 w):Calls Tryz.prog 16 #[] w (Vc.Ret (.bool true) w):=by
 refine zuf w _ ?_
 have give:∀ (β:Nat→Nat) (w':World) (a b c d e:Nat),w'.heap[a]? = some (.cells #[.string ⟨(([119,105,110,100]:List UInt8)).toArray⟩,.int .i64 0,.int .i64 10] 61)→Vc.RowOk w.heap.size b c d e (([.string ⟨(([119,105,110,100]:List UInt8)).toArray⟩,.int .i64 6,.int .i64 20]:List Value)) 3 61 w' →
   Calls Tryz.prog 154 #[Vc.ownV b c d e,.int .i64 0,.slice (some ⟨a,0,none⟩) 1 1] w' (Vc.Give b c (([.string ⟨(([119,105,110,100]:List UInt8)).toArray⟩,.int .i64 0,.int .i64 10,.string ⟨(([119,105,110,100]:List UInt8)).toArray⟩,.int .i64 6,.int .i64 20]:List Value)) 3 61 w'):=fun β w' a b c d e ha hr =>
  zsq (vs := [.string ⟨(([119,105,110,100]:List UInt8)).toArray⟩,.int .i64 0,.int .i64 10]) hr ha rfl rfl (by simp) (by simp [Value.oneCell']) (by simp [Value.oneCell'])
 repeat first
  | exact rfl
  | refine⟨h0, ?_⟩
  | refine⟨h1, ?_⟩
  | refine⟨h2, ?_⟩
  | refine⟨h3, ?_⟩
  | refine⟨fun β w' hb hm=>give β w' _ _ _ _ _ hm.1.2 hm.2.1, ?_⟩
  | intro _ _
end Go.Proofs.YtdjgnbkclcjiiaaGreatDoor
