import Derived.Test.YtdjgnbkclcjiiaaGreatDoorPg
import Derived.Test.YtdjgnbkclcjiiaaGreatDoorPb
import Derived.StillTail
import Derived.Deep.QuietTactic
import Derived.BigQuiet
import Derived.Lib.QuietBelow
import Derived.Test.YtdjgnbkclcjiiaaGreatDoorG0
import Derived.Test.YtdjgnbkclcjiiaaGreatDoorPe
import Derived.Test.YtdjgnbkclcjiiaaGreatDoorSn
import Derived.Test.YtdjgnbkclcjiiaaGreatDoorVcU
section
set_option linter.unusedVariables false
set_option linter.unusedSimpArgs false
set_option maxRecDepth 100000
namespace Go.Proofs.YtdjgnbkclcjiiaaGreatDoor
open Go Go.RowKit Go.Proofs Wk
open Vc (SlAt OV iteI Vl zfb zh)
attribute [local irreducible] Go.Calls
def cmpT(s:List UInt8)(ask:Int)(nm:List UInt8)(wi:Int)(p:Sx):Sx × Rl :=
 if cmpS s p < 0 then (if ask=0 then (p,.mk 1 0 nm wi 5 0 nilV [])else (failS p (tokS s p.i).a 5,.mk 1 ask nm wi (cmpS s p) 0 nilV []))
 else ((numS s (-1073741824) 1073741824 ⟨(tokS s p.i).t,p.a,p.e⟩).1,.mk 1 ask nm wi (cmpS s p) (numS s (-1073741824) 1073741824 ⟨(tokS s p.i).t,p.a,p.e⟩).2 nilV [])
def a5(s:List UInt8)(ask:Int)(nm:List UInt8)(wi:Int)(p:Sx):Sx × Rl:=cmpT s ask nm wi (wantS s [41] p)
def a4(s:List UInt8)(ask:Int)(nm:List UInt8)(p:Sx):Sx × Rl:=a5 s ask nm (numS s 0 1000 p).2 (numS s 0 1000 p).1
def a3(s:List UInt8)(ask:Int)(nm:List UInt8)(p:Sx):Sx × Rl:=a4 s ask nm (wantS s [44] p)
def a2(s:List UInt8)(ask:Int)(p:Sx):Sx × Rl:=a3 s ask (nameS s p).2 (nameS s p).1
def a1(s:List UInt8)(ask:Int)(p:Sx):Sx × Rl:=a2 s ask (wantS s [40] p)
def atomS(s:List UInt8)(p:Sx):Sx × Rl :=
 if rtx (tokS s p.i)=wMost then a1 s 1 (wantS s wMost p)else if rtx (tokS s p.i)=wLeast then a1 s 2 (wantS s wLeast p)else cmpT s 0 (nameS s p).2 0 (nameS s p).1
theorem zht{s:List UInt8}{p:Sx}(hi:p.i≤s.length):(nameS s p).1.i≤s.length:=by
 unfold nameS;split
 ·exact (zg s hi).2.2.1
 ·unfold failS;split <;> exact hi
theorem zfda{s:List UInt8}{lo hi:Int}{p:Sx}(h:p.i≤s.length):(numS s lo hi p).1.i≤s.length:=by
 have h1:(if isR s p [45]=true then wantS s [45] p else p).i≤s.length:=by split;exact zbn h;exact h
 unfold numS;generalize (if isR s p [45]=true then wantS s [45] p else p)=q at h1;have ht:=(zg s h1).2.2.1;have hf:∀ (r:Sx) a e,r.i≤s.length→(failS r a e).i≤s.length:=fun r a e h=>by unfold failS;split <;> exact h
 unfold numT;by_cases c1:kindB (tokS s q.i)=2∧(tokS s q.i).bad=false
 ·rw [if_pos c1];split
  ·split
   ·exact ht
   ·exact hf _ _ _ ht
  ·split
   ·exact ht
   ·exact hf _ _ _ ht
 ·rw [if_neg c1];exact hf _ _ _ h1
theorem zqba{w:World}{s:List UInt8}{p:Sx}(hl:s.length < 4611686018427387904)(hi:p.i≤s.length)(h33:isR s p [33]=false)(h40:isR s p [40]=false):Calls Tryz.prog 153 #[stV s p] w (Vc.Ret (.tuple #[stV s (atomS s p).1,RV7 (atomS s p).2]) w):=by
  have m1:Nd [33]:=znb (by decide);have m2:Nd [40]:=znb (by decide);have m3:Nd [44]:=znb (by decide);have m4:Nd [41]:=znb (by decide)
  have tail:∀ (ask:Int) (nm:List UInt8) (wi:Int) (q:Sx),ask≠0→q.i≤s.length→∀ z,z=cmpT s ask nm wi q →
      ((cmpS s q < 0)→(∃ (x27:Int),∃ (x28:Int),∃ (x29:Int),∃ (x30:Int),∃ (s9:List UInt8),∃ (b3:Bool),(Vq w 64 #[.string ⟨s.toArray⟩,.int .i64 (q.i:Nat)] (.agg #[.int .i64 x27,.int .i64 x28,.int .i64 x29,.int .i64 x30,.string ⟨s9.toArray⟩,.bool b3])) ∧
        ∃ (s10:List UInt8),∃ (x31:Int),∃ (x32:Int),∃ (x33:Int),(Vq w 65 #[.agg #[.string ⟨s.toArray⟩,.int .i64 (q.i:Nat),.int .i64 (q.a:Nat),.int .i64 q.e],.int .i64 x28,.int .i64 5] (.agg #[.string ⟨s10.toArray⟩,.int .i64 x31,.int .i64 x32,.int .i64 x33])) ∧
        (.tuple #[.agg #[.string ⟨s10.toArray⟩,.int .i64 x31,.int .i64 x32,.int .i64 x33],.agg #[.int .i64 1,.int .i64 ask,.string ⟨nm.toArray⟩,.int .i64 wi,.int .i64 (cmpS s q),.int .i64 0,.slice none 0 0]]:Value)=.tuple #[stV s z.1,RV7 z.2])) ∧
      (¬ (cmpS s q < 0)→(((cmpS s q < 0)→((.tuple #[.agg #[.string ⟨s.toArray⟩,.int .i64 (q.i:Nat),.int .i64 (q.a:Nat),.int .i64 q.e],.agg #[.int .i64 1,.int .i64 ask,.string ⟨nm.toArray⟩,.int .i64 wi,.int .i64 5,.int .i64 0,.slice none 0 0]]:Value)=.tuple #[stV s z.1,RV7 z.2]))∧(¬ (cmpS s q < 0)→(
        ∃ (x27:Int),∃ (x28:Int),∃ (x29:Int),∃ (x30:Int),∃ (s9:List UInt8),∃ (b3:Bool),(Vq w 64 #[.string ⟨s.toArray⟩,.int .i64 (q.i:Nat)] (.agg #[.int .i64 x27,.int .i64 x28,.int .i64 x29,.int .i64 x30,.string ⟨s9.toArray⟩,.bool b3])) ∧
        ∃ (s10:List UInt8),∃ (x31:Int),∃ (x32:Int),∃ (x33:Int),∃ (x34:Int),(Vq w 166 #[.agg #[.string ⟨s.toArray⟩,.int .i64 x29,.int .i64 (q.a:Nat),.int .i64 q.e],.int .i64 (-1073741824),.int .i64 1073741824] (.tuple #[.agg #[.string ⟨s10.toArray⟩,.int .i64 x31,.int .i64 x32,.int .i64 x33],.int .i64 x34])) ∧
        (.tuple #[.agg #[.string ⟨s10.toArray⟩,.int .i64 x31,.int .i64 x32,.int .i64 x33],.agg #[.int .i64 1,.int .i64 ask,.string ⟨nm.toArray⟩,.int .i64 wi,.int .i64 (cmpS s q),.int .i64 x34,.slice none 0 0]]:Value)=.tuple #[stV s z.1,RV7 z.2])))):=fun ask nm wi q ha hq z hz=>by
    subst hz;refine iteI (fun hc=>⟨_,_,_,_,_,_,fun w' hb=>zyl hl hq,_,_,_,_,fun w' hb=>zgm s q (tokS s q.i).a 5, ?_⟩) (fun hc=>iteI (fun h=>absurd h hc) (fun _=>⟨_,_,_,_,_,_,fun w' hb=>zyl hl hq,_,_,_,_,_,fun w' hb=>zco (p:=⟨(tokS s q.i).t,q.a,q.e⟩) _ _ hl (zg s hq).2.2.1, ?_⟩))
    · unfold cmpT;rw [if_pos hc,if_neg ha];rfl
    · unfold cmpT;rw [if_neg hc];rfl
  have ht1:∀ x,(x=wMost∨x=wLeast)→rtx (tokS s p.i)=x→Vj_ullageref10_not_T1 x w s (p.i:Nat) (p.a:Nat) p.e (fun v=>v=.tuple #[stV s (atomS s p).1,RV7 (atomS s p).2]):=fun x hx hr=>by
    have hx0:x ≠ []:=by rcases hx with rfl | rfl <;> decide
    have hxn:Nd x:=by rcases hx with rfl | rfl <;> exact znb (by decide)
    have i1:=zbn (x:=x) hi;have i2:=zbn (x := [40]) i1;have i3:=zht i2;have i4:=zbn (x := [44]) i3;have i5:=zfda (lo:=0) (hi:=1000) i4;have i6:=zbn (x := [41]) i5;refine iteI (fun h => ?_) (fun h => ?_)
    · have hz:atomS s p=cmpT s 2 (nameS s (wantS s [40] (wantS s x p))).2 (numS s 0 1000 (wantS s [44] (nameS s (wantS s [40] (wantS s x p))).1)).2 (wantS s [41] (numS s 0 1000 (wantS s [44] (nameS s (wantS s [40] (wantS s x p))).1)).1):=by
        have hx':x=wLeast:=h;unfold atomS;rw [if_neg (by rw [hr,hx'];decide),if_pos (by rw [hr,hx']),hx'];rfl
      exact⟨_,_,_,_,fun w' hb=>zii hl hi hx0 hxn,_,_,_,_,fun w' hb=>zii (p:=wantS s x p) hl i1 (by decide) m2,_,_,_,_,_,fun w' hb=>zraa (p:=wantS s [40] (wantS s x p)) hl i2,_,_,_,_,fun w' hb=>zii (p:=(nameS s (wantS s [40] (wantS s x p))).1) hl i3 (by decide) m3,_,_,_,_,_,fun w' hb=>zco (p:=wantS s [44] (nameS s (wantS s [40] (wantS s x p))).1) 0 1000 hl i4,_,_,_,_,fun w' hb=>zii (p:=(numS s 0 1000 (wantS s [44] (nameS s (wantS s [40] (wantS s x p))).1)).1) hl i5 (by decide) m4,_,fun w' hb=>zdo (p:=wantS s [41] (numS s 0 1000 (wantS s [44] (nameS s (wantS s [40] (wantS s x p))).1)).1) hl i6,tail 2 _ _ _ (by decide) i6 _ hz⟩
    · have hz:atomS s p=cmpT s 1 (nameS s (wantS s [40] (wantS s x p))).2 (numS s 0 1000 (wantS s [44] (nameS s (wantS s [40] (wantS s x p))).1)).2 (wantS s [41] (numS s 0 1000 (wantS s [44] (nameS s (wantS s [40] (wantS s x p))).1)).1):=by
        have hx':x=wMost:=by
          rcases hx with hx | hx
          · exact hx
          · exact absurd hx h
        unfold atomS;rw [if_pos (by rw [hr,hx']),hx'];rfl
      exact⟨_,_,_,_,fun w' hb=>zii hl hi hx0 hxn,_,_,_,_,fun w' hb=>zii (p:=wantS s x p) hl i1 (by decide) m2,_,_,_,_,_,fun w' hb=>zraa (p:=wantS s [40] (wantS s x p)) hl i2,_,_,_,_,fun w' hb=>zii (p:=(nameS s (wantS s [40] (wantS s x p))).1) hl i3 (by decide) m3,_,_,_,_,_,fun w' hb=>zco (p:=wantS s [44] (nameS s (wantS s [40] (wantS s x p))).1) 0 1000 hl i4,_,_,_,_,fun w' hb=>zii (p:=(numS s 0 1000 (wantS s [44] (nameS s (wantS s [40] (wantS s x p))).1)).1) hl i5 (by decide) m4,_,fun w' hb=>zdo (p:=wantS s [41] (numS s 0 1000 (wantS s [44] (nameS s (wantS s [40] (wantS s x p))).1)).1) hl i6,tail 1 _ _ _ (by decide) i6 _ hz⟩
  refine (zhi (p.i:Nat) (p.a:Nat) p.e s w (fun v=>v=.tuple #[stV s (atomS s p).1,RV7 (atomS s p).2]) (fun _ _=>False) ⟨isR s p [33],fun w' hb=>ris hl hi (by decide) m1,iteI (fun h=>absurd h (by rw [h33];decide)) (fun _=>⟨isR s p [40],fun w' hb=>ris hl hi (by decide) m2,iteI (fun h=>absurd h (by rw [h40];decide)) (fun _=>⟨_,_,_,_,rtx (tokS s p.i),_,fun w' hb=>zyl hl hi,iteI (fun h=>ht1 _ (.inl h) rfl) (fun hm=>iteI (fun h=>ht1 _ (.inr h) rfl) (fun hn=>⟨_,_,_,_,_,fun w' hb=>zraa hl hi,_,fun w' hb=>zdo (p:=(nameS s p).1) hl (zht hi), ?_⟩))⟩)⟩)⟩).mono ?_
  · have T2:Vj_ullageref10_not_T2 (cmpS s (nameS s p).1) (fun v=>v=.tuple #[stV s (atomS s p).1,RV7 (atomS s p).2]) s ((nameS s p).1.i:Nat) ((nameS s p).1.a:Nat) (nameS s p).1.e (nameS s p).2 w:=by
      have hz:atomS s p=cmpT s 0 (nameS s p).2 0 (nameS s p).1:=by
        unfold atomS;rw [if_neg (show ¬ rtx (tokS s p.i)=wMost from hm),if_neg (show ¬ rtx (tokS s p.i)=wLeast from hn)]
      rw [hz];refine iteI (fun hc => ?_) (fun hc=>⟨_,_,_,_,_,_,fun w' hb=>zyl hl (zht hi),_,_,_,_,_,fun w' hb=>zco (p:=⟨(tokS s (nameS s p).1.i).t,(nameS s p).1.a,(nameS s p).1.e⟩) _ _ hl (zg s (zht hi)).2.2.1, ?_⟩)
      · unfold cmpT;rw [if_pos hc,if_pos rfl];rfl
      · unfold cmpT;rw [if_neg hc];rfl
    exact⟨fun _=>T2,fun _=>T2⟩
  · rintro e w' ⟨u,he,hB,hF | hF⟩
    · exact⟨by rw [he,hF],hB⟩
    · exact hF.elim
end Go.Proofs.YtdjgnbkclcjiiaaGreatDoor
end
section
set_option linter.unusedVariables false
set_option linter.unusedSimpArgs false
namespace Go.Proofs.YtdjgnbkclcjiiaaGreatDoor
open Go Go.RowKit Go.Proofs
def Rel{α:Type}(s:List UInt8)(r:Pr α)(z:Sx × α):Prop:=match r with
 | .ok v j=>z=(⟨j,0,0⟩,v)
 | .err a e=>z.1.a=a∧z.1.e=e∧e≠0∧z.1.i≤s.length
 | .out=>True
def Dd(s:List UInt8)(p q:Sx):Prop:=q.a=p.a∧q.e=p.e∧q.i≤s.length
theorem zit{α:Type}{s:List UInt8}{p:Sx}{z:Sx × α}{a:Nat}{e:Int}(hd:Dd s p z.1)(ha:p.a=a)(he:p.e=e)(h0:e≠0):Rel s (.err a e:Pr α) z :=
 ⟨hd.1.trans ha,hd.2.1.trans he,h0,hd.2.2⟩
theorem zta{s x:List UInt8}{i:Nat}:isR s ⟨i,0,0⟩ x=isT s i x:=by simp [isR]
theorem zzj{s x:List UInt8}{p:Sx}(h:p.e≠0):isR s p x=false:=by simp [isR,h]
theorem zji{s x:List UInt8}{p:Sx}(h:p.e≠0):wantS s x p=p:=by
 unfold wantS failS;rw [zzj h,if_neg (by decide),if_neg h]
theorem zki{s x:List UInt8}{i:Nat}(hi:i≤s.length):Rel s (pWant s x i) (wantS s x ⟨i,0,0⟩,()):=by
 unfold wantS pWant failS;rw [zta];split
 ·rfl
 ·exact⟨rfl,rfl,by decide,hi⟩
theorem ziw{s:List UInt8}{p:Sx}(h:p.e≠0):nameS s p=(p,[]):=by
 unfold nameS failS;rw [if_neg (fun hh=>h hh.1),if_neg h]
theorem zzl{s:List UInt8}{i:Nat}(hb:(tokS s i).bad=false):nameB (rtx (tokS s i))=nameB (tokS s i).x:=by
  unfold rtx;split
  · rename_i hn;obtain⟨h1,h2,h3⟩:=zah hn hb;cases hx:(tokS s i).x with
    | nil=>rfl
    | cons c l =>
      have hd:=h3 c (by rw [hx];exact List.mem_cons_self ..)
      have hl:letB c=false:=by
        simp only [digB,Bool.and_eq_true,decide_eq_true_eq]at hd;simp only [letB,Bool.and_eq_false_iff,decide_eq_false_iff_not];omega
      simp [nameB,hl]
  · rfl
theorem zjq{s:List UInt8}{i:Nat}(hi:i≤s.length):Rel s (pName s i) (nameS s ⟨i,0,0⟩):=by
 unfold pName nameS failS;dsimp only;by_cases hb:(tokS s i).bad=true
 ·rw [if_pos (.inl hb),if_neg (fun h=>by rw [h.2.1]at hb;cases hb)];exact⟨rfl,rfl,by decide,hi⟩
 have hb':=Bool.eq_false_iff.2 hb;by_cases hn:nameB (tokS s i).x=false
 ·rw [if_pos (.inr hn),if_neg (fun h=>by rw [zzl hb',hn]at h;cases h.2.2)];exact⟨rfl,rfl,by decide,hi⟩
 ·have hn':=(Bool.not_eq_false _).mp hn;rw [if_neg (fun h=>h.elim hb hn),if_pos ⟨rfl,hb',by rw [zzl hb'];exact hn'⟩]
  have hnn:¬ (tokS s i).num=true:=fun h=>by
   obtain⟨h1,h2,h3⟩:=zah h hb';rw [← zzl hb']at hn';unfold rtx at hn';rw [if_pos h]at hn';cases hn'
  show (_,rtx (tokS s i))=_;unfold rtx;rw [if_neg hnn]
theorem zjw{s:List UInt8}{mi:Bool}{lo hi:Int}{i0:Nat}{p:Sx}(h:p.e≠0)(hi':p.i≤s.length):Dd s p (numT s mi lo hi i0 p).1:=by
 have ht:=(zg s hi').2.2.1;have hf:∀ (r:Sx) a e,r.e≠0→failS r a e=r:=fun r a e h=>by unfold failS;rw [if_neg h]
 unfold numT;by_cases c1:kindB (tokS s p.i)=2∧(tokS s p.i).bad=false
 ·rw [if_pos c1];by_cases c2:inB (if mi=true then -(numB (tokS s p.i))else numB (tokS s p.i)) lo hi=true
  ·rw [if_pos c2];exact⟨rfl,rfl,ht⟩
  ·rw [if_neg c2];show Dd s p (failS _ _ _);rw [hf _ _ _ (show (⟨(tokS s p.i).t,p.a,p.e⟩:Sx).e≠0 from h)];exact⟨rfl,rfl,ht⟩
 ·rw [if_neg c1];show Dd s p (failS _ _ _);rw [hf _ _ _ h];exact⟨rfl,rfl,hi'⟩
theorem zly{s:List UInt8}{lo hi:Int}{p:Sx}(h:p.e≠0)(hi':p.i≤s.length):Dd s p (numS s lo hi p).1:=by
 unfold numS;rw [zzj h,if_neg (by decide)];exact zjw h hi'
theorem zjt{s:List UInt8}{mi:Bool}{lo hi:Int}{i0 j:Nat}(h0:i0≤s.length)(hj:j≤s.length):Rel s (pDig s (if mi=true then -1 else 1) lo hi i0 j) (numT s mi lo hi i0 ⟨j,0,0⟩):=by
 have ht:=(zg s hj).2.2.1;unfold pDig numT failS;dsimp only;by_cases hc:kindB (tokS s j)=2∧(tokS s j).bad=false
 ·have hn:=(zyj _).1 hc.1;rw [if_pos hc,if_neg (fun h=>h.elim (fun h=>by rw [hn]at h;cases h) (fun h=>by rw [hc.2]at h;cases h))]
  have hv:(if mi=true then -(numB (tokS s j))else numB (tokS s j))=(if mi=true then -1 else 1) * digV (tokS s j).x:=by
   rw [(zhw hn hc.2).1];split <;> omega
  rw [hv];generalize (if mi=true then -1 else 1) * digV (tokS s j).x=v;by_cases c2:inB v lo hi=true
  ·rw [if_pos c2,if_pos c2];rfl
  ·rw [if_neg c2,if_neg c2];exact⟨rfl,rfl,by decide,ht⟩
 ·rw [if_neg hc,if_pos (by
   by_cases hn:(tokS s j).num=true
   ·right;cases hb:(tokS s j).bad with
    | true=>rfl
    | false=>exact absurd ⟨(zyj _).2 hn,hb⟩ hc
   ·left;exact Bool.eq_false_iff.2 hn)]
  exact⟨rfl,rfl,by decide,hj⟩
theorem zkt{s:List UInt8}{lo hi:Int}{i:Nat}(h0:i≤s.length):Rel s (pNum s lo hi i) (numS s lo hi ⟨i,0,0⟩):=by
 unfold pNum numS;rw [zta];by_cases h:isT s i [45]=true
 ·have hw:wantS s [45] ⟨i,0,0⟩=⟨(tokS s i).t,0,0⟩:=by unfold wantS;rw [zta,if_pos h]
  rw [if_pos h,if_pos h,hw,h];exact zjt (mi:=true) h0 (zg s h0).2.2.1
 ·rw [if_neg h,if_neg h,Bool.eq_false_iff.2 h];exact zjt (mi:=false) h0 h0
theorem zmy{s:List UInt8}{p:Sx}(h:p.e≠0):cmpS s p = -1:=by unfold cmpS;rw [if_neg h]
theorem zam{s:List UInt8}{ask wi:Int}{nm:List UInt8}{p:Sx}(h:p.e≠0)(hi:p.i≤s.length):Dd s p (cmpT s ask nm wi p).1:=by
 unfold cmpT failS;rw [zmy h,if_pos (by decide)];split
 ·exact⟨rfl,rfl,hi⟩
 ·exact⟨rfl,rfl,hi⟩
theorem zkq{s:List UInt8}{ask wi:Int}{nm:List UInt8}{i:Nat}(hi:i≤s.length):Rel s (pCmp s ask nm wi i) (cmpT s ask nm wi ⟨i,0,0⟩):=by
  have ht:=(zg s hi).2.2.1;unfold pCmp cmpT cmpS;rw [if_pos rfl];dsimp only;cases hc:cmpI s i 0 cmpsB with
  | some c =>
    dsimp only;rw [if_neg (by omega)];have hn:=zkt (lo := -1073741824) (hi:=1073741824) ht;generalize hz:numS s (-1073741824) 1073741824 ⟨(tokS s i).t,0,0⟩=z at hn ⊢;cases hp:pNum s (-1073741824) 1073741824 (tokS s i).t with
    | ok n k =>
      rw [hp]at hn;have hn':z=(⟨k,0,0⟩,n):=hn;subst hn';rfl
    | err a e=>rw [hp]at hn;exact hn
    | out=>trivial
  | none =>
    dsimp only;rw [if_pos (show (-1:Int) < 0 by decide)];by_cases h0:ask=0
    · rw [if_pos h0,if_pos h0];rfl
    · rw [if_neg h0,if_neg h0];unfold failS;exact⟨rfl,rfl,by decide,hi⟩
theorem zeg{α β:Type}{s:List UInt8}{r:Pr α}{z:Sx × α}{k:α→Nat→Pr β}{f:Sx × α→Sx × β}{P:α→Prop}{i:Nat}(hin:r.In P s i)(h:Rel s r z)(hl:∀ v j,j≤s.length→Rel s (k v j) (f (⟨j,0,0⟩,v)))(hd:∀ p v,p.e≠0→p.i≤s.length→Dd s p (f (p,v)).1):Rel s (r.bind k) (f z):=by
  cases r with
  | ok v j =>
    have h':z=(⟨j,0,0⟩,v):=h;subst h';exact hl v j hin.2.1
  | err a e =>
    obtain⟨h1,h2,h3,h4⟩:=h;obtain⟨p,v⟩:=z;exact zit (hd p v (fun e0=>h3 (h2.symm.trans e0)) h4) h1 h2 h3
  | out=>trivial
theorem zkw{s:List UInt8}{ask wi:Int}{nm:List UInt8}{p:Sx}(h:p.e≠0)(hi:p.i≤s.length):Dd s p (a5 s ask nm wi p).1:=by
 unfold a5;rw [zji h];exact zam h hi
theorem Dd.next{s:List UInt8}{p q r:Sx}(h:Dd s p q)(h':Dd s q r):Dd s p r:=⟨h'.1.trans h.1,h'.2.1.trans h.2.1,h'.2.2⟩
theorem zlw{s:List UInt8}{ask:Int}{nm:List UInt8}{p:Sx}(h:p.e≠0)(hi:p.i≤s.length):Dd s p (a4 s ask nm p).1:=by
 have hn:=zly (lo:=0) (hi:=1000) h hi;unfold a4;exact hn.next (zkw (by rw [hn.2.1];exact h) hn.2.2)
theorem zmw{s:List UInt8}{ask:Int}{nm:List UInt8}{p:Sx}(h:p.e≠0)(hi:p.i≤s.length):Dd s p (a3 s ask nm p).1:=by
 unfold a3;rw [zji h];exact zlw h hi
theorem znw{s:List UInt8}{ask:Int}{p:Sx}(h:p.e≠0)(hi:p.i≤s.length):Dd s p (a2 s ask p).1:=by
 unfold a2;rw [ziw h];exact zmw h hi
theorem zsaa{s:List UInt8}{ask:Int}{p:Sx}(h:p.e≠0)(hi:p.i≤s.length):Dd s p (a1 s ask p).1:=by
 unfold a1;rw [zji h];exact znw h hi
section
attribute [local irreducible] wantS nameS numS cmpT pWant pName pNum pCmp Rel Dd
theorem ztaa{s:List UInt8}{ask wi:Int}{nm:List UInt8}{i:Nat}(hi:i≤s.length):Rel s ((pWant s [41] i).bind fun _ i=>pCmp s ask nm wi i) (a5 s ask nm wi ⟨i,0,0⟩):=by
 have h:=zeg (k:=fun _ i=>pCmp s ask nm wi i) (f:=fun z=>cmpT s ask nm wi z.1) (zl hi [41]) (zki hi) (fun _ j hj=>zkq hj) (fun p _ h h'=>zam h h');exact h
theorem zuaa{s:List UInt8}{ask:Int}{nm:List UInt8}{i:Nat}(hi:i≤s.length):Rel s ((pNum s 0 1000 i).bind fun wi i=>(pWant s [41] i).bind fun _ i=>pCmp s ask nm wi i) (a4 s ask nm ⟨i,0,0⟩):=by
 have h:=zeg (k:=fun wi i=>(pWant s [41] i).bind fun _ i=>pCmp s ask nm wi i) (f:=fun z=>a5 s ask nm z.2 z.1) (zed hi 0 1000) (zkt hi) (fun wi j hj=>ztaa hj) (fun p _ h h'=>zkw h h');exact h
theorem zvaa{s:List UInt8}{ask:Int}{nm:List UInt8}{i:Nat}(hi:i≤s.length):Rel s ((pWant s [44] i).bind fun _ i=>(pNum s 0 1000 i).bind fun wi i=>(pWant s [41] i).bind fun _ i=>pCmp s ask nm wi i) (a3 s ask nm ⟨i,0,0⟩):=by
 have h:=zeg (k:=fun _ i=>(pNum s 0 1000 i).bind fun wi i=>(pWant s [41] i).bind fun _ i=>pCmp s ask nm wi i) (f:=fun z=>a4 s ask nm z.1) (zl hi [44]) (zki hi) (fun _ j hj=>zuaa hj) (fun p _ h h'=>zlw h h');exact h
theorem zwaa{s:List UInt8}{ask:Int}{i:Nat}(hi:i≤s.length):Rel s ((pName s i).bind fun nm i=>(pWant s [44] i).bind fun _ i=>(pNum s 0 1000 i).bind fun wi i=>(pWant s [41] i).bind fun _ i=>pCmp s ask nm wi i) (a2 s ask ⟨i,0,0⟩):=by
 have h:=zeg (k:=fun nm i=>(pWant s [44] i).bind fun _ i=>(pNum s 0 1000 i).bind fun wi i=>(pWant s [41] i).bind fun _ i=>pCmp s ask nm wi i) (f:=fun z=>a3 s ask z.2 z.1) (zab hi) (zjq hi) (fun nm j hj=>zvaa hj) (fun p _ h h'=>zmw h h');exact h
theorem zxaa{s:List UInt8}{ask:Int}{i:Nat}(hi:i≤s.length):Rel s (pAsk s ask i) (a1 s ask ⟨i,0,0⟩):=by
 have h:=zeg (k:=fun _ i=>(pName s i).bind fun nm i=>(pWant s [44] i).bind fun _ i=>(pNum s 0 1000 i).bind fun wi i=>(pWant s [41] i).bind fun _ i=>pCmp s ask nm wi i) (f:=fun z=>a2 s ask z.1) (zl hi [40]) (zki hi) (fun _ j hj=>zwaa hj) (fun p _ h h'=>znw h h');exact h
end
theorem zlt{s:List UInt8}{i:Nat}{x:List UInt8}(hx:x ≠ [])(h:rtx (tokS s i)=x):(tokS s i).x=x:=by
 unfold rtx at h;split at h
 ·exact absurd h.symm hx
 ·exact h
theorem zow{s:List UInt8}{i:Nat}(hi:i≤s.length):Rel s (pAtom s i) (atomS s ⟨i,0,0⟩):=by
  have ht:=(zg s hi).2.2.1
  have word:∀ (x:List UInt8) (ask:Int),x ≠ []→nameB x=false→rtx (tokS s i)=x→∀ (hT:isT s i x=false→pAtom s i=(pName s i).bind fun nm i=>pCmp s 0 nm 0 i),(isT s i x=true→pAtom s i=pAsk s ask (tokS s i).t)→Rel s (pAtom s i) (a1 s ask (wantS s x ⟨i,0,0⟩)):=fun x ask hx hnx hr hF hT=>by
    cases hi':isT s i x with
    | true =>
      have hw:wantS s x ⟨i,0,0⟩=⟨(tokS s i).t,0,0⟩:=by unfold wantS;rw [zta,if_pos hi']
      rw [hT hi',hw];exact zxaa ht
    | false =>
      have hw:wantS s x ⟨i,0,0⟩=⟨i,(tokS s i).a,5⟩:=by unfold wantS failS;rw [zta,hi',if_neg (by decide),if_pos rfl]
      have hp:pName s i=.err (tokS s i).a 5:=by
        unfold pName;rw [if_pos];right;rw [zlt hx hr];exact hnx
      rw [hF hi',hw,hp];exact zit (p:=⟨i,(tokS s i).a,5⟩) (zsaa (show (5:Int)≠0 by decide) hi) rfl rfl (by decide)
  unfold atomS;have hmn:nameB wMost=false:=by decide
  have hln:nameB wLeast=false:=by decide
  by_cases hm:rtx (tokS s i)=wMost
  · rw [if_pos hm];have hnl:isT s i wLeast=false:=by unfold isT;rw [zlt (by decide) hm];simp [wMost,wLeast]
    refine word wMost 1 (by decide) hmn hm (fun h => ?_) (fun h => ?_)
    · unfold pAtom;rw [if_neg (by rw [h];decide),if_neg (by rw [hnl];decide)]
    · unfold pAtom;rw [if_pos h]
  rw [if_neg hm];have ndM:Nd wMost:=znb (by decide);have ndL:Nd wLeast:=znb (by decide)
  have hnm:isT s i wMost=false:=by
    rw [← zgt (by decide) ndM,decide_eq_false hm,Bool.and_false]
  by_cases hl:rtx (tokS s i)=wLeast
  · rw [if_pos hl];refine word wLeast 2 (by decide) hln hl (fun h => ?_) (fun h => ?_)
    · unfold pAtom;rw [if_neg (by rw [hnm];decide),if_neg (by rw [h];decide)]
    · unfold pAtom;rw [if_neg (by rw [hnm];decide),if_pos h]
  rw [if_neg hl]
  have hnl:isT s i wLeast=false:=by
    rw [← zgt (by decide) ndL,decide_eq_false hl,Bool.and_false]
  unfold pAtom;rw [if_neg (by rw [hnm];decide),if_neg (by rw [hnl];decide)];exact zeg (f:=fun z=>cmpT s 0 z.2 0 z.1) (zab hi) (zjq hi) (fun nm j hj=>zkq hj) (fun p _ h h'=>zam h h')
end Go.Proofs.YtdjgnbkclcjiiaaGreatDoor
end
section
set_option linter.unusedVariables false
set_option linter.unusedSimpArgs false
namespace Wk
open Go Go.RowKit Go.Sort
open Vc (Ret)
section
variable {P:Program} {ops:Array Oper} {md:Region.Mode} {C:World→Prop}
end
theorem Kn.grown{w0 w w':World}{L}(h:Kn w0 w L)(hw:∃ p:Regrown,w'=grow (redrawn w p.d) p.os):Kn w0 w' L:=by
 obtain⟨p,rfl⟩:=hw;exact h.next (below_regrown w p.d p.os)
end Wk
end
section
set_option linter.unusedVariables false
set_option maxRecDepth 100000
namespace Go.Proofs.YtdjgnbkclcjiiaaGreatDoor
open Go Go.RowKit
theorem zjg(x0 x1 x2:Int)(w:World)(v:Value)(h :
 (0≤x1) ∧
 (x1 < 6) ∧
 ((x1=0)→(
 (.bool (decide (x0 < x2)):Value)=v))∧(¬ (x1=0)→(
 ((x1=1)→(
 (.bool (decide (x0≤x2)):Value)=v))∧(¬ (x1=1)→(
 ((x1=2)→(
 (.bool (decide (x0 > x2)):Value)=v))∧(¬ (x1=2)→(
 ((x1=3)→(
 (.bool (decide (x0 ≥ x2)):Value)=v))∧(¬ (x1=3)→(
 ((x1=4)→(
 (.bool (x0 == x2):Value)=v))∧(¬ (x1=4)→(
 (.bool (x0 != x2):Value)=v))))))))))):Calls Tryz.prog 103 #[.int .i64 x0,.int .i64 x1,.int .i64 x2] w (Vc.Ret v w) :=
 Vc.zw base [] [] 200 Tryz.func103 (b:=(Tryz.f103.body).getD .skip) (by kernel_rfl) [.cv (.one (.int .i64 (.var 0))),.cv (.one (.int .i64 (.var 1))),.cv (.one (.int .i64 (.var 2)))] ⟨3,0,0,0,0,0,0⟩ [] (Vc.envOf [x0,x1,x2] [] [] []) (by kernel_rfl) Vc.zn (by kernel_rfl) (by kernel_rfl) h
abbrev Vj_ullageref10_answer_T4(x6:Int)(Ib0:List Vc.Vl→Prop)(b2:Bool)(mb0:List Vc.Vl→Nat)(b0:Bool)(b1:Bool):Prop :=
 ∀ x7:Int,x7=IntKind.i64.wrap (x6 + 1) →
 Ib0 [.b b2,.b false,.i x7]∧mb0 [.b b2,.b false,.i x7] < mb0 [.b b0,.b b1,.i x6]
abbrev Vj_ullageref10_answer_T3(w:World)(x0:Int)(x2:Int)(x3:Int)(x6:Int)(Ib0:List Vc.Vl→Prop)(b2:Bool)(mb0:List Vc.Vl→Nat)(b0:Bool)(b1:Bool):Prop :=
 ∃ (b3:Bool),(Vq w 103 #[.int .i64 x0,.int .i64 x2,.int .i64 x3] (.bool b3)) ∧
 ∀ x7:Int,x7=IntKind.i64.wrap (x6 + 1) →
 Ib0 [.b b2,.b (!b3),.i x7]∧mb0 [.b b2,.b (!b3),.i x7] < mb0 [.b b0,.b b1,.i x6]
end Go.Proofs.YtdjgnbkclcjiiaaGreatDoor
end
section
set_option linter.unusedVariables false
set_option linter.unusedSimpArgs false
set_option maxRecDepth 4000
namespace Wk
open Go Go.RowKit
theorem via2{P:Program}{f:FuncId}{args:Array Value}{w0 W:World}{R:Ending→World→Prop}{Q:Ending→World→Prop}{L:List (Nat × Array Value × TypeId)}(hL:Kn w0 W L)
  (h:Calls P f args W fun e w1=>R e w1∧Below W.heap.size W w1) (k:∀ e w1,R e w1→Kn w0 w1 L→Opened w1 L→Q e w1):Calls P f args W Q :=
 h.mono fun e w1 ⟨he,hb⟩=>k e w1 he (hL.next hb) (Kn.opened_of (hL.next hb).all)
end Wk
namespace Go.Proofs.YtdjgnbkclcjiiaaGreatDoor
open Go Go.RowKit Go.Proofs Wk
attribute [local irreducible] Go.Calls
open Vc (SlAt OV iteI Vl zfb zh)
end Go.Proofs.YtdjgnbkclcjiiaaGreatDoor
end
section
set_option linter.unusedVariables false
set_option linter.unusedSimpArgs false
set_option maxRecDepth 4000
namespace Go.Proofs.YtdjgnbkclcjiiaaGreatDoor
open Go Go.RowKit Vc
attribute [local irreducible] Go.Calls
def sg:Bool→Int
 | true=>1
 | false => -1
theorem zyaa{w:World}(a:Int){c:Int}(n:Int)(hc:0≤c∧c≤5):Calls Tryz.prog 103 #[.int .i64 a,.int .i64 c,.int .i64 n] w (Vc.Ret (.bool (cmpB c a n)) w):=by
 refine zjg a c n w _ ⟨by omega,by omega, ?_⟩;unfold cmpB;refine iteI (fun h => ?_) (fun h=>iteI (fun h1 => ?_) (fun h1=>iteI (fun h2 => ?_) (fun h2=>iteI (fun h3 => ?_) (fun h3=>iteI (fun h4 => ?_) (fun h4 => ?_)))))
 ·rw [if_pos h]
 ·rw [if_neg h,if_pos h1]
 ·rw [if_neg h,if_neg h1,if_pos h2]
 ·rw [if_neg h,if_neg h1,if_neg h2,if_pos h3]
 ·rw [if_neg h,if_neg h1,if_neg h2,if_neg h3,if_pos h4];refine zfb ?_;rw [Bool.eq_iff_iff];simp
 ·rw [if_neg h,if_neg h1,if_neg h2,if_neg h3,if_neg h4];refine zfb ?_;rw [Bool.eq_iff_iff];simp
end Go.Proofs.YtdjgnbkclcjiiaaGreatDoor
end
section
set_option linter.unusedVariables false
set_option linter.unusedSimpArgs false
set_option maxRecDepth 4000
namespace Go.Proofs.YtdjgnbkclcjiiaaGreatDoor
open Go Go.RowKit Go.Proofs Wk
open Vc (SlAt OV iteI Vl zfb zh)
attribute [local irreducible] Go.Calls
def aS(f:Nat→Bool):Nat→Bool | 0=>true | n + 1=>aS f n && f n
def nS(f:Nat→Bool):Nat→Bool | 0=>true | n + 1=>nS f n && !f n
def msQ3:List Vl→Nat | [_,_,.i a]=>3 - a.toNat | _=>0
def fS(c n lo hi mid:Int):Nat→Bool | 0=>cmpB c lo n | 1=>cmpB c hi n | _=>cmpB c mid n
section
variable {w:World} {x c n lo hi mid:Int} {i:Nat} {b0 b1 b2:Bool} (hc:0≤c∧c≤5) (hi3:i < 3) (hx:cmpB c x n=fS c n lo hi mid i) (h0:b0=aS (fS c n lo hi mid) i) (h1:b1=nS (fS c n lo hi mid) i)
def IS(c n lo hi mid:Int):List Vl→Prop:=fun L=>∃ i:Nat,L=[.b (aS (fS c n lo hi mid) i),.b (nS (fS c n lo hi mid) i),.i i]∧i≤3
include hc hi3 hx h0 h1
theorem s3(hb2:b2=fS c n lo hi mid i)(e0:b0=true)(e1:b1=true):Vj_ullageref10_answer_T3 w x c n (i:Int) (IS c n lo hi mid) b2 msQ3 b0 b1:=by
 refine⟨_,fun w' _=>zyaa x n hc, ?_⟩;rintro x7 rfl;rw [zh (by omega)];refine⟨⟨i + 1, ?_,by omega⟩,by simp only [msQ3];omega⟩;simp only [aS,nS];rw [← h0,← h1,e0,e1,hx,hb2,Bool.true_and,Bool.true_and];rfl
omit hc hx in
theorem s4(hb2:b2=fS c n lo hi mid i)(e0:b0=true)(e1:¬ b1=true):Vj_ullageref10_answer_T4 (i:Int) (IS c n lo hi mid) b2 msQ3 b0 b1:=by
 rintro x7 rfl;rw [zh (by omega)];refine⟨⟨i + 1, ?_,by omega⟩,by simp only [msQ3];omega⟩;simp only [aS,nS];rw [← h0,← h1,e0,Bool.eq_false_iff.2 e1,hb2,Bool.true_and,Bool.false_and];rfl
end
end Go.Proofs.YtdjgnbkclcjiiaaGreatDoor
end
section
set_option linter.unusedVariables false
set_option linter.unusedSimpArgs false
namespace Vc
open Go
section
variable {α:Type}
end
def sK(s:List UInt8):Value := .string ⟨s.toArray⟩
end Vc
end
section
set_option linter.unusedVariables false
set_option linter.unusedSimpArgs false
set_option maxRecDepth 4000
namespace Go.Proofs.YtdjgnbkclcjiiaaGreatDoor
open Go Go.RowKit Go.Proofs Wk
open Vc (SlAt OV iteI Vl zfb zh sK)
attribute [local irreducible] Go.Calls
structure TM(p:List Sn)(K:List (List UInt8)):Prop where
 nd:K.Nodup
 no:∀ nm,nm ∉ K→lastT p nm=0
end Go.Proofs.YtdjgnbkclcjiiaaGreatDoor
end
