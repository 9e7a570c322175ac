import Derived.Test.YtdjgnbkclcjiiaaGreatDoorRp
set_option linter.unusedVariables false
set_option linter.unusedSimpArgs false
namespace Go.Proofs.YtdjgnbkclcjiiaaGreatDoor
open Go Go.RowKit Vc
section
variable (A N D O:TypeId)
def okR(n:Nat)(lv:Int)(r:Rl):Prop:=n + nodesR r≤200∧lv + depthR r≤21∧rightR r=true
def okL(n:Nat)(lv:Int)(l:List Rl):Prop:=n + nodesL l≤200∧lv + depthL l≤21∧rightL l=true
theorem zju:∀ l:List Rl,(fmL A N D O l).length=l.length
 | []=>rfl
 | r::l=>by simp only [fmL,List.length_cons,zju l]
theorem zku{op ask:Int}{nm:List UInt8}{wi cm k:Int}{v:Value}{ks:List Rl}(h:atomB (.mk op ask nm wi cm k v ks)=true):ks=[]:=by
 simp only [atomB,Rl.ks,Bool.and_eq_true,decide_eq_true_eq]at h;exact List.length_eq_zero_iff.1 (of_decide_eq_true h.2)
mutual
theorem zlu:∀ (r:Rl) (n:Nat) (lv:Int),(okR n lv r→mkR A N D O n lv r=(n + nodesR r,fmV A N D O r,true))∧(¬ okR n lv r→(mkR A N D O n lv r).2.2=false)
  | .mk op ask nm wi cm k v ks,n,lv=>by
    unfold okR mkR fmV;simp only [nodesR,depthR,rightR];by_cases h1:n + 1 > 200∨lv > 20
    · rw [if_pos h1];exact⟨fun h=>by omega,fun _=>rfl⟩
    rw [if_neg h1];by_cases h2:op=1
    · rw [if_pos h2,if_pos h2,if_pos h2];refine⟨fun h => ?_,fun h => ?_⟩
      · have hk:=zku h.2.2;subst hk;rw [h.2.2];simp only [nodesL]
      · by_cases ha:atomB (.mk op ask nm wi cm k v ks)=true
        · have hk:=zku ha;subst hk;exfalso;refine h ⟨?_, ?_,ha⟩
          · simp only [nodesL];omega
          · simp only [depthL];omega
        · simpa using ha
    rw [if_neg h2,if_neg h2,if_neg h2];by_cases h3:bareB (.mk op ask nm wi cm k v ks)=false
    · rw [if_pos h3,h3];exact⟨fun h=>by simp at h,fun _=>rfl⟩
    rw [if_neg h3];have h3':bareB (.mk op ask nm wi cm k v ks)=true:=by simpa using h3
    by_cases h4:ks.length > 2
    · rw [if_pos h4]
      have h5:kidsB op ks.length=false:=by
        simp only [kidsB,Bool.or_eq_false_iff,Bool.and_eq_false_iff,decide_eq_false_iff_not];omega
      rw [h5];exact⟨fun h=>by simp at h,fun _=>rfl⟩
    rw [if_neg h4];obtain⟨e1,e2⟩:=zlx ks (n + 1) (lv + 1) (by omega) (by omega);unfold okL at e1 e2;by_cases h6:n + 1 + nodesL ks≤200∧lv + 1 + depthL ks≤21∧rightL ks=true
    · rw [e1 h6];simp only [mkE,zju];by_cases h7:kidsB op ks.length=true
      · rw [if_pos h7,h3',h7,h6.2.2];refine⟨fun _=>by rw [Nat.add_assoc],fun h=>absurd ⟨by omega,by omega,rfl⟩ h⟩
      · rw [if_neg h7];refine⟨fun h=>absurd (by have:=h.2.2;simp only [Bool.and_eq_true]at this;exact this.1.2) h7,fun _=>rfl⟩
    · have:=e2 h6
      refine⟨fun h=>absurd ⟨by omega,by omega,by have:=h.2.2;simp only [Bool.and_eq_true]at this;exact this.2⟩ h6,fun _ => ?_⟩;generalize mkL A N D O (n + 1) (lv + 1) ks=z at this;obtain⟨z1,z2⟩:=z;subst this;rfl
theorem zlx:∀ (l:List Rl) (n:Nat) (lv:Int),n≤200→lv≤21→(okL n lv l→mkL A N D O n lv l=(n + nodesL l,some (fmL A N D O l)))∧(¬ okL n lv l→(mkL A N D O n lv l).2=none)
  | [],n,lv,hn,hl=>by
    unfold okL mkL;simp only [nodesL,depthL,rightL,fmL];exact⟨fun _=>rfl,fun h=>absurd ⟨by omega,by omega,trivial⟩ h⟩
  | r::l,n,lv,hn,hl=>by
    obtain⟨a1,a2⟩:=zlu r n lv;unfold okL mkL mkC;simp only [nodesL,depthL,rightL,fmL];by_cases hr:okR n lv r
    · rw [a1 hr,if_pos rfl];have hr':=hr;unfold okR at hr';obtain⟨b1,b2⟩:=zlx l (n + nodesR r) lv (by omega) hl;unfold okL at b1 b2;by_cases h6:n + nodesR r + nodesL l≤200∧lv + depthL l≤21∧rightL l=true
      · simp only [b1 h6];refine⟨fun _=>by rw [Nat.add_assoc],fun h=>absurd ⟨by omega,by omega,by rw [hr'.2.2,h6.2.2];rfl⟩ h⟩
      · have h7:=b2 h6;refine⟨fun h=>absurd ⟨by omega,by omega,by have:=h.2.2;simp only [Bool.and_eq_true]at this;exact this.2⟩ h6,fun _ => ?_⟩;generalize mkL A N D O (n + nodesR r) lv l=z at h7;obtain⟨z1,z2⟩:=z;subst h7;rfl
    · rw [if_neg (by rw [a2 hr];simp)];refine⟨fun h=>absurd ⟨by omega,by omega,by have:=h.2.2;simp only [Bool.and_eq_true]at this;exact this.1⟩ hr,fun _=>rfl⟩
end
theorem zmy(r:Rl):(validR r=true→mkR A N D O 0 1 r=(nodesR r,fmV A N D O r,true))∧(validR r=false→(mkR A N D O 0 1 r).2.2=false):=by
 obtain⟨a,b⟩:=zlu A N D O r 0 1
 have:validR r=true↔okR 0 1 r:=by
  simp only [validR,okR,Bool.and_eq_true,decide_eq_true_eq];exact⟨fun h=>⟨by omega,by omega,h.2⟩,fun h=>⟨⟨by omega,by omega⟩,h.2.2⟩⟩
 refine⟨fun h => ?_,fun h=>b fun hh => ?_⟩
 ·have:=a (this.1 h)
  rwa [Nat.zero_add]at this
 ·rw [this.2 hh]at h;cases h
end
mutual
def shR(d:Int):Rl→Int × Int
 | .mk _ _ _ _ _ _ _ ks=>if d > 21 then (1000,1000)else shL d 1 1 ks
def shL(d n l:Int):List Rl→Int × Int
 | []=>(n,l)
 | r::rs=>if n≤200 then shL d (n + (shR (d + 1) r).1) (max l ((shR (d + 1) r).2 + 1)) rs else (n,l)
end
mutual
theorem zmx:∀ (r:Rl) (d:Int),1≤d→d≤22→1≤(shR d r).1∧(shR d r).1≤1000 + 200 * (22 - d)∧1≤(shR d r).2∧(shR d r).2≤1000 + (22 - d)
  | .mk _ _ _ _ _ _ _ ks,d,h1,h2=>by
    unfold shR;split
    · simp only;omega
    · exact znx ks d 1 1 h1 (by omega) (by omega) (by omega) (by omega) (by omega)
theorem znx:∀ (l:List Rl) (d a b:Int),1≤d→d≤21→1≤a→a≤1000 + 200 * (22 - d)→1≤b→b≤1000 + (22 - d)→1≤(shL d a b l).1∧(shL d a b l).1≤1000 + 200 * (22 - d)∧1≤(shL d a b l).2∧(shL d a b l).2≤1000 + (22 - d)
  | [],d,a,b,h1,h2,h3,h4,h5,h6=>by unfold shL;simp only;omega
  | r::rs,d,a,b,h1,h2,h3,h4,h5,h6=>by
    unfold shL
    have:=zmx r (d + 1) (by omega) (by omega)
    split
    · exact znx rs d _ _ h1 h2 (by omega) (by omega) (by omega) (by omega)
    · simp only;omega
end
end Go.Proofs.YtdjgnbkclcjiiaaGreatDoor
