import Derived.Test.YtdjgnbkclcjiiaaGreatDoorVcU
section
set_option linter.unusedVariables false
set_option linter.unusedSimpArgs false
namespace Vc
open Go Go.RowKit
theorem iteI{p A B:Prop}(a:p→A)(b:¬ p→B):(p→A)∧(¬ p→B):=⟨a,b⟩
theorem Ret.as{P:Program}{f:FuncId}{args:Array Value}{W:World}{u v:Value}(h:Calls P f args W (Ret u W))(e:u=v):Calls P f args W (Ret v W):=e▸h
theorem zwa{a a':Bool}(h:a=a'):Value.bool a=.bool a':=by rw [h]
theorem zxk{α:Type}{f:α→List Value}{c:Nat}(hf:∀ a,(f a).length=c):∀ l:List α,(l.flatMap f).length=l.length * c
 | []=>by simp
 | a::l=>by rw [List.flatMap_cons,List.length_append,hf,zxk hf l,List.length_cons,Nat.add_mul];omega
theorem zgf{α:Type}{f:α→List Value}{c:Nat}(hf:∀ a,(f a).length=c):∀ {ps:List α} {i:Nat} {q:α} {o:Nat},ps[i]? = some q→o < c→(ps.flatMap f)[i * c + o]? = (f q)[o]?
  | [],i,q,o,h,_=>by simp at h
  | p::ps,i,q,o,h,ho=>by
    rw [List.flatMap_cons];cases i with
    | zero =>
      simp only [List.getElem?_cons_zero,Option.some.injEq]at h;subst h;rw [List.getElem?_append_left (by rw [hf];omega)];simp
    | succ i =>
      have hm:(i + 1) * c=i * c + c:=Nat.succ_mul i c;rw [List.getElem?_append_right (by rw [hf];omega),← zgf hf (ps:=ps) (i:=i) (by simpa using h) ho];congr 1;rw [hf];omega
theorem zyba{v:Value}{sz n:Nat}{xs:List Value}{w:World}(h:SlAt w v sz xs)(hz:0 < sz)(hn:xs.length=n * sz) :
  ∃ (b0:Bool) (p0:Nat × Nat) (x1:Int),v=(if b0=true then .slice none 0 0 else .slice (some (Vc.qad p0 (Int.toNat (n:Int)) (Int.toNat x1))) (Int.toNat (n:Int)) (Int.toNat x1))∧(b0=true→n=0)∧∀ j u,xs[j]? = some u→w.cell? ⟨p0.1,p0.2 + j,none⟩=some u:=by
 have empty:xs=[]→n=0:=fun h2=>by
  rw [h2]at hn;rcases Nat.mul_eq_zero.1 hn.symm with h | h <;> omega
 have weird:∀ a,v=.slice (some a) 0 0→xs=[]→∃ (b0:Bool) (p0:Nat × Nat) (x1:Int),v=(if b0=true then .slice none 0 0 else .slice (some (Vc.qad p0 (Int.toNat (n:Int)) (Int.toNat x1))) (Int.toNat (n:Int)) (Int.toNat x1))∧(b0=true→n=0)∧∀ j u,xs[j]? = some u→w.cell? ⟨p0.1,p0.2 + j,none⟩=some u:=fun a h1 h2=>by
  obtain⟨p,hp⟩:=zfba a;have h0:=empty h2;subst h0;refine⟨false,p,0, ?_,fun h=>(by cases h),fun j u hj=>(by rw [h2]at hj;simp at hj)⟩;rw [if_neg (by decide),show Int.toNat ((0:Nat):Int)=0 from rfl,show Int.toNat (0:Int)=0 from rfl,hp];exact h1
 rcases h with ⟨h1,h2⟩ | ⟨a,h1,h2⟩ | ⟨b,o,len,cap,h1,h2,h3⟩
 ·exact⟨true,(0,0),0,(by rw [if_pos rfl];exact h1),fun _=>empty h2,fun j u hj=>(by rw [h2]at hj;simp at hj)⟩
 ·exact weird a h1 h2
 ·have hl:len=n:=Nat.eq_of_mul_eq_mul_right hz (by rw [← h2,hn]);subst hl;by_cases h0:len=0∧cap=0
  ·obtain⟨rfl,rfl⟩:=h0;exact weird _ h1 (List.eq_nil_of_length_eq_zero (by rw [h2];omega))
  ·refine⟨false,(b,o),(cap:Int), ?_,fun h=>(by cases h),h3⟩;rw [if_neg (by decide),zal (by omega)];exact h1
theorem zug{v:Value}{sz:Nat}{xs:List Value}{w w':World}(hb:Below w.heap.size w w')(h:SlAt w v sz xs):SlAt w' v sz xs:=by
 rcases h with h | h | ⟨b,o,len,cap,h1,h2,h3⟩
 ·exact .inl h
 ·exact .inr (.inl h)
 ·refine .inr (.inr ⟨b,o,len,cap,h1,h2,fun j u hj=>by
   have:=h3 j u hj
   rw [hb.cell (World.block_lt_of_cell? _ _ this)];exact this⟩)
end Vc
end
section
set_option linter.unusedVariables false
set_option linter.unusedSimpArgs false
namespace Go.Proofs.YtdjgnbkclcjiiaaGreatDoor
open Go Go.RowKit Vc
inductive Rl where
 | mk (op ask:Int) (nm:List UInt8) (wi cm n:Int) (v:Value) (ks:List Rl)
def Rl.op:Rl→Int | .mk a _ _ _ _ _ _ _=>a
def Rl.ask:Rl→Int | .mk _ a _ _ _ _ _ _=>a
def Rl.nm:Rl→List UInt8 | .mk _ _ a _ _ _ _ _=>a
def Rl.wi:Rl→Int | .mk _ _ _ a _ _ _ _=>a
def Rl.cm:Rl→Int | .mk _ _ _ _ a _ _ _=>a
def Rl.n:Rl→Int | .mk _ _ _ _ _ a _ _=>a
def Rl.v:Rl→Value | .mk _ _ _ _ _ _ a _=>a
def Rl.ks:Rl→List Rl | .mk _ _ _ _ _ _ _ a=>a
def rlc(r:Rl):List Value := [.int .i64 r.op,.int .i64 r.ask,.string ⟨r.nm.toArray⟩,.int .i64 r.wi,.int .i64 r.cm,.int .i64 r.n,r.v]
theorem zhf(r:Rl):(rlc r).length=7:=rfl
def RV7(r:Rl):Value := .agg #[.int .i64 r.op,.int .i64 r.ask,.string ⟨r.nm.toArray⟩,.int .i64 r.wi,.int .i64 r.cm,.int .i64 r.n,r.v]
mutual
def nodesR:Rl→Nat | .mk _ _ _ _ _ _ _ ks=>1 + nodesL ks
def nodesL:List Rl→Nat | []=>0 | r::l=>nodesR r + nodesL l
end
mutual
def depthR:Rl→Nat | .mk _ _ _ _ _ _ _ ks=>1 + depthL ks
def depthL:List Rl→Nat | []=>0 | r::l=>max (depthR r) (depthL l)
end
theorem zuw(r:Rl):1≤depthR r:=by cases r;simp only [depthR];omega
theorem zcb(r:Rl):1≤nodesR r:=by cases r;simp only [nodesR];omega
mutual
def RlAt(w:World):Rl→Prop | .mk _ _ _ _ _ _ v ks=>SlAt w v 7 (ks.flatMap rlc)∧RlAtL w ks
def RlAtL(w:World):List Rl→Prop | []=>True | r::l=>RlAt w r∧RlAtL w l
end
theorem zm{w:World}{r:Rl}(h:RlAt w r):SlAt w r.v 7 (r.ks.flatMap rlc)∧RlAtL w r.ks:=by cases r;simpa only [RlAt,Rl.v,Rl.ks]using h
theorem zva{w:World}:∀ {l:List Rl},RlAtL w l→∀ r∈l,RlAt w r
  | a::l,h,r,hr=>by
    simp only [RlAtL]at h;rcases List.mem_cons.1 hr with rfl | hr
    · exact h.1
    · exact zva h.2 r hr
mutual
theorem RlAt.below{w w':World}(hb:Below w.heap.size w w'):∀ {r:Rl},RlAt w r→RlAt w' r
  | .mk _ _ _ _ _ _ v ks,h=>by
    simp only [RlAt]at h ⊢;exact⟨zug hb h.1,RlAtL.below hb h.2⟩
theorem RlAtL.below{w w':World}(hb:Below w.heap.size w w'):∀ {l:List Rl},RlAtL w l→RlAtL w' l
  | [],h=>trivial
  | r::l,h=>by
    simp only [RlAtL]at h ⊢;exact⟨RlAt.below hb h.1,RlAtL.below hb h.2⟩
end
mutual
def RlSz:Rl→Prop | .mk _ _ nm _ _ _ _ ks=>nm.length < 4611686018427387904∧ks.length < 4611686018427387904∧RlSzL ks
def RlSzL:List Rl→Prop | []=>True | r::l=>RlSz r∧RlSzL l
end
theorem zdg:∀ {l:List Rl},RlSzL l→∀ r∈l,RlSz r
  | a::l,h,r,hr=>by
    simp only [RlSzL]at h;rcases List.mem_cons.1 hr with rfl | hr
    · exact h.1
    · exact zdg h.2 r hr
def letB(c:UInt8):Bool:=decide (97≤c.toNat) && decide (c.toNat≤122)
def digB(c:UInt8):Bool:=decide (48≤c.toNat) && decide (c.toNat≤57)
def markB(c:UInt8):Bool:=letB c || digB c || decide (c.toNat=45)
def wMost:List UInt8 := [109,111,115,116]
def wLeast:List UInt8 := [108,101,97,115,116]
def nameB(s:List UInt8):Bool:=decide (1≤s.length) && decide (s.length≤32) && (match s with | c::_=>letB c | []=>false) && !decide (s=wMost) && !decide (s=wLeast) && s.all markB
def inB(n lo hi:Int):Bool:=decide (lo≤n) && decide (n≤hi)
def atomB(r:Rl):Bool:=inB r.ask 0 2 && nameB r.nm && inB r.wi 0 1000 && (!decide (r.ask=0) || decide (r.wi=0)) && inB r.cm 0 5 && inB r.n (-1073741824) 1073741824 && decide (r.ks.length=0)
def bareB(r:Rl):Bool:=decide (r.ask=0) && decide (r.nm=[]) && decide (r.wi=0) && decide (r.cm=0) && decide (r.n=0)
def kidsB(op:Int)(n:Nat):Bool:=(decide (op=2) && decide (n=1)) || ((decide (op=3) || decide (op=4)) && decide (n=2))
mutual
def rightR:Rl→Bool | .mk op ask nm wi cm n v ks=>if op=1 then atomB (.mk op ask nm wi cm n v ks)else bareB (.mk op ask nm wi cm n v ks) && kidsB op ks.length && rightL ks
def rightL:List Rl→Bool | []=>true | r::l=>rightR r && rightL l
end
def validR(r:Rl):Bool:=decide (nodesR r≤200) && decide (depthR r≤20) && rightR r
def fmK(N D O:TypeId)(op:Int):List Value→Value
 | [a]=>.iface N (.agg #[a])
 | [a,b]=>.iface (if op=3 then D else O) (.agg #[a,b])
 | _=>.nilIface
mutual
def fmV(A N D O:TypeId):Rl→Value
 | .mk op ask nm wi cm n v ks=>if op=1 then .iface A (RV7 (.mk op ask nm wi cm n v ks))else fmK N D O op (fmL A N D O ks)
def fmL(A N D O:TypeId):List Rl→List Value
 | []=>[]
 | r::l=>fmV A N D O r::fmL A N D O l
end
section
variable (A N D O:TypeId)
def mkE(op:Int):Nat × Option (List Value)→Nat × Value × Bool
 | (n,none)=>(n,.nilIface,false)
 | (n,some vs)=>if kidsB op vs.length=true then (n,fmK N D O op vs,true)else (n,.nilIface,false)
def mkC(a:Nat × Value × Bool)(k:Nat→Nat × Option (List Value)):Nat × Option (List Value) :=
 if a.2.2=true then (match k a.1 with
  | (n,none)=>(n,none)
  | (n,some vs)=>(n,some (a.2.1::vs)))else (a.1,none)
mutual
def mkR(n:Nat)(lv:Int):Rl→Nat × Value × Bool
  | .mk op ask nm wi cm k v ks =>
    if n + 1 > 200∨lv > 20 then (n + 1,.nilIface,false)
    else if op=1 then (n + 1,.iface A (RV7 (.mk op ask nm wi cm k v ks)),atomB (.mk op ask nm wi cm k v ks))
    else if bareB (.mk op ask nm wi cm k v ks)=false then (n + 1,.nilIface,false)
    else if ks.length > 2 then (n + 1,.nilIface,false)
    else mkE N D O op (mkL (n + 1) (lv + 1) ks)
def mkL(n:Nat)(lv:Int):List Rl→Nat × Option (List Value)
 | []=>(n,some [])
 | r::l=>mkC (mkR n lv r) (fun n=>mkL n lv l)
end
end
end Go.Proofs.YtdjgnbkclcjiiaaGreatDoor
end
section
set_option linter.unusedVariables false
set_option linter.unusedSimpArgs false
namespace Go.Proofs.YtdjgnbkclcjiiaaGreatDoor
open Go Go.RowKit Vc
section
variable (A N D O:TypeId)
def okR(n:Nat)(lv:Int)(r:Rl):Prop:=n + nodesR r≤200∧lv + depthR r≤21∧rightR r=true
def okL(n:Nat)(lv:Int)(l:List Rl):Prop:=n + nodesL l≤200∧lv + depthL l≤21∧rightL l=true
theorem zvw:∀ l:List Rl,(fmL A N D O l).length=l.length
 | []=>rfl
 | r::l=>by simp only [fmL,List.length_cons,zvw l]
theorem zww{op ask:Int}{nm:List UInt8}{wi cm k:Int}{v:Value}{ks:List Rl}(h:atomB (.mk op ask nm wi cm k v ks)=true):ks=[]:=by
 simp only [atomB,Rl.ks,Bool.and_eq_true,decide_eq_true_eq]at h;exact List.length_eq_zero_iff.1 (of_decide_eq_true h.2)
mutual
theorem zxw:∀ (r:Rl) (n:Nat) (lv:Int),(okR n lv r→mkR A N D O n lv r=(n + nodesR r,fmV A N D O r,true))∧(¬ okR n lv r→(mkR A N D O n lv r).2.2=false)
  | .mk op ask nm wi cm k v ks,n,lv=>by
    unfold okR mkR fmV;simp only [nodesR,depthR,rightR];by_cases h1:n + 1 > 200∨lv > 20
    · rw [if_pos h1];exact⟨fun h=>by omega,fun _=>rfl⟩
    rw [if_neg h1];by_cases h2:op=1
    · rw [if_pos h2,if_pos h2,if_pos h2];refine⟨fun h => ?_,fun h => ?_⟩
      · have hk:=zww h.2.2;subst hk;rw [h.2.2];simp only [nodesL]
      · by_cases ha:atomB (.mk op ask nm wi cm k v ks)=true
        · have hk:=zww ha;subst hk;exfalso;refine h ⟨?_, ?_,ha⟩
          · simp only [nodesL];omega
          · simp only [depthL];omega
        · simpa using ha
    rw [if_neg h2,if_neg h2,if_neg h2];by_cases h3:bareB (.mk op ask nm wi cm k v ks)=false
    · rw [if_pos h3,h3];exact⟨fun h=>by simp at h,fun _=>rfl⟩
    rw [if_neg h3];have h3':bareB (.mk op ask nm wi cm k v ks)=true:=by simpa using h3
    by_cases h4:ks.length > 2
    · rw [if_pos h4]
      have h5:kidsB op ks.length=false:=by
        simp only [kidsB,Bool.or_eq_false_iff,Bool.and_eq_false_iff,decide_eq_false_iff_not];omega
      rw [h5];exact⟨fun h=>by simp at h,fun _=>rfl⟩
    rw [if_neg h4];obtain⟨e1,e2⟩:=zpaa ks (n + 1) (lv + 1) (by omega) (by omega);unfold okL at e1 e2;by_cases h6:n + 1 + nodesL ks≤200∧lv + 1 + depthL ks≤21∧rightL ks=true
    · rw [e1 h6];simp only [mkE,zvw];by_cases h7:kidsB op ks.length=true
      · rw [if_pos h7,h3',h7,h6.2.2];refine⟨fun _=>by rw [Nat.add_assoc],fun h=>absurd ⟨by omega,by omega,rfl⟩ h⟩
      · rw [if_neg h7];refine⟨fun h=>absurd (by have:=h.2.2;simp only [Bool.and_eq_true]at this;exact this.1.2) h7,fun _=>rfl⟩
    · have:=e2 h6
      refine⟨fun h=>absurd ⟨by omega,by omega,by have:=h.2.2;simp only [Bool.and_eq_true]at this;exact this.2⟩ h6,fun _ => ?_⟩;generalize mkL A N D O (n + 1) (lv + 1) ks=z at this;obtain⟨z1,z2⟩:=z;subst this;rfl
theorem zpaa:∀ (l:List Rl) (n:Nat) (lv:Int),n≤200→lv≤21→(okL n lv l→mkL A N D O n lv l=(n + nodesL l,some (fmL A N D O l)))∧(¬ okL n lv l→(mkL A N D O n lv l).2=none)
  | [],n,lv,hn,hl=>by
    unfold okL mkL;simp only [nodesL,depthL,rightL,fmL];exact⟨fun _=>rfl,fun h=>absurd ⟨by omega,by omega,trivial⟩ h⟩
  | r::l,n,lv,hn,hl=>by
    obtain⟨a1,a2⟩:=zxw r n lv;unfold okL mkL mkC;simp only [nodesL,depthL,rightL,fmL];by_cases hr:okR n lv r
    · rw [a1 hr,if_pos rfl];have hr':=hr;unfold okR at hr';obtain⟨b1,b2⟩:=zpaa l (n + nodesR r) lv (by omega) hl;unfold okL at b1 b2;by_cases h6:n + nodesR r + nodesL l≤200∧lv + depthL l≤21∧rightL l=true
      · simp only [b1 h6];refine⟨fun _=>by rw [Nat.add_assoc],fun h=>absurd ⟨by omega,by omega,by rw [hr'.2.2,h6.2.2];rfl⟩ h⟩
      · have h7:=b2 h6;refine⟨fun h=>absurd ⟨by omega,by omega,by have:=h.2.2;simp only [Bool.and_eq_true]at this;exact this.2⟩ h6,fun _ => ?_⟩;generalize mkL A N D O (n + nodesR r) lv l=z at h7;obtain⟨z1,z2⟩:=z;subst h7;rfl
    · rw [if_neg (by rw [a2 hr];simp)];refine⟨fun h=>absurd ⟨by omega,by omega,by have:=h.2.2;simp only [Bool.and_eq_true]at this;exact this.1⟩ hr,fun _=>rfl⟩
end
theorem zzba(r:Rl):(validR r=true→mkR A N D O 0 1 r=(nodesR r,fmV A N D O r,true))∧(validR r=false→(mkR A N D O 0 1 r).2.2=false):=by
 obtain⟨a,b⟩:=zxw A N D O r 0 1
 have:validR r=true↔okR 0 1 r:=by
  simp only [validR,okR,Bool.and_eq_true,decide_eq_true_eq];exact⟨fun h=>⟨by omega,by omega,h.2⟩,fun h=>⟨⟨by omega,by omega⟩,h.2.2⟩⟩
 refine⟨fun h => ?_,fun h=>b fun hh => ?_⟩
 ·have:=a (this.1 h)
  rwa [Nat.zero_add]at this
 ·rw [this.2 hh]at h;cases h
end
mutual
def shR(d:Int):Rl→Int × Int
 | .mk _ _ _ _ _ _ _ ks=>if d > 21 then (1000,1000)else shL d 1 1 ks
def shL(d n l:Int):List Rl→Int × Int
 | []=>(n,l)
 | r::rs=>if n≤200 then shL d (n + (shR (d + 1) r).1) (max l ((shR (d + 1) r).2 + 1)) rs else (n,l)
end
mutual
theorem zut:∀ (r:Rl) (d:Int),1≤d→d≤22→1≤(shR d r).1∧(shR d r).1≤1000 + 200 * (22 - d)∧1≤(shR d r).2∧(shR d r).2≤1000 + (22 - d)
  | .mk _ _ _ _ _ _ _ ks,d,h1,h2=>by
    unfold shR;split
    · simp only;omega
    · exact zqaa ks d 1 1 h1 (by omega) (by omega) (by omega) (by omega) (by omega)
theorem zqaa:∀ (l:List Rl) (d a b:Int),1≤d→d≤21→1≤a→a≤1000 + 200 * (22 - d)→1≤b→b≤1000 + (22 - d)→1≤(shL d a b l).1∧(shL d a b l).1≤1000 + 200 * (22 - d)∧1≤(shL d a b l).2∧(shL d a b l).2≤1000 + (22 - d)
  | [],d,a,b,h1,h2,h3,h4,h5,h6=>by unfold shL;simp only;omega
  | r::rs,d,a,b,h1,h2,h3,h4,h5,h6=>by
    unfold shL
    have:=zut r (d + 1) (by omega) (by omega)
    split
    · exact zqaa rs d _ _ h1 h2 (by omega) (by omega) (by omega) (by omega)
    · simp only;omega
end
mutual
theorem zraa:∀ (r:Rl) (d:Int),1≤d→d≤22→((nodesR r≤200∧d + depthR r≤22)→shR d r=(((nodesR r:Nat):Int),((depthR r:Nat):Int)))∧(¬ (nodesR r≤200∧d + depthR r≤22)→200 < (shR d r).1∨22≤d + (shR d r).2 - 1 + 1∧1000≤(shR d r).2)
  | .mk _ _ _ _ _ _ _ ks,d,h1,h2=>by
    unfold shR;simp only [nodesR,depthR];by_cases hd:d > 21
    · rw [if_pos hd];refine⟨fun h => ?_,fun _=>.inl (by omega)⟩;omega
    rw [if_neg hd];obtain⟨a,b⟩:=zsaa ks d 1 1 h1 (by omega) (by omega) (by omega);refine⟨fun h => ?_,fun h => ?_⟩
    · rw [a (by omega)];by_cases hks:ks=[]
      · subst hks;simp [nodesL,depthL]
      · rw [if_neg hks];refine Prod.ext ?_ ?_ <;> simp only <;> omega
    · rcases b (by omega)with b | b
      · exact .inl b
      · exact .inr (by omega)
theorem zsaa:∀ (l:List Rl) (d a b:Int),1≤d→d≤21→1≤a→1≤b→((a + nodesL l≤200∧d + 1 + depthL l≤22)→shL d a b l=(a + (nodesL l:Nat),max b (if l=[]then b else (depthL l:Nat) + 1)))∧(¬ (a + nodesL l≤200∧d + 1 + depthL l≤22)→200 < (shL d a b l).1∨1000≤(shL d a b l).2)
  | [],d,a,b,h1,h2,h3,h4=>by
    unfold shL;simp only [nodesL,depthL];refine⟨fun h => ?_,fun h=>.inl (by omega)⟩;simp
  | r::rs,d,a,b,h1,h2,h3,h4=>by
    unfold shL;simp only [nodesL,depthL];by_cases ha:a≤200
    · rw [if_pos ha];obtain⟨p1,p2⟩:=zraa r (d + 1) (by omega) (by omega);have q:=zut r (d + 1) (by omega) (by omega);obtain⟨u,v⟩:=zsaa rs d (a + (shR (d + 1) r).1) (max b ((shR (d + 1) r).2 + 1)) h1 h2 (by omega) (by omega);refine⟨fun h => ?_,fun h => ?_⟩
      · rw [p1 (by omega)]at u ⊢;rw [u (by simp only;omega)]
        have:=zuw r
        refine Prod.ext ?_ ?_
        · simp only;omega
        · simp only;by_cases hr:rs=[]
          · subst hr;simp [depthL]
          · rw [if_neg hr,if_neg (by simp)];omega
      · have mono:=zvt rs d (a + (shR (d + 1) r).1) (max b ((shR (d + 1) r).2 + 1)) h1 h2;by_cases hr:nodesR r≤200∧d + 1 + depthR r≤22
        · rw [p1 hr]at v ⊢;exact v (by simp only;omega)
        · rcases p2 hr with p2 | p2
          · exact .inl (by omega)
          · exact .inr (by omega)
    · rw [if_neg ha];exact⟨fun h=>by omega,fun _=>.inl (by simp only;omega)⟩
theorem zvt:∀ (l:List Rl) (d a b:Int),1≤d→d≤21→a≤(shL d a b l).1∧b≤(shL d a b l).2
  | [],d,a,b,h1,h2=>by unfold shL;simp
  | r::rs,d,a,b,h1,h2=>by
    unfold shL;have q:=zut r (d + 1) (by omega) (by omega);split
    · have:=zvt rs d (a + (shR (d + 1) r).1) (max b ((shR (d + 1) r).2 + 1)) h1 h2
      omega
    · simp
end
theorem zfz(r:Rl):(decide ((shR 1 r).1≤200) && decide ((shR 1 r).2≤20))=(decide (nodesR r≤200) && decide (depthR r≤20)):=by
 obtain⟨a,b⟩:=zraa r 1 (by omega) (by omega);rw [Bool.eq_iff_iff];simp only [Bool.and_eq_true,decide_eq_true_eq];by_cases h:nodesR r≤200∧(1:Int) + depthR r≤22
 ·rw [a h];simp only;omega
 ·have:=b h
  omega
end Go.Proofs.YtdjgnbkclcjiiaaGreatDoor
end
section
set_option linter.unusedVariables false
set_option linter.unusedSimpArgs false
namespace Go.Proofs.YtdjgnbkclcjiiaaGreatDoor
open Go Go.RowKit Vc
def cmpB(c a b:Int):Bool:=if c=0 then decide (a < b)else if c=1 then decide (a≤b)else if c=2 then decide (a > b)else if c=3 then decide (a ≥ b)else if c=4 then decide (a=b)else decide (a≠b)
structure Sn where
 nm:List UInt8
 (t v:Int)
def snc(s:Sn):List Value := [.string ⟨s.nm.toArray⟩,.int .i64 s.t,.int .i64 s.v]
def lastT(l:List Sn)(nm:List UInt8):Int:=l.foldl (fun a s=>if s.nm=nm then s.t else a) 0
def gapsB(fresh:Int):List Sn→Bool
 | a::b::l=>decide (b.t - a.t≤fresh) && gapsB fresh (b::l)
 | _=>true
def endT(l:List Sn):Int:=match l.getLast? with
 | some x=>x.t
 | none=>0
end Go.Proofs.YtdjgnbkclcjiiaaGreatDoor
end
section
set_option linter.unusedVariables false
set_option linter.unusedSimpArgs false
namespace Go.Proofs.YtdjgnbkclcjiiaaGreatDoor
open Go Go.RowKit Vc
def nilV:Value := .slice none 0 0
def nR(a:Rl):Rl := .mk 2 0 [] 0 0 0 nilV [a]
def aR(a b:Rl):Rl := .mk 3 0 [] 0 0 0 nilV [a,b]
end Go.Proofs.YtdjgnbkclcjiiaaGreatDoor
end
