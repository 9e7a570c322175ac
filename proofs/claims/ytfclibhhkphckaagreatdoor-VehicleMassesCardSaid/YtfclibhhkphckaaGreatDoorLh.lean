import Derived.Test.YtfclibhhkphckaaGreatDoorLg
set_option linter.unusedVariables false
set_option linter.unusedSimpArgs false
set_option maxRecDepth 4000
namespace Go.Proofs.YtfclibhhkphckaaGreatDoor
open Go Go.RowKit Vc
attribute [local irreducible] Go.Calls
theorem zps(l:List (List UInt8))(s:List UInt8):0≤idxOf l s↔s∈l:=by
  induction l with
  | nil=>simp [idxOf]
  | cons e r ih =>
    have:=zaq r s
    unfold idxOf;by_cases h:e=s
    · rw [if_pos h];simp [h]
    · rw [if_neg h];split
      · rename_i h2;rw [h2]at ih;simp only [List.mem_cons];constructor
        · intro h3;omega
        · rintro (rfl | h3)
          · exact (h rfl).elim
          · have:=ih.2 h3;omega
      · have:¬ s=e:=fun x=>h x.symm
        simp only [List.mem_cons,this,false_or,← ih];omega
theorem zoz{c d:UInt8}{r:List UInt8}(h:[c,d]∈signL):pSign signL (c::d::r)=some [c,d]:=by
 simp only [signL,List.mem_cons,List.cons.injEq,and_true,List.not_mem_nil,or_false,reduceCtorEq,and_false]at h;rcases h with ⟨rfl,rfl⟩ | ⟨rfl,rfl⟩ <;> rfl
theorem zqs{c:UInt8}{r:List UInt8}(h2:∀ d t,r=d::t → [c,d] ∉ signL):pSign signL (c::r)=if [c]∈signL then some [c]else none:=by
  have p1:([43,45]:List UInt8).isPrefixOf (c::r)=false:=by
    cases r with
    | nil=>simp [List.isPrefixOf]
    | cons d t =>
      have:=h2 d t rfl
      simp only [signL,List.mem_cons,List.cons.injEq,and_true,List.not_mem_nil,or_false,reduceCtorEq,and_false,not_or]at this;simp only [List.isPrefixOf,Bool.and_true,Bool.and_eq_false_iff,beq_eq_false_iff_ne];by_cases h:c=43
      · right;intro h3;exact this.1 ⟨h,h3.symm⟩
      · left;exact fun x=>h x.symm
  have p2:([46,46]:List UInt8).isPrefixOf (c::r)=false:=by
    cases r with
    | nil=>simp [List.isPrefixOf]
    | cons d t =>
      have:=h2 d t rfl
      simp only [signL,List.mem_cons,List.cons.injEq,and_true,List.not_mem_nil,or_false,reduceCtorEq,and_false,not_or]at this;simp only [List.isPrefixOf,Bool.and_true,Bool.and_eq_false_iff,beq_eq_false_iff_ne];by_cases h:c=46
      · right;intro h3;exact this.2 ⟨h,h3.symm⟩
      · left;exact fun x=>h x.symm
  have one:∀ e:UInt8,([e]:List UInt8).isPrefixOf (c::r)=decide (c=e):=fun e=>by
    simp only [List.isPrefixOf,Bool.and_true];rw [Bool.eq_iff_iff];simp only [beq_iff_eq,decide_eq_true_eq];exact eq_comm
  have go:∀ l:List UInt8,pSign (l.map fun e=>[e]) (c::r)=if c∈l then some [c]else none:=by
    intro l
    induction l with
    | nil=>rfl
    | cons e l ih =>
      rw [List.map_cons,pSign,one e,ih];by_cases h:c=e
      · simp [h]
      · simp [h]
  have e1:pSign signL (c::r)=pSign ([123,125,59,58,61,43,45,42,47,40,41].map fun e=>[e]) (c::r):=by
    unfold signL;rw [pSign,p1,if_neg (by simp),pSign,p2,if_neg (by simp)];rfl
  rw [e1,go]
  have:([c]∈signL)↔c∈([123,125,59,58,61,43,45,42,47,40,41]:List UInt8):=by
    simp [signL]
  simp only [this]
def rScan(s:List UInt8)(n:Nat):Tk :=
 let a:=runN lB s n
 if a < s.length then
  let c:=s.getD a 0
  if lD c=true then tokR s a
  else if lL c=true then
   let t:=trimR (cutL s a (runN lW s a))
   ⟨1,a,a + t.length,t,q0,if 32 < t.length then 5 else 0⟩
  else match pSign signL (s.drop a)with
   | some g=>⟨3,a,a + g.length,g,q0,0⟩
   | none=>⟨3,a,a,[],q0,5⟩
 else ⟨0,a,a,[],q0,0⟩
theorem zpz{s:List UInt8}{a j:Nat}(h1:a≤j)(h2:j < s.length):cutL s a (j + 1)=cutL s a j ++ [s.getD j 0]:=by
 unfold cutL;have e:j + 1 - a=(j - a) + 1:=by omega
 have e2:(s.drop a)[j - a]? = some (s.getD j 0):=by
  rw [List.getElem?_drop,show a + (j - a)=j by omega];simp [List.getD,h2]
 rw [e,List.take_add_one,e2];rfl
def InvR(s:List UInt8)(a b:Nat)(L:List Vl):Prop:=∃ j:Nat,L=[.i j]∧a < j∧j≤b∧trimR (cutL s a j)=trimR (cutL s a b)
def msR(L:List Vl):Nat:=match L with
 | [.i x]=>x.toNat
 | _=>0
theorem zqha{s:List UInt8}{a b:Nat}(hs:s.length < 4611686018427387904)(h1:a < b)(h2:b≤s.length)(hL:lL (s.getD a 0)=true){v:Value}
    (hv:v=tokV ⟨1,a,a + (trimR (cutL s a b)).length,trimR (cutL s a b),q0,if 32 < (trimR (cutL s a b)).length then 5 else 0⟩) :
    ∃ (Ix20:List Vc.Vl→Prop) (mx20:List Vc.Vl→Nat),Ix20 [.i ((b:Nat):Int)]∧∀ (x20:Int),Ix20 [.i x20]→(
      ∀ x21:Int,x21=IntKind.i64.wrap (x20 - 1) →
      ∀ x22:Int,x22=((s.length:Nat):Int) →
      (0≤x21) ∧
      (x21 < x22) ∧
      ∀ x23:Int,x23=(((s.getD (Int.toNat x21) 0).toNat:Nat):Int) →
      ((x23=45)→(
      ∀ x24:Int,x24=IntKind.i64.wrap (x20 - 1) →
      Ix20 [.i x24]∧mx20 [.i x24] < mx20 [.i x20]))∧(¬ (x23=45)→(
      ((0:Int)≤((a:Nat):Int)∧(((a:Nat):Int):Int)≤x20∧x20≤(List.length s:Int))∧∀ s1:List UInt8,s1=List.take (Int.toNat x20 - Int.toNat ((a:Nat):Int)) (List.drop (Int.toNat ((a:Nat):Int)) s) →
      ∀ x24:Int,x24=((s1.length:Nat):Int) →
      ((32 < x24)→(
      (.agg #[.int .i64 1,.int .i64 ((a:Nat):Int),.int .i64 x20,.string ⟨s1.toArray⟩,.int .i64 0,.int .i64 0,.int .i64 0,.int .i64 0,.int .i64 0,.int .i64 5]:Value)=v))∧(¬ (32 < x24)→(
      (.agg #[.int .i64 1,.int .i64 ((a:Nat):Int),.int .i64 x20,.string ⟨s1.toArray⟩,.int .i64 0,.int .i64 0,.int .i64 0,.int .i64 0,.int .i64 0,.int .i64 0]:Value)=v))))):=by
  refine⟨InvR s a b,msR,⟨b,rfl,h1,Nat.le_refl _,rfl⟩, ?_⟩;rintro x20 ⟨j,hy,g1,g2,g3⟩;simp only [List.cons.injEq,Vl.i.injEq,and_true]at hy;subst hy;rintro x21 rfl x22 rfl;rw [zh (by omega)];refine⟨by omega,by omega, ?_⟩;rintro x23 rfl;obtain⟨i,rfl⟩:∃ i,j=i + 1:=⟨j - 1,by omega⟩;rw [show Int.toNat (((i + 1:Nat):Int) - 1)=i by omega];have hsn:=zpz (s:=s) (a:=a) (j:=i) (by omega) (by omega);refine iteI (fun h => ?_) (fun h => ?_)
  · rintro x24 rfl;rw [hsn,zoj,if_pos (by omega)]at g3
    have hne:a≠i:=by
      rintro rfl
      have:=hL
      simp only [lL,Bool.or_eq_true,decide_eq_true_eq]at this;omega
    exact⟨⟨i,by rw [show ((i + 1:Nat):Int) - 1=(i:Int) by omega],by omega,by omega,g3⟩,by simp only [msR];omega⟩
  · have g4:trimR (cutL s a b)=cutL s a (i + 1):=by rw [← g3,hsn,zoj,if_neg (by omega)]
    have hl:(cutL s a (i + 1)).length=i + 1 - a:=zsv (by omega);refine⟨⟨by omega,by omega,by omega⟩, ?_⟩;rintro s1 rfl x24 rfl;rw [zhz,hv,g4];have hto:a + (cutL s a (i + 1)).length=i + 1:=by omega
    refine iteI (fun h => ?_) (fun h => ?_)
    · rw [if_pos (by omega),hto];simp only [tokV,q0]
    · rw [if_neg (by omega),hto];simp only [tokV,q0]
theorem zuga{w:World}{b:Nat}{t:TypeId}{l:List (List UInt8)}{n:Nat}(h:w.heap[b]? = some (.cells ((l.flatMap strV).toArray) t))(hn:l.length=n):SlAt w (.slice (some ⟨b,0,none⟩) n n) 1 (l.flatMap strV):=by
 refine .inr (.inr ⟨b,0,n,n,rfl,by rw [zm (f:=strV) (c:=1) (fun _=>rfl),hn],fun j u hj => ?_⟩);rw [Nat.zero_add];simp only [World.cell?,h];simpa using hj
def InvS(s:List UInt8)(a:Nat)(L:List Vl):Prop:=∃ n:Nat,n≤2∧L=[.i n,.i (a:Nat),.s [],.i 0,.i 0,.i 0,.s [],.i 0,.i 0,.i 0,.i 0,.i 0,.i 0] ∧
 (n < 2→∀ c d r,s.drop a=c::d::r → [c,d] ∉ signL)∧(n < 1→∀ c r,s.drop a=c::r → [c] ∉ signL)
def msS(L:List Vl):Nat:=match L with
 | .i x::_=>x.toNat
 | _=>0
theorem zaca(s:List UInt8)(n:Nat){w:World}(hn:n≤s.length)(hs:s.length < 4611686018427387904) :
  Calls Tryz.prog 119 #[.string ⟨s.toArray⟩,.int .i64 n] w (Vc.Ret (tokV (rScan s n)) w):=by
 have hR:∀ a,a=runN lB s n→rScan s n=if a < s.length then
  (if lD (s.getD a 0)=true then tokR s a
  else if lL (s.getD a 0)=true then ⟨1,a,a + (trimR (cutL s a (runN lW s a))).length,trimR (cutL s a (runN lW s a)),q0,if 32 < (trimR (cutL s a (runN lW s a))).length then 5 else 0⟩
  else match pSign signL (s.drop a)with
   | some g=>⟨3,a,a + g.length,g,q0,0⟩
   | none=>⟨3,a,a,[],q0,5⟩)else ⟨0,a,a,[],q0,0⟩:=fun a h=>by subst h;rfl
 refine zug _ s w _ ⟨InvW lB s n,msW s,⟨n,rfl,Nat.le_refl _,hn,rfl⟩, ?_⟩;rintro x1 ⟨i,hl,h1,h2,h3⟩;simp only [List.cons.injEq,Vc.Vl.i.injEq,and_true]at hl;subst hl;rintro x2 rfl;refine iteI (fun hlt => ?_) (fun hge => ?_);rotate_left
 ·have hi:i=runN lB s n:=by rw [← h3,zfi (by omega)]
  rintro x3 rfl;refine iteI (fun _ => ?_) (fun h=>by omega);rw [hR i hi,if_neg (by omega)];rfl
 have hil:i < s.length:=by omega
 rintro x3 rfl;refine⟨by omega,by omega, ?_⟩;rintro x4 rfl;simp only [Int.toNat_natCast];refine iteI (fun e => ?_) (fun e => ?_)
 ·rintro x5 rfl;exact zxm hs h1 hil h3 (by simp only [lB,decide_eq_true_eq];omega)
 rintro x5 rfl;refine⟨by omega,by omega, ?_⟩;rintro x6 rfl;refine iteI (fun e' => ?_) (fun e' => ?_)
 ·rintro x7 rfl;exact zxm hs h1 hil h3 (by simp only [lB,decide_eq_true_eq];omega)
 have hi:i=runN lB s n:=by rw [← h3,zwp hil (by simp only [lB,decide_eq_false_iff_not];omega)]
 rw [hR i hi,if_pos hil];clear hR h1 h2 h3 hi e e';rintro x7 rfl;refine iteI (fun h=>by omega) (fun _ => ?_);rintro x8 rfl;refine⟨by omega,by omega, ?_⟩;rintro x9 rfl;refine⟨_,fun w' _=>zzb _ w',iteI (fun hD => ?_) (fun hD => ?_)⟩
 ·rw [if_pos hD];exact⟨_,_,_,_,_,_,_,_,_,_,fun w' _=>zfu s i (by omega) hs w',rfl⟩
 rw [if_neg hD];rintro x10 rfl;refine⟨by omega,by omega, ?_⟩;rintro x11 rfl;refine⟨_,fun w' _=>zan _ w',iteI (fun hL => ?_) (fun hL => ?_)⟩
 ·rw [if_pos hL];refine⟨InvW lW s i,msW s,⟨i,rfl,Nat.le_refl _,by omega,rfl⟩, ?_⟩;have hwl:lW (s.getD i 0)=true:=by rw [lW,hL,Bool.true_or]
  have hgt:i < runN lW s i:=by rw [← zxp hil hwl];have:=znj lW s (i + 1);omega
  have hrl:runN lW s i≤s.length:=zbh (by omega);have fin:=zqha hs hgt hrl hL rfl;rintro x12 ⟨j,hl,g1,g2,g3⟩;simp only [List.cons.injEq,Vc.Vl.i.injEq,and_true]at hl;subst hl;rintro x13 rfl;refine iteI (fun hlt2 => ?_) (fun hge => ?_)
  ·have hj:j < s.length:=by omega
   rintro x14 rfl;refine⟨by omega,by omega, ?_⟩;rintro x15 rfl;simp only [Int.toNat_natCast];refine⟨_,fun w' _=>zan _ w',iteI (fun e => ?_) (fun e => ?_)⟩
   ·rintro x16 rfl;exact zxm hs g1 hj g3 (by rw [lW,e,Bool.true_or])
   rintro x16 rfl;refine⟨by omega,by omega, ?_⟩;rintro x17 rfl;refine⟨_,fun w' _=>zzb _ w',iteI (fun e' => ?_) (fun e' => ?_)⟩
   ·rintro x18 rfl;exact zxm hs g1 hj g3 (by rw [lW,e',Bool.true_or,Bool.or_true])
   rintro x18 rfl;refine⟨by omega,by omega, ?_⟩;rintro x19 rfl;refine iteI (fun e2 => ?_) (fun e2 => ?_)
   ·rintro x20 rfl;exact zxm hs g1 hj g3 (by rw [lW,decide_eq_true (by omega),Bool.or_true,Bool.or_true])
   have hje:j=runN lW s i:=by rw [← g3,zwp hj (by rw [lW,Bool.eq_false_iff.2 e,Bool.eq_false_iff.2 e',decide_eq_false (by omega)];rfl)]
   rw [hje];exact fin
  ·have hje:j=runN lW s i:=by rw [← g3,zfi (by omega)]
   rw [hje];exact fin
 rw [if_neg hL];have hd0:∃ c r,s.drop i=c::r:=⟨_,_,List.drop_eq_getElem_cons hil⟩;obtain⟨c0,r0,hd0⟩:=hd0;refine⟨InvS s i,msS,⟨2,by omega,rfl,fun h=>by omega,fun h=>by omega⟩, ?_⟩;rintro x12 x13 s1 x14 x15 x16 s2 x17 x18 x19 x20 x21 x22 ⟨m,hm,hl,hA,hB⟩;simp only [List.cons.injEq,Vc.Vl.i.injEq,Vc.Vl.s.injEq,and_true]at hl;obtain⟨rfl,rfl,rfl,rfl,rfl,rfl,rfl,rfl,rfl,rfl,rfl,rfl,rfl⟩:=hl;refine iteI (fun hm0 => ?_) (fun hm0 => ?_);rotate_left
 ·have hm':m=0:=by omega
  rw [hd0,zqs (fun d t ht=>hA (by omega) c0 d t (by rw [hd0,ht])),if_neg (hB (by omega) c0 r0 hd0)];rfl
 have dec:∀ x:Int,x=IntKind.i64.wrap ((m:Int) - 1)→x=((m - 1:Nat):Int):=fun x hx=>by rw [hx,zh (by omega)];omega
 rintro x23 rfl x24 rfl;rw [zh (by omega)];refine iteI (fun hle => ?_) (fun hle => ?_);rotate_left
 ·rintro x25 hx;rw [dec _ hx];have hlen:(s.drop i).length < m:=by rw [List.length_drop];omega
  refine⟨⟨m - 1,by omega,rfl,fun _ c d r hq => ?_,fun h1 c r hq => ?_⟩,by simp only [msS];omega⟩
  ·rw [hq]at hlen;simp at hlen;omega
  ·rw [hq]at hlen;simp at hlen;omega
 rintro x25 rfl;rw [zh (by omega)];refine⟨⟨by omega,by omega,by omega⟩, ?_⟩;rintro s3 rfl
 have hcut:List.take (Int.toNat ((i:Int) + (m:Int)) - i) (List.drop i s)=(s.drop i).take m:=by
  rw [show Int.toNat ((i:Int) + (m:Int))=i + m by omega,Nat.add_sub_cancel_left]
 refine⟨idxOf signL ((s.drop i).take m),fun β w' hb hm' => ?_,iteI (fun hx => ?_) (fun hx => ?_)⟩
 ·rw [hcut];exact zjz signL _ (zuga (l:=signL) hm'.1.2 rfl) (by decide)
 ·rw [zps]at hx;rintro x27 rfl;refine⟨⟨by omega,by omega,by omega⟩, ?_⟩;rintro s4 rfl;rw [hcut];have hll:((s.drop i).take m).length=m:=by rw [List.length_take,List.length_drop];omega
  have hps:pSign signL (s.drop i)=some ((s.drop i).take m):=by
   rcases (show m=1∨m=2 by omega)with rfl | rfl
   ·rw [hd0]at hx ⊢;rw [zqs (fun d t ht=>hA (by omega) c0 d t (by rw [hd0,ht]))];exact if_pos hx
   ·obtain⟨c,d,r,hq⟩:∃ c d r,s.drop i=c::d::r:=by
     have h2:2≤(s.drop i).length:=by rw [List.length_drop];omega
     match hq:s.drop i with
     | []=>rw [hq]at h2;simp at h2
     | [c]=>rw [hq]at h2;simp at h2
     | c::d::r=>exact⟨c,d,r,rfl⟩
    rw [hq]at hx ⊢;exact zoz hx
  rw [hps];simp only [tokV,q0,hll,Int.natCast_add]
 ·rintro x27 hx2;rw [show x27=((m - 1:Nat):Int) by omega];rw [zps]at hx;refine⟨⟨m - 1,by omega,rfl,fun h2 c d r hq => ?_,fun h1 c r hq => ?_⟩,by simp only [msS];omega⟩
  ·rcases (show m=1∨m=2 by omega)with rfl | rfl
   ·exact hA (by omega) c d r hq
   ·rw [hq]at hx;exact hx
  ·obtain rfl:m=1:=by omega
   rw [hq]at hx;exact hx
theorem zqz(s:List UInt8)(n:Nat):(rScan s n).kind=(pScan s n).kind∧(rScan s n).fr=(pScan s n).fr∧(rScan s n).to=(pScan s n).to∧(rScan s n).text=(pScan s n).text∧((pScan s n).kind≠2→rScan s n=pScan s n):=by
 unfold rScan pScan;simp only [];by_cases h:runN lB s n < s.length
 ·rw [if_pos h,if_pos h];by_cases hD:lD (s.getD (runN lB s n) 0)=true
  ·have hL:¬ lL (s.getD (runN lB s n) 0)=true:=by
    have:=(zjk _).1 hD
    simp only [lL,Bool.or_eq_true,decide_eq_true_eq];omega
   rw [if_pos hD,if_neg hL,if_pos hD];exact⟨rfl,rfl,rfl,rfl,fun h=>(h rfl).elim⟩
  ·rw [if_neg hD,if_neg hD];exact⟨rfl,rfl,rfl,rfl,fun _=>rfl⟩
 ·rw [if_neg h,if_neg h];exact⟨rfl,rfl,rfl,rfl,fun _=>rfl⟩
theorem zbn(s:List UInt8)(hs:s.length < 4611686018427387904)(w:World):Calls Tryz.prog 85 #[.string ⟨s.toArray⟩] w (Vc.Ret (.bool (pNamed s)) w):=by
 refine zvg s w _ ⟨_,_,_,_,_,_,_,_,_,_,fun w' hb=>zaca s 0 (Nat.zero_le _) hs, ?_⟩;obtain⟨t1,t2,t3,t4,t5⟩:=zqz s 0;unfold pNamed;rw [t1];refine iteI (fun h1 => ?_) (fun h1 => ?_);rotate_left
 ·rw [decide_eq_false (by omega),Bool.false_and]
 rw [t5 (by omega)];generalize pScan s 0=t at h1 ⊢;refine iteI (fun h2=>iteI (fun h3 => ?_) (fun h3 => ?_)) (fun h2 => ?_)
 ·rintro x9 rfl;refine iteI (fun h4=>⟨_,fun w' hb=>zbq s w', ?_⟩) (fun h4 => ?_)
  ·rw [decide_eq_true ⟨h1,h2,by omega,by omega⟩,Bool.true_and]
  ·rw [decide_eq_false (by omega),Bool.false_and]
 all_goals rw [decide_eq_false (by omega),Bool.false_and]
end Go.Proofs.YtfclibhhkphckaaGreatDoor
