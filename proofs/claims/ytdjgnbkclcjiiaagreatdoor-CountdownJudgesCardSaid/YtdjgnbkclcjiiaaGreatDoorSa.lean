import Derived.Test.YtdjgnbkclcjiiaaGreatDoorRx
import Derived.Test.YtdjgnbkclcjiiaaGreatDoorRw
import Derived.Test.YtdjgnbkclcjiiaaGreatDoorM3
set_option linter.unusedVariables false
set_option linter.unusedSimpArgs false
set_option maxRecDepth 4000
namespace Go.Proofs.YtdjgnbkclcjiiaaGreatDoor
open Go Go.RowKit Go.Proofs Wk
open Vc (SlAt OV iteI Vl zrb zc)
theorem zpb{w:World}{v:Value}{l:List Sn}(h:SlAt w v 3 (l.flatMap snc)):∃ (b0:Bool) (p0:Nat × Nat) (x1:Int),v=(if b0=true then .slice none 0 0 else .slice (some (Vc.qad p0 (Int.toNat (l.length:Int)) (Int.toNat x1))) (Int.toNat (l.length:Int)) (Int.toNat x1))∧(b0=true→l.length=0) ∧
  (∀ (i:Nat) (z:Sn),l[i]? = some z→w.cell? ⟨p0.1,p0.2 + i * 3 + 0,none⟩=some (.string ⟨z.nm.toArray⟩)∧w.cell? ⟨p0.1,p0.2 + i * 3 + 1,none⟩=some (.int .i64 z.t)∧w.cell? ⟨p0.1,p0.2 + i * 3 + 2,none⟩=some (.int .i64 z.v)):=by
 obtain⟨b0,p0,x1,h1,h2,h3⟩:=Vc.zbv h (by decide) (Vc.zia zf l);refine⟨b0,p0,x1,h1,h2,fun i p hp => ?_⟩;simp only [Nat.add_assoc];exact⟨h3 (i * 3 + 0) _ (Vc.zi zf hp (by decide)),h3 (i * 3 + 1) _ (Vc.zi zf hp (by decide)),h3 (i * 3 + 2) _ (Vc.zi zf hp (by decide))⟩
def msO(n:Nat):List Vl→Nat | [_,.i a]=>n - a.toNat | _=>0
theorem zkv(l:List Sn)(nm:List UInt8)(now:Int){i:Nat}{z:Sn}(h:l[i]? = some z):sampL (l.take (i + 1)) nm now=sampL (l.take i) nm now++(if z.nm=nm∧z.t≤now then [z]else []):=by
 unfold sampL;rw [List.take_add_one,h,List.filter_append];congr 1;simp only [Option.toList_some,List.filter_cons,List.filter_nil,Bool.and_eq_true,decide_eq_true_eq]
theorem zix{w:World}{v:Value}{l:List Sn}(nm:List UInt8)(now:Int)(h:SlAt w v 3 (l.flatMap snc))(hn:l.length≤1000) :
  Calls Tryz.prog 155 #[v,.string ⟨nm.toArray⟩,.int .i64 now] w (fun e w'=>∃ u,e=.returned u∧Below w.heap.size w w'∧((fun _:Value=>False) u∨∃ b c n a,u=Vc.ownV b c n a∧Vc.RowOk w.heap.size b c n a ((sampL l nm now).flatMap snc) 3 61 w')):=by
 obtain⟨b0,p0,c0,e0,f0,g0⟩:=zpb h;have hno:=zsb f0;rw [e0]
 refine zqe p0 (l.length:Nat) c0 now b0 nm w (fun _=>False) (fun w' u=>∃ b c n a,u=Vc.ownV b c n a∧Vc.RowOk w.heap.size b c n a ((sampL l nm now).flatMap snc) 3 61 w')
  ⟨fun L=>∃ i:Nat,L=[.l ((sampL (l.take i) nm now).flatMap snc),.i i]∧i≤l.length,msO l.length,⟨0,by simp [sampL],Nat.zero_le _⟩, ?_⟩
 rintro l0 x3 ⟨i,hy,hi⟩;simp only [List.cons.injEq,Vl.i.injEq,Vl.l.injEq,and_true]at hy;obtain⟨hL,rfl⟩:=hy
 have hlen:l0.length≤3000:=by
  have h1:=congrArg List.length hL;rw [Vc.zia zf]at h1;simp only [List.length_append,List.length_map,List.length_nil]at h1;have h2:(sampL (l.take i) nm now).length≤(l.take i).length:=List.length_filter_le _ _;rw [List.length_take]at h2;omega
 refine⟨by omega,hno,iteI (fun hlt => ?_) (fun hge => ?_)⟩
 ·have hi':i < l.length:=by omega
  have hk:l[i]? = some l[i]:=List.getElem?_eq_getElem hi';generalize l[i]=z at hk;obtain⟨q0,q1,q2⟩:=g0 i z hk;have hnb:¬ b0=true:=fun hb=>by have:=f0 hb;omega
  have T:=zkv l nm now hk;simp only [Int.toNat_natCast];refine⟨hnb,by omega,hlt,z.nm,q0,iteI (fun he=>⟨hnb,by omega,hlt,z.t,q1,iteI (fun ht=>⟨hnb,by omega,hlt,z.nm,q0,z.t,q1,z.v,q2, ?_⟩) (fun ht => ?_)⟩) (fun he => ?_)⟩
  ·rintro x7 rfl;refine⟨by omega, ?_⟩;rintro x8 rfl;rw [zc (by omega)];refine⟨⟨i + 1, ?_,by omega⟩,by simp only [msO];omega⟩;simp only [List.append_nil]at hL ⊢;rw [T,if_pos ⟨he,ht⟩,List.flatMap_append,← hL];rfl
  ·rintro x5 rfl;rw [zc (by omega)];refine⟨⟨i + 1, ?_,by omega⟩,by simp only [msO];omega⟩;simp only [List.append_nil]at hL ⊢;rw [T,if_neg (fun hh=>ht hh.2),List.append_nil,← hL];rfl
  ·rintro x4 rfl;rw [zc (by omega)];refine⟨⟨i + 1, ?_,by omega⟩,by simp only [msO];omega⟩;simp only [List.append_nil]at hL ⊢;rw [T,if_neg (fun hh=>he hh.1),List.append_nil,← hL];rfl
 ·obtain rfl:i=l.length:=by omega
  rw [List.take_length]at hL;rintro β w' hb ⟨hr,_⟩;rw [hL]at hr;exact⟨_,_,_,_,rfl,hr⟩
theorem zica{w:World}{v:Value}{s:List Sn}(now fresh:Int)(h:SlAt w v 3 (s.flatMap snc))(hn:s.length≤1000)(h1:-4611686018427387904≤now - fresh∧now - fresh≤4611686018427387904) :
  Calls Tryz.prog 156 #[v,.int .i64 now,.int .i64 fresh] w (Vc.Ret (.agg #[.int .i64 (lastQ s now fresh).1,.int .i64 (lastQ s now fresh).2]) w):=by
 obtain⟨b0,p0,c0,e0,f0,g0⟩:=zpb h;have hno:=zsb f0;rw [e0];refine zfh p0 (s.length:Nat) c0 now fresh b0 w _ ⟨by omega,hno,iteI (fun hz => ?_) (fun hz => ?_)⟩
 ·obtain rfl:s=[]:=List.eq_nil_of_length_eq_zero (by omega);rfl
 ·have hi:s.length - 1 < s.length:=by omega
  have hk:s[s.length - 1]? = some s[s.length - 1]:=List.getElem?_eq_getElem hi;have hl:s.getLast? = some s[s.length - 1]:=by rw [List.getLast?_eq_getElem?,hk]
  generalize s[s.length - 1]=z at hk hl;obtain⟨q0,q1,q2⟩:=g0 _ z hk;have hnb:¬ b0=true:=fun hb=>by have:=f0 hb;omega
  refine⟨by omega,hno, ?_⟩;rintro x4 rfl;rw [zc (x:=((s.length:Nat):Int) - 1) (by omega),show (((s.length:Nat):Int) - 1).toNat=s.length - 1 by omega];refine⟨hnb,by omega,by omega,z.t,q1, ?_⟩;rintro x6 rfl;rw [zc (x:=now - fresh) (by omega)];refine iteI (fun ht => ?_) (fun ht=>⟨by omega,hno, ?_⟩)
  ·unfold lastQ;rw [hl];simp only [if_pos ht]
  ·rintro x7 rfl;rw [show (((s.length:Nat):Int) - 1).toNat=s.length - 1 by omega];refine⟨hnb,by omega,by omega,z.v,q2, ?_⟩;unfold lastQ;rw [hl];simp only [if_neg ht]
def msG(n:Nat):List Vl→Nat | [.i a,_]=>n - a.toNat | _=>0
theorem zvp{w:World}{v:Value}{s:List Sn}(b:Bool)(h:SlAt w v 3 (s.flatMap snc))(hn:s.length≤4000) :
  Calls Tryz.prog 158 #[v,.bool b] w (Vc.Ret (.agg #[.int .i64 (maxV s),.int .i64 (if b=true then maxV s else 1099511627776)]) w):=by
 obtain⟨b0,p0,c0,e0,f0,g0⟩:=zpb h;have hno:=zsb f0;rw [e0];refine zne p0 (s.length:Nat) c0 b0 b w _ ⟨fun L=>∃ i:Nat,L=[.i i,.i (maxV (s.take i))]∧i≤s.length,msG s.length,⟨0,by simp [maxV],Nat.zero_le _⟩, ?_⟩;rintro x2 x3 ⟨i,hy,hi⟩;simp only [List.cons.injEq,Vl.i.injEq,and_true]at hy;obtain⟨rfl,rfl⟩:=hy;refine⟨by omega,hno,iteI (fun hlt => ?_) (fun hge => ?_)⟩
 ·have hk:s[i]? = some (s[i]'(by omega)):=List.getElem?_eq_getElem (by omega);generalize s[i]'(by omega)=z at hk;obtain⟨q0,q1,q2⟩:=g0 i z hk;have hnb:¬ b0=true:=fun hb=>by have:=f0 hb;omega
  simp only [Int.toNat_natCast];refine⟨hnb,by omega,hlt,z.v,q2, ?_⟩;rintro x5 rfl x6 rfl;rw [zc (by omega)];refine⟨⟨i + 1, ?_,by omega⟩,by simp only [msG];omega⟩
  have:maxV (s.take (i + 1))=if z.v > maxV (s.take i)then z.v else maxV (s.take i):=by
   unfold maxV;rw [List.take_add_one,hk,List.foldl_append];simp only [Option.toList_some,List.foldl_cons,List.foldl_nil];split <;> omega
  rw [this];rfl
 ·obtain rfl:i=s.length:=by omega
  rw [List.take_length];exact iteI (fun hb=>by rw [if_pos hb]) (fun hb=>by rw [if_neg hb])
theorem zjy{w:World}{v:Value}{s:List Sn}(b:Bool)(h:SlAt w v 3 (s.flatMap snc))(hn:s.length≤4000) :
  Calls Tryz.prog 159 #[v,.bool b] w (Vc.Ret (.agg #[.int .i64 (if b=true then minV s else -1099511627776),.int .i64 (minV s)]) w):=by
 obtain⟨b0,p0,c0,e0,f0,g0⟩:=zpb h;have hno:=zsb f0;rw [e0];refine zgg p0 (s.length:Nat) c0 b0 b w _ ⟨fun L=>∃ i:Nat,L=[.i i,.i (minV (s.take i))]∧i≤s.length,msG s.length,⟨0,by simp [minV],Nat.zero_le _⟩, ?_⟩;rintro x2 x3 ⟨i,hy,hi⟩;simp only [List.cons.injEq,Vl.i.injEq,and_true]at hy;obtain⟨rfl,rfl⟩:=hy;refine⟨by omega,hno,iteI (fun hlt => ?_) (fun hge => ?_)⟩
 ·have hk:s[i]? = some (s[i]'(by omega)):=List.getElem?_eq_getElem (by omega);generalize s[i]'(by omega)=z at hk;obtain⟨q0,q1,q2⟩:=g0 i z hk;have hnb:¬ b0=true:=fun hb=>by have:=f0 hb;omega
  simp only [Int.toNat_natCast];refine⟨hnb,by omega,hlt,z.v,q2, ?_⟩;rintro x5 rfl x6 rfl;rw [zc (by omega)];refine⟨⟨i + 1, ?_,by omega⟩,by simp only [msG];omega⟩
  have:minV (s.take (i + 1))=if z.v < minV (s.take i)then z.v else minV (s.take i):=by
   unfold minV;rw [List.take_add_one,hk,List.foldl_append];simp only [Option.toList_some,List.foldl_cons,List.foldl_nil];split <;> omega
  rw [this];rfl
 ·obtain rfl:i=s.length:=by omega
  rw [List.take_length];exact iteI (fun hb=>by rw [if_pos hb]) (fun hb=>by rw [if_neg hb])
end Go.Proofs.YtdjgnbkclcjiiaaGreatDoor
