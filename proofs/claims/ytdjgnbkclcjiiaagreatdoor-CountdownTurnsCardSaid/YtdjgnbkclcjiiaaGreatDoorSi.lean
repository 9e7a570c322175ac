import Derived.Test.YtdjgnbkclcjiiaaGreatDoorSh
set_option linter.unusedVariables false
set_option linter.unusedSimpArgs false
set_option maxRecDepth 100000
namespace Go.Proofs.YtdjgnbkclcjiiaaGreatDoor
open Go Go.RowKit Go.Proofs Wk
open Vc (SlAt OV iteI Vl zrc zf)
attribute [local irreducible] Go.Calls
def msKa:List Vl→Nat | [.i a,_,_]=>(a + 1).toNat | _=>0
theorem zhba{w:World}{r:Rl}{v:Value}{l:List Sn}{now fresh:Int}(hV:Vg_3 w)(h:RlAt w r)(hl:SlAt w v 3 (l.flatMap snc))(ho:obsB l=true)(hw:0≤now∧now≤1073741824)(hf:0≤fresh∧fresh≤1000)(ha:r.ask=0) :
  Calls Tryz.prog 69 #[.agg #[v,.int .i64 now,.int .i64 fresh],RV7 r] w (Vc.Ret (.agg #[.int .i64 (askQ l now fresh r).1,.int .i64 (askQ l now fresh r).2]) w):=by
 obtain⟨b1,p1,c1,e1,f1,g1⟩:=zym hl;have hno:=zpk f1;have hln:=((zsi l).1 ho).2;have hks:=zeb h;obtain⟨b0,p0,c0,e0,f0,g0⟩:=zzb hks.1;have eq:askQ l now fresh r=lastQ (sampL l r.nm now) now fresh:=by unfold askQ;rw [if_pos ha]
 rw [eq];unfold RV7;rw [e0,e1];refine zde p1 p0 (l.length:Nat) c1 now fresh r.op r.ask r.wi r.cm r.n (r.ks.length:Nat) c0 b1 b0 r.nm w _ (iteI (fun _=>⟨by omega,hno, ?_⟩) (fun hh=>absurd ha hh));rintro x11 rfl;rw [zf (by omega)];refine⟨fun L=>∃ i:Nat,L=[.i ((i:Int) - 1),.i 0,.i 0]∧i≤l.length∧sampL (l.drop i) r.nm now=[],msKa,⟨l.length,rfl,Nat.le_refl _,by rw [List.drop_length];rfl⟩, ?_⟩;rintro x12 x13 x14 ⟨i,hy,hi,hS⟩;simp only [List.cons.injEq,Vl.i.injEq,and_true]at hy;obtain⟨rfl,rfl,rfl⟩:=hy;refine iteI (fun hlt => ?_) (fun hge => ?_)
 ·obtain⟨j,rfl⟩:∃ j,i=j + 1:=⟨i - 1,by omega⟩;have hk:l[j]? = some (l[j]'(by omega)):=List.getElem?_eq_getElem (by omega);have hd:l.drop j=l[j]'(by omega)::l.drop (j + 1):=List.drop_eq_getElem_cons (by omega);generalize l[j]'(by omega)=z at hk hd;obtain⟨q0,q1,q2⟩:=g1 j z hk;have hnb:¬ b1=true:=fun hb=>by have:=f1 hb;omega
  have ej:(((j + 1:Nat):Int) - 1).toNat=j:=by omega
  rw [ej]
  have SJ:sampL (l.drop j) r.nm now=if z.nm=r.nm∧z.t≤now then [z]else []:=by
   unfold sampL at hS ⊢;rw [hd,List.filter_cons,hS];simp
  have nxt:¬ (z.nm=r.nm∧z.t≤now)→∀ x17:Int,x17=IntKind.i64.wrap ((((j + 1:Nat):Int) - 1) - 1)→(∃ i:Nat,[Vl.i x17,.i 0,.i 0]=[.i ((i:Int) - 1),.i 0,.i 0]∧i≤l.length∧sampL (l.drop i) r.nm now=[])∧msKa [.i x17,.i 0,.i 0] < msKa [.i (((j + 1:Nat):Int) - 1),.i 0,.i 0]:=by
   rintro hz x17 rfl;rw [zf (by omega)];refine⟨⟨j,by rw [show (((j + 1:Nat):Int) - 1) - 1=(j:Int) - 1 by omega],by omega,by rw [SJ,if_neg hz]⟩,by simp only [msKa];omega⟩
  refine⟨hnb,by omega,by omega,z.nm,q0,z.t,q1,z.v,q2,iteI (fun he=>iteI (fun ht=>nxt (fun hh=>by omega)) (fun ht => ?_)) (fun he=>nxt (fun hh=>he hh.1))⟩
  have L:lastQ (sampL l r.nm now) now fresh=if z.t < now - fresh then (-1099511627776,1099511627776)else (z.v,z.v):=by
   have e:sampL l r.nm now=sampL (l.take j) r.nm now ++ [z]:=by
    conv=>lhs;rw [← List.take_append_drop j l]
    unfold sampL at SJ ⊢;rw [List.filter_append,SJ,if_pos ⟨he,by omega⟩]
   rw [e];unfold lastQ;simp
  rw [L];rintro x17 rfl;rw [zf (by omega)];exact iteI (fun h1=>⟨hV,by rw [if_pos h1]⟩) (fun h1=>by rw [if_neg h1])
 ·obtain rfl:i=0:=by omega
  rw [List.drop_zero]at hS;refine⟨hV, ?_⟩;rw [hS];rfl
theorem pask{w:World}{r:Rl}{v:Value}{l:List Sn}{now fresh:Int}(hV:Vg_3 w)(h:RlAt w r)(hl:SlAt w v 3 (l.flatMap snc))(ho:obsB l=true)(hw:0≤now∧now≤1073741824)(hf:0≤fresh∧fresh≤1000)(hwi:0≤r.wi∧r.wi≤1000)(hask:0≤r.ask∧r.ask≤2) :
  Calls Tryz.prog 69 #[.agg #[v,.int .i64 now,.int .i64 fresh],RV7 r] w (Vc.Ret (.agg #[.int .i64 (askQ l now fresh r).1,.int .i64 (askQ l now fresh r).2]) w):=by
 by_cases ha:r.ask=0
 ·exact zhba hV h hl ho hw hf ha
 ·exact zcaa hV h hl ho hw hf hwi (by omega)
end Go.Proofs.YtdjgnbkclcjiiaaGreatDoor
