import Derived.Test.YtdjgnbkclcjiiaaGreatDoorPb
import Derived.Test.YtdjgnbkclcjiiaaGreatDoorRb
import Derived.Test.YtdjgnbkclcjiiaaGreatDoorG0
section
set_option linter.unusedVariables false
set_option linter.unusedSimpArgs false
set_option maxRecDepth 100000
namespace Go.Proofs.YtdjgnbkclcjiiaaGreatDoor
open Go Go.RowKit Go.Proofs Wk
open Vc (SlAt OV iteI Vl zwa ze)
attribute [local irreducible] Go.Calls
theorem zum(l:List UInt8)(c:UInt8):digV (l ++ [c])=10 * digV l + ((c.toNat:Int) - 48):=by simp [digV]
theorem zap:∀ (n:Nat) (l:List UInt8),l.length=n→(∀ c∈l,digB c=true)→0≤digV l∧digV l < 10 ^ n
  | 0,l,h,_=>by
    have:l=[]:=List.eq_nil_of_length_eq_zero h
    subst this;exact⟨by decide,by decide⟩
  | n + 1,l,h,hd=>by
    have hne:l ≠ []:=fun e=>by rw [e]at h;cases h
    obtain⟨m,c,rfl⟩:∃ m c,l=m ++ [c]:=⟨l.dropLast,l.getLast hne,(List.dropLast_concat_getLast hne).symm⟩;have hm:m.length=n:=by simpa using h
    obtain⟨h1,h2⟩:=zap n m hm (fun x hx=>hd x (List.mem_append_left _ hx));have hc:=hd c (List.mem_append_right _ (List.mem_singleton.2 rfl));simp only [digB,Bool.and_eq_true,decide_eq_true_eq]at hc;rw [zum,Int.pow_succ];omega
def msAp(n:Nat):List Vl→Nat
 | [_,.i i]=>n - i.toNat
 | _=>0
theorem zafa{w:World}{l:List UInt8}(h1:1≤l.length)(h2:l.length≤10)(hd:∀ c∈l,digB c=true):Calls Tryz.prog 174 #[.string ⟨l.toArray⟩] w (Vc.Ret (.tuple #[.int .i64 (digV l),.nilIface]) w):=by
 have hdk:∀ k,k < l.length→48≤(l.getD k 0).toNat∧(l.getD k 0).toNat≤57:=fun k hk=>by
  have:=hd (l.getD k 0) (by rw [zeg hk];exact List.getElem_mem hk)
  simpa only [digB,Bool.and_eq_true,decide_eq_true_eq]using this
 have h0:=hdk 0 (by omega);refine zsm l w _ ?_;rintro x0 rfl;refine iteI (fun _=>iteI (fun _ => ?_) (fun h=>absurd (show ((l.length:Nat):Int) < 19 by omega) h)) (fun h=>absurd (show (0:Int) < (l.length:Nat) by omega) h);rintro x1 rfl;refine⟨by omega, ?_⟩;rintro x2 rfl;refine iteI (fun h=>absurd h (by simp only [Int.toNat_zero];omega)) (fun _ => ?_);rintro x3 rfl;refine⟨by omega, ?_⟩;rintro x4 rfl;refine iteI (fun h=>absurd h (by simp only [Int.toNat_zero];omega)) (fun _ => ?_);intro l0 hl0;have hlen:l0.length=l.length:=by have:=congrArg List.length hl0;simpa using this
 rintro x5 rfl;have hx5:(((0 + (l0.length + 0)) / 1:Nat):Int)=(l.length:Nat):=by rw [hlen];simp
 rw [hx5];refine⟨fun L=>∃ k:Nat,L=[.i (digV (l.take k)),.i (k:Nat)]∧k≤l.length,msAp l.length,⟨0,rfl,Nat.zero_le _⟩, ?_⟩;rintro x6 x7 ⟨k,hy,hk⟩;simp only [List.cons.injEq,Vl.i.injEq,and_true]at hy;obtain⟨rfl,rfl⟩:=hy;have hb:=zap (l.take k).length (l.take k) rfl (fun c hc=>hd c (List.mem_of_mem_take hc))
 have hb2:digV (l.take k) < 10 ^ 10:=by
  have h3:(l.take k).length≤10:=by rw [List.length_take];omega
  have h4:(10:Int) ^ (l.take k).length≤10 ^ 10:=by
   have:=Nat.pow_le_pow_right (n:=10) (by omega) h3
   exact_mod_cast this
  omega
 have hb2':digV (l.take k) < 10000000000:=by simpa using hb2
 refine iteI (fun hlt => ?_) (fun hlt => ?_)
 ·have hkl:k < l.length:=by omega
  have hdd:=hdk k hkl;rintro x8 rfl;rw [hx5];refine⟨by omega,by omega, ?_⟩;refine⟨((l.getD k 0).toNat:Nat), ?_, ?_⟩
  ·rw [hl0,Int.toNat_natCast,Nat.mul_one,Nat.add_zero,List.append_nil,List.getElem?_map,List.getElem?_eq_getElem hkl,zeg hkl];rfl
  intro x10 h10;have e10:x10=((l.getD k 0).toNat:Int) - 48:=by rw [h10];show _ % _=_;simp only [IntKind.bits];omega
  clear h10;subst e10;refine iteI (fun h=>absurd h (by omega)) (fun _ => ?_);intro x11 h11 x12 h12 x13 h13 x14 h14;rw [ze (by omega)]at h11 h12;rw [h11,h12,ze (by omega)]at h13;have e14:x14=((k + 1:Nat):Int):=by rw [h14,ze (by omega)];rfl
  subst e14;refine⟨⟨k + 1, ?_,by omega⟩,by simp only [msAp];omega⟩;have hs:l.take (k + 1)=l.take k ++ [l.getD k 0]:=by rw [List.take_add_one,List.getElem?_eq_getElem hkl,zeg hkl];rfl
  rw [hs,zum,h13,Int.mul_comm]
 ·have:k=l.length:=by omega
  subst this;rw [List.take_length];rintro x8 rfl;refine⟨by omega, ?_⟩;rintro x9 rfl;exact iteI (fun h=>absurd h (by simp only [Int.toNat_zero];omega)) (fun _=>rfl)
abbrev PT:TypeId:=114
abbrev pcC(s:List UInt8)(i:Nat):Array Value := #[.string ⟨s.toArray⟩,.int .i64 ((tokS s i).a:Nat),.int .i64 ((tokS s i).t:Nat),.string ⟨(tokS s i).x.toArray⟩,.bool (tokS s i).num,.bool (tokS s i).bad]
structure PS(w:World)(xl:Nat):Prop where
 v0:Vg_0 w
 v1:Vg_1 w
 v2:Vg_2 w
 n0:xl≠0
 n1:xl≠1
 n2:xl≠2
theorem PS.next{w w':World}{xl b:Nat}(h:PS w xl)(hb:Vc.BelX xl w w')(hx:b=xl∨w.heap.size≤b):PS w' b:=by
 obtain⟨h0,h1,h2,n0,n1,n2⟩:=h
 have g:∀ {g:Nat} {o:Obj},w.heap[g]? = some o→xl≠g→w'.heap[g]? = some o∧b≠g:=fun {g o} hg hn=>by
  have hlt:=(Array.getElem?_eq_some_iff.1 hg).1;refine⟨by rw [hb.block _ hlt (Ne.symm hn)];exact hg, ?_⟩;rcases hx with rfl | hx
  ·exact hn
  ·omega
 obtain⟨t0,m0,h0⟩:=h0;obtain⟨t1,m1,h1⟩:=h1;obtain⟨t2,m2,h2⟩:=h2;exact⟨⟨t0,m0,(g h0 n0).1⟩,⟨t1,m1,(g h1 n1).1⟩,⟨t2,m2,(g h2 n2).1⟩,(g h0 n0).2,(g h1 n1).2,(g h2 n2).2⟩
theorem PS.hide{w:World}{xl:Nat}(h:PS w xl):Vg_0 (Vc.hideB xl w)∧Vg_1 (Vc.hideB xl w):=by
 obtain⟨⟨t0,m0,h0⟩,⟨t1,m1,h1⟩,_,n0,n1,_⟩:=h;refine⟨⟨t0,m0, ?_⟩,⟨t1,m1, ?_⟩⟩
 ·show (w.heap.setIfInBounds xl _)[_]? = _;rw [Array.getElem?_setIfInBounds_ne n0];exact h0
 ·show (w.heap.setIfInBounds xl _)[_]? = _;rw [Array.getElem?_setIfInBounds_ne n1];exact h1
structure PC(s:List UInt8)(i:Nat)(xl:Nat)(w:World):Prop where
 ps:PS w xl
 len:s.length < 4611686018427387904
 le:i≤s.length
 hx:w.heap[xl]? = some (.cells (pcC s i) PT)
theorem PC.next{s:List UInt8}{i j xl b:Nat}{w w':World}(h:PC s i xl w)(hb:Vc.BelX xl w w')(hj:j≤s.length)(hx:((b=xl∨w.heap.size≤b)∧w'.heap[b]? = some (.cells (pcC s j) PT))∧True):PC s j b w' :=
 ⟨h.ps.next hb hx.1.1,h.len,hj,hx.1.2⟩
theorem PC.tok{s:List UInt8}{i xl:Nat}{w:World}(h:PC s i xl w):(tokS s i).t≤s.length:=(zh s h.le).2.2.1
def fv(a:Nat)(e:Int):Value := .iface 108 (.agg #[.int .i64 (a:Nat),.int .i64 e])
def PcR{α:Type}(f:FuncId)(args:Array Value)(val:α→Value)(s:List UInt8)(xl:Nat)(w:World):Pr α→Prop
 | .ok v j=>Calls Tryz.prog f args w (Vc.Eff (val v) xl (pcC s j) PT w)
 | .err a e=>Calls Tryz.prog f args w (Vc.PanL (fv a e) [xl] w)
 | .out=>True
theorem pis{w:World}{xl i:Nat}{s:List UInt8}(x:List UInt8)(hx:w.heap[xl]? = some (.cells (pcC s i) PT)):Calls Tryz.prog 152 #[Vc.ptr xl 0,.string ⟨x.toArray⟩] w (Vc.Ret (.bool (isT s i x)) w):=by
 have hc:∀ o,w.cell? ⟨xl,o,none⟩=(pcC s i)[o]? := fun o=>by simp [World.cell?,hx]
 exact zge (xl,0) x w (.bool (isT s i x)) ⟨(tokS s i).bad,by simpa using hc 5,iteI (fun hb=>by unfold isT;rw [hb];rfl) (fun hb=>⟨(tokS s i).x,by simpa using hc 3,by unfold isT;rw [Bool.eq_false_iff.2 hb];simp⟩)⟩
theorem za{w:World}{xl i:Nat}{s x:List UInt8}(h:PC s i xl w)(ht:isT s i x=true):Calls Tryz.prog 120 #[Vc.ptr xl 0,.string ⟨x.toArray⟩] w (Vc.Eff (.bool true) xl (pcC s (tokS s i).t) PT w):=by
 refine zmb _ _ _ _ s (tokS s i).x x xl w _ _ h.hx ⟨true,fun β w' hb hh=>by rw [← ht];exact pis x hh.1.2,iteI (fun _=>⟨_,_,_,_,_,fun w' hb=>zaca (h.ps.next hb (.inl rfl)).v2 h.len h.tok,rfl⟩) (fun hn=>absurd rfl hn)⟩
theorem zc{w:World}{xl i:Nat}{s x:List UInt8}(h:PC s i xl w)(ht:isT s i x=false):Calls Tryz.prog 120 #[Vc.ptr xl 0,.string ⟨x.toArray⟩] w (Vc.Eff (.bool false) xl (pcC s i) PT w):=by
 refine zmb _ _ _ _ s (tokS s i).x x xl w _ _ h.hx ⟨false,fun β w' hb hh=>by rw [← ht];exact pis x hh.1.2,iteI (fun hn=>by cases hn) (fun _=>rfl)⟩
theorem zqe{w:World}{xl i:Nat}{s:List UInt8}(x:List UInt8)(h:PC s i xl w):PcR 162 #[Vc.ptr xl 0,.string ⟨x.toArray⟩] (fun _=>.tuple #[]) s xl w (pWant s x i):=by
 unfold pWant;by_cases ht:isT s i x=true
 ·rw [if_pos ht];exact znd _ _ _ _ s (tokS s i).x x xl w _ _ h.hx ⟨_,_,_,_,_,_,fun β w' hb hh=>za (h.next hb h.le hh) ht,iteI (fun _=>rfl) (fun hn=>absurd rfl hn)⟩
 ·rw [if_neg ht];exact zyc _ _ _ _ s (tokS s i).x x xl w _ h.hx ⟨_,_,_,_,_,_,fun β w' hb hh=>zc (h.next hb h.le hh) (Bool.eq_false_iff.2 ht),iteI (fun hn=>by cases hn) (fun _=>fun v0 hv w' hb=>hv)⟩
theorem zvm{s:List UInt8}{i:Nat}(h:(tokS s i).bad=false):isT s i (tokS s i).x=true:=by unfold isT;rw [h];simp
theorem zbp{w:World}{xl i:Nat}{s:List UInt8}(h:PC s i xl w):PcR 163 #[Vc.ptr xl 0] (fun nm=>.string ⟨nm.toArray⟩) s xl w (pName s i):=by
 unfold pName;have nm:∀ w',Vc.BelX xl w w'→Calls Tryz.prog 127 #[.string ⟨(tokS s i).x.toArray⟩] w' (Vc.Ret (.bool (nameB (tokS s i).x)) w'):=fun w' hb=>zdr (h.ps.next hb (.inl rfl)).v0 _;split
 ·rename_i hc;refine zzc _ _ _ _ s (tokS s i).x xl w _ h.hx (iteI (fun _=>fun v0 hv w' hb=>hv) (fun hb=>⟨nameB (tokS s i).x,nm,iteI (fun hn => ?_) (fun _=>fun v0 hv w' hb=>hv)⟩));rcases hc with hc | hc
  ·exact absurd hc hb
  ·rw [hc]at hn;cases hn
 ·rename_i hc;have hb:(tokS s i).bad=false:=Bool.eq_false_iff.2 fun e=>hc (.inl e);have hn:nameB (tokS s i).x=true:=(Bool.not_eq_false _).mp fun e=>hc (.inr e);exact zod _ _ _ _ s (tokS s i).x xl w _ _ h.hx (iteI (fun e=>absurd e (by rw [hb];decide)) (fun _=>⟨nameB (tokS s i).x,nm,iteI (fun _=>⟨_,_,_,_,_,_,fun β w' hb' hh=>za (h.next hb' h.le hh) (zvm hb),rfl⟩) (fun e=>absurd hn e)⟩))
theorem zqs{p:UInt8→Bool}:∀ (l:List UInt8),∀ c∈l.take (runB p l),p c=true
  | [],c,h=>by simp [runB]at h
  | a::l,c,h=>by
    unfold runB at h;split at h
    · rename_i ha;rcases List.mem_cons.1 h with rfl | h
      · exact ha
      · exact zqs l c h
    · simp at h
theorem zgx{s:List UInt8}{i:Nat}(h:(tokS s i).num=true)(hb:(tokS s i).bad=false):1≤(tokS s i).x.length∧(tokS s i).x.length≤10∧∀ c∈(tokS s i).x,digB c=true:=by
  unfold tokS at *;generalize i + runB spB (s.drop i)=a at *;generalize s.drop a=l at *;cases l with
  | nil=>cases h
  | cons c l =>
    rw [zu]at *;by_cases h1:letB c=true
    · rw [if_pos h1]at h;cases h
    rw [if_neg h1]at h hb ⊢;by_cases h2:digB c=true
    · rw [if_pos h2]at h hb ⊢;simp only [decide_eq_false_iff_not,Nat.not_lt]at hb;have hle:=zzj digB (c::l);have hpos:1≤runB digB (c::l):=by unfold runB;rw [if_pos h2];omega
      refine⟨?_, ?_,zqs _⟩
      · show 1≤((c::l).take _).length;rw [List.length_take];omega
      · show ((c::l).take _).length≤10;rw [List.length_take];omega
    · rw [if_neg h2]at h;cases hf:signsB.find? (fun x=>x.isPrefixOf (c::l))with
      | some x=>rw [hf]at h;cases h
      | none=>rw [hf]at h;cases h
theorem zf{w:World}{xl i:Nat}{s:List UInt8}(lo hi:Int)(h:PC s i xl w):PcR 164 #[Vc.ptr xl 0,.int .i64 lo,.int .i64 hi] (fun n=>.int .i64 n) s xl w (pNum s lo hi i):=by
 have wr:∀ {k:Nat} (sg:Int),sg=1∨sg = -1→(tokS s k).num=true→(tokS s k).bad=false→IntKind.i64.wrap (digV (tokS s k).x * sg)=sg * digV (tokS s k).x:=fun {k} sg hs hn hb=>by
  obtain⟨h1,h2,h3⟩:=zgx hn hb;have hbd:=zap _ _ rfl h3
  have h4:(10:Int) ^ (tokS s k).x.length≤10 ^ 10:=by
   have:=Nat.pow_le_pow_right (n:=10) (by omega) h2
   exact_mod_cast this
  have h5:digV (tokS s k).x < 10000000000:=by
   have:(10:Int) ^ 10=10000000000:=by decide
   omega
  rw [Int.mul_comm];rcases hs with rfl | rfl
  ·exact ze (by omega)
  ·exact ze (by omega)
 have at_:∀ {k:Nat},(tokS s k).num=true→(tokS s k).bad=false→∀ w',Calls Tryz.prog 174 #[.string ⟨(tokS s k).x.toArray⟩] w' (Vc.Ret (.tuple #[.int .i64 (digV (tokS s k).x),(⟨.nilIface,rfl⟩:OV).1]) w'):=fun {k} hn hb w'=>by
  obtain⟨h1,h2,h3⟩:=zgx hn hb;exact zafa h1 h2 h3
 unfold pNum;by_cases hm:isT s i [45]=true
 ·rw [if_pos hm];have hj:(tokS s i).t≤s.length:=h.tok;unfold pDig;by_cases hn:(tokS s (tokS s i).t).num=false∨(tokS s (tokS s i).t).bad=true
  ·rw [if_pos hn];refine zn _ _ lo hi _ _ s (tokS s i).x xl w _ h.hx ⟨_,_,_,_,_,_,fun β w' hb hh=>za (h.next hb h.le hh) hm,iteI (fun _=>iteI (fun hN=>iteI (fun hB=>fun v0 hv w' hb=>hv) (fun hB => ?_)) (fun hN=>fun v0 hv w' hb=>hv)) (fun e=>absurd rfl e)⟩;rcases hn with hn | hn
   ·rw [hn]at hN;cases hN
   ·exact absurd hn hB
  ·rw [if_neg hn];have hN:(tokS s (tokS s i).t).num=true:=(Bool.not_eq_false _).mp fun e=>hn (.inl e);have hB:(tokS s (tokS s i).t).bad=false:=Bool.eq_false_iff.2 fun e=>hn (.inr e);by_cases hin:inB ((-1) * digV (tokS s (tokS s i).t).x) lo hi=true
   ·rw [if_pos hin];refine zdb _ _ lo hi _ _ s (tokS s i).x xl w _ _ h.hx ⟨_,_,_,_,_,_,fun β w' hb hh=>za (h.next hb h.le hh) hm,iteI (fun _=>iteI (fun _=>iteI (fun e=>absurd e (by rw [hB];decide)) (fun _=>⟨_,⟨.nilIface,rfl⟩,fun w' _=>at_ hN hB w',_,_,_,_,_,_,fun β w' hb hh=>za (h.next hb hj hh) (zvm hB),fun x9 e9 => ?_⟩)) (fun e=>absurd hN e)) (fun e=>absurd rfl e)⟩;rw [wr (-1) (by simp) hN hB]at e9;subst e9;simp only [inB,Bool.and_eq_true,decide_eq_true_eq]at hin;exact iteI (fun _=>iteI (fun _=>rfl) (fun e=>absurd hin.2 e)) (fun e=>absurd hin.1 e)
   ·rw [if_neg hin];refine zn _ _ lo hi _ _ s (tokS s i).x xl w _ h.hx ⟨_,_,_,_,_,_,fun β w' hb hh=>za (h.next hb h.le hh) hm,iteI (fun _=>iteI (fun _=>iteI (fun e=>absurd e (by rw [hB];decide)) (fun _=>⟨_,⟨.nilIface,rfl⟩,fun w' _=>at_ hN hB w',_,_,_,_,_,_,fun β w' hb hh=>za (h.next hb hj hh) (zvm hB),fun x9 e9 => ?_⟩)) (fun e=>absurd hN e)) (fun e=>absurd rfl e)⟩;rw [wr (-1) (by simp) hN hB]at e9;subst e9;simp only [inB,Bool.and_eq_true,decide_eq_true_eq]at hin;exact iteI (fun h1=>iteI (fun h2=>absurd ⟨h1,h2⟩ hin) (fun _=>fun v0 hv w' hb=>hv)) (fun _=>fun v0 hv w' hb=>hv)
 ·rw [if_neg hm];have hj:i≤s.length:=h.le;unfold pDig;by_cases hn:(tokS s i).num=false∨(tokS s i).bad=true
  ·rw [if_pos hn];refine zn _ _ lo hi _ _ s (tokS s i).x xl w _ h.hx ⟨_,_,_,_,_,_,fun β w' hb hh=>zc (h.next hb h.le hh) (Bool.eq_false_iff.2 hm),iteI (fun e=>by cases e) (fun _=>iteI (fun hN=>iteI (fun hB=>fun v0 hv w' hb=>hv) (fun hB => ?_)) (fun hN=>fun v0 hv w' hb=>hv))⟩;rcases hn with hn | hn
   ·rw [hn]at hN;cases hN
   ·exact absurd hn hB
  ·rw [if_neg hn];have hN:(tokS s i).num=true:=(Bool.not_eq_false _).mp fun e=>hn (.inl e);have hB:(tokS s i).bad=false:=Bool.eq_false_iff.2 fun e=>hn (.inr e);by_cases hin:inB (1 * digV (tokS s i).x) lo hi=true
   ·rw [if_pos hin];refine zdb _ _ lo hi _ _ s (tokS s i).x xl w _ _ h.hx ⟨_,_,_,_,_,_,fun β w' hb hh=>zc (h.next hb h.le hh) (Bool.eq_false_iff.2 hm),iteI (fun e=>by cases e) (fun _=>iteI (fun _=>iteI (fun e=>absurd e (by rw [hB];decide)) (fun _=>⟨_,⟨.nilIface,rfl⟩,fun w' _=>at_ hN hB w',_,_,_,_,_,_,fun β w' hb hh=>za (h.next hb hj hh) (zvm hB),fun x9 e9 => ?_⟩)) (fun e=>absurd hN e))⟩;rw [wr 1 (by simp) hN hB]at e9;subst e9;simp only [inB,Bool.and_eq_true,decide_eq_true_eq]at hin;exact iteI (fun _=>iteI (fun _=>rfl) (fun e=>absurd hin.2 e)) (fun e=>absurd hin.1 e)
   ·rw [if_neg hin];refine zn _ _ lo hi _ _ s (tokS s i).x xl w _ h.hx ⟨_,_,_,_,_,_,fun β w' hb hh=>zc (h.next hb h.le hh) (Bool.eq_false_iff.2 hm),iteI (fun e=>by cases e) (fun _=>iteI (fun _=>iteI (fun e=>absurd e (by rw [hB];decide)) (fun _=>⟨_,⟨.nilIface,rfl⟩,fun w' _=>at_ hN hB w',_,_,_,_,_,_,fun β w' hb hh=>za (h.next hb hj hh) (zvm hB),fun x9 e9 => ?_⟩)) (fun e=>absurd hN e))⟩;rw [wr 1 (by simp) hN hB]at e9;subst e9;simp only [inB,Bool.and_eq_true,decide_eq_true_eq]at hin;exact iteI (fun h1=>iteI (fun h2=>absurd ⟨h1,h2⟩ hin) (fun _=>fun v0 hv w' hb=>hv)) (fun _=>fun v0 hv w' hb=>hv)
end Go.Proofs.YtdjgnbkclcjiiaaGreatDoor
end
section
set_option linter.unusedVariables false
set_option maxRecDepth 100000
namespace Go.Proofs.YtdjgnbkclcjiiaaGreatDoor
open Go Go.RowKit
abbrev Vj_ullageref10_Next_T3(x1:Int)(x8:Int)(s0:List UInt8)(v:Value):Prop :=
 ((0:Int)≤x1∧(x1:Int)≤x8∧x8≤(List.length s0:Int))∧∀ s1:List UInt8,s1=List.take (Int.toNat x8 - Int.toNat x1) (List.drop (Int.toNat x1) s0) →
 ∀ x12:Int,x12=((s1.length:Nat):Int) →
 (.agg #[.int .i64 1,.int .i64 x1,.int .i64 x8,.int .i64 0,.string ⟨s1.toArray⟩,.bool (decide (x12 > 32))]:Value)=v
abbrev Vj_ullageref10_Next_T2(x10:Int)(Ix10:List Vc.Vl→Prop)(l0:List Vc.OV)(x11:Int)(s1:List UInt8)(x12:Int)(x13:Int)(x14:Int)(x15:Int)(s2:List UInt8)(b2:Bool)(mx10:List Vc.Vl→Nat):Prop :=
 ∀ x23:Int,x23=IntKind.i64.wrap (x10 + 1) →
 Ix10 [.i x23,.l ((l0.map (·.1)++(([]:List Value)))),.i x11,.s s1,.i x12,.i x13,.i x14,.i x15,.s s2,.b b2]∧mx10 [.i x23,.l ((l0.map (·.1)++(([]:List Value)))),.i x11,.s s1,.i x12,.i x13,.i x14,.i x15,.s s2,.b b2] < mx10 [.i x10,.l ((l0.map (·.1)++(([]:List Value)))),.i x11,.s s1,.i x12,.i x13,.i x14,.i x15,.s s2,.b b2]
abbrev Vj_ullageref10_Next_T1(s0:List UInt8)(x1:Int)(v:Value)(w:World):Prop :=
 ∀ x5:Int,x5=((s0.length:Nat):Int) →
 ((x1=x5)→(
 (.agg #[.int .i64 0,.int .i64 x1,.int .i64 x1,.int .i64 0,.string ⟨(([]:List UInt8)).toArray⟩,.bool false]:Value)=v))∧(¬ (x1=x5)→(
 ∀ x6:Int,x6=((s0.length:Nat):Int) →
 (0≤x1) ∧
 (x1 < x6) ∧
 ∀ x7:Int,x7=(((s0.getD (Int.toNat x1) 0).toNat:Nat):Int) →
 ∃ (b0:Bool),(Vq w 124 #[.int .u8 x7] (.bool b0)) ∧
 ((b0=true)→(
 ∃ (Ix8:List Vc.Vl→Prop) (mx8:List Vc.Vl→Nat),Ix8 [.i x1]∧∀ (x8:Int),Ix8 [.i x8]→(
 ∀ x9:Int,x9=((s0.length:Nat):Int) →
 ((x8 < x9)→(
 ∀ x10:Int,x10=((s0.length:Nat):Int) →
 (0≤x8) ∧
 (x8 < x10) ∧
 ∀ x11:Int,x11=(((s0.getD (Int.toNat x8) 0).toNat:Nat):Int) →
 ∃ (b1:Bool),(Vq w 125 #[.int .u8 x11] (.bool b1)) ∧
 ((b1=true)→(
 ∀ x12:Int,x12=IntKind.i64.wrap (x8 + 1) →
 Ix8 [.i x12]∧mx8 [.i x12] < mx8 [.i x8]))∧(¬ (b1=true)→( Vj_ullageref10_Next_T3 x1 x8 s0 v))))∧(¬ (x8 < x9)→( Vj_ullageref10_Next_T3 x1 x8 s0 v)))))∧(¬ (b0=true)→(
 ∀ x8:Int,x8=((s0.length:Nat):Int) →
 (0≤x1) ∧
 (x1 < x8) ∧
 ∀ x9:Int,x9=(((s0.getD (Int.toNat x1) 0).toNat:Nat):Int) →
 ∃ (b1:Bool),(Vq w 126 #[.int .u8 x9] (.bool b1)) ∧
 ((b1=true)→(
 ∃ (Ix10:List Vc.Vl→Prop) (mx10:List Vc.Vl→Nat),Ix10 [.i 0,.i x1]∧∀ (x10:Int) (x11:Int),Ix10 [.i x10,.i x11]→(
 ∀ x12:Int,x12=((s0.length:Nat):Int) →
 ((x11 < x12)→(
 ∀ x13:Int,x13=((s0.length:Nat):Int) →
 (0≤x11) ∧
 (x11 < x13) ∧
 ∀ x14:Int,x14=(((s0.getD (Int.toNat x11) 0).toNat:Nat):Int) →
 ∃ (b2:Bool),(Vq w 126 #[.int .u8 x14] (.bool b2)) ∧
 ((b2=true)→(
 ∀ x15:Int,x15=IntKind.i64.wrap (x11 - x1) →
 ((x15 < 10)→(
 ∀ x16:Int,x16=IntKind.i64.wrap (10 * x10) →
 ∀ x17:Int,x17=((s0.length:Nat):Int) →
 (0≤x11) ∧
 (x11 < x17) ∧
 ∀ x18:Int,x18=(((s0.getD (Int.toNat x11) 0).toNat:Nat):Int) →
 ∀ x19:Int,x19=IntKind.u8.wrap (x18 - 48) →
 ∀ x20:Int,x20=IntKind.i64.wrap (x19) →
 ∀ x21:Int,x21=IntKind.i64.wrap (x16 + x20) →
 ∀ x22:Int,x22=IntKind.i64.wrap (x11 + 1) →
 Ix10 [.i x21,.i x22]∧mx10 [.i x21,.i x22] < mx10 [.i x10,.i x11]))∧(¬ (x15 < 10)→(
 ∀ x16:Int,x16=IntKind.i64.wrap (x11 + 1) →
 Ix10 [.i x10,.i x16]∧mx10 [.i x10,.i x16] < mx10 [.i x10,.i x11]))))∧(¬ (b2=true)→(
 ∀ x15:Int,x15=IntKind.i64.wrap (x11 - x1) →
 (.agg #[.int .i64 2,.int .i64 x1,.int .i64 x11,.int .i64 x10,.string ⟨(([]:List UInt8)).toArray⟩,.bool (decide (x15 > 10))]:Value)=v))))∧(¬ (x11 < x12)→(
 ∀ x13:Int,x13=IntKind.i64.wrap (x11 - x1) →
 (.agg #[.int .i64 2,.int .i64 x1,.int .i64 x11,.int .i64 x10,.string ⟨(([]:List UInt8)).toArray⟩,.bool (decide (x13 > 10))]:Value)=v)))))∧(¬ (b1=true)→(
 ∃ (Ix10:List Vc.Vl→Prop) (mx10:List Vc.Vl→Nat),Ix10 [.i 0,.l (([.string ⟨(([60,61]:List UInt8)).toArray⟩,.string ⟨(([62,61]:List UInt8)).toArray⟩,.string ⟨(([61,61]:List UInt8)).toArray⟩,.string ⟨(([33,61]:List UInt8)).toArray⟩,.string ⟨(([60]:List UInt8)).toArray⟩,.string ⟨(([62]:List UInt8)).toArray⟩,.string ⟨(([124]:List UInt8)).toArray⟩,.string ⟨(([38]:List UInt8)).toArray⟩,.string ⟨(([33]:List UInt8)).toArray⟩,.string ⟨(([40]:List UInt8)).toArray⟩,.string ⟨(([41]:List UInt8)).toArray⟩,.string ⟨(([44]:List UInt8)).toArray⟩,.string ⟨(([45]:List UInt8)).toArray⟩]:List Value)),.i x1,.s [],.i 0,.i 0,.i 0,.i 0,.s [],.b false]∧∀ (x10:Int) (l0:List Vc.OV) (x11:Int) (s1:List UInt8) (x12:Int) (x13:Int) (x14:Int) (x15:Int) (s2:List UInt8) (b2:Bool),Ix10 [.i x10,.l ((l0.map (·.1)++(([]:List Value)))),.i x11,.s s1,.i x12,.i x13,.i x14,.i x15,.s s2,.b b2]→(
 ∀ x16:Int,x16=(((0 + (l0.length + 0)) / 1:Nat):Int) →
 ((x10 < x16)→(
 ∀ x17:Int,x17=(((0 + (l0.length + 0)) / 1:Nat):Int) →
 (0≤x10) ∧
 (x10 < x17) ∧
 ∃ (s3:List UInt8),((l0.map (·.1)++(([]:List Value))))[(Int.toNat x10) * 1 + 0]? = some (.string ⟨s3.toArray⟩) ∧
 ∀ x18:Int,x18=((s3.length:Nat):Int) →
 ∀ x19:Int,x19=IntKind.i64.wrap (x1 + x18) →
 ∀ x20:Int,x20=((s0.length:Nat):Int) →
 ((x19≤x20)→(
 ∀ x21:Int,x21=IntKind.i64.wrap (x1 + x18) →
 ((0:Int)≤x1∧(x1:Int)≤x21∧x21≤(List.length s0:Int))∧∀ s4:List UInt8,s4=List.take (Int.toNat x21 - Int.toNat x1) (List.drop (Int.toNat x1) s0) →
 ∀ x22:Int,x22=(((0 + (l0.length + 0)) / 1:Nat):Int) →
 (0≤x10) ∧
 (x10 < x22) ∧
 ∃ (s5:List UInt8),((l0.map (·.1)++(([]:List Value))))[(Int.toNat x10) * 1 + 0]? = some (.string ⟨s5.toArray⟩) ∧
 ((s4=s5)→(
 ∀ x23:Int,x23=IntKind.i64.wrap (x1 + x18) →
 ∀ x24:Int,x24=(((0 + (l0.length + 0)) / 1:Nat):Int) →
 (0≤x10) ∧
 (x10 < x24) ∧
 ∃ (s6:List UInt8),((l0.map (·.1)++(([]:List Value))))[(Int.toNat x10) * 1 + 0]? = some (.string ⟨s6.toArray⟩) ∧
 (.agg #[.int .i64 3,.int .i64 x1,.int .i64 x23,.int .i64 0,.string ⟨s6.toArray⟩,.bool false]:Value)=v))∧(¬ (s4=s5)→( Vj_ullageref10_Next_T2 x10 Ix10 l0 x11 s1 x12 x13 x14 x15 s2 b2 mx10))))∧(¬ (x19≤x20)→( Vj_ullageref10_Next_T2 x10 Ix10 l0 x11 s1 x12 x13 x14 x15 s2 b2 mx10))))∧(¬ (x10 < x16)→(
 (.agg #[.int .i64 3,.int .i64 x1,.int .i64 x11,.int .i64 0,.string ⟨s1.toArray⟩,.bool true]:Value)=v)))))))))
theorem zwh(p0 p1:Nat × Nat)(x0 x1 x2 x3 x4 x5 x6 x7 x8 x9 x10 x11 x12 x13:Int)(b0 b1:Bool)(s0 s1:List UInt8)(w:World)(v:Value)(h :
 ((x0=x7)→(
 ((x1=x8)→(
 ((s0=s1)→(
 ((x2=x9)→(
 ((x3=x10)→(
 ((x4=x11)→(
 (0≤x5) ∧
 ((¬ (b0=true))∨(x5=0)) ∧
 (0≤x12) ∧
 ((¬ (b1=true))∨(x12=0)) ∧
 ((x5=x12)→(
 ∃ (Ib2:List Vc.Vl→Prop) (mb2:List Vc.Vl→Nat),Ib2 [.b false,.i 0]∧∀ (b2:Bool) (x14:Int),Ib2 [.b b2,.i x14]→(
 (0≤x5) ∧
 ((¬ (b0=true))∨(x5=0)) ∧
 ((x14 < x5)→(
 (¬ (b0=true)) ∧
 (0≤x14) ∧
 (x14 < x5) ∧
 ∃ (x15:Int),w.cell? ⟨p0.1,p0.2 + (Int.toNat x14) * 7 + 0,none⟩=some (.int .i64 x15) ∧
 ∃ (x16:Int),w.cell? ⟨p0.1,p0.2 + (Int.toNat x14) * 7 + 1,none⟩=some (.int .i64 x16) ∧
 ∃ (s2:List UInt8),w.cell? ⟨p0.1,p0.2 + (Int.toNat x14) * 7 + 2,none⟩=some (.string ⟨s2.toArray⟩) ∧
 ∃ (x17:Int),w.cell? ⟨p0.1,p0.2 + (Int.toNat x14) * 7 + 3,none⟩=some (.int .i64 x17) ∧
 ∃ (x18:Int),w.cell? ⟨p0.1,p0.2 + (Int.toNat x14) * 7 + 4,none⟩=some (.int .i64 x18) ∧
 ∃ (x19:Int),w.cell? ⟨p0.1,p0.2 + (Int.toNat x14) * 7 + 5,none⟩=some (.int .i64 x19) ∧
 ∃ (b3:Bool) (p2:Nat × Nat) (x20 x21:Int),w.cell? ⟨p0.1,p0.2 + (Int.toNat x14) * 7 + 6,none⟩=some ((if b3=true then .slice none 0 0 else .slice (some (Vc.qad p2 (Int.toNat x20) (Int.toNat x21))) (Int.toNat x20) (Int.toNat x21):Value)) ∧
 (¬ (b1=true)) ∧
 (0≤x14) ∧
 (x14 < x12) ∧
 ∃ (x22:Int),w.cell? ⟨p1.1,p1.2 + (Int.toNat x14) * 7 + 0,none⟩=some (.int .i64 x22) ∧
 ∃ (x23:Int),w.cell? ⟨p1.1,p1.2 + (Int.toNat x14) * 7 + 1,none⟩=some (.int .i64 x23) ∧
 ∃ (s3:List UInt8),w.cell? ⟨p1.1,p1.2 + (Int.toNat x14) * 7 + 2,none⟩=some (.string ⟨s3.toArray⟩) ∧
 ∃ (x24:Int),w.cell? ⟨p1.1,p1.2 + (Int.toNat x14) * 7 + 3,none⟩=some (.int .i64 x24) ∧
 ∃ (x25:Int),w.cell? ⟨p1.1,p1.2 + (Int.toNat x14) * 7 + 4,none⟩=some (.int .i64 x25) ∧
 ∃ (x26:Int),w.cell? ⟨p1.1,p1.2 + (Int.toNat x14) * 7 + 5,none⟩=some (.int .i64 x26) ∧
 ∃ (b4:Bool) (p3:Nat × Nat) (x27 x28:Int),w.cell? ⟨p1.1,p1.2 + (Int.toNat x14) * 7 + 6,none⟩=some ((if b4=true then .slice none 0 0 else .slice (some (Vc.qad p3 (Int.toNat x27) (Int.toNat x28))) (Int.toNat x27) (Int.toNat x28):Value)) ∧
 ∃ (b5:Bool),(Vq w 27 #[.agg #[.int .i64 x15,.int .i64 x16,.string ⟨s2.toArray⟩,.int .i64 x17,.int .i64 x18,.int .i64 x19,(if b3=true then .slice none 0 0 else .slice (some (Vc.qad p2 (Int.toNat x20) (Int.toNat x21))) (Int.toNat x20) (Int.toNat x21):Value)],.agg #[.int .i64 x22,.int .i64 x23,.string ⟨s3.toArray⟩,.int .i64 x24,.int .i64 x25,.int .i64 x26,(if b4=true then .slice none 0 0 else .slice (some (Vc.qad p3 (Int.toNat x27) (Int.toNat x28))) (Int.toNat x27) (Int.toNat x28):Value)]] (.bool b5)) ∧
 ((b5=true)→(
 ∀ x29:Int,x29=IntKind.i64.wrap (x14 + 1) →
 Ib2 [.b b2,.i x29]∧mb2 [.b b2,.i x29] < mb2 [.b b2,.i x14]))∧(¬ (b5=true)→(
 (.bool false:Value)=v))))∧(¬ (x14 < x5)→(
 (.bool true:Value)=v)))))∧(¬ (x5=x12)→(
 (.bool false:Value)=v))))∧(¬ (x4=x11)→(
 (.bool false:Value)=v))))∧(¬ (x3=x10)→(
 (.bool false:Value)=v))))∧(¬ (x2=x9)→(
 (.bool false:Value)=v))))∧(¬ (s0=s1)→(
 (.bool false:Value)=v))))∧(¬ (x1=x8)→(
 (.bool false:Value)=v))))∧(¬ (x0=x7)→(
 (.bool false:Value)=v))):Calls Tryz.prog 27 #[.agg #[.int .i64 x0,.int .i64 x1,.string ⟨s0.toArray⟩,.int .i64 x2,.int .i64 x3,.int .i64 x4,(if b0=true then .slice none 0 0 else .slice (some (Vc.qad p0 (Int.toNat x5) (Int.toNat x6))) (Int.toNat x5) (Int.toNat x6):Value)],.agg #[.int .i64 x7,.int .i64 x8,.string ⟨s1.toArray⟩,.int .i64 x9,.int .i64 x10,.int .i64 x11,(if b1=true then .slice none 0 0 else .slice (some (Vc.qad p1 (Int.toNat x12) (Int.toNat x13))) (Int.toNat x12) (Int.toNat x13):Value)]] w (Vc.Ret v w) :=
 Vc.zi base [(5000000000004,.inv [] [4,5] [55,56,57,58,59,62,63,64,65,66,67,68,69,70,71,72,73,60,61])] [] 200 Tryz.func27 (b:=(Tryz.f27.body).getD .skip) (by kernel_rfl) [.cv (.agg [.int .i64 (.var 0),.int .i64 (.var 1),.sv 0,.int .i64 (.var 2),.int .i64 (.var 3),.int .i64 (.var 4),.qsl 0 0 7 (.var 5) (.var 6)]),.cv (.agg [.int .i64 (.var 7),.int .i64 (.var 8),.sv 1,.int .i64 (.var 9),.int .i64 (.var 10),.int .i64 (.var 11),.qsl 1 1 7 (.var 12) (.var 13)])] ⟨14,2,0,2,0,2,0⟩ [] (Vc.envOf [x0,x1,x2,x3,x4,x5,x6,x7,x8,x9,x10,x11,x12,x13] [b0,b1] [] [p0,p1] [s0,s1]) (by kernel_rfl) Vc.zg (by kernel_rfl) (by kernel_rfl) h
end Go.Proofs.YtdjgnbkclcjiiaaGreatDoor
end
