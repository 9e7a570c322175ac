import Derived.Test.YtfclibhhkphckaaGreatDoorGm
import Derived.Test.YtfclibhhkphckaaGreatDoorCe
import Derived.Test.YtfclibhhkphckaaGreatDoorOv
set_option linter.unusedVariables false
set_option linter.unusedSimpArgs false
set_option maxRecDepth 4000
namespace Go.Proofs.YtfclibhhkphckaaGreatDoor
open Go Go.RowKit Vc
attribute [local irreducible] Go.Calls
theorem zica{v:Value}{b0:Bool}{p0:Nat × Nat}{n:Nat}{x1:Int}(h:CapOk v)(e:v=(if b0=true then .slice none 0 0 else .slice (some (Vc.qad p0 (Int.toNat (n:Int)) (Int.toNat x1))) (Int.toNat (n:Int)) (Int.toNat x1)))(hb:¬ b0=true):n≤x1.toNat:=by
 rw [if_neg hb]at e;subst e;simpa [CapOk]using h
theorem zku(a b:Int):IntKind.i64.wrap (IntKind.i64.wrap a + b)=IntKind.i64.wrap (a + b):=by simp only [IntKind.wrap_i64];omega
theorem w_w(a:Int):IntKind.i64.wrap (IntKind.i64.wrap a)=IntKind.i64.wrap a:=by simp only [IntKind.wrap_i64];omega
def acc(f g:Stg→Int):List Stg→Int
 | []=>0
 | s::r=>f s + (r.map fun s=>f s + g s).sum
theorem zgd(f g:Stg→Int){l:List Stg}{k:Nat}{s:Stg}(h:l[k]? = some s):acc f g (l.take (k + 1))=acc f g (l.take k) + f s + (if k=0 then 0 else g s):=by
  cases l with
  | nil=>simp at h
  | cons a r =>
    cases k with
    | zero=>simp at h;subst h;simp [acc]
    | succ k =>
      simp only [List.getElem?_cons_succ]at h;simp only [List.take_succ_cons,acc,Nat.add_eq_zero_iff,Nat.succ_ne_self,and_false,if_false];rw [List.take_add_one,h];simp;omega
def pos(x:Int):Int:=if IntKind.i64.wrap x > 0 then IntKind.i64.wrap x else 0
theorem zrha(x:Int):IntKind.i64.wrap (pos x)=pos x:=by unfold pos;split <;> simp only [IntKind.wrap_i64] <;> omega
def pMass(v:Vh)(g lo hi:Int):Int × Int × Int :=
 if (pCheck v).2.2≠0 then (0,0,2)else if ¬ (0≤g∧g≤(v.ss.length:Int) - 1)then (0,0,7)else if lo < 0∨hi < lo then (0,0,2)
 else match v.ss[g.toNat]? with
  | none=>(0,0,7)
  | some s=>(IntKind.i64.wrap (pos (s.pl - hi) + acc (·.dl) (·.pl) (v.ss.drop g.toNat) + v.yl),IntKind.i64.wrap (pos (s.ph - lo) + acc (·.dh) (·.ph) (v.ss.drop g.toNat) + v.yh),0)
def MV(r:Int × Int × Int):Value := .tuple #[.agg #[.int .i64 r.1,.int .i64 r.2.1],.int .i64 r.2.2]
theorem zhda{v:Vh}{g lo hi:Int}(h:(pCheck v).2.2≠0):MV (0,0,2)=MV (pMass v g lo hi):=by unfold pMass;rw [if_pos h]
theorem zdq{v:Vh}{g lo hi:Int}(h:(pCheck v).2.2=0)(h2:¬ (0≤g∧g≤(v.ss.length:Int) - 1)):MV (0,0,7)=MV (pMass v g lo hi):=by unfold pMass;rw [if_neg (by omega),if_pos h2]
theorem zeq{v:Vh}{g lo hi:Int}(h:(pCheck v).2.2=0)(h2:0≤g∧g≤(v.ss.length:Int) - 1)(h3:lo < 0∨hi < lo):MV (0,0,2)=MV (pMass v g lo hi):=by unfold pMass;rw [if_neg (by omega),if_neg (by omega),if_pos h3]
theorem zvga{v:Vh}{g lo hi:Int}(h:(pCheck v).2.2=0)(h2:0≤g∧g≤(v.ss.length:Int) - 1)(h3:¬ (lo < 0∨hi < lo)){s:Stg}(hs:v.ss[g.toNat]? = some s) :
  MV (IntKind.i64.wrap (pos (s.pl - hi) + acc (·.dl) (·.pl) (v.ss.drop g.toNat) + v.yl),IntKind.i64.wrap (pos (s.ph - lo) + acc (·.dh) (·.ph) (v.ss.drop g.toNat) + v.yh),0)=MV (pMass v g lo hi):=by unfold pMass;rw [if_neg (by omega),if_neg (by omega),if_neg h3,hs]
def InvMp(m1 m2:Int)(l:List Stg)(L:List Vl):Prop:=∃ k:Nat,L=[.i k,.i (IntKind.i64.wrap (m1 + acc (·.dl) (·.pl) (l.take k))),.i (IntKind.i64.wrap (m2 + acc (·.dh) (·.ph) (l.take k)))]∧k≤l.length
def msMp(n:Nat)(L:List Vl):Nat:=match L with
 | [.i k,_,_]=>n - k.toNat
 | _=>0
def yk(y:Int)(f g:Stg→Int)(l:List Stg)(k:Nat):Int:=if k=0 then y else IntKind.i64.wrap (y + acc f g (l.take k))
theorem w_yk(y:Int)(f g:Stg→Int)(l:List Stg)(k:Nat)(b:Int):IntKind.i64.wrap (yk y f g l k + b)=IntKind.i64.wrap (y + acc f g (l.take k) + b):=by
 unfold yk;split
 ·rename_i h;subst h;simp [acc]
 ·exact zku _ _
theorem zfq(y:Int)(f g:Stg→Int)(l:List Stg)(k:Nat):yk y f g l (k + 1)=IntKind.i64.wrap (y + acc f g (l.take (k + 1))):=by unfold yk;rw [if_neg (by omega)]
def InvMr(y1 y2:Int)(g:Nat)(l:List Stg)(L:List Vl):Prop:=∃ k:Nat,L=[.i ((g + k:Nat):Int),.i (yk y1 (·.dl) (·.pl) l k),.i (yk y2 (·.dh) (·.ph) l k)]∧k≤l.length
def msMr(n:Nat)(L:List Vl):Nat:=match L with
 | [.i k,_,_]=>n - k.toNat
 | _=>0
theorem zus{w:World}{v:Vh}(hG:VGs w)(h:VhAt w v)(hz:VhSz v)(hc:CapOk v.sv)(g lo hi:Int):Calls Tryz.prog 8 #[VHV v,.int .i64 g,.agg #[.int .i64 lo,.int .i64 hi]] w (Vc.Ret (MV (pMass v g lo hi)) w):=by
 have h':=h;obtain⟨b0,p0,c0,e0,f0,g0⟩:=zdc h.st;obtain⟨b1,p1,c1,e1,f1,g1⟩:=zcc h.dr;have hno:=zme f0;have hsn:=hz.sn;have hcap:=zica hc e0
 have E:VHV v=.agg #[.string ⟨v.nm.toArray⟩,(if b0=true then .slice none 0 0 else .slice (some (Vc.qad p0 (Int.toNat ((v.ss.length:Nat):Int)) (Int.toNat c0))) (Int.toNat ((v.ss.length:Nat):Int)) (Int.toNat c0):Value),.int .i64 v.yl,.int .i64 v.yh,
   (if b1=true then .slice none 0 0 else .slice (some (Vc.qad p1 (Int.toNat ((v.dr.length:Nat):Int)) (Int.toNat c1))) (Int.toNat ((v.dr.length:Nat):Int)) (Int.toNat c1):Value),.int .i64 v.ax,.int .i64 v.be]:=by
  unfold VHV;rw [e0,e1]
 rw [E];refine zpm p0 p1 (v.ss.length:Nat) c0 v.yl v.yh (v.dr.length:Nat) c1 v.ax v.be g lo hi b0 b1 v.nm w _ ⟨_,_,_,fun w' hb=>by rw [← E];exact zvz (hG.keep hb) (h'.below hb) hz,iteI (fun hv => ?_) (fun hv=>zhda hv)⟩;refine⟨by omega,hno, ?_⟩;rintro x14 rfl;rw [zh (by omega)];refine iteI (fun hg0=>iteI (fun hg1=>iteI (fun hu=>zeq hv ⟨hg0,hg1⟩ (.inl hu)) (fun hu=>iteI (fun hu2=>zeq hv ⟨hg0,hg1⟩ (.inr hu2)) (fun hu2 => ?_))) (fun hg1=>zdq hv (by omega))) (fun hg0=>zdq hv (by omega));obtain⟨n,rfl⟩:=Int.eq_ofNat_of_zero_le hg0;have hn:n < v.ss.length:=by omega
 have hs:v.ss[n]? = some v.ss[n]:=List.getElem?_eq_getElem hn;generalize v.ss[n]=s at hs;obtain⟨_,_,_,k3,k4,_⟩:=g0 n s hs;have hnil:¬ b0=true:=fun hb=>by have:=f0 hb;omega
 have hc0:=hcap hnil;simp only [Int.toNat_natCast];refine⟨hnil,by omega,by omega,s.pl,k3,s.ph,k4, ?_⟩;rintro x17 rfl x18 hx18 x19 rfl x20 hx20;have e18:x18=pos (s.pl - hi):=hx18;have e20:x20=pos (s.ph - lo):=hx20;clear hx18 hx20;subst e18 e20;refine⟨hnil,by omega,by omega,by omega,by omega,by omega,by omega, ?_⟩;rintro x21 rfl x22 rfl;refine iteI (fun _ => ?_) (fun hh=>by omega);rintro x23 rfl;refine⟨by omega,InvMp (pos (s.pl - hi)) (pos (s.ph - lo)) (v.ss.drop n),msMp v.ss.length,⟨0,by simp [acc,zrha],Nat.zero_le _⟩, ?_⟩;rintro x24 x25 x26 ⟨k,hy,hk⟩;simp only [List.cons.injEq,Vl.i.injEq,and_true]at hy;obtain⟨rfl,rfl,rfl⟩:=hy;rw [List.length_drop]at hk;refine iteI (fun hlt => ?_) (fun hge => ?_)
 ·have hi':n + k < v.ss.length:=by omega
  have ht:v.ss[n + k]? = some v.ss[n + k]:=List.getElem?_eq_getElem hi';generalize v.ss[n + k]=t at ht;have ht':(v.ss.drop n)[k]? = some t:=by rw [List.getElem?_drop];exact ht
  obtain⟨q0,q1,q2,q3,q4,q5⟩:=g0 (n + k) t ht;obtain⟨b2,p2,c2,e2,f2,g2⟩:=zvf (h.es t (List.mem_of_getElem? ht));refine⟨by omega,hlt,by omega, ?_⟩;rintro x27 rfl;have hx:(0 + ((n:Nat):Int) + ((k:Nat):Int)).toNat=n + k:=by omega
  rw [hx];refine⟨t.nm,q0,t.dl,q1,t.dh,q2,t.pl,q3,t.ph,q4,b2,p2,(t.es.length:Nat),c2,by rw [q5,e2], ?_⟩;rintro x34 rfl x35 rfl;refine iteI (fun hk0 => ?_) (fun hk0 => ?_)
  ·unfold Vj_vehicle_Mass_T1;rintro x36 rfl x37 rfl x38 rfl;rw [zh (by omega)];refine⟨⟨k + 1, ?_,by rw [List.length_drop];omega⟩,by simp only [msMp];omega⟩;rw [zgd _ _ ht',zgd _ _ ht',if_neg (by omega),if_neg (by omega)];simp only [zku,Int.add_assoc];rfl
  ·rintro x36 rfl;rw [zh (by omega)];refine⟨⟨k + 1, ?_,by rw [List.length_drop];omega⟩,by simp only [msMp];omega⟩;rw [zgd _ _ ht',zgd _ _ ht',if_pos (by omega),if_pos (by omega)];simp only [zku,Int.add_assoc,Int.add_zero];rfl
 ·unfold Vj_vehicle_Mass_T2;rintro x27 rfl x28 rfl;have hk':(v.ss.drop n).take k=v.ss.drop n:=List.take_of_length_le (by rw [List.length_drop];omega);rw [hk',zku,zku];exact zvga (g:=(n:Int)) hv ⟨hg0,hg1⟩ (by omega) hs
theorem zvs{w:World}{v:Vh}(h:VhAt w v)(hz:VhSz v)(g lo hi:Int):Calls Tryz.prog 9 #[VHV v,.int .i64 g,.agg #[.int .i64 lo,.int .i64 hi]] w (Vc.Ret (MV (pMass v g lo hi)) w):=by
 have h':=h;obtain⟨b0,p0,c0,e0,f0,g0⟩:=zdc h.st;obtain⟨b1,p1,c1,e1,f1,g1⟩:=zcc h.dr;have hno:=zme f0;have hsn:=hz.sn
 have E:VHV v=.agg #[.string ⟨v.nm.toArray⟩,(if b0=true then .slice none 0 0 else .slice (some (Vc.qad p0 (Int.toNat ((v.ss.length:Nat):Int)) (Int.toNat c0))) (Int.toNat ((v.ss.length:Nat):Int)) (Int.toNat c0):Value),.int .i64 v.yl,.int .i64 v.yh,
   (if b1=true then .slice none 0 0 else .slice (some (Vc.qad p1 (Int.toNat ((v.dr.length:Nat):Int)) (Int.toNat c1))) (Int.toNat ((v.dr.length:Nat):Int)) (Int.toNat c1):Value),.int .i64 v.ax,.int .i64 v.be]:=by
  unfold VHV;rw [e0,e1]
 rw [E];refine zsg p0 p1 (v.ss.length:Nat) c0 v.yl v.yh (v.dr.length:Nat) c1 v.ax v.be g lo hi b0 b1 v.nm w _ ⟨_,_,_,fun w' hb=>by rw [← E];exact zrea (h'.below hb) hz,iteI (fun hv => ?_) (fun hv=>zhda hv)⟩;refine⟨by omega,hno, ?_⟩;rintro x14 rfl;rw [zh (by omega)];refine iteI (fun hg0=>iteI (fun hg1=>iteI (fun hu=>zeq hv ⟨hg0,hg1⟩ (.inl hu)) (fun hu=>iteI (fun hu2=>zeq hv ⟨hg0,hg1⟩ (.inr hu2)) (fun hu2 => ?_))) (fun hg1=>zdq hv (by omega))) (fun hg0=>zdq hv (by omega));obtain⟨n,rfl⟩:=Int.eq_ofNat_of_zero_le hg0;have hn:n < v.ss.length:=by omega
 have hnil:¬ b0=true:=fun hb=>by have:=f0 hb;omega
 refine⟨InvMr v.yl v.yh n (v.ss.drop n),msMr v.ss.length,⟨0,rfl,Nat.zero_le _⟩, ?_⟩;rintro x15 x16 x17 ⟨k,hy,hk⟩;simp only [List.cons.injEq,Vl.i.injEq,and_true]at hy;obtain⟨rfl,rfl,rfl⟩:=hy;rw [List.length_drop]at hk;refine⟨by omega,hno,iteI (fun hlt => ?_) (fun hge => ?_)⟩
 ·have hi':n + k < v.ss.length:=by omega
  have ht:v.ss[n + k]? = some v.ss[n + k]:=List.getElem?_eq_getElem hi';generalize v.ss[n + k]=t at ht;have ht':(v.ss.drop n)[k]? = some t:=by rw [List.getElem?_drop];exact ht
  obtain⟨q0,q1,q2,q3,q4,q5⟩:=g0 (n + k) t ht;simp only [Int.toNat_natCast];refine⟨hnil,by omega,hlt,t.dl,q1,t.dh,q2, ?_⟩;rintro x20 rfl x21 rfl;refine iteI (fun hk0 => ?_) (fun hk0 => ?_)
  ·refine⟨hnil,by omega,hlt,t.pl,q3,t.ph,q4, ?_⟩;rintro x24 rfl x25 rfl x26 rfl;rw [zh (by omega)];refine⟨⟨k + 1, ?_,by rw [List.length_drop];omega⟩,by simp only [msMr];omega⟩;rw [zfq,zfq,zgd _ _ ht',zgd _ _ ht',if_neg (by omega),if_neg (by omega)];simp only [zku,w_yk,Int.add_assoc];rfl
  ·rintro x22 rfl;rw [zh (by omega)];refine⟨⟨k + 1, ?_,by rw [List.length_drop];omega⟩,by simp only [msMr];omega⟩;rw [zfq,zfq,zgd _ _ ht',zgd _ _ ht',if_pos (by omega),if_pos (by omega)];simp only [zku,w_yk,Int.add_assoc,Int.add_zero];rfl
 ·have hs:v.ss[n]? = some v.ss[n]:=List.getElem?_eq_getElem hn;generalize v.ss[n]=s at hs;obtain⟨_,_,_,k3,k4,_⟩:=g0 n s hs;simp only [Int.toNat_natCast];refine⟨hnil,by omega,by omega,s.pl,k3,s.ph,k4, ?_⟩;rintro x20 rfl x21 hx21 x22 rfl x23 hx23;have e21:x21=pos (s.pl - hi):=hx21;have e23:x23=pos (s.ph - lo):=hx23;clear hx21 hx23;subst e21 e23;rintro x24 rfl x25 rfl;have hk':(v.ss.drop n).take k=v.ss.drop n:=List.take_of_length_le (by rw [List.length_drop];omega);rw [w_yk,w_yk,hk'];rw [show v.yl + acc (·.dl) (·.pl) (v.ss.drop n) + pos (s.pl - hi)=pos (s.pl - hi) + acc (·.dl) (·.pl) (v.ss.drop n) + v.yl by omega,show v.yh + acc (·.dh) (·.ph) (v.ss.drop n) + pos (s.ph - lo)=pos (s.ph - lo) + acc (·.dh) (·.ph) (v.ss.drop n) + v.yh by omega];exact zvga (g:=(n:Int)) hv ⟨hg0,hg1⟩ (by omega) hs
end Go.Proofs.YtfclibhhkphckaaGreatDoor
