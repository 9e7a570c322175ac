import Derived.Test.YtpfgephckjpcjaaGreatDoorYa
import Derived.Test.YtpfgephckjpcjaaGreatDoorYp
set_option linter.unusedVariables false
set_option linter.unusedSimpArgs false
set_option maxRecDepth 100000
namespace Go.Proofs.YtpfgephckjpcjaaGreatDoor
open Go Go.RowKit Vc
attribute [local irreducible] Go.Calls
theorem uS{w w':World}{xl g:Nat}{cs:Array Value}(h:∃ty mk,w.heap[g]? = some (.cells cs ty mk))(hb:Vc.bg xl w w')(hn:xl≠g):∃ty mk,w'.heap[g]? = some (.cells cs ty mk):=by
 obtain⟨ty,mk,h⟩:=h;have h4:g<w.heap.size:=(Array.getElem?_eq_some_iff.1 h).1;exact⟨ty,mk,by rw [hb.block g h4 (Ne.symm hn)];exact h⟩
def M5:List Nat := [12,0,3,4,5,6,7,8,9,10,11,14,13]
theorem pz.lt{w:World}(h:pz w):∀g∈M5,g<w.heap.size:=by
 have k:∀{g:Nat} {cs:Array Value},(∃ty mk,w.heap[g]? = some (.cells cs ty mk))->g<w.heap.size:=fun⟨_,_,h⟩=>(Array.getElem?_eq_some_iff.1 h).1;intro g hg;simp only [M5,List.mem_cons,List.not_mem_nil,or_false]at hg;rcases hg with rfl|rfl|rfl|rfl|rfl|rfl|rfl|rfl|rfl|rfl|rfl|rfl|rfl
 ·exact k h.g0
 ·exact k h.g3
 ·exact k h.g4
 ·exact k h.g5
 ·exact k h.g6
 ·exact k h.g7
 ·exact k h.g8
 ·exact k h.g9
 ·exact k h.g10
 ·exact k h.g11
 ·exact k h.g12
 ·exact k h.g14
 ·exact k h.g15
structure PS(w:World)(xl:Nat):Prop where
 gs:pz w
 ne:∀g∈M5,xl≠g
theorem PS.next{w w':World}{xl b:Nat}(h:PS w xl)(hb:Vc.bg xl w w')(hx:b=xl∨w.heap.size<=b):PS w' b:=by
 refine⟨⟨uS h.gs.g0 hb (h.ne _ (by decide)),uS h.gs.g3 hb (h.ne _ (by decide)),uS h.gs.g4 hb (h.ne _ (by decide)),uS h.gs.g5 hb (h.ne _ (by decide)),uS h.gs.g6 hb (h.ne _ (by decide)),uS h.gs.g7 hb (h.ne _ (by decide)),uS h.gs.g8 hb (h.ne _ (by decide)),uS h.gs.g9 hb (h.ne _ (by decide)),uS h.gs.g10 hb (h.ne _ (by decide)),uS h.gs.g11 hb (h.ne _ (by decide)),uS h.gs.g12 hb (h.ne _ (by decide)),uS h.gs.g14 hb (h.ne _ (by decide)),uS h.gs.g15 hb (h.ne _ (by decide))⟩,λg hg => ?_⟩;rcases hx with rfl|hx
 ·exact h.ne g hg
 ·have:=h.gs.lt g hg;omega
abbrev PT:TypeId:=52
abbrev xv(s:List UInt8)(i:Nat):Array Value := #[.string ⟨s.toArray⟩,.int .i64 (af s i).kind,.int .i64 (af s i).fr,.int .i64 (af s i).to,.string ⟨(af s i).text.toArray⟩,.int .i64 (af s i).q.1,.int .i64 (af s i).q.2.1,.int .i64 (af s i).q.2.2.1,.int .i64 (af s i).q.2.2.2.1,.int .i64 (af s i).q.2.2.2.2,.int .i64 (af s i).e,.map none,.string ⟨([]:List UInt8).toArray⟩,.slice none 0 0,.int .i64 0,.int .i64 0,.slice none 0 0,.int .i64 0,.int .i64 0]
structure PC(s:List UInt8)(i:Nat)(xl:Nat)(w:World):Prop where
 ps:PS w xl
 len:s.length<4611686018427387904
 le:i<=s.length
 hx:w.heap[xl]? = some (.cells (xv s i) PT)
theorem PC.next{s:List UInt8}{i j xl b:Nat}{w w':World}(h:PC s i xl w)(hb:Vc.bg xl w w')(hj:j<=s.length)(hx:((b=xl∨w.heap.size<=b)/\w'.heap[b]? = some (.cells (xv s j) PT))/\True):PC s j b w' :=
 ⟨h.ps.next hb hx.1.1,h.len,hj,hx.1.2⟩
theorem PC.tok{s:List UInt8}{i xl:Nat}{w:World}(h:PC s i xl w):(af s i).to<=s.length:=(mz s h.le).2.2.1
theorem PC.vg{s:List UInt8}{i xl:Nat}{w w':World}(h:PC s i xl w)(hb:Vc.bg xl w w'):pz w':=(h.ps.next hb (.inl rfl)).gs
def fv(a:Nat)(e:Int):Value := .iface 87 (.agg #[.int .i64 (a:Nat),.int .i64 e])
def rP(f:FuncId)(args:Array Value)(val:Q5->Value)(s:List UInt8)(xl:Nat)(w:World):Pr->Prop
 | .ok v j=>Calls Tryz.prog f args w (Vc.f_ (val v) xl (xv s j) PT w)
 | .err a e _ _=>Calls Tryz.prog f args w (Vc.jU (fv a e) [xl] w)
 | .out=>True
theorem rP.ok{f:FuncId}{args:Array Value}{val:Q5->Value}{s:List UInt8}{xl:Nat}{w:World}{r:Pr}{v:Q5}{j:Nat}(h:rP f args val s xl w r)(hr:r=.ok v j):Calls Tryz.prog f args w (Vc.f_ (val v) xl (xv s j) PT w):=by
 subst hr;exact h
theorem rP.err{f:FuncId}{args:Array Value}{val:Q5->Value}{s:List UInt8}{xl:Nat}{w:World}{r:Pr}{a i:Nat}{e:Int}{q:Q5}(h:rP f args val s xl w r)(hr:r=.err a e i q):Calls Tryz.prog f args w (Vc.jU (fv a e) [xl] w):=by
 subst hr;exact h
theorem ud{s:List UInt8}{i j:Nat}{r:Pr}{v:Q5}(h:r.In s i)(hr:r=.ok v j):i<=j/\j<=s.length:=by
 subst hr;exact h
theorem F0{s:List UInt8}{i:Nat}{x:List UInt8}:iW s i x=true↔(af s i).e=0/\(af s i).text=x:=by
 unfold iW;rw [Bool.and_eq_true,decide_eq_true_eq,decide_eq_true_eq]
theorem HG{s:List UInt8}{i:Nat}(h:(af s i).e=0):jW s i=5:=by unfold jW;rw [if_pos h]
theorem HH{s:List UInt8}{i:Nat}(h:¬(af s i).e=0):jW s i=(af s i).e:=by unfold jW;rw [if_neg h]
theorem M6{s x:List UInt8}{i j:Nat}{u v:Q5}(h:jm s x u i=.ok v j):iW s i x=true/\v=u/\j=(af s i).to:=by
 unfold jm at h;split at h
 ·rename_i ht;cases h;exact⟨ht,rfl,rfl⟩
 ·cases h
theorem M7{s x:List UInt8}{i a j:Nat}{e:Int}{u v:Q5}(h:jm s x u i=.err a e j v):iW s i x=false/\a=(af s i).fr/\e=jW s i:=by
 unfold jm at h;split at h
 ·cases h
 ·rename_i ht;cases h;exact⟨Bool.eq_false_iff.2 ht,rfl,rfl⟩
theorem zA{s:List UInt8}{f at' k j:Nat}{a b v:Q5}(h:bS s f a b at' k=.ok v j):(af s k).e=0/\(jn f a b).e=0/\v=(jn f a b).q/\j=k:=by
 unfold bS at h;split at h
 ·cases h
 ·rename_i h1;split at h
  ·cases h
  ·rename_i h2;cases h;exact⟨Decidable.not_not.1 h1,Decidable.not_not.1 h2,rfl,rfl⟩
theorem F1{s:List UInt8}{f at' k p j:Nat}{a b v:Q5}{e:Int}(h:bS s f a b at' k=.err p e j v):(¬(af s k).e=0/\p=(af s k).fr/\e=(af s k).e)∨((af s k).e=0/\¬(jn f a b).e=0/\p=at'/\e=(jn f a b).e):=by
 unfold bS at h;split at h
 ·rename_i h1;cases h;exact .inl ⟨h1,rfl,rfl⟩
 ·rename_i h1;split at h
  ·rename_i h2;cases h;exact .inr ⟨Decidable.not_not.1 h1,h2,rfl,rfl⟩
  ·cases h
theorem Cn(a b:Q5)(w:World):Calls Tryz.prog 50 #[fj a,fj b] w (Vc.aR (QE (jn 0 a b)) w):=Ru _ _ _ _ _ _ _ _ _ _ w
theorem Co(a b:Q5)(w:World):Calls Tryz.prog 51 #[fj a,fj b] w (Vc.aR (QE (jn 1 a b)) w):=VX _ _ _ _ _ _ _ _ _ _ w
theorem xw(a b:Q5)(w:World):Calls Tryz.prog 95 #[fj a,fj b] w (Vc.aR (QE (jn 2 a b)) w):=LA _ _ _ _ _ _ _ _ _ _ w
theorem Cp(a b:Q5)(w:World):Calls Tryz.prog 96 #[fj a,fj b] w (Vc.aR (QE (jn 3 a b)) w):=LC _ _ _ _ _ _ _ _ _ _ w
theorem Dc{t:List UInt8}{u:Q5}(hu:dG t=some u){w:World}(hG:pz w):Calls Tryz.prog 132 #[.string ⟨t.toArray⟩] w (Vc.aR (.tuple #[fj u,.bool true]) w):=by
 have:=Mq t hG
 rw [hu]at this;exact this
theorem Sj{t:List UInt8}(hu:dG t=none){w:World}(hG:pz w):Calls Tryz.prog 132 #[.string ⟨t.toArray⟩] w (Vc.aR (.tuple #[fj q0,.bool false]) w):=by
 have:=Mq t hG
 rw [hu]at this;exact this
theorem Cq{t:List UInt8}{b:Bool}(hb:dH t=b){w:World}(hG:pz w):Calls Tryz.prog 107 #[.string ⟨t.toArray⟩] w (Vc.aR (.bool b) w):=by
 subst hb;exact WA t hG
theorem zh{w:World}{xl i:Nat}{s x:List UInt8}(h:PC s i xl w)(ht:iW s i x=true):Calls Tryz.prog 48 #[Vc.ptr xl 0,.string ⟨x.toArray⟩] w (Vc.f_ (.bool true) xl (xv s (af s i).to) PT w):=by
 obtain⟨h1,h2⟩:=F0.1 ht;exact Si (0,0) (0,0) (af s i).kind (af s i).fr (af s i).to (af s i).q.1 (af s i).q.2.1 (af s i).q.2.2.1 (af s i).q.2.2.2.1 (af s i).q.2.2.2.2 (af s i).e 0 0 0 0 0 0 0 0 true true s (af s i).text [] x xl w _ _ h.hx (aa (λ_=>aa (λ_=>aa (λ_=>⟨_,_,_,_,_,_,_,_,_,_,λw' hb=>My s _ (h.vg hb) h.tok h.len,rfl⟩) (λe=>absurd h1 e)) (λe=>absurd h2 e)) (λe=>absurd h1 e))
theorem xx{w:World}{xl i:Nat}{s x:List UInt8}(h:PC s i xl w)(ht:iW s i x=false):Calls Tryz.prog 48 #[Vc.ptr xl 0,.string ⟨x.toArray⟩] w (Vc.f_ (.bool false) xl (xv s i) PT w):=by
 exact Si (0,0) (0,0) (af s i).kind (af s i).fr (af s i).to (af s i).q.1 (af s i).q.2.1 (af s i).q.2.2.1 (af s i).q.2.2.2.1 (af s i).q.2.2.2.2 (af s i).e 0 0 0 0 0 0 0 0 true true s (af s i).text [] x xl w _ _ h.hx (aa (λh1=>aa (λh2=>absurd (F0.2 ⟨h1,h2⟩) (by rw [ht];decide)) (λ_=>rfl)) (λ_=>rfl))
theorem Cr{w:World}{xl i:Nat}{s:List UInt8}(h:PC s i xl w)(h1:(af s i).e=0):Calls Tryz.prog 80 #[Vc.ptr xl 0] w (Vc.f_ (nh (af s i)) xl (xv s (af s i).to) PT w):=by
 exact WH (0,0) (0,0) (af s i).kind (af s i).fr (af s i).to (af s i).q.1 (af s i).q.2.1 (af s i).q.2.2.1 (af s i).q.2.2.2.1 (af s i).q.2.2.2.2 (af s i).e 0 0 0 0 0 0 0 0 true true s (af s i).text [] xl w _ _ h.hx (aa (λ_=>⟨_,_,_,_,_,_,_,_,_,_,λw' hb=>My s _ (h.vg hb) h.tok h.len,rfl⟩) (λe=>absurd h1 e))
theorem M8{w:World}{xl i:Nat}{s:List UInt8}(h:PC s i xl w)(h1:¬(af s i).e=0):Calls Tryz.prog 80 #[Vc.ptr xl 0] w (Vc.jU (fv (af s i).fr (af s i).e) [xl] w):=by
 exact WI (0,0) (0,0) (af s i).kind (af s i).fr (af s i).to (af s i).q.1 (af s i).q.2.1 (af s i).q.2.2.1 (af s i).q.2.2.2.1 (af s i).q.2.2.2.2 (af s i).e 0 0 0 0 0 0 0 0 true true s (af s i).text [] xl w _ h.hx (aa (λe=>absurd e h1) (λ_=>λv1 hv w' hb=>hv))
set_option maxHeartbeats 2000000 in
theorem M9{w:World}{xl i n:Nat}{s:List UInt8}(h:PC s i xl w)
    (F3:∀{w':World} {b j:Nat},PC s j b w'->rP 94 #[Vc.ptr b 0] fj s b w' (eO s n j)) (Dd:∀{w':World} {b j:Nat},PC s j b w'->rP 16 #[Vc.ptr b 0] fj s b w' (fF s n j))
    {R:Q5} {J:Nat} (H:eO s (n+1) i=.ok R J):Calls Tryz.prog 94 #[Vc.ptr xl 0] w (Vc.f_ (fj R) xl (xv s J) PT w):=by
  have h0:=h.le;have ht:=h.tok;rw [eO]at H;refine WJ (0,0) (0,0) (af s i).kind (af s i).fr (af s i).to (af s i).q.1 (af s i).q.2.1 (af s i).q.2.2.1 (af s i).q.2.2.2.1 (af s i).q.2.2.2.2 (af s i).e 0 0 0 0 0 0 0 0 true true s (af s i).text [] xl w _ _ h.hx ?_;by_cases g:iW s i [45]=true
  · rw [if_pos g]at H;obtain⟨u,k,hq,H⟩:=Pr.eV H;cases H;exact⟨true,_,_,_,_,_,_,_,_,_,_,λβ w' hb hh=>zh (h.next hb h0 hh) g,aa (λ_=>⟨_,_,_,_,_,_,_,_,_,_,_,_,_,_,_,λβ w' hb hh=>(F3 (h.next hb ht hh)).ok hq,λx hx=>by subst hx;rfl⟩) (λe=>absurd rfl e)⟩
  rw [if_neg g]at H;have o1:=Bool.eq_false_iff.2 g;clear g;refine⟨false,_,_,_,_,_,_,_,_,_,_,λβ w' hb hh=>xx (h.next hb h0 hh) o1,aa (λe=>by cases e) (λ_ => ?_)⟩;by_cases g:iW s i [40]=true
  · rw [if_pos g]at H;obtain⟨u,k,hq,H⟩:=Pr.eV H;have hk:=(ud ((gw s n).2.2.2.1 _ ht) hq).2;obtain⟨hw,rfl,rfl⟩:=M6 H;exact⟨true,_,_,_,_,_,_,_,_,_,_,λβ w' hb hh=>zh (h.next hb h0 hh) g,aa (λ_=>⟨_,_,_,_,_,_,_,_,_,_,_,_,_,_,_,λβ w' hb hh=>(Dd (h.next hb ht hh)).ok hq,true,_,_,_,_,_,_,_,_,_,_,λβ w' hb hh=>zh (h.next hb hk hh) hw,aa (λ_=>rfl) (λe=>absurd rfl e)⟩) (λe=>absurd rfl e)⟩
  rw [if_neg g]at H;have uT:=Bool.eq_false_iff.2 g;clear g;refine⟨false,_,_,_,_,_,_,_,_,_,_,λβ w' hb hh=>xx (h.next hb h0 hh) uT,aa (λe=>by cases e) (λ_ => ?_)⟩;by_cases kd:(af s i).kind=2
  · rw [if_pos kd]at H;refine aa (λ_ => ?_) (λe=>absurd kd e);unfold eW at H;by_cases t0:(af s i).e=0
    · rw [if_neg (λe=>e t0)]at H;refine⟨_,_,_,_,_,_,_,_,_,_,_,_,_,_,_,_,_,_,_,_,λβ w' hb hh=>Cr (h.next hb h0 hh) t0, ?_⟩;cases hu:dG (af s (af s i).to).text with
      |none =>
        rw [hu]at H;cases H;exact⟨_,_,_,_,_,false,λw' hb=>Sj hu (h.vg hb),aa (λe=>by cases e) (λ_=>rfl)⟩
      |some u =>
        rw [hu]at H;dsimp only at H;by_cases t1:(af s (af s i).to).e=0
        · rw [if_pos t1]at H;obtain⟨a1,a2,rfl,rfl⟩:=zA H;exact⟨_,_,_,_,_,true,λw' hb=>Dc hu (h.vg hb),aa (λ_=>aa (λ_=>⟨_,_,_,_,_,_,_,_,_,_,_,_,_,_,_,_,_,_,_,_,λβ w' hb hh=>Cr (h.next hb ht hh) t1,aa (λ_=>⟨_,_,_,_,_,_,λw' hb=>xw _ _ w',aa (λ_=>rfl) (λe=>absurd a2 e)⟩) (λe=>absurd a1 e)⟩) (λe=>absurd t1 e)) (λe=>absurd rfl e)⟩
        · rw [if_neg t1]at H;cases H;exact⟨_,_,_,_,_,true,λw' hb=>Dc hu (h.vg hb),aa (λ_=>aa (λe=>absurd e t1) (λ_=>rfl)) (λe=>absurd rfl e)⟩
    · rw [if_pos t0]at H;cases H
  rw [if_neg kd]at H;refine aa (λe=>absurd e kd) (λ_ => ?_);unfold gP at H;cases hu:dG (af s i).text with
  |some u =>
    rw [hu]at H;dsimp only at H;by_cases t0:(af s i).e=0
    · rw [if_neg (λe=>e t0)]at H;cases H;exact⟨_,_,_,_,_,true,λw' hb=>Dc hu (h.vg hb),aa (λ_=>⟨_,_,_,_,_,_,_,_,_,_,_,_,_,_,_,_,_,_,_,_,λβ w' hb hh=>Cr (h.next hb h0 hh) t0,rfl⟩) (λe=>absurd rfl e)⟩
    · rw [if_pos t0]at H;cases H
  |none =>
    rw [hu]at H;dsimp only at H;exfalso
    revert H
    split
    · intro H;cases H
    split
    · intro H;cases H
    · intro H;cases H
set_option maxHeartbeats 2000000 in
theorem M_{w:World}{xl i n:Nat}{s:List UInt8}(h:PC s i xl w)
    (F3:∀{w':World} {b j:Nat},PC s j b w'->rP 94 #[Vc.ptr b 0] fj s b w' (eO s n j)) (Dd:∀{w':World} {b j:Nat},PC s j b w'->rP 16 #[Vc.ptr b 0] fj s b w' (fF s n j))
    {a i':Nat} {e:Int} {q':Q5} (H:eO s (n+1) i=.err a e i' q'):Calls Tryz.prog 94 #[Vc.ptr xl 0] w (Vc.jU (fv a e) [xl] w):=by
  have h0:=h.le;have ht:=h.tok;rw [eO]at H;refine WK (0,0) (0,0) (af s i).kind (af s i).fr (af s i).to (af s i).q.1 (af s i).q.2.1 (af s i).q.2.2.1 (af s i).q.2.2.2.1 (af s i).q.2.2.2.2 (af s i).e 0 0 0 0 0 0 0 0 true true s (af s i).text [] xl w _ h.hx ?_;by_cases g:iW s i [45]=true
  · rw [if_pos g]at H;rcases Pr.dQ H with ⟨_,hq⟩|⟨u,k,hq,H⟩
    · exact⟨true,_,_,_,_,_,_,_,_,_,_,λβ w' hb hh=>zh (h.next hb h0 hh) g,aa (λ_=>.inr ⟨_,_,λβ w' hb hh=>(F3 (h.next hb ht hh)).err hq,λv0 e0 w' hb=>e0⟩) (λe=>absurd rfl e)⟩
    · cases H
  rw [if_neg g]at H;have o1:=Bool.eq_false_iff.2 g;clear g;refine⟨false,_,_,_,_,_,_,_,_,_,_,λβ w' hb hh=>xx (h.next hb h0 hh) o1,aa (λe=>by cases e) (λ_ => ?_)⟩;by_cases g:iW s i [40]=true
  · rw [if_pos g]at H;rcases Pr.dQ H with ⟨_,hq⟩|⟨u,k,hq,H⟩
    · exact⟨true,_,_,_,_,_,_,_,_,_,_,λβ w' hb hh=>zh (h.next hb h0 hh) g,aa (λ_=>.inr ⟨_,_,λβ w' hb hh=>(Dd (h.next hb ht hh)).err hq,λv0 e0 w' hb=>e0⟩) (λe=>absurd rfl e)⟩
    have hk:=(ud ((gw s n).2.2.2.1 _ ht) hq).2;obtain⟨hw,rfl,rfl⟩:=M7 H;exact⟨true,_,_,_,_,_,_,_,_,_,_,λβ w' hb hh=>zh (h.next hb h0 hh) g,aa (λ_=>.inl ⟨_,_,_,_,_,_,_,_,_,_,_,_,_,_,_,λβ w' hb hh=>(Dd (h.next hb ht hh)).ok hq,false,_,_,_,_,_,_,_,_,_,_,λβ w' hb hh=>xx (h.next hb hk hh) hw,aa (λe=>by cases e) (λ_=>aa (λe0 v0 hv w' hb=>by rw [HG e0];exact hv) (λe0 v0 hv w' hb=>by rw [HH e0];exact hv))⟩) (λe=>absurd rfl e)⟩
  rw [if_neg g]at H;have uT:=Bool.eq_false_iff.2 g;clear g;refine⟨false,_,_,_,_,_,_,_,_,_,_,λβ w' hb hh=>xx (h.next hb h0 hh) uT,aa (λe=>by cases e) (λ_ => ?_)⟩;by_cases kd:(af s i).kind=2
  · rw [if_pos kd]at H;refine aa (λ_ => ?_) (λe=>absurd kd e);unfold eW at H;by_cases t0:(af s i).e=0
    · rw [if_neg (λe=>e t0)]at H;left;refine⟨_,_,_,_,_,_,_,_,_,_,_,_,_,_,_,_,_,_,_,_,λβ w' hb hh=>Cr (h.next hb h0 hh) t0, ?_⟩;cases hu:dG (af s (af s i).to).text with
      |none =>
        rw [hu]at H;cases H
      |some u =>
        rw [hu]at H;dsimp only at H;by_cases t1:(af s (af s i).to).e=0
        · rw [if_pos t1]at H;rcases F1 H with ⟨a1,rfl,rfl⟩|⟨a1,a2,rfl,rfl⟩
          · exact⟨_,_,_,_,_,true,λw' hb=>Dc hu (h.vg hb),aa (λ_=>aa (λ_=>.inl ⟨_,_,_,_,_,_,_,_,_,_,_,_,_,_,_,_,_,_,_,_,λβ w' hb hh=>Cr (h.next hb ht hh) t1,aa (λe=>absurd e a1) (λ_=>λv0 e0 w' hb=>e0)⟩) (λe=>absurd t1 e)) (λe=>absurd rfl e)⟩
          · exact⟨_,_,_,_,_,true,λw' hb=>Dc hu (h.vg hb),aa (λ_=>aa (λ_=>.inl ⟨_,_,_,_,_,_,_,_,_,_,_,_,_,_,_,_,_,_,_,_,λβ w' hb hh=>Cr (h.next hb ht hh) t1,aa (λ_=>⟨_,_,_,_,_,_,λw' hb=>xw _ _ w',aa (λe=>absurd e a2) (λ_=>λv0 e0 w' hb=>e0)⟩) (λe=>absurd a1 e)⟩) (λe=>absurd t1 e)) (λe=>absurd rfl e)⟩
        · rw [if_neg t1]at H;cases H
    · rw [if_pos t0]at H;cases H;exact .inr ⟨_,_,λβ w' hb hh=>M8 (h.next hb h0 hh) t0,λv0 e0 w' hb=>e0⟩
  rw [if_neg kd]at H;refine aa (λe=>absurd e kd) (λ_ => ?_);unfold gP at H;cases hu:dG (af s i).text with
  |some u =>
    rw [hu]at H;dsimp only at H;by_cases t0:(af s i).e=0
    · rw [if_neg (λe=>e t0)]at H;cases H
    · rw [if_pos t0]at H;cases H;exact⟨_,_,_,_,_,true,λw' hb=>Dc hu (h.vg hb),aa (λ_=>.inr ⟨_,_,λβ w' hb hh=>M8 (h.next hb h0 hh) t0,λv0 e0 w' hb=>e0⟩) (λe=>absurd rfl e)⟩
  |none =>
    rw [hu]at H;dsimp only at H;refine⟨_,_,_,_,_,false,λw' hb=>Sj hu (h.vg hb),aa (λe=>by cases e) (λ_ => ?_)⟩;by_cases k1:(af s i).kind=1
    · refine aa (λ_ => ?_) (λe=>absurd k1 e);cases hr:dH (af s i).text with
      |true =>
        rw [if_pos (.inr hr)]at H;cases H;exact⟨true,λw' hb=>Cq hr (h.vg hb),aa (λ_=>aa (λe0 v0 hv w' hb=>by rw [HG e0];exact hv) (λe0 v0 hv w' hb=>by rw [HH e0];exact hv)) (λe=>absurd rfl e)⟩
      |false =>
        rw [if_neg (by simp [k1,hr])]at H;by_cases t0:(af s i).e=0
        · rw [if_neg (λe=>e t0)]at H;cases H;exact⟨false,λw' hb=>Cq hr (h.vg hb),aa (λe=>by cases e) (λ_=>.inl ⟨_,_,_,_,_,_,_,_,_,_,_,_,_,_,_,_,_,_,_,_,λβ w' hb hh=>Cr (h.next hb h0 hh) t0,λv0 e0 w' hb=>e0⟩)⟩
        · rw [if_pos t0]at H;cases H;exact⟨false,λw' hb=>Cq hr (h.vg hb),aa (λe=>by cases e) (λ_=>.inr ⟨_,_,λβ w' hb hh=>M8 (h.next hb h0 hh) t0,λv0 e0 w' hb=>e0⟩)⟩
    · rw [if_pos (.inl k1)]at H;cases H;exact aa (λe=>absurd e k1) (λ_=>aa (λe0 v0 hv w' hb=>by rw [HG e0];exact hv) (λe0 v0 hv w' hb=>by rw [HH e0];exact hv))
def Cs(n:Nat):List Vl->Nat
 | [_,_,_,_,_,_,_,_,_,_,_,.i a,_,_,_,_,_,_,_,_]=>n+1-a.toNat
 |_=>0
def xy(s:List UInt8)(k:Nat)(q:Q5):List Vl := [.i q.1,.i q.2.1,.i q.2.2.1,.i q.2.2.2.1,.i q.2.2.2.2,.i 0,.i 0,.i 0,.i 0,.i 0,.i (af s k).kind,.i (af s k).fr,.i (af s k).to,.s (af s k).text,.i (af s k).q.1,.i (af s k).q.2.1,.i (af s k).q.2.2.1,.i (af s k).q.2.2.2.1,.i (af s k).q.2.2.2.2,.i (af s k).e]
theorem AL{s:List UInt8}{k k':Nat}{q q':Q5}(h1:(af s k).fr<(af s k').fr)(h2:(af s k').fr<=s.length):Cs s.length (xy s k' q')<Cs s.length (xy s k q):=by
 simp only [Cs,xy];omega
set_option maxHeartbeats 2000000 in
theorem M'{w:World}{xl i n:Nat}{s:List UInt8}(h:PC s i xl w)
  (ih:∀{w':World} {b j m:Nat},m<=n->PC s j b w'->rP 94 #[Vc.ptr b 0] fj s b w' (eO s m j))
  {R:Q5} {J:Nat} (H:dB s (n+1) i=.ok R J):Calls Tryz.prog 47 #[Vc.ptr xl 0] w (Vc.f_ (fj R) xl (xv s J) PT w):=by
 rw [dB]at H;refine WL (0,0) (0,0) (af s i).kind (af s i).fr (af s i).to (af s i).q.1 (af s i).q.2.1 (af s i).q.2.2.1 (af s i).q.2.2.2.1 (af s i).q.2.2.2.2 (af s i).e 0 0 0 0 0 0 0 0 true true s (af s i).text [] xl w _ _ h.hx ?_;obtain⟨r0,k0,dJ,H⟩:=Pr.eV H;have lU:=(ud ((gw s n).1 _ h.le) dJ).2;refine⟨_,_,_,_,_,_,_,_,_,_,_,_,_,_,_,λβ w' hb hh=>(ih (Nat.le_refl _) (h.next hb h.le hh)).ok dJ,λL=>∃(m k:Nat) (q:Q5),L=xy s k q/\k<=s.length/\m<=n/\dZ s m q k=.ok R J,Cs s.length,⟨n,k0,r0,rfl,lU,Nat.le_refl _,H⟩, ?_⟩;rintro x1 x2 x3 x4 x5 x6 x7 x8 x9 ar aC aA au s4 ao aD az aS aU bh ⟨m,k,q,hy,hk,hm,hr⟩;simp only [xy,List.cons.injEq,Vl.i.injEq,Vl.s.injEq,and_true]at hy;obtain⟨rfl,rfl,rfl,rfl,rfl,rfl,rfl,rfl,rfl,rfl,rfl,rfl,rfl,rfl,rfl,rfl,rfl,rfl,rfl,rfl⟩:=hy;cases m with
 |zero=>rw [dZ]at hr;cases hr
 |succ m =>
 rw [dZ]at hr;by_cases g:iW s k [42]=true
 ·rw [if_pos g]at hr;obtain⟨_,ht⟩:=nB hk (by decide) g;have hf:=AK hk (by decide) g;obtain⟨r,k',hq,qv⟩:=Pr.eV hr;clear hr;obtain⟨q2,k2,ha,hr⟩:=Pr.eV qv;clear qv;obtain⟨h1,h2⟩:=ud ((gw s m).1 _ ht) hq;obtain⟨a1,a2,rfl,rfl⟩:=zA ha;have h3:=(mz s h2).1;exact⟨true,_,_,_,_,_,_,_,_,_,_,λβ w' hb hh=>zh (h.next hb hk hh) g,aa (λ_=>⟨_,_,_,_,_,_,_,_,_,_,_,_,_,_,_,λβ w' hb hh=>(ih (by omega) (h.next hb ht hh)).ok hq,aa (λ_=>⟨_,_,_,_,_,_,λw' hb=>xw _ _ w',aa (λ_=>⟨⟨m,_,_,rfl,h2,by omega,hr⟩,AL (q:=q) (q':=(jn 2 q r).q) (by omega) (pA s h2)⟩) (λe=>absurd a2 e)⟩) (λe=>absurd a1 e)⟩) (λe=>absurd rfl e)⟩
 rw [if_neg g]at hr;have AM:=Bool.eq_false_iff.2 g;clear g;refine⟨false,_,_,_,_,_,_,_,_,_,_,λβ w' hb hh=>xx (h.next hb hk hh) AM,aa (λe=>by cases e) (λ_ => ?_)⟩;by_cases g:iW s k [47]=true
 ·rw [if_pos g]at hr;obtain⟨_,ht⟩:=nB hk (by decide) g;have hf:=AK hk (by decide) g;obtain⟨r,k',hq,qv⟩:=Pr.eV hr;clear hr;obtain⟨q2,k2,ha,hr⟩:=Pr.eV qv;clear qv;obtain⟨h1,h2⟩:=ud ((gw s m).1 _ ht) hq;obtain⟨a1,a2,rfl,rfl⟩:=zA ha;have h3:=(mz s h2).1;exact⟨true,_,_,_,_,_,_,_,_,_,_,λβ w' hb hh=>zh (h.next hb hk hh) g,aa (λ_=>⟨_,_,_,_,_,_,_,_,_,_,_,_,_,_,_,λβ w' hb hh=>(ih (by omega) (h.next hb ht hh)).ok hq,aa (λ_=>⟨_,_,_,_,_,_,λw' hb=>Cp _ _ w',aa (λ_=>⟨⟨m,_,_,rfl,h2,by omega,hr⟩,AL (q:=q) (q':=(jn 3 q r).q) (by omega) (pA s h2)⟩) (λe=>absurd a2 e)⟩) (λe=>absurd a1 e)⟩) (λe=>absurd rfl e)⟩
 rw [if_neg g]at hr;have HI:=Bool.eq_false_iff.2 g;clear g;cases hr;exact⟨false,_,_,_,_,_,_,_,_,_,_,λβ w' hb hh=>xx (h.next hb hk hh) HI,aa (λe=>by cases e) (λ_=>rfl)⟩
set_option maxHeartbeats 2000000 in
theorem Na{w:World}{xl i n:Nat}{s:List UInt8}(h:PC s i xl w)
  (ih:∀{w':World} {b j m:Nat},m<=n->PC s j b w'->rP 94 #[Vc.ptr b 0] fj s b w' (eO s m j))
  {a i':Nat} {e:Int} {q':Q5} (H:dB s (n+1) i=.err a e i' q'):Calls Tryz.prog 47 #[Vc.ptr xl 0] w (Vc.jU (fv a e) [xl] w):=by
 rw [dB]at H;refine WM (0,0) (0,0) (af s i).kind (af s i).fr (af s i).to (af s i).q.1 (af s i).q.2.1 (af s i).q.2.2.1 (af s i).q.2.2.2.1 (af s i).q.2.2.2.2 (af s i).e 0 0 0 0 0 0 0 0 true true s (af s i).text [] xl w _ h.hx ?_;rcases Pr.dQ H with ⟨_,hq⟩|⟨r0,k0,dJ,H⟩
 ·exact .inr ⟨_,_,λβ w' hb hh=>(ih (Nat.le_refl _) (h.next hb h.le hh)).err hq,λv0 e0 w' hb=>e0⟩
 left;have lU:=(ud ((gw s n).1 _ h.le) dJ).2;refine⟨_,_,_,_,_,_,_,_,_,_,_,_,_,_,_,λβ w' hb hh=>(ih (Nat.le_refl _) (h.next hb h.le hh)).ok dJ,λL=>∃(m k:Nat) (q:Q5),L=xy s k q/\k<=s.length/\m<=n/\dZ s m q k=.err a e i' q',Cs s.length,⟨n,k0,r0,rfl,lU,Nat.le_refl _,H⟩, ?_⟩;rintro x1 x2 x3 x4 x5 x6 x7 x8 x9 ar aC aA au s4 ao aD az aS aU bh ⟨m,k,q,hy,hk,hm,hr⟩;simp only [xy,List.cons.injEq,Vl.i.injEq,Vl.s.injEq,and_true]at hy;obtain⟨rfl,rfl,rfl,rfl,rfl,rfl,rfl,rfl,rfl,rfl,rfl,rfl,rfl,rfl,rfl,rfl,rfl,rfl,rfl,rfl⟩:=hy;cases m with
 |zero=>rw [dZ]at hr;cases hr
 |succ m =>
 rw [dZ]at hr;by_cases g:iW s k [42]=true
 ·rw [if_pos g]at hr;obtain⟨_,ht⟩:=nB hk (by decide) g;have hf:=AK hk (by decide) g;rcases Pr.dQ hr with ⟨_,hq⟩|⟨r,k',hq,qv⟩
  ·exact⟨true,_,_,_,_,_,_,_,_,_,_,λβ w' hb hh=>zh (h.next hb hk hh) g,aa (λ_=>.inr ⟨_,_,λβ w' hb hh=>(ih (by omega) (h.next hb ht hh)).err hq,λv0 e0 w' hb=>e0⟩) (λe=>absurd rfl e)⟩
  rcases Pr.dQ qv with ⟨_,ha⟩|⟨q2,k2,ha,vb⟩
  ·rcases F1 ha with ⟨a1,rfl,rfl⟩|⟨a1,a2,rfl,rfl⟩
   ·exact⟨true,_,_,_,_,_,_,_,_,_,_,λβ w' hb hh=>zh (h.next hb hk hh) g,aa (λ_=>.inl ⟨_,_,_,_,_,_,_,_,_,_,_,_,_,_,_,λβ w' hb hh=>(ih (by omega) (h.next hb ht hh)).ok hq,aa (λe=>absurd e a1) (λ_=>λv0 e0 w' hb=>e0)⟩) (λe=>absurd rfl e)⟩
   ·exact⟨true,_,_,_,_,_,_,_,_,_,_,λβ w' hb hh=>zh (h.next hb hk hh) g,aa (λ_=>.inl ⟨_,_,_,_,_,_,_,_,_,_,_,_,_,_,_,λβ w' hb hh=>(ih (by omega) (h.next hb ht hh)).ok hq,aa (λ_=>⟨_,_,_,_,_,_,λw' hb=>xw _ _ w',aa (λe=>absurd e a2) (λ_=>λv0 e0 w' hb=>e0)⟩) (λe=>absurd a1 e)⟩) (λe=>absurd rfl e)⟩
  ·obtain⟨h1,h2⟩:=ud ((gw s m).1 _ ht) hq;obtain⟨a1,a2,rfl,rfl⟩:=zA ha;have h3:=(mz s h2).1;exact⟨true,_,_,_,_,_,_,_,_,_,_,λβ w' hb hh=>zh (h.next hb hk hh) g,aa (λ_=>.inl ⟨_,_,_,_,_,_,_,_,_,_,_,_,_,_,_,λβ w' hb hh=>(ih (by omega) (h.next hb ht hh)).ok hq,aa (λ_=>⟨_,_,_,_,_,_,λw' hb=>xw _ _ w',aa (λ_=>⟨⟨m,_,_,rfl,h2,by omega,vb⟩,AL (q:=q) (q':=(jn 2 q r).q) (by omega) (pA s h2)⟩) (λe=>absurd a2 e)⟩) (λe=>absurd a1 e)⟩) (λe=>absurd rfl e)⟩
 rw [if_neg g]at hr;have AM:=Bool.eq_false_iff.2 g;clear g;refine⟨false,_,_,_,_,_,_,_,_,_,_,λβ w' hb hh=>xx (h.next hb hk hh) AM,aa (λe=>by cases e) (λ_ => ?_)⟩;by_cases g:iW s k [47]=true
 ·rw [if_pos g]at hr;obtain⟨_,ht⟩:=nB hk (by decide) g;have hf:=AK hk (by decide) g;rcases Pr.dQ hr with ⟨_,hq⟩|⟨r,k',hq,qv⟩
  ·exact⟨true,_,_,_,_,_,_,_,_,_,_,λβ w' hb hh=>zh (h.next hb hk hh) g,aa (λ_=>.inr ⟨_,_,λβ w' hb hh=>(ih (by omega) (h.next hb ht hh)).err hq,λv0 e0 w' hb=>e0⟩) (λe=>absurd rfl e)⟩
  rcases Pr.dQ qv with ⟨_,ha⟩|⟨q2,k2,ha,vb⟩
  ·rcases F1 ha with ⟨a1,rfl,rfl⟩|⟨a1,a2,rfl,rfl⟩
   ·exact⟨true,_,_,_,_,_,_,_,_,_,_,λβ w' hb hh=>zh (h.next hb hk hh) g,aa (λ_=>.inl ⟨_,_,_,_,_,_,_,_,_,_,_,_,_,_,_,λβ w' hb hh=>(ih (by omega) (h.next hb ht hh)).ok hq,aa (λe=>absurd e a1) (λ_=>λv0 e0 w' hb=>e0)⟩) (λe=>absurd rfl e)⟩
   ·exact⟨true,_,_,_,_,_,_,_,_,_,_,λβ w' hb hh=>zh (h.next hb hk hh) g,aa (λ_=>.inl ⟨_,_,_,_,_,_,_,_,_,_,_,_,_,_,_,λβ w' hb hh=>(ih (by omega) (h.next hb ht hh)).ok hq,aa (λ_=>⟨_,_,_,_,_,_,λw' hb=>Cp _ _ w',aa (λe=>absurd e a2) (λ_=>λv0 e0 w' hb=>e0)⟩) (λe=>absurd a1 e)⟩) (λe=>absurd rfl e)⟩
  ·obtain⟨h1,h2⟩:=ud ((gw s m).1 _ ht) hq;obtain⟨a1,a2,rfl,rfl⟩:=zA ha;have h3:=(mz s h2).1;exact⟨true,_,_,_,_,_,_,_,_,_,_,λβ w' hb hh=>zh (h.next hb hk hh) g,aa (λ_=>.inl ⟨_,_,_,_,_,_,_,_,_,_,_,_,_,_,_,λβ w' hb hh=>(ih (by omega) (h.next hb ht hh)).ok hq,aa (λ_=>⟨_,_,_,_,_,_,λw' hb=>Cp _ _ w',aa (λ_=>⟨⟨m,_,_,rfl,h2,by omega,vb⟩,AL (q:=q) (q':=(jn 3 q r).q) (by omega) (pA s h2)⟩) (λe=>absurd a2 e)⟩) (λe=>absurd a1 e)⟩) (λe=>absurd rfl e)⟩
 rw [if_neg g]at hr;have HI:=Bool.eq_false_iff.2 g;clear g;cases hr
set_option maxHeartbeats 2000000 in
theorem WR{w:World}{xl i n:Nat}{s:List UInt8}(h:PC s i xl w)
  (ih:∀{w':World} {b j m:Nat},m<=n->PC s j b w'->rP 47 #[Vc.ptr b 0] fj s b w' (dB s m j))
  {R:Q5} {J:Nat} (H:fF s (n+1) i=.ok R J):Calls Tryz.prog 16 #[Vc.ptr xl 0] w (Vc.f_ (fj R) xl (xv s J) PT w):=by
 rw [fF]at H;refine WN (0,0) (0,0) (af s i).kind (af s i).fr (af s i).to (af s i).q.1 (af s i).q.2.1 (af s i).q.2.2.1 (af s i).q.2.2.2.1 (af s i).q.2.2.2.2 (af s i).e 0 0 0 0 0 0 0 0 true true s (af s i).text [] xl w _ _ h.hx ?_;obtain⟨r0,k0,dJ,H⟩:=Pr.eV H;have lU:=(ud ((gw s n).2.1 _ h.le) dJ).2;refine⟨_,_,_,_,_,_,_,_,_,_,_,_,_,_,_,λβ w' hb hh=>(ih (Nat.le_refl _) (h.next hb h.le hh)).ok dJ,λL=>∃(m k:Nat) (q:Q5),L=xy s k q/\k<=s.length/\m<=n/\gU s m q k=.ok R J,Cs s.length,⟨n,k0,r0,rfl,lU,Nat.le_refl _,H⟩, ?_⟩;rintro x1 x2 x3 x4 x5 x6 x7 x8 x9 ar aC aA au s4 ao aD az aS aU bh ⟨m,k,q,hy,hk,hm,hr⟩;simp only [xy,List.cons.injEq,Vl.i.injEq,Vl.s.injEq,and_true]at hy;obtain⟨rfl,rfl,rfl,rfl,rfl,rfl,rfl,rfl,rfl,rfl,rfl,rfl,rfl,rfl,rfl,rfl,rfl,rfl,rfl,rfl⟩:=hy;cases m with
 |zero=>rw [gU]at hr;cases hr
 |succ m =>
 rw [gU]at hr;by_cases g:iW s k [43]=true
 ·rw [if_pos g]at hr;obtain⟨_,ht⟩:=nB hk (by decide) g;have hf:=AK hk (by decide) g;obtain⟨r,k',hq,qv⟩:=Pr.eV hr;clear hr;obtain⟨q2,k2,ha,hr⟩:=Pr.eV qv;clear qv;obtain⟨h1,h2⟩:=ud ((gw s m).2.1 _ ht) hq;obtain⟨a1,a2,rfl,rfl⟩:=zA ha;have h3:=(mz s h2).1;exact⟨true,_,_,_,_,_,_,_,_,_,_,λβ w' hb hh=>zh (h.next hb hk hh) g,aa (λ_=>⟨_,_,_,_,_,_,_,_,_,_,_,_,_,_,_,λβ w' hb hh=>(ih (by omega) (h.next hb ht hh)).ok hq,aa (λ_=>⟨_,_,_,_,_,_,λw' hb=>Cn _ _ w',aa (λ_=>⟨⟨m,_,_,rfl,h2,by omega,hr⟩,AL (q:=q) (q':=(jn 0 q r).q) (by omega) (pA s h2)⟩) (λe=>absurd a2 e)⟩) (λe=>absurd a1 e)⟩) (λe=>absurd rfl e)⟩
 rw [if_neg g]at hr;have AN:=Bool.eq_false_iff.2 g;clear g;refine⟨false,_,_,_,_,_,_,_,_,_,_,λβ w' hb hh=>xx (h.next hb hk hh) AN,aa (λe=>by cases e) (λ_ => ?_)⟩;by_cases g:iW s k [45]=true
 ·rw [if_pos g]at hr;obtain⟨_,ht⟩:=nB hk (by decide) g;have hf:=AK hk (by decide) g;obtain⟨r,k',hq,qv⟩:=Pr.eV hr;clear hr;obtain⟨q2,k2,ha,hr⟩:=Pr.eV qv;clear qv;obtain⟨h1,h2⟩:=ud ((gw s m).2.1 _ ht) hq;obtain⟨a1,a2,rfl,rfl⟩:=zA ha;have h3:=(mz s h2).1;exact⟨true,_,_,_,_,_,_,_,_,_,_,λβ w' hb hh=>zh (h.next hb hk hh) g,aa (λ_=>⟨_,_,_,_,_,_,_,_,_,_,_,_,_,_,_,λβ w' hb hh=>(ih (by omega) (h.next hb ht hh)).ok hq,aa (λ_=>⟨_,_,_,_,_,_,λw' hb=>Co _ _ w',aa (λ_=>⟨⟨m,_,_,rfl,h2,by omega,hr⟩,AL (q:=q) (q':=(jn 1 q r).q) (by omega) (pA s h2)⟩) (λe=>absurd a2 e)⟩) (λe=>absurd a1 e)⟩) (λe=>absurd rfl e)⟩
 rw [if_neg g]at hr;have o1:=Bool.eq_false_iff.2 g;clear g;cases hr;exact⟨false,_,_,_,_,_,_,_,_,_,_,λβ w' hb hh=>xx (h.next hb hk hh) o1,aa (λe=>by cases e) (λ_=>rfl)⟩
set_option maxHeartbeats 2000000 in
theorem WS{w:World}{xl i n:Nat}{s:List UInt8}(h:PC s i xl w)
  (ih:∀{w':World} {b j m:Nat},m<=n->PC s j b w'->rP 47 #[Vc.ptr b 0] fj s b w' (dB s m j))
  {a i':Nat} {e:Int} {q':Q5} (H:fF s (n+1) i=.err a e i' q'):Calls Tryz.prog 16 #[Vc.ptr xl 0] w (Vc.jU (fv a e) [xl] w):=by
 rw [fF]at H;refine WO (0,0) (0,0) (af s i).kind (af s i).fr (af s i).to (af s i).q.1 (af s i).q.2.1 (af s i).q.2.2.1 (af s i).q.2.2.2.1 (af s i).q.2.2.2.2 (af s i).e 0 0 0 0 0 0 0 0 true true s (af s i).text [] xl w _ h.hx ?_;rcases Pr.dQ H with ⟨_,hq⟩|⟨r0,k0,dJ,H⟩
 ·exact .inr ⟨_,_,λβ w' hb hh=>(ih (Nat.le_refl _) (h.next hb h.le hh)).err hq,λv0 e0 w' hb=>e0⟩
 left;have lU:=(ud ((gw s n).2.1 _ h.le) dJ).2;refine⟨_,_,_,_,_,_,_,_,_,_,_,_,_,_,_,λβ w' hb hh=>(ih (Nat.le_refl _) (h.next hb h.le hh)).ok dJ,λL=>∃(m k:Nat) (q:Q5),L=xy s k q/\k<=s.length/\m<=n/\gU s m q k=.err a e i' q',Cs s.length,⟨n,k0,r0,rfl,lU,Nat.le_refl _,H⟩, ?_⟩;rintro x1 x2 x3 x4 x5 x6 x7 x8 x9 ar aC aA au s4 ao aD az aS aU bh ⟨m,k,q,hy,hk,hm,hr⟩;simp only [xy,List.cons.injEq,Vl.i.injEq,Vl.s.injEq,and_true]at hy;obtain⟨rfl,rfl,rfl,rfl,rfl,rfl,rfl,rfl,rfl,rfl,rfl,rfl,rfl,rfl,rfl,rfl,rfl,rfl,rfl,rfl⟩:=hy;cases m with
 |zero=>rw [gU]at hr;cases hr
 |succ m =>
 rw [gU]at hr;by_cases g:iW s k [43]=true
 ·rw [if_pos g]at hr;obtain⟨_,ht⟩:=nB hk (by decide) g;have hf:=AK hk (by decide) g;rcases Pr.dQ hr with ⟨_,hq⟩|⟨r,k',hq,qv⟩
  ·exact⟨true,_,_,_,_,_,_,_,_,_,_,λβ w' hb hh=>zh (h.next hb hk hh) g,aa (λ_=>.inr ⟨_,_,λβ w' hb hh=>(ih (by omega) (h.next hb ht hh)).err hq,λv0 e0 w' hb=>e0⟩) (λe=>absurd rfl e)⟩
  rcases Pr.dQ qv with ⟨_,ha⟩|⟨q2,k2,ha,vb⟩
  ·rcases F1 ha with ⟨a1,rfl,rfl⟩|⟨a1,a2,rfl,rfl⟩
   ·exact⟨true,_,_,_,_,_,_,_,_,_,_,λβ w' hb hh=>zh (h.next hb hk hh) g,aa (λ_=>.inl ⟨_,_,_,_,_,_,_,_,_,_,_,_,_,_,_,λβ w' hb hh=>(ih (by omega) (h.next hb ht hh)).ok hq,aa (λe=>absurd e a1) (λ_=>λv0 e0 w' hb=>e0)⟩) (λe=>absurd rfl e)⟩
   ·exact⟨true,_,_,_,_,_,_,_,_,_,_,λβ w' hb hh=>zh (h.next hb hk hh) g,aa (λ_=>.inl ⟨_,_,_,_,_,_,_,_,_,_,_,_,_,_,_,λβ w' hb hh=>(ih (by omega) (h.next hb ht hh)).ok hq,aa (λ_=>⟨_,_,_,_,_,_,λw' hb=>Cn _ _ w',aa (λe=>absurd e a2) (λ_=>λv0 e0 w' hb=>e0)⟩) (λe=>absurd a1 e)⟩) (λe=>absurd rfl e)⟩
  ·obtain⟨h1,h2⟩:=ud ((gw s m).2.1 _ ht) hq;obtain⟨a1,a2,rfl,rfl⟩:=zA ha;have h3:=(mz s h2).1;exact⟨true,_,_,_,_,_,_,_,_,_,_,λβ w' hb hh=>zh (h.next hb hk hh) g,aa (λ_=>.inl ⟨_,_,_,_,_,_,_,_,_,_,_,_,_,_,_,λβ w' hb hh=>(ih (by omega) (h.next hb ht hh)).ok hq,aa (λ_=>⟨_,_,_,_,_,_,λw' hb=>Cn _ _ w',aa (λ_=>⟨⟨m,_,_,rfl,h2,by omega,vb⟩,AL (q:=q) (q':=(jn 0 q r).q) (by omega) (pA s h2)⟩) (λe=>absurd a2 e)⟩) (λe=>absurd a1 e)⟩) (λe=>absurd rfl e)⟩
 rw [if_neg g]at hr;have AN:=Bool.eq_false_iff.2 g;clear g;refine⟨false,_,_,_,_,_,_,_,_,_,_,λβ w' hb hh=>xx (h.next hb hk hh) AN,aa (λe=>by cases e) (λ_ => ?_)⟩;by_cases g:iW s k [45]=true
 ·rw [if_pos g]at hr;obtain⟨_,ht⟩:=nB hk (by decide) g;have hf:=AK hk (by decide) g;rcases Pr.dQ hr with ⟨_,hq⟩|⟨r,k',hq,qv⟩
  ·exact⟨true,_,_,_,_,_,_,_,_,_,_,λβ w' hb hh=>zh (h.next hb hk hh) g,aa (λ_=>.inr ⟨_,_,λβ w' hb hh=>(ih (by omega) (h.next hb ht hh)).err hq,λv0 e0 w' hb=>e0⟩) (λe=>absurd rfl e)⟩
  rcases Pr.dQ qv with ⟨_,ha⟩|⟨q2,k2,ha,vb⟩
  ·rcases F1 ha with ⟨a1,rfl,rfl⟩|⟨a1,a2,rfl,rfl⟩
   ·exact⟨true,_,_,_,_,_,_,_,_,_,_,λβ w' hb hh=>zh (h.next hb hk hh) g,aa (λ_=>.inl ⟨_,_,_,_,_,_,_,_,_,_,_,_,_,_,_,λβ w' hb hh=>(ih (by omega) (h.next hb ht hh)).ok hq,aa (λe=>absurd e a1) (λ_=>λv0 e0 w' hb=>e0)⟩) (λe=>absurd rfl e)⟩
   ·exact⟨true,_,_,_,_,_,_,_,_,_,_,λβ w' hb hh=>zh (h.next hb hk hh) g,aa (λ_=>.inl ⟨_,_,_,_,_,_,_,_,_,_,_,_,_,_,_,λβ w' hb hh=>(ih (by omega) (h.next hb ht hh)).ok hq,aa (λ_=>⟨_,_,_,_,_,_,λw' hb=>Co _ _ w',aa (λe=>absurd e a2) (λ_=>λv0 e0 w' hb=>e0)⟩) (λe=>absurd a1 e)⟩) (λe=>absurd rfl e)⟩
  ·obtain⟨h1,h2⟩:=ud ((gw s m).2.1 _ ht) hq;obtain⟨a1,a2,rfl,rfl⟩:=zA ha;have h3:=(mz s h2).1;exact⟨true,_,_,_,_,_,_,_,_,_,_,λβ w' hb hh=>zh (h.next hb hk hh) g,aa (λ_=>.inl ⟨_,_,_,_,_,_,_,_,_,_,_,_,_,_,_,λβ w' hb hh=>(ih (by omega) (h.next hb ht hh)).ok hq,aa (λ_=>⟨_,_,_,_,_,_,λw' hb=>Co _ _ w',aa (λ_=>⟨⟨m,_,_,rfl,h2,by omega,vb⟩,AL (q:=q) (q':=(jn 1 q r).q) (by omega) (pA s h2)⟩) (λe=>absurd a2 e)⟩) (λe=>absurd a1 e)⟩) (λe=>absurd rfl e)⟩
 rw [if_neg g]at hr;have o1:=Bool.eq_false_iff.2 g;clear g;cases hr
theorem Nb(s:List UInt8):∀n m,m<=n->(∀{w:World} {b j:Nat},PC s j b w->rP 94 #[Vc.ptr b 0] fj s b w (eO s m j))/\(∀{w:World} {b j:Nat},PC s j b w->rP 47 #[Vc.ptr b 0] fj s b w (dB s m j))/\(∀{w:World} {b j:Nat},PC s j b w->rP 16 #[Vc.ptr b 0] fj s b w (fF s m j)):=by
  intro n
  induction n with
  |zero =>
    intro m hm;obtain rfl:m=0:=by omega
    refine⟨λ_ => ?_,λ_ => ?_,λ_ => ?_⟩
    · rw [eO];trivial
    · rw [dB];trivial
    · rw [fF];trivial
  |succ n ih =>
    intro m hm;rcases Nat.lt_or_ge n m with eD|oV
    · obtain rfl:m=n+1:=by omega
      refine⟨λ{w b j} h => ?_,λ{w b j} h => ?_,λ{w b j} h => ?_⟩
      · cases hr:eO s (n+1) j with
        |ok R J=>exact M9 h (λq=>(ih n (Nat.le_refl _)).1 q) (λq=>(ih n (Nat.le_refl _)).2.2 q) hr
        |err a e i q=>exact M_ h (λq=>(ih n (Nat.le_refl _)).1 q) (λq=>(ih n (Nat.le_refl _)).2.2 q) hr
        |out=>trivial
      · cases hr:dB s (n+1) j with
        |ok R J=>exact M' h (λhm q=>(ih _ hm).1 q) hr
        |err a e i q=>exact Na h (λhm q=>(ih _ hm).1 q) hr
        |out=>trivial
      · cases hr:fF s (n+1) j with
        |ok R J=>exact WR h (λhm q=>(ih _ hm).2.1 q) hr
        |err a e i q=>exact WS h (λhm q=>(ih _ hm).2.1 q) hr
        |out=>trivial
    · exact ih m oV
theorem Sk{w:World}{b:Nat}{s:List UInt8}{n j:Nat}(h:PC s j b w):rP 16 #[Vc.ptr b 0] fj s b w (fF s n j):=(Nb s n n (Nat.le_refl _)).2.2 h
end Go.Proofs.YtpfgephckjpcjaaGreatDoor
