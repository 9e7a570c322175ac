import Derived.Test.YtdjgnbkclcjiiaaGreatDoorPj
import Derived.Test.YtdjgnbkclcjiiaaGreatDoorPd
import Derived.Test.YtdjgnbkclcjiiaaGreatDoorG0
section
set_option linter.unusedVariables false
set_option linter.unusedSimpArgs false
set_option maxRecDepth 100000
namespace Go.Proofs.YtdjgnbkclcjiiaaGreatDoor
open Go Go.RowKit Go.Proofs Wk
open Vc (SlAt OV iteI Vl zfb zh)
attribute [local irreducible] Go.Calls
theorem RcP.imp{s:List UInt8}{w:World}{P Q:Sx→Rl→Prop}{e:Ending}{w':World}(h:RcP s w P e w')(hPQ:∀ q R,P q R→Q q R):RcP s w Q e w':=by
 obtain⟨⟨q,R,xa,xl,xc,h1,h2,h3,h4⟩,hB⟩:=h;exact⟨⟨q,R,xa,xl,xc,h1,h2,h3,hPQ _ _ h4⟩,hB⟩
mutual
theorem zqw:∀ (r:Rl),RlSz (erR r)→RlSz r
  | .mk op ask nm wi cm n v ks=>fun h=>by
    simp only [erR,RlSz]at h;simp only [RlSz];exact⟨h.1,by have:=h.2.1;rw [zdj]at this;exact this,znz ks h.2.2⟩
theorem znz:∀ (l:List Rl),RlSzL (erL l)→RlSzL l
  | []=>fun _=>trivial
  | r::l=>fun h=>by
    simp only [erL,RlSzL]at h;exact⟨zqw r h.1,znz l h.2⟩
theorem zdj:∀ (l:List Rl),(erL l).length=l.length
 | []=>rfl
 | r::l=>by simp only [erL,List.length_cons,zdj l]
end
def RelR(s:List UInt8)(r:Pr Rl)(q:Sx)(R:Rl):Prop:=RlSz (erR R)∧match r with
 | .ok v j=>q=⟨j,0,0⟩∧erR R=v
 | .err a e=>q.a=a∧q.e=e∧e≠0∧q.i≤s.length
 | .out=>False
theorem zmt{nm:List UInt8}(h:nameB nm=true):nm.length≤32:=by
 simp only [nameB,Bool.and_eq_true,decide_eq_true_eq]at h;exact h.1.1.1.1.2
theorem zqq(s:List UInt8)(p:Sx):(nameS s p).2.length≤32:=by
 unfold nameS;split
 ·rename_i h;exact zmt h.2.2
 ·exact Nat.zero_le _
theorem zcn(s:List UInt8)(ask wi:Int)(nm:List UInt8)(p:Sx):∃ ask' wi' cm n,(cmpT s ask nm wi p).2=.mk 1 ask' nm wi' cm n nilV []:=by
 unfold cmpT;split
 ·split <;> exact⟨_,_,_,_,rfl⟩
 ·exact⟨_,_,_,_,rfl⟩
theorem znt(s:List UInt8)(ask:Int)(p:Sx):∃ ask' nm wi' cm n,nm.length≤32∧(a1 s ask p).2=.mk 1 ask' nm wi' cm n nilV []:=by
 unfold a1 a2 a3 a4 a5;obtain⟨a,b,c,d,h⟩:=zcn s ask (numS s 0 1000 (wantS s [44] (nameS s (wantS s [40] p)).1)).2 (nameS s (wantS s [40] p)).2 (wantS s [41] (numS s 0 1000 (wantS s [44] (nameS s (wantS s [40] p)).1)).1);exact⟨a,_,b,c,d,zqq s _,h⟩
theorem zlu(s:List UInt8)(p:Sx):∃ ask' nm wi' cm n,nm.length≤32∧(atomS s p).2=.mk 1 ask' nm wi' cm n nilV []:=by
 unfold atomS;split
 ·exact znt _ _ _
 split
 ·exact znt _ _ _
 ·obtain⟨a,b,c,d,h⟩:=zcn s 0 0 (nameS s p).2 (nameS s p).1;exact⟨a,_,b,c,d,zqq s _,h⟩
theorem zwba{w:World}{s:List UInt8}{p:Sx}(hl:s.length < 4611686018427387904)(hi:p.i≤s.length)(h33:isR s p [33]=false)(h40:isR s p [40]=false) :
  Calls Tryz.prog 153 #[stV s p] w (RcP s w fun q R=>q=(atomS s p).1∧erR R=(atomS s p).2∧RlSz (erR R)):=by
 refine (zqba hl hi h33 h40).mono ?_;rintro e w' ⟨he,hB⟩;obtain⟨a,nm,b,c,d,hn,h⟩:=zlu s p;refine⟨⟨(atomS s p).1,(atomS s p).2,none,0,0, ?_, ?_, ?_,rfl, ?_, ?_⟩,hB⟩
 ·rw [he,h];rfl
 ·rw [h];rfl
 ·rw [h];intro w'' _;exact⟨.inl ⟨rfl,rfl⟩,trivial⟩
 ·rw [h];rfl
 ·rw [h];simp only [erR,erL,RlSz,RlSzL,List.length_nil,and_true];omega
abbrev stA(s:List UInt8)(p:Sx):Value := .agg #[.string ⟨s.toArray⟩,.int .i64 (p.i:Nat),.int .i64 (p.a:Nat),.int .i64 p.e]
theorem zak{s x:List UInt8}{i:Nat}(h:isT s i x=true):wantS s x ⟨i,0,0⟩=⟨(tokS s i).t,0,0⟩:=by
 unfold wantS;rw [zta,if_pos h]
def muS(s:List UInt8)(k:Nat)(e:Int):Nat:=if e=0 then s.length + 1 - (tokS s k).a else 0
def JL(s:List UInt8)(n:Nat)(loop:Nat→Rl→Nat→Pr Rl)(res:Pr Rl)(q:Sx)(e:Rl):Prop:=RlSz e ∧
 ((∃ m k,q=⟨k,0,0⟩∧k≤s.length∧m≤n∧(loop m e k).fed∧loop m e k=res)∨(∃ a er,res=.err a er∧q.a=a∧q.e=er∧er≠0∧q.i≤s.length))
theorem zot{s:List UInt8}{n:Nat}{loop:Nat→Rl→Nat→Pr Rl}{r res:Pr Rl}{P:Rl→Prop}{i:Nat}(hin:r.In P s i)(hb:r.bind (fun v j=>loop n v j)=res)(hf:res.fed){q:Sx}{R:Rl}(h:RelR s r q R):JL s n loop res q (erR R):=by
  refine⟨h.1, ?_⟩;cases r with
  | ok v j =>
    obtain⟨h1,h2⟩:=h.2;have hb':loop n v j=res:=hb;exact .inl ⟨n,j,h1,hin.2.1,Nat.le_refl _,by rw [h2,hb'];exact hf,by rw [h2];exact hb'⟩
  | err a e=>exact .inr ⟨a,e,hb.symm,h.2⟩
  | out=>exact h.2.elim
theorem zrw{s:List UInt8}{n m:Nat}{loop:Nat→Rl→Nat→Pr Rl}{r res:Pr Rl}{P:Rl→Prop}{k:Nat}{e:Rl}{op:Int}{x:List UInt8}(hk:k≤s.length)(hx:x ≠ [])(hT:isT s k x=true)(hm:m≤n)(hse:RlSz e)(hin:r.In P s (tokS s k).t)
    (hb:r.bind (fun v j=>loop m (.mk op 0 [] 0 0 0 nilV [e,v]) j)=res) (hf:res.fed) {q:Sx} {R:Rl} (h:RelR s r q R):JL s n loop res q (.mk op 0 [] 0 0 0 nilV [e,erR R])∧muS s q.i q.e < muS s k 0:=by
  have hat:=zoq hx hT;have htl:=zg s hk
  have hsz:RlSz (.mk op 0 [] 0 0 0 nilV [e,erR R]):=by
    simp only [RlSz,RlSzL,List.length_nil,List.length_cons,and_true];exact⟨by omega,by omega,hse,h.1⟩
  cases r with
  | ok v j =>
    obtain⟨h1,h2⟩:=h.2;have hb':loop m (.mk op 0 [] 0 0 0 nilV [e,v]) j=res:=hb;refine⟨⟨hsz,.inl ⟨m,j,h1,hin.2.1,hm,by rw [h2,hb'];exact hf,by rw [h2];exact hb'⟩⟩, ?_⟩;rw [h1];unfold muS;rw [if_pos rfl,if_pos rfl];have h3:=(zg s hin.2.1).1;have h4:(tokS s k).t≤j:=hin.1;show s.length + 1 - (tokS s j).a < s.length + 1 - (tokS s k).a;obtain⟨_,h5,h6,_⟩:=htl;omega
  | err a er =>
    obtain⟨h1,h2,h3,h4⟩:=h.2;refine⟨⟨hsz,.inr ⟨a,er,hb.symm,h1,h2,h3,h4⟩⟩, ?_⟩;unfold muS;rw [if_neg (by rw [h2];exact h3),if_pos rfl];obtain⟨_,h5,h6,_⟩:=htl;omega
  | out=>exact h.2.elim
theorem zfg{α β:Type}{r:Pr α}{k:α→Nat→Pr β}(h:(r.bind k).fed):r.fed:=by
 cases r with
 | ok=>trivial
 | err=>trivial
 | out=>exact h
theorem jl_i{s:List UInt8}{n:Nat}{loop:Nat→Rl→Nat→Pr Rl}{res:Pr Rl}{q:Sx}{e:Rl}(h:JL s n loop res q e):q.i≤s.length:=by
 rcases h.2 with ⟨m,k,rfl,hk,_⟩ | ⟨a,er,_,_,_,_,hi⟩
 ·exact hk
 ·exact hi
theorem zpy(s:List UInt8)(hl:s.length < 4611686018427387904):∀ n m,m≤n →
    (∀ {w:World} {i:Nat},i≤s.length→(pNot s m i).fed→Calls Tryz.prog 153 #[stA s ⟨i,0,0⟩] w (RcP s w (RelR s (pNot s m i)))) ∧
    (∀ {w:World} {i:Nat},i≤s.length→(pAnd s m i).fed→Calls Tryz.prog 121 #[stA s ⟨i,0,0⟩] w (RcP s w (RelR s (pAnd s m i)))) ∧
    (∀ {w:World} {i:Nat},i≤s.length→(pOr s m i).fed→Calls Tryz.prog 63 #[stA s ⟨i,0,0⟩] w (RcP s w (RelR s (pOr s m i)))):=by
  intro n
  induction n with
  | zero =>
    intro m hm;obtain rfl:m=0:=by omega
    refine⟨fun _ hf => ?_,fun _ hf => ?_,fun _ hf => ?_⟩
    · rw [pNot]at hf;exact hf.elim
    · rw [pAnd]at hf;exact hf.elim
    · rw [pOr]at hf;exact hf.elim
  | succ n ih =>
    intro m hm;rcases Nat.lt_or_ge n m with hlt | hge
    · obtain rfl:m=n + 1:=by omega
      have pin:=p_in s n;refine⟨fun {w i} hi hf => ?_,fun {w i} hi hf => ?_,fun {w i} hi hf => ?_⟩
      · by_cases g:isT s i [33]=true
        · obtain⟨g1,g2⟩:=zmb hi (by decide) g;rw [pNot,if_pos g]at hf ⊢;have hw:=zak g;refine (zpw (p:=⟨i,0,0⟩) hl hi (by rw [zta];exact g) (fun w'=>by rw [hw];exact (ih n (Nat.le_refl _)).1 g2 (zfg hf))).mono fun e w' hh=>hh.imp fun q R => ?_;rintro ⟨X,R0,rfl,hs,hr⟩;refine⟨by simp only [erR,erL,RlSz,RlSzL,List.length_nil,List.length_cons,and_true];exact⟨by omega,by omega,hs⟩, ?_⟩;cases hp:pNot s n (tokS s i).t with
          | ok v j=>rw [hp]at hr;exact⟨hr.1,by simp only [erR,erL,nR,hr.2]⟩
          | err a er=>rw [hp]at hr;exact hr
          | out=>rw [hp]at hr;exact hr
        have g33:=Bool.eq_false_iff.2 g;by_cases g':isT s i [40]=true
        · obtain⟨g1,g2⟩:=zmb hi (by decide) g';rw [pNot,if_neg g,if_pos g']at hf ⊢;have hw:=zak g';have hin:=pin.2.2.2.1 _ g2;refine (zoy (p:=⟨i,0,0⟩) (P:=RelR s (pOr s n (tokS s i).t)) hl hi (by rw [zta];exact g33) (by rw [zta];exact g') (fun q R hh => ?_) (fun w'=>by rw [hw];exact (ih n (Nat.le_refl _)).2.2 g2 (zfg hf))).mono fun e w' hh=>hh.imp fun q' R => ?_
          · cases hp:pOr s n (tokS s i).t with
            | ok v j=>rw [hp]at hh hin;rw [hh.2.1];exact hin.2.1
            | err a er=>rw [hp]at hh;exact hh.2.2.2.2
            | out=>rw [hp]at hh;exact hh.2.elim
          · rintro ⟨q,hh,rfl⟩;refine⟨hh.1, ?_⟩;cases hp:pOr s n (tokS s i).t with
            | ok v j =>
              rw [hp]at hh hin;obtain⟨h1,h2⟩:=hh.2;have hwl:=zki (x := [41]) hin.2.1;subst h1;show (match (pWant s [41] j).bind fun _ k=>Pr.ok v k with | .ok v j=>_ | .err a e=>_ | .out=>_);cases hp2:pWant s [41] j with
              | ok u k =>
                rw [hp2]at hwl;have hwl':(wantS s [41] ⟨j,0,0⟩,())=(⟨k,0,0⟩,u):=hwl;exact⟨congrArg Prod.fst hwl',h2⟩
              | err a er=>rw [hp2]at hwl;exact hwl
              | out=>exact absurd (zqf s [41] j) (by rw [hp2];exact id)
            | err a er =>
              rw [hp]at hh;obtain⟨h1,h2,h3,h4⟩:=hh.2;rw [zji (by rw [h2];exact h3)];exact⟨h1,h2,h3,h4⟩
            | out=>rw [hp]at hh;exact hh.2.elim
        have g40:=Bool.eq_false_iff.2 g';rw [pNot,if_neg g,if_neg g']at hf ⊢;refine (zwba (p:=⟨i,0,0⟩) hl hi (by rw [zta];exact g33) (by rw [zta];exact g40)).mono fun e w' hh=>hh.imp fun q R => ?_;rintro ⟨h1,h2,h3⟩;refine⟨h3, ?_⟩;have ha:=zow hi;cases hp:pAtom s i with
        | ok v j =>
          rw [hp]at ha;have ha':atomS s ⟨i,0,0⟩=(⟨j,0,0⟩,v):=ha;exact⟨by rw [h1,ha'],by rw [h2,ha']⟩
        | err a er=>rw [hp]at ha;rw [h1];exact ha
        | out=>rw [hp]at hf;exact hf.elim
      · have hres:(pNot s n i).bind (fun v j=>andL s n v j)=pAnd s (n + 1) i:=by rw [pAnd]
        have hf':(pNot s n i).fed:=zfg (by rw [hres];exact hf);refine (rand (J:=JL s n (andL s) (pAnd s (n + 1) i)) (muS s) hl (fun q e hh=>jl_i hh) (fun w'=>((ih n (Nat.le_refl _)).1 hi hf').mono fun e w' hh=>hh.imp fun q R hh=>zot (pin.1 i hi) hres hf hh) ?_).mono fun e w' hh=>hh.imp fun q R => ?_
        · rintro q e ⟨hse,⟨m,k,rfl,hk,hm,hfm,hrm⟩ | ⟨a,er,_,_,h2,h3,_⟩⟩ hg w'
          · rw [zta]at hg;cases m with
            | zero=>rw [andL]at hfm;exact hfm.elim
            | succ m =>
              obtain⟨g1,g2⟩:=zmb hk (by decide) hg;rw [andL,if_pos hg]at hfm hrm;rw [zak hg];exact ((ih m (by omega)).1 g2 (zfg hfm)).mono fun e w' hh=>hh.imp fun q R hh=>zrw (op:=3) hk (by decide) hg (by omega) hse ((p_in s m).1 _ g2) hrm hf hh
          · exact absurd hg (by rw [zzj (by rw [h2];exact h3)];decide)
        · rintro ⟨⟨hse,⟨m,k,rfl,hk,hm,hfm,hrm⟩ | ⟨a,er,hr,h1,h2,h3,h4⟩⟩,hg⟩
          · rw [zta]at hg;refine⟨hse, ?_⟩;cases m with
            | zero=>rw [andL]at hfm;exact hfm.elim
            | succ m =>
              rw [andL,if_neg (by rw [hg];decide)]at hrm;rw [← hrm];exact⟨rfl,rfl⟩
          · refine⟨hse, ?_⟩;rw [hr];exact⟨h1,h2,h3,h4⟩
      · have hres:(pAnd s n i).bind (fun v j=>orL s n v j)=pOr s (n + 1) i:=by rw [pOr]
        have hf':(pAnd s n i).fed:=zfg (by rw [hres];exact hf);refine (ror (J:=JL s n (orL s) (pOr s (n + 1) i)) (muS s) hl (fun q e hh=>jl_i hh) (fun w'=>((ih n (Nat.le_refl _)).2.1 hi hf').mono fun e w' hh=>hh.imp fun q R hh=>zot (pin.2.1 i hi) hres hf hh) ?_).mono fun e w' hh=>hh.imp fun q R => ?_
        · rintro q e ⟨hse,⟨m,k,rfl,hk,hm,hfm,hrm⟩ | ⟨a,er,_,_,h2,h3,_⟩⟩ hg w'
          · rw [zta]at hg;cases m with
            | zero=>rw [orL]at hfm;exact hfm.elim
            | succ m =>
              obtain⟨g1,g2⟩:=zmb hk (by decide) hg;rw [orL,if_pos hg]at hfm hrm;rw [zak hg];exact ((ih m (by omega)).2.1 g2 (zfg hfm)).mono fun e w' hh=>hh.imp fun q R hh=>zrw (op:=4) hk (by decide) hg (by omega) hse ((p_in s m).2.1 _ g2) hrm hf hh
          · exact absurd hg (by rw [zzj (by rw [h2];exact h3)];decide)
        · rintro ⟨⟨hse,⟨m,k,rfl,hk,hm,hfm,hrm⟩ | ⟨a,er,hr,h1,h2,h3,h4⟩⟩,hg⟩
          · rw [zta]at hg;refine⟨hse, ?_⟩;cases m with
            | zero=>rw [orL]at hfm;exact hfm.elim
            | succ m =>
              rw [orL,if_neg (by rw [hg];decide)]at hrm;rw [← hrm];exact⟨rfl,rfl⟩
          · refine⟨hse, ?_⟩;rw [hr];exact⟨h1,h2,h3,h4⟩
    · exact ih m hge
end Go.Proofs.YtdjgnbkclcjiiaaGreatDoor
end
section
set_option linter.unusedVariables false
set_option linter.unusedSimpArgs false
set_option maxRecDepth 100000
namespace Wk
open Go Go.RowKit
theorem via3{P:Program}{f:FuncId}{args:Array Value}{w0 W:World}{R:Ending→World→Prop}{Q:Ending→World→Prop}{L:List (Nat × Array Value × TypeId)}(hL:Kn w0 W L)
  (h:Calls P f args W fun e w1=>R e w1∧Below W.heap.size W w1) (k:∀ e w1,R e w1→Below W.heap.size W w1→Kn w0 w1 L→Opened w1 L→Q e w1):Calls P f args W Q :=
 h.mono fun e w1 ⟨he,hb⟩=>k e w1 he hb (hL.next hb) (Kn.opened_of (hL.next hb).all)
end Wk
namespace Go.Proofs.YtdjgnbkclcjiiaaGreatDoor
open Go Go.RowKit Go.Proofs Wk
open Vc (SlAt OV iteI Vl zfb zh)
attribute [local irreducible] Go.Calls
attribute [local irreducible] wpQuiet
def RuQ(r:Rl)(w:World)(e:Ending)(w':World):Prop:=∃ R xa xl xc,e=.returned (.agg #[.int .i64 R.op,.int .i64 R.ask,.string ⟨R.nm.toArray⟩,.int .i64 R.wi,.int .i64 R.cm,.int .i64 R.n,.slice xa xl xc])∧R.v=.slice xa xl xc∧Rw (fun k=>w.heap.size≤k) w' R∧erR R=r
def Im (r : Rl) (x : Value) : Prop := ∃ T pl f, x = .iface T pl ∧ (∀ w' : World, Sem.run Tryz.prog (method 398 T pl "ullage/countdown.rule") w' = .ok (f, pl) w') ∧ (∀ w' : World, Sem.run Tryz.prog (callFunc f #[pl]) w' = .ok (.enter f #[pl]) w') ∧ ∀ w', Calls Tryz.prog f #[pl] w' fun e w1 => RuQ r w' e w1 ∧ Below w'.heap.size w' w1
theorem zzaa{ask wi cm n:Int}{nm:List UInt8}:Im (.mk 1 ask nm wi cm n nilV []) (.iface 183 (.agg #[.int .i64 1,.int .i64 ask,.string ⟨nm.toArray⟩,.int .i64 wi,.int .i64 cm,.int .i64 n,.slice none 0 0])):=by
 refine⟨_,_,214,rfl,fun w'=>by rfl,fun w'=>by simp [go_sem],fun w => ?_⟩;have K:=Kn.start w
 go_enter Tryz.func214,Tryz.ntmps214
 go_wp2
 refine bodyPost_ret (by simp [results,Tryz.results214,go_sem];try rfl) rfl ⟨?_,by have B:=K.below;go_grown⟩;exact⟨.mk 1 ask nm wi cm n nilV [],_,_,_,rfl,rfl,fun w'' _=>⟨.inl ⟨rfl,rfl⟩,trivial⟩,rfl⟩
set_option maxHeartbeats 1000000 in
theorem zxba{a:Rl}{x:Value}(h:Im a x):Im (nR a) (.iface 176 (.agg #[x])):=by
 obtain⟨T,pl,f,rfl,hM,hC,hA'⟩:=h;have hA:=Hd.mk hA';clear hA';refine⟨_,_,211,rfl,fun w'=>by rfl,fun w'=>by simp [go_sem],fun w => ?_⟩
 suffices hq:∀ Q:Ending→World→Prop,Hd (∀ e w1,(RuQ (nR a) w e w1∧Below w.heap.size w w1)→Q e w1)→Calls Tryz.prog 211 #[.agg #[.iface T pl]] w Q from hq _ ⟨fun _ _ h=>h⟩
 intro Q hQ;have K:=Kn.start w
 go_enter Tryz.func211,Tryz.ntmps211
 go_wp2_with fail
 refine via3 (by repeat (first | exact K | apply Kn.push | apply Kn.skip | apply Kn.drew)) (hA.out _) ?_;clear K;rintro _ wN ⟨R,xa,xl,xc,rfl,hv,hR,he⟩ hB K hO;simp only [World.size_alloc,World.size_drew,World.size_setCell]at hR;simp only [Opened,World.size_alloc,World.size_drew,World.size_setCell]at hO;have hz:=hB.size;simp only [World.size_alloc,World.size_drew,World.size_setCell]at hz;have hRh:=Hd.mk hR;clear hR hA hM hC hB;dsimp only
 repeat go_step
 refine bodyPost_ret (by simp [results,Tryz.results211,go_sem,hO];try rfl) rfl (hQ.out _ _ ⟨?_,by have B:=K.below;go_grown⟩);refine⟨.mk 2 0 [] 0 0 0 (.slice (some ⟨wN.heap.size,0,none⟩) 1 1) [R],_,_,_,rfl,rfl, ?_,by simp only [erR,erL,nR,he]⟩;refine Rw.one ((hRh.out.next ?_ (fun k h1 h2 => ?_)).mono (fun k _ h => ?_)) ?_ ?_
 ·simp only [World.size_alloc,World.size_setCell,World.size_drew];omega
 ·have h1':_≤k:=h1;simp only [heap_alloc,zc,ze,World.size_alloc,World.size_setCell,World.size_drew];repeat rw [if_neg (by omega)]
 ·have h':_≤k:=h;omega
 ·omega
 ·rw [znq hv];simp only [heap_alloc,zc,ze,World.size_alloc,World.size_setCell,World.size_drew,IntWalk.iteOmega,↓reduceIte,if_true,if_false]
set_option maxHeartbeats 2000000 in
theorem zyba{a b:Rl}{x y:Value}(h:Im a x)(h2:Im b y):Im (.mk 3 0 [] 0 0 0 nilV [a,b]) (.iface 180 (.agg #[x,y])):=by
 obtain⟨T,pl,f,rfl,hM,hC,hA'⟩:=h;have hA:=Hd.mk hA';clear hA';obtain⟨T2,pl2,f2,rfl,hM2,hC2,hA2'⟩:=h2;have hA2:=Hd.mk hA2';clear hA2';refine⟨_,_,212,rfl,fun w'=>by rfl,fun w'=>by simp [go_sem],fun w => ?_⟩
 suffices hq:∀ Q:Ending→World→Prop,Hd (∀ e w1,(RuQ (.mk 3 0 [] 0 0 0 nilV [a,b]) w e w1∧Below w.heap.size w w1)→Q e w1)→Calls Tryz.prog 212 #[.agg #[.iface T pl,.iface T2 pl2]] w Q from hq _ ⟨fun _ _ h=>h⟩
 intro Q hQ;have K:=Kn.start w
 go_enter Tryz.func212,Tryz.ntmps212
 go_upto_region 1 with fail
 have hO:=Kn.opened_of K.all;simp only [Opened,World.size_alloc,World.size_drew,World.size_setCell]at hO
 go_region_held3 (fun w'=>w'.cell? ⟨w.heap.size,0,none⟩=some (.iface T pl)∧w'.cell? ⟨w.heap.size,1,none⟩=some (.iface T2 pl2)) (simp [go_sem, *]) (first
  | ((with_reducible show Calls _ _ _ _ _);refine via3 (by repeat (first | exact K | apply Kn.push | apply Kn.skip | apply Kn.drew)) (hA.out _) ?_;clear K hO;rintro _ wN ⟨R,xa,xl,xc,rfl,hv,hR,he⟩ hB K hO;(try simp only [World.size_alloc,World.size_drew,World.size_setCell]at hR);simp only [Opened,World.size_alloc,World.size_drew,World.size_setCell]at hO;have hz:=hB.size;(try simp only [World.size_alloc,World.size_drew,World.size_setCell]at hz);have hRh:=Hd.mk hR;clear hR hB)
  | ((with_reducible show Calls _ _ _ _ _);refine via3 (by repeat (first | exact K | apply Kn.push | apply Kn.skip | apply Kn.drew)) (hA2.out _) ?_;clear K hO;rintro _ wM ⟨R2,ya,yl,yc,rfl,hv2,hR2,he2⟩ hB2 K hO;(try simp only [World.size_alloc,World.size_drew,World.size_setCell]at hR2);simp only [Opened,World.size_alloc,World.size_drew,World.size_setCell]at hO;have hRh2:=Hd.mk hR2;have hB2h:=Hd.mk hB2;clear hR2 hB2))
 all_goals (repeat go_step)
 all_goals refine bodyPost_ret (by simp [results,Tryz.results212,go_sem,hO];try rfl) rfl (hQ.out _ _ ⟨?_,by have B:=K.below;go_grown⟩)
 all_goals have hRn:=hRh.out.next hB2h.out.size (fun k _ hk=>hB2h.out.block k hk)
 all_goals have hz2:=hB2h.out.size
 all_goals refine⟨.mk 3 0 [] 0 0 0 (.slice (some ⟨wM.heap.size,0,none⟩) 2 2) [R,R2],_,_,_,rfl,rfl, ?_,by simp only [erR,erL,he,he2]⟩
 all_goals refine Rw.two ((hRn.next ?_ (fun k h1 h2 => ?_)).mono (fun k _ h => ?_)) ((hRh2.out.next ?_ (fun k h1 h2 => ?_)).mono (fun k _ h => ?_)) ?_ ?_
 all_goals first
  | omega
  | (have h':_≤k:=h;omega)
  | (simp only [World.size_alloc,World.size_setCell,World.size_drew];omega)
  | (rw [zeo hv hv2];simp only [heap_alloc,zc,ze,World.size_alloc,World.size_setCell,World.size_drew,IntWalk.iteOmega,↓reduceIte,if_true,if_false];done)
  | (have h1':_≤k:=h1;simp only [heap_alloc,zc,ze,World.size_alloc,World.size_setCell,World.size_drew];repeat rw [if_neg (by omega)])
set_option maxHeartbeats 2000000 in
theorem zida{a b:Rl}{x y:Value}(h:Im a x)(h2:Im b y):Im (.mk 4 0 [] 0 0 0 nilV [a,b]) (.iface 181 (.agg #[x,y])):=by
 obtain⟨T,pl,f,rfl,hM,hC,hA'⟩:=h;have hA:=Hd.mk hA';clear hA';obtain⟨T2,pl2,f2,rfl,hM2,hC2,hA2'⟩:=h2;have hA2:=Hd.mk hA2';clear hA2';refine⟨_,_,213,rfl,fun w'=>by rfl,fun w'=>by simp [go_sem],fun w => ?_⟩
 suffices hq:∀ Q:Ending→World→Prop,Hd (∀ e w1,(RuQ (.mk 4 0 [] 0 0 0 nilV [a,b]) w e w1∧Below w.heap.size w w1)→Q e w1)→Calls Tryz.prog 213 #[.agg #[.iface T pl,.iface T2 pl2]] w Q from hq _ ⟨fun _ _ h=>h⟩
 intro Q hQ;have K:=Kn.start w
 go_enter Tryz.func213,Tryz.ntmps213
 go_upto_region 1 with fail
 have hO:=Kn.opened_of K.all;simp only [Opened,World.size_alloc,World.size_drew,World.size_setCell]at hO
 go_region_held3 (fun w'=>w'.cell? ⟨w.heap.size,0,none⟩=some (.iface T pl)∧w'.cell? ⟨w.heap.size,1,none⟩=some (.iface T2 pl2)) (simp [go_sem, *]) (first
  | ((with_reducible show Calls _ _ _ _ _);refine via3 (by repeat (first | exact K | apply Kn.push | apply Kn.skip | apply Kn.drew)) (hA.out _) ?_;clear K hO;rintro _ wN ⟨R,xa,xl,xc,rfl,hv,hR,he⟩ hB K hO;(try simp only [World.size_alloc,World.size_drew,World.size_setCell]at hR);simp only [Opened,World.size_alloc,World.size_drew,World.size_setCell]at hO;have hz:=hB.size;(try simp only [World.size_alloc,World.size_drew,World.size_setCell]at hz);have hRh:=Hd.mk hR;clear hR hB)
  | ((with_reducible show Calls _ _ _ _ _);refine via3 (by repeat (first | exact K | apply Kn.push | apply Kn.skip | apply Kn.drew)) (hA2.out _) ?_;clear K hO;rintro _ wM ⟨R2,ya,yl,yc,rfl,hv2,hR2,he2⟩ hB2 K hO;(try simp only [World.size_alloc,World.size_drew,World.size_setCell]at hR2);simp only [Opened,World.size_alloc,World.size_drew,World.size_setCell]at hO;have hRh2:=Hd.mk hR2;have hB2h:=Hd.mk hB2;clear hR2 hB2))
 all_goals (repeat go_step)
 all_goals refine bodyPost_ret (by simp [results,Tryz.results213,go_sem,hO];try rfl) rfl (hQ.out _ _ ⟨?_,by have B:=K.below;go_grown⟩)
 all_goals have hRn:=hRh.out.next hB2h.out.size (fun k _ hk=>hB2h.out.block k hk)
 all_goals have hz2:=hB2h.out.size
 all_goals refine⟨.mk 4 0 [] 0 0 0 (.slice (some ⟨wM.heap.size,0,none⟩) 2 2) [R,R2],_,_,_,rfl,rfl, ?_,by simp only [erR,erL,he,he2]⟩
 all_goals refine Rw.two ((hRn.next ?_ (fun k h1 h2 => ?_)).mono (fun k _ h => ?_)) ((hRh2.out.next ?_ (fun k h1 h2 => ?_)).mono (fun k _ h => ?_)) ?_ ?_
 all_goals first
  | omega
  | (have h':_≤k:=h;omega)
  | (simp only [World.size_alloc,World.size_setCell,World.size_drew];omega)
  | (rw [zeo hv hv2];simp only [heap_alloc,zc,ze,World.size_alloc,World.size_setCell,World.size_drew,IntWalk.iteOmega,↓reduceIte,if_true,if_false];done)
  | (have h1':_≤k:=h1;simp only [heap_alloc,zc,ze,World.size_alloc,World.size_setCell,World.size_drew];repeat rw [if_neg (by omega)])
theorem zzba:∀ (m:Nat) (r:Rl),nodesR r≤m→rightR r=true→erR r=r→Im r (FM r):=by
  intro m
  induction m with
  | zero=>intro r hm;have:=zci r;omega
  | succ m ih =>
    intro r hm hr he;obtain⟨op,ask,nm,wi,cm,n,v,ks⟩:=r;rw [nodesR]at hm;rw [erR]at he;have hv:nilV=v:=by injection he
    have hks:erL ks=ks:=by injection he
    subst hv;rw [rightR]at hr;unfold FM fmV;by_cases hop:op=1
    · subst hop;rw [if_pos rfl]at hr ⊢;have h0:ks=[]:=List.eq_nil_of_length_eq_zero (zwj.1 hr).2.2.2.2.2.2;subst h0;exact zzaa
    · rw [if_neg hop]at hr ⊢;simp only [Bool.and_eq_true]at hr;obtain⟨⟨hb,hk⟩,hl⟩:=hr;obtain⟨rfl,rfl,rfl,rfl,rfl⟩:=zxj.1 hb;simp only [kidsB,Bool.or_eq_true,Bool.and_eq_true,decide_eq_true_eq]at hk;rcases hk with ⟨rfl,hk⟩ | ⟨ho,hk⟩
      · obtain⟨a,rfl⟩:∃ a,ks=[a]:=by
          match ks,hk with
          | [a],_=>exact⟨a,rfl⟩
        simp only [rightL,Bool.and_true]at hl;simp only [nodesL]at hm;simp only [erL,List.cons.injEq,and_true]at hks
        have:=zxba (ih a (by omega) hl hks)
        exact this
      · obtain⟨a,b,rfl⟩:∃ a b,ks=[a,b]:=by
          match ks,hk with
          | [a,b],_=>exact⟨a,b,rfl⟩
        simp only [rightL,Bool.and_true,Bool.and_eq_true]at hl;simp only [nodesL]at hm;simp only [erL,List.cons.injEq,and_true]at hks;have h1:=ih a (by omega) hl.1 hks.1;have h2:=ih b (by omega) hl.2 hks.2;rcases ho with rfl | rfl
        · exact zyba h1 h2
        · exact zida h1 h2
end Go.Proofs.YtdjgnbkclcjiiaaGreatDoor
end
section
set_option linter.unusedVariables false
set_option maxRecDepth 100000
namespace Go.Proofs.YtdjgnbkclcjiiaaGreatDoor
open Go Go.RowKit
theorem zza(s0:List UInt8)(w:World)(Q:Value→Prop)(QM:World→Value→Prop)(h :
 ∀ x0:Int,x0=((s0.length:Nat):Int) →
 ((2000 < x0)→(
 Q (.tuple #[.agg #[.int .i64 0,.int .i64 0,.string ⟨(([]:List UInt8)).toArray⟩,.int .i64 0,.int .i64 0,.int .i64 0,.slice none 0 0],.int .i64 0,.int .i64 3])))∧(¬ (2000 < x0)→(
 ∃ (x1:Int),∃ (x2:Int),∃ (s1:List UInt8),∃ (b0:Bool),∃ (b1:Bool),(Vq w 60 #[.string ⟨s0.toArray⟩,.int .i64 0] (.agg #[.int .i64 x1,.int .i64 x2,.string ⟨s1.toArray⟩,.bool b0,.bool b1])) ∧
 ((
 ∃ (v0:Vc.OV),∃ (x3:Int),∃ (x4:Int),∃ (s2:List UInt8),∃ (b2:Bool),∃ (b3:Bool),(∀ (β:Nat→Nat) (w':World),Below w.heap.size w w'→((w.heap.size≤β 3∧w'.heap[β 3]? = some (.cells #[.string ⟨s0.toArray⟩,.int .i64 x1,.int .i64 x2,.string ⟨s1.toArray⟩,.bool b0,.bool b1] 114))∧True)→Calls Tryz.prog 61 #[Vc.ptr (β 3) 0] w' (Vc.Eff (v0.1) (β 3) #[.string ⟨s0.toArray⟩,.int .i64 x3,.int .i64 x4,.string ⟨s2.toArray⟩,.bool b2,.bool b3] 114 w')) ∧
 ((b3=true)→(
 ∀ v1:Vc.OV,v1.1=Value.iface 108 (.agg #[.int .i64 x3,.int .i64 5]) →
 Q (.tuple #[.agg #[.int .i64 0,.int .i64 0,.string ⟨(([]:List UInt8)).toArray⟩,.int .i64 0,.int .i64 0,.int .i64 0,.slice none 0 0],.int .i64 x3,.int .i64 5])))∧(¬ (b3=true)→(
 ((s2=([]:List UInt8))→(
 False ))∧(¬ (s2=([]:List UInt8))→(
 ∀ v1:Vc.OV,v1.1=Value.iface 108 (.agg #[.int .i64 x3,.int .i64 5]) →
 Q (.tuple #[.agg #[.int .i64 0,.int .i64 0,.string ⟨(([]:List UInt8)).toArray⟩,.int .i64 0,.int .i64 0,.int .i64 0,.slice none 0 0],.int .i64 x3,.int .i64 5]))))))∨(
 ∃ (x3:Int),∃ (x4:Int),(∀ (β:Nat→Nat) (w':World),Below w.heap.size w w'→((w.heap.size≤β 3∧w'.heap[β 3]? = some (.cells #[.string ⟨s0.toArray⟩,.int .i64 x1,.int .i64 x2,.string ⟨s1.toArray⟩,.bool b0,.bool b1] 114))∧True)→Calls Tryz.prog 61 #[Vc.ptr (β 3) 0] w' (Vc.PanL (Value.iface 108 (.agg #[.int .i64 x3,.int .i64 x4])) [β 3] w'))∧∀ v0:Vc.OV,v0.1=Value.iface 108 (.agg #[.int .i64 x3,.int .i64 x4]) →
 Q (.tuple #[.agg #[.int .i64 0,.int .i64 0,.string ⟨(([]:List UInt8)).toArray⟩,.int .i64 0,.int .i64 0,.int .i64 0,.slice none 0 0],.int .i64 x3,.int .i64 x4])))))):Calls Tryz.prog 26 #[.string ⟨s0.toArray⟩] w (fun e w'=>∃ v,e=.returned v∧Below w.heap.size w w'∧(Q v∨QM w' v)) :=
 Vc.zrv (zka [59,62] (by kernel_rfl)) [(3000061,.inv [(0,1),(0,2),(0,3),(0,4),(0,5)] [0] []),(800000000000000061,.inv [] [108,0] [])] [] 200 Tryz.func26 (b:=(Tryz.f26.body).getD .skip) (by kernel_rfl) [.cv (.one (.sv 0))] ⟨0,0,0,0,0,1,0⟩ [] (Vc.envOf [] [] [] [] [s0]) (by kernel_rfl) Vc.zn (by kernel_rfl) (by kernel_rfl) h
theorem zue(p0:Nat × Nat)(x0 x1 x2 x3 x4 x5 x6:Int)(b0:Bool)(s0:List UInt8)(w:World)(v:Value)(h :
 ∃ (v0:Vc.OV),∃ (b1:Bool),(Vq w 49 #[.agg #[.int .i64 x0,.int .i64 x1,.string ⟨s0.toArray⟩,.int .i64 x2,.int .i64 x3,.int .i64 x4,(if b0=true then .slice none 0 0 else .slice (some (Vc.qad p0 (Int.toNat x5) (Int.toNat x6))) (Int.toNat x5) (Int.toNat x6):Value)]] (.tuple #[v0.1,.bool b1])) ∧
 (.bool b1:Value)=v):Calls Tryz.prog 23 #[.agg #[.int .i64 x0,.int .i64 x1,.string ⟨s0.toArray⟩,.int .i64 x2,.int .i64 x3,.int .i64 x4,(if b0=true then .slice none 0 0 else .slice (some (Vc.qad p0 (Int.toNat x5) (Int.toNat x6))) (Int.toNat x5) (Int.toNat x6):Value)]] w (Vc.Ret v w) :=
 Vc.zw base [] [] 200 Tryz.func23 (b:=(Tryz.f23.body).getD .skip) (by kernel_rfl) [.cv (.agg [.int .i64 (.var 0),.int .i64 (.var 1),.sv 0,.int .i64 (.var 2),.int .i64 (.var 3),.int .i64 (.var 4),.qsl 0 0 7 (.var 5) (.var 6)])] ⟨7,1,0,1,0,1,0⟩ [] (Vc.envOf [x0,x1,x2,x3,x4,x5,x6] [b0] [] [p0] [s0]) (by kernel_rfl) Vc.zn (by kernel_rfl) (by kernel_rfl) h
end Go.Proofs.YtdjgnbkclcjiiaaGreatDoor
end
