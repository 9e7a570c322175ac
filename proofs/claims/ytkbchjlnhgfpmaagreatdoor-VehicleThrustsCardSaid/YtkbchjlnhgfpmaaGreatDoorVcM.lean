import Derived.Test.YtkbchjlnhgfpmaaGreatDoorVcY
import Derived.CallsIn
import Derived.TacticsIn
import Derived.RecoverIn
import Derived.RangeFuncLeaves
import Derived.RangeFuncNested
set_option linter.unusedVariables false
set_option linter.unusedSimpArgs false
namespace Vc
open Go Go.RowKit
variable {P:Program} {W:eJ} {Q:Value->Prop} {QM QP:World->Value->Prop} {R:Nat->Loop} {Z:List Nat}
def Fr(r:Option Nat):Fence := {Fence.wide with round:=r}
theorem u_(r:Option Nat)(f:FuncId):(Fr r).fn f:=trivial
theorem FC{r:Option Nat}{n:Nat}:(Fr r).depth.isSome=true->1<=n:=λh=>by cases h
theorem Mr{r:Option Nat}{n:Nat}{f:FuncId}{args:Array Value}{w:World}{T:Ending->World->Prop}:CallsIn (Fr r) n P f args w T↔Calls P f args w T:=callsIn_wide (n:=n)
theorem Ms{r:Option Nat}{n:Nat}{row:String}{args:Array Value}{w:World}{T:Value->World->Prop}(h:Rows P row args w T):RowsIn (Fr r) n P row args w T:=by
 intro c cs _;obtain⟨v,w',h1,h2⟩:=h c cs;exact⟨v,w',h1,(StepsIn.of_steps h2).mono λm _=>fenced_wide P m⟩
theorem w6{o:Oper}{a:Act}{w:World}{next:Act->World->Prop}{Q':Exit->Act->World->Prop}(r:Option Nat)(n:Nat)(hd:∀c,o.op ≠ .defer c)(h:o.wp P a w next Q'):o.wpIn (Fr r) n P a w next Q':=by
  refine⟨λf _=>u_ r f, ?_⟩;rw [Oper.semAt_eq _ _ _ hd];unfold Oper.wp at h;generalize (execOp a.eval o).run P w=x at h ⊢;cases x with
  |ok nx w' =>
    cases nx<;>simp only [Oper.upon]at h<;>first
      |exact h
      |exact⟨FC,Mr.2 h⟩
      |exact⟨FC,Ms h⟩
      |exact h.elim
  |halt x w'=>cases x<;>simp only [Oper.upon]at h<;>first|exact h|exact h.elim
def vI(W:eJ)(R:Nat->Loop)(Z:List Nat)(st:St)(U:Env)(β:Nat->Nat)(K:St->Env->Prop)(next:Act->World->Prop):Prop :=
 ∀ib ag an a' w',K ib ag->st.c.le ib.c->Env.aC st.c U ag->(∀k,k<st.c.nk->an k=β k)->Core W R Z ag an ib a' w'->next a' w'
theorem vI.og{st ib:St}{U ag:Env}{β an:Nat->Nat}{K:St->Env->Prop}{next:Act->World->Prop}(h:vI W R Z st U β K next)(hc:st.c.le ib.c)(hl:Env.aC st.c U ag)(hb:∀k,k<st.c.nk->an k=β k):vI W R Z ib ag an K next :=
 λs aB bB a w hk h1 h2 h3 hC=>h s aB bB a w hk (ar.le_trans hc h1) (Env.aj hc hl h2) (λk hk=>(h3 k (Nat.lt_of_lt_of_le hk hc.k)).trans (hb k hk)) hC
theorem I3{st:St}{o:Oper}{K:St->Env->Prop}{U:Env}(h:rp P W st o K U){β:Nat->Nat}{a:Act}{w:World}(hC:Core W R Z U β st a w){next:Act->World->Prop}(hn:vI W R Z st U β K next)(Q':Exit->Act->World->Prop):o.wp P a w next Q':=by
 obtain⟨s',ag,sv,C,h1,h2,h3,h4⟩:=h;exact LK (hC.aC h3) (h4 ag (Env.ao _ _)) Q' λan a' w' hb eV=>hn s' ag an a' w' h1 h2 h3 hb eV
theorem Cs{st st0:St}{dst:Option Tmp}{v:SV}{c:ar}{K:St->Env->Prop}{U dk:Env}{next:Act->World->Prop}(h:St.put (PA P W Q QM QP) st dst v c K U){β:Nat->Nat}{a:Act}{w:World}{val:Value}
  (hC:Core W R Z U β st a w) (Xf:st.c.le c) {bI:Nat->Nat} (h0:st0.c.le c) (hl:Env.aC st0.c dk U) (iW:∀k,k<st0.c.nk->β k=bI k) (hv:v ≠ .any->val=v.den U β) (hn:vI W R Z st0 dk bI K next):next (a.put dst val) w:=by
 obtain⟨h1,h2⟩:=ze h;obtain⟨q1,q2,q3,q4,q5,q6⟩:=kO st dst v c;refine hn _ U β _ w h1 (by rw [q1];exact h0) hl iW ⟨by rw [LF,hC.size,q3],λi hi => ?_,by rw [LG,hC.kE,q6,(zk _ _ _ _).2],hC.below,by rw [q2,q4];exact hC.mem,by rw [q2,q4];exact hC.inj,by rw [q5];exact hC.fX,by rw [q5];exact hC.kt,by rw [q6];exact hC.gQ,by rw [q6];exact hC.dn,Fj hC.wf Xf h2,by rw [(zk _ _ _ _).1];exact hC.kn⟩;rw [zl]at hi ⊢;by_cases hd:dst=some i
 ·rw [if_pos hd]at hi ⊢;rw [hd,fb i (by rw [hC.size];exact (h2 i hd).1),if_pos rfl,hv hi]
 ·rw [if_neg hd]at hi ⊢
  have h3:(a.put dst val).tmps[i]? = a.tmps[i]? := by
   cases Fi:dst with
   |none=>rfl
   |some d=>rw [fb i (by rw [hC.size];exact (h2 d Fi).1),if_neg (λe=>hd (by rw [Fi,e]))]
  rw [h3];exact hC.tmps i hi
theorem Core.dp{U:Env}{β:Nat->Nat}{st:St}{a:Act}{w:World}{d:Nat}{e:BE}{b:Bool}(h:Core W R Z U β st a w)(hg:ay st.t d=.cv (.one (.bool e)))(hb:e.den U=b):Core W R Z U β (st.dp d b) a w where
 size:=h.size
 tmps i hn:=by
  simp only [St.dp,zj]at hn ⊢;by_cases hi:d=i
  ·rw [if_pos hi,<-hi,h.tmps d (by rw [hg];simp),hg];simp only [SV.den,CV.den,At.den,BE.den,hb]
  ·rw [if_neg hi]at hn ⊢;exact h.tmps i hn
 kE:=h.kE
 below:=h.below
 mem:=h.mem
 inj:=h.inj
 fX:=h.fX
 kt:=h.kt
 gQ:=h.gQ
 dn:=h.dn
 kn:=h.kn
 wf:=⟨λi=>by
  simp only [St.dp,zj];by_cases hi:d=i
  ·rw [if_pos hi];rfl
  ·rw [if_neg hi];exact h.wf.t i,h.wf.m,h.wf.o,h.wf.ap,h.wf.r,h.wf.d,h.wf.k,h.wf.df⟩
theorem Mt{ops:Array Oper}{tmps:Array Value}{j d:Nat}{b:Bool}(hd:(ops[j]?).bind (·.dst)=some d)(ht:tmps[d]? = some (.bool b)):yielded ops tmps j=some b:=by
 simp [yielded,hd,ht]
theorem Mu{ops:Array Oper}{tmps:Array Value}{j d:Nat}(hd:(ops[j]?).bind (·.dst)=some d)(ht:tmps[d]? = some undef):yielded ops tmps j=none:=by
 simp [yielded,hd,ht,undef]
def s_(P:Program)(W:eJ)(R:Nat->Loop)(Z:List Nat)(r:Option Nat)(n:Nat)(c0:ar)(dk:Env)(bI:Nat->Nat)(Q':Exit->Act->World->Prop)(step:St->Oper->(St->Env->Prop)->Env->Prop):Prop :=
 ∀st o K U,step st o K U->c0.le st.c->Env.aC c0 dk U->∀β a w,(∀k,k<c0.nk->β k=bI k)->Core W R Z U β st a w->∀(next:Act->World->Prop),vI W R Z st U β K next->o.wpIn (Fr r) n P a w next Q'
theorem Mv{r:Option Nat}{n:Nat}{c0:ar}{dk:Env}{bI:Nat->Nat}{step:St->Oper->(St->Env->Prop)->Env->Prop}{Q':Exit->Act->World->Prop}(hs:s_ P W R Z r n c0 dk bI Q' step){ops:Array Oper}{K:St->Env->Prop} :
    ∀(l:List Oper) (st:St) (U:Env),k_ (PA P W Q QM QP) step ops l st K U->c0.le st.c->Env.aC c0 dk U->∀β a w,(∀k,k<c0.nk->β k=bI k)->Core W R Z U β st a w ->
      ∀(next:Act->World->Prop),(∀a w,next a w->Q' .normal a w)->vI W R Z st U β K next->wpListIn (Fr r) n P ops Q' l a w
  | [],st,U,h,_,_,β,a,w,_,hC,next,hq,hn=>hq _ _ (hn st U β a w h (ar.le_refl _) (Env.ao _ _) (λ_ _=>rfl) hC)
  |o::l,st,U,h,jc,gx,β,a,w,ff,hC,next,hq,hn=>by
    have IH:∀ib:St,ib.c=st.c->vI W R Z ib U β (λs=>k_ (PA P W Q QM QP) step ops l s K) (wpListIn (Fr r) n P ops Q' l):=by
      intro ib he s aB bB a2 w2 hk h1 h2 h3 dW;rw [he]at h1 h2 h3;exact Mv hs l s aB hk (ar.le_trans jc h1) (Env.aj jc gx h2) bB a2 w2 (λk hk=>(h3 k (Nat.lt_of_lt_of_le hk jc.k)).trans (ff k hk)) dW next hq (hn.og h1 h2 h3)
    have Mw:∀f,o.about P w a.eval=some f->(Fr r).fn f:=λf _=>u_ r f;simp only [wpListIn];unfold k_ at h;cases rY:o.guard with
    |none =>
      simp only [rY]at h;rw [if_pos (by simp [Region.wanted,rY])];exact hs st o _ U h jc gx β a w ff hC _ (IH st rfl)
    |some jw =>
      obtain⟨j,want⟩:=jw;simp only [rY]at h;unfold AJ at h;generalize hd:(ops[j]?).bind (·.dst)=u at h;cases u with
      |none=>exact h.elim
      |some d =>
        simp only at h;split at h
        · rename_i ct;generalize hg:ay st.t d=sv at h;split at h
          · rename_i e
            have ht:a.tmps[d]? = some (.bool (e.den U)):=by
              have:=hC.tmps d (by rw [hg];simp)
              rw [hg]at this;exact this
            have hy:=Mt (b:=e.den U) hd ht
            have put:∀(b:Bool),e.den U=b->(St.put (PA P W Q QM QP) (st.dp d b) o.dst .dX st.c λs=>k_ (PA P W Q QM QP) step ops l s K) U->wpListIn (Fr r) n P ops Q' l (a.put o.dst undef) w:=λb hb hp =>
              Cs (st:=st.dp d b) (st0:=st) (dk:=U) hp (hC.dp hg hb) (ar.le_refl _) (ar.le_refl _) (Env.ao _ _) (λ_ _=>rfl) (λ_=>rfl) (IH st rfl)
            have go:∀(b:Bool),e.den U=b->step (st.dp d b) o (λs=>k_ (PA P W Q QM QP) step ops l s K) U->o.wpIn (Fr r) n P a w (wpListIn (Fr r) n P ops Q' l) Q':=λb hb hp =>
              hs (st.dp d b) o _ U hp jc gx β a w ff (hC.dp hg hb) _ (IH (st.dp d b) rfl)
            rcases zt h with ⟨hb,h⟩|⟨hb,h⟩
            · cases want with
              |true =>
                simp only [if_true,St.norm_eq]at h;rw [if_pos (by simp [Region.wanted,rY,hy,hb])];exact go true hb h
              |false =>
                simp only [Bool.false_eq_true,if_false,St.norm_eq]at h;rw [if_neg (by simp [Region.wanted,rY,hy,hb])];exact⟨Mw,put true hb h⟩
            · cases want with
              |true =>
                simp only [if_true,St.norm_eq]at h;rw [if_neg (by simp [Region.wanted,rY,hy,hb])];exact⟨Mw,put false hb h⟩
              |false =>
                simp only [Bool.false_eq_true,if_false,St.norm_eq]at h;rw [if_pos (by simp [Region.wanted,rY,hy,hb])];exact go false hb h
          · have ht:a.tmps[d]? = some undef:=by
              have:=hC.tmps d (by rw [hg];simp)
              rw [hg]at this;exact this
            have hy:=Mu hd ht;rw [if_neg (by simp [Region.wanted,rY,hy])];exact⟨Mw,Cs (st0:=st) (dk:=U) h hC (ar.le_refl _) (ar.le_refl _) (Env.ao _ _) (λ_ _=>rfl) (λ_=>rfl) (IH st rfl)⟩
          · exact h.elim
        · exact h.elim
def t_(G:bV)(W:eJ)(R:Nat->Loop)(Z:List Nat)(c0:ar)(dk:Env)(bI:Nat->Nat)(Q':Exit->Act->World->Prop)(inl:yM (Env->Prop)):Prop :=
  ∀f args s (K':SV->St->Env->Prop) U,inl f args s K' U->args.all (SV.wf s.c)=true->c0.le s.c->Env.aC c0 dk U->∀β a w,(∀k,k<c0.nk->β k=bI k)->Core W R Z U β s a w->∀next':Value->World->Prop,
    (∀v s' ag an w',K' v s' ag->v.wf s'.c=true->v ≠ .any->s.c.le s'.c->Env.aC s.c U ag->(∀k,k<s.c.nk->an k=β k)->Core W R Z ag an s' a w'->next' (v.den ag an) w') ->
    Calls G.P f (args.map (SV.den U β)).toArray w λe w'=>match e with
      | .returned v=>next' v w'
      | .panicked ch=>Q' (.panic ch) a w'
      | .outgrown=>False
def oH(P:Program)(W:eJ)(R:Nat->Loop)(c0:ar)(dk:Env)(bI:Nat->Nat)(yl:Yl (Env->Prop)):Prop :=
  ∀k args s (K':SV->St->Env->Prop) U,yl k args s K' U->args.all (SV.wf s.c)=true->c0.le s.c->Env.aC c0 dk U->∀R':Nat->Loop,(∀k,k<c0.nk->R' k=R k)->∀Z β a w,(∀k,k<c0.nk->β k=bI k)->Core W R' Z U β s a w ->
    ∀(r:Option Nat) (n:Nat) (next':Value->World->Prop),
    (∀v s' ag an w',K' v s' ag->v.wf s'.c=true->v ≠ .any->s.c.le s'.c->Env.aC s.c U ag->(∀k,k<s.c.nk->an k=β k)->Core W R' Z ag an s' a w'->next' (v.den ag an) w') ->
    ∃l fn tmps assign body,(Instr.yield (β k) (args.map (SV.den U β)).toArray).run P w=.ok (.round l fn tmps assign body) w/\RoundIn (Fr r) n P l fn tmps assign body w λe w'=>∃v,e=.returned v/\next' v w'
theorem oH.og{c0 c1:ar}{dk a_:Env}{bI ft:Nat->Nat}{R1:Nat->Loop}{yl:Yl (Env->Prop)}(h:oH P W R c0 dk bI yl)(hc:c0.le c1)(hl:Env.aC c0 dk a_)(hb:∀k,k<c0.nk->ft k=bI k)(hR:∀k,k<c0.nk->R1 k=R k):oH P W R1 c1 a_ ft yl :=
 λk args s K' U hy hw h1 h2 R' h3 Z β a w h4=>h k args s K' U hy hw (ar.le_trans hc h1) (Env.aj hc hl h2) R' (λk hk=>(h3 k (Nat.lt_of_lt_of_le hk hc.k)).trans (hR k hk)) Z β a w (λk hk=>(h4 k (Nat.lt_of_lt_of_le hk hc.k)).trans (hb k hk))
theorem TR{G:bV}{st:St}{o:Oper}{K:St->Env->Prop}{U:Env}(h:n_ (PA G.P W Q QM QP) G st o K U):∀c,o.op ≠ .defer c:=by
 intro c he;unfold n_ at h;have hn:qX G st o=none:=by unfold qX;rw [he]
 have D5:nt G st o=none:=by unfold nt;rw [he]
 rw [hn]at h;simp only at h;rw [D5]at h;simp only at h;unfold mv at h;simp only [he]at h;unfold wq at h;simp only [he]at h;exact h
theorem TS{G:bV}{st:St}{o:Oper}{K:St->Env->Prop}{U:Env}(h:AI (PA G.P W Q QM QP) G st o K U):∀c,o.op ≠ .defer c:=by
 intro c he;unfold AI at h;simp only [he]at h;exact h
theorem TT{G:bV}{st:St}{o:Oper}{K:St->Env->Prop}{U:Env}(h:oa (PA G.P W Q QM QP) G st o K U):∀c,o.op ≠ .defer c:=by
 intro c he;unfold oa at h;simp only [he]at h;exact h
def ua(W:eJ)(R:Nat->Loop)(Z:List Nat)(c0:ar)(dk:Env)(bI:Nat->Nat)(Q':Exit->Act->World->Prop)(KP:Nat->St->Env->Prop):Prop :=
 ∀i st U,KP i st U->i<st.c.nv->c0.le st.c->Env.aC c0 dk U->∀β a w,(∀k,k<c0.nk->β k=bI k)->Core W R Z U β st a w->Q' (.panic [{v:=(U.v i).1,recovered:=false}]) a w
theorem AW(p:Nat->Bool):∀(m:Mem) (k:Nat),getM (m.filter λx=>p x.1) k=if p k=true then getM m k else none
  | [],k=>by simp [getM]
  | (j,v)::r,k=>by
    simp only [List.filter_cons];by_cases hj:p j=true
    · simp only [hj,if_true,getM,AW p r k];by_cases ub:j=k
      · subst ub;simp [hj]
      · simp [ub]
    · rw [if_neg (by simpa using hj),AW p r k];simp only [getM];by_cases ub:j=k
      · subst ub;simp [hj]
      · simp [ub]
theorem I4(p:Nat->Bool):∀(m:bA) (k:Nat),aO (m.filter λx=>p x.1) k=if p k=true then aO m k else none
  | [],k=>by simp [aO]
  | (j,v)::r,k=>by
    simp only [List.filter_cons];by_cases hj:p j=true
    · simp only [hj,if_true,aO,I4 p r k];by_cases ub:j=k
      · subst ub;simp [hj]
      · simp [ub]
    · rw [if_neg (by simpa using hj),I4 p r k];simp only [aO];by_cases ub:j=k
      · subst ub;simp [hj]
      · simp [ub]
theorem Core.less{U:Env}{β:Nat->Nat}{st:St}{a:Act}{w:World}(hC:Core W R Z U β st a w)(p:Nat->Bool):Core W R Z U β {st with m:=st.m.filter λx=>p x.1,o:=st.o.filter λx=>p x.1} a w:=by
 have hM:∀{k x},getM (st.m.filter λx=>p x.1) k=some x->getM st.m k=some x:=λ{k x} h=>by
  rw [AW]at h;split at h<;>simp_all
 have hO:∀{k x},aO (st.o.filter λx=>p x.1) k=some x->aO st.o k=some x:=λ{k x} h=>by
  rw [I4]at h;split at h<;>simp_all
 have hE:∀{k e},aM (st.m.filter λx=>p x.1) (st.o.filter λx=>p x.1) k=some e->aM st.m st.o k=some e:=λ{k e} h=>by
  unfold aM at h ⊢;rw [AW,I4]at h;by_cases hp:p k=true
  ·simpa [hp]using h
  ·simp [hp]at h
 exact⟨hC.size,hC.tmps,hC.kE,hC.below,λk e h=>hC.mem k e (hE h),λk k' e e' b h h'=>hC.inj k k' e e' b (hE h) (hE h'),hC.fX,hC.kt,hC.gQ,hC.dn,
  ⟨hC.wf.t,λk cs t h=>hC.wf.m k cs t (hM h),λk ce sz t h=>hC.wf.o k ce sz t (hO h),λk x h=>by
   have:=hC.wf.ap k x (hO h)
   show getM (st.m.filter λx=>p x.1) k=none;rw [AW,this];simp,hC.wf.r,hC.wf.d,hC.wf.k,hC.wf.df⟩,hC.kn⟩
theorem Core.va{U:Env}{β:Nat->Nat}{st:St}{a:Act}{w w':World}{bs:List Nat}(hC:Core W R Z U β st a w)(TU:bs.all (λb=>(getM st.m b).isSome)=true)(hb:wJ (bs.map β) w w'):Core W R Z U β {st with m:=tQ st.m bs} a w':=by
 have own:∀b∈bs,∃cs t,getM st.m b=some (cs,t)/\aM st.m st.o b=some (.fix cs t):=λb hb=>by
  have:=List.all_eq_true.1 TU b hb
  obtain⟨⟨cs,t⟩,h⟩:=Option.isSome_iff_exists.1 this;exact⟨cs,t,h,o5 h⟩
 have kept:∀{k:Nat} {e:qB},aM (tQ st.m bs) st.o k=some e->aM st.m st.o k=some e/\k ∉ bs:=λ{k e} h=>by
  unfold aM tQ at h;have hf:=AW (λb => !bs.contains b) st.m k;rw [hf]at h;by_cases hp:k∈bs
  ·obtain⟨cs,t,h1,_⟩:=own k hp
   have hn:aO st.o k=none:=by
    cases ho:aO st.o k with
    |none=>rfl
    |some x=>have:=hC.wf.ap k x ho;rw [h1]at this;cases this
   simp [hp,hn]at h
  ·refine⟨?_,hp⟩;unfold aM;simpa [hp]using h
 have same:∀{k:Nat} {e:qB},aM st.m st.o k=some e->k ∉ bs->∀b,bM β k e=some b->w'.heap[b]? = w.heap[b]? := λ{k e} hg hk b oF=>by
  refine hb.block b ((hC.mem k e hg).wU b oF).2.1 λhm => ?_;obtain⟨j,hj,rfl⟩:=List.mem_map.1 hm;obtain⟨cs,t,_,h2⟩:=own j hj;exact hk (hC.inj k j e _ _ hg h2 oF rfl▸hj)
 have other:∀{b:Nat} {o:Obj},w.heap[b]? = some o->¬Datum o->w'.heap[b]? = some o:=λ{b o} h ho=>by
  rw [hb.block b (uV h) λhm => ?_,h];obtain⟨j,hj,rfl⟩:=List.mem_map.1 hm;obtain⟨cs,t,h1,_⟩:=own j hj
  have:=(hC.fix h1).2
  rw [h]at this;cases this;exact ho trivial
 refine⟨hC.size,hC.tmps,hC.kE,dT.mk (hb.os.trans hC.below.os) (hb.tape.trans hC.below.tape) (hb.output.trans hC.below.output) (Nat.le_trans hC.below.size hb.size) (λk hk hl => ?_),λk e h => ?_,λk k' e e' b h h'=>hC.inj k k' e e' b (kept h).1 (kept h').1,
  λk e h=>⟨(hC.fX k e h).1,other (hC.fX k e h).2 (λh=>h)⟩,hC.kt,λb h=>⟨(hC.gQ b h).1,other (hC.gQ b h).2 (λh=>h)⟩,hC.dn,
  ⟨hC.wf.t,λk cs t h => ?_,hC.wf.o,λk x h => ?_,hC.wf.r,hC.wf.d,hC.wf.k,hC.wf.df⟩,hC.kn⟩
 ·rw [hb.block k (Nat.lt_of_lt_of_le hk hC.below.size) λhm => ?_]
  ·exact hC.below.block k hk hl
  ·obtain⟨j,hj,rfl⟩:=List.mem_map.1 hm;obtain⟨cs,t,h1,_⟩:=own j hj;rcases (hC.fix h1).1.out with h2|h2
   ·exact hl h2
   ·omega
 ·obtain⟨h1,h2⟩:=kept h;exact (hC.mem k e h1).eK (hC.wf.eO h1) (Env.ao _ _) (λ_ _=>rfl) (same h1 h2)
 ·have hf:=AW (λb => !bs.contains b) st.m k;have h:getM (st.m.filter λx => !bs.contains x.1) k=some (cs,t):=h;rw [hf]at h;split at h
  ·exact hC.wf.m k cs t h
  ·cases h
 ·show getM (st.m.filter λx => !bs.contains x.1) k=none;have hf:=AW (λb => !bs.contains b) st.m k;rw [hf,hC.wf.ap k x h];simp
theorem Core.more{U ag:Env}{β:Nat->Nat}{st:St}{a:Act}{w:World}(hC:Core W R Z U β st a w){c:ar}(hc:st.c.le c)(hl:Env.aC st.c U ag){kn:cr}(hw:cr.wf kn c)(hk:cr.den kn ag):Core W R Z ag β {st with c:=c,k:=kn} a w:=by
 have h1:=hC.aC hl;have g:=hC.wf.grow hc;exact⟨h1.size,h1.tmps,h1.kE,h1.below,h1.mem,h1.inj,h1.fX,h1.kt,h1.gQ,h1.dn,⟨g.t,g.m,g.o,g.ap,g.r,g.d,hw,g.df⟩,hk⟩
theorem TV(g:Bool)(l:List At):(eG g l).flat=l.all At.flat/\∀c,(eG g l).wf c=l.all (At.wf c):=by
 unfold eG;split
 ·exact⟨by simp [CV.flat],λc=>by simp [CV.wf]⟩
 ·exact⟨rfl,λc=>rfl⟩
theorem Xg{G:bV}(hG:G.Ok){c0:ar}{dk:Env}{bI:Nat->Nat}{Q':Exit->Act->World->Prop}{KP:Nat->St->Env->Prop}(hP:ua W R Z c0 dk bI Q' KP){st:St}{f:FuncId}{args:List SV}{t:TypeId}{js:List Nat}{U:Env}
    (h:wC (PA G.P W Q QM QP) G KP st f args t js U) (jc:c0.le st.c) (gx:Env.aC c0 dk U) {β:Nat->Nat} {a:Act} {w:World} (ff:∀k,k<c0.nk->β k=bI k) (hC:Core W R Z U β st a w) :
    args.any jD≠true/\(callFunc f (args.map (SV.den U β)).toArray).run G.P w=.ok (.enter f (args.map (SV.den U β)).toArray) w/\Calls G.P f (args.map (SV.den U β)).toArray w λe w'=>∃ch,e=.panicked ch/\Q' (.panic ch) a w':=by
  unfold wC at h;generalize hz:aQ G.P t=u1 at h;generalize tX:wc G.P 30 t=u2 at h;generalize TU:sR args js=u3 at h;split at h
  · rename_i g n ks bs;split at h
    · exact h.elim
    · rename_i ha;simp only [not_or,Decidable.not_not]at ha;split at h
      · rename_i ic;obtain⟨nF,ju,yv,cH⟩:=ic;obtain⟨a_,l1,h1,h2⟩:=vF ks st.c h;have hle:=yi ks st.c;have h2:=h2 ⟨.iface t ((eG g (av st.c ks)).den a_ b0),rfl⟩ rfl;have ct:(aY st.c ks).le {aY st.c ks with nv:=(aY st.c ks).nv+1}:=zq _ .vD;have l2:=ES (aY st.c ks) a_ ⟨.iface t ((eG g (av st.c ks)).den a_ b0),rfl⟩;have sW:Env.aC st.c U (a_.ov (aY st.c ks).nv ⟨.iface t ((eG g (av st.c ks)).den a_ b0),rfl⟩):=Env.aj hle l1 l2;refine⟨ha.1,hG.calls f ju _ w, ?_⟩;have h1:=h1 β w hC.below (Ca hC.wf.ap (Env.ao st.c U) (λk cs t hm=>(hC.wf.m k cs t hm).2) (λk ce sz t hm=>(hC.wf.o k ce sz t hm).2) _ (λk hk e hg=>hC.mem k e hg))
        have sX:(bs.map β).Nodup:=by
          have key:∀l:List Nat,(∀x∈l,x∈bs)->l.Nodup->(l.map β).Nodup:=by
            intro l
            induction l with
            |nil=>intro _ _;exact List.nodup_nil
            |cons x l ih =>
              intro rX hn;simp only [List.nodup_cons,List.map_cons]at hn ⊢;refine⟨λhm => ?_,ih (λy hy=>rX y (List.mem_cons_of_mem _ hy)) hn.2⟩;obtain⟨y,hy,he⟩:=List.mem_map.1 hm;obtain⟨⟨cs,t1⟩,g1⟩:=Option.isSome_iff_exists.1 (List.all_eq_true.1 cH x (rX x (List.mem_cons_self ..)));obtain⟨⟨jt,t2⟩,g2⟩:=Option.isSome_iff_exists.1 (List.all_eq_true.1 cH y (rX y (List.mem_cons_of_mem _ hy)))
              have:=hC.inj x y _ _ (β x) (o5 g1) (o5 g2) rfl (by simp [bM,he])
              exact hn.1 (this▸hy)
          exact key bs (λ_ h=>h) yv
        refine (lI.out h1 sX).mono λe w' he => ?_;obtain⟨rfl,Mx⟩:=he;refine⟨_,rfl, ?_⟩;have o9:=hC.va cH Mx;have e0:((a_.ov (aY st.c ks).nv ⟨.iface t ((eG g (av st.c ks)).den a_ b0),rfl⟩).v (aY st.c ks).nv).1=.iface t ((eG g (av st.c ks)).den a_ b0):=congrArg (λy:OV=>y.1) (if_pos rfl);have FD:(eG g (av st.c ks)).wf (aY st.c ks)=true:=by rw [(TV _ _).2];exact B8 ks st.c
        have dW:=o9.more (c := {aY st.c ks with nv:=(aY st.c ks).nv+1}) (ar.le_trans hle ct) sW (kn := .jy (aY st.c ks).nv t (eG g (av st.c ks))::st.k) (λz hz => ?_) (λz hz => ?_)
        · have:=hP _ _ _ h2 (Nat.lt_succ_self _) (ar.le_trans jc (ar.le_trans hle ct)) (Env.aj jc gx sW) β a w' ff dW
          rw [e0]at this;exact this
        · rcases List.mem_cons.1 hz with rfl|hz
          · simp only [Kn.wf,Bool.and_eq_true,decide_eq_true_eq];exact⟨Nat.lt_succ_self _,CV.aU ct FD,by rw [(TV _ _).1];exact EU ks st.c nF⟩
          · exact Kn.aU (ar.le_trans hle ct) (hC.wf.k z hz)
        · rcases List.mem_cons.1 hz with rfl|hz
          · simp only [Kn.den];rw [e0,CV.aa l2 (λ_ _=>rfl) FD];rfl
          · exact Kn.aa sW (hC.wf.k z hz) (hC.kn z hz)
      · exact h.elim
  · exact h.elim
theorem My{G:bV}(hG:G.Ok){r:Option Nat}{n:Nat}{c0:ar}{dk:Env}{bI:Nat->Nat}{Q':Exit->Act->World->Prop}{inl:yM (Env->Prop)}{yl:Yl (Env->Prop)}{rU:Bool}{KP:Nat->St->Env->Prop}(hI:t_ G W R Z c0 dk bI Q' inl)(hY:oH G.P W R c0 dk bI yl)(td:rU=true->r=none)(hP:ua W R Z c0 dk bI Q' KP) :
    s_ G.P W R Z r n c0 dk bI Q' (qY (PA G.P W Q QM QP) G inl yl rU KP):=by
  intro st o K U h jc gx β a w ff hC next hn
  have jd:n_ (PA G.P W Q QM QP) G st o K U->o.wpIn (Fr r) n G.P a w next Q':=λh=>w6 r n (TR h) (I3 (TD hG hC.wf hC.kn h) hC hn Q')
  have jX:oa (PA G.P W Q QM QP) G st o K U->o.wpIn (Fr r) n G.P a w next Q':=λh=>w6 r n (TT h) (I3 (TO hC.wf h) hC hn Q')
  have Ct:AI (PA G.P W Q QM QP) G st o K U->o.wpIn (Fr r) n G.P a w next Q':=λh=>w6 r n (TS h) (I3 (TJ hC.wf h) hC hn Q')
  obtain⟨dst,op,type,pos,after,guard⟩:=o;unfold qY at h;cases op<;>first|exact jd h|skip
  case makeSlice t l cp=>exact jX h
  case makeMap t rs=>exact jX h
  case mapUpdate t m k v=>exact jX h
  case insert t m k v=>exact jX h
  case panic x =>
    simp only at h;generalize hx:st.ev x=sx at h;split at h
    · rename_i i;split at h
      · rename_i hi;obtain⟨⟨t,v⟩,hf⟩:=Option.isSome_iff_exists.1 hi;have hm:=BU hf;have hd:=hC.kn _ hm;have hw:=hC.wf.k _ hm;simp only [Kn.wf,Bool.and_eq_true,decide_eq_true_eq]at hw;simp only [Kn.den]at hd;have e1:=hC.eval x (by rw [hx];simp);rw [hx]at e1;have e2:a.eval x=.iface t (v.den U λ_=>0):=e1.trans hd
        have:=hP i st U h hw.1 jc gx β a w ff hC
        rw [hd]at this;refine w6 r n (by simp) ?_;unfold Oper.wp
        have hr:(execOp a.eval ⟨dst,.panic x,type,pos,after,guard⟩).run G.P w=.halt (.panic (.iface t (v.den U λ_=>0))) w:=by
          simp [execOp,e2,Instr.panic,goPanic]
        rw [hr,Oper.upon_panic];exact this
      · exact h.elim
    · exact h.elim
  case defer c =>
    obtain⟨callee,args,argTypes⟩:=c;simp only at h;generalize ha:args.toList=al at h;split at h
    · rename_i g;generalize hg:st.ev g=sg at h;split at h
      · rename_i f aK;split at h
        · rename_i hd;have Xh:r=none:=td rfl;subst Xh;have eg:=hC.eval g (by rw [hg];simp);rw [hg]at eg;have vb:=hC.wf.ev g;rw [hg]at vb;have ea:args=#[]:=by apply Array.ext';rw [ha]
          subst ea;refine⟨λf _=>u_ none f, ?_⟩
          have hr:((⟨none,.defer ⟨.value g,#[],argTypes⟩,type,pos,after,guard⟩:Oper).semAt (Fr none).round a.eval).run G.P w=.ok (.defer {target := .fn (.func f) (aK.map λc=>(.pointer (some ⟨β c.1,c.2,none⟩):Value)).toArray,args := #[]}) w:=by
            rw [show (Fr none).round=none from rfl,Oper.semAt_none];simp only [execOp,resolve,eg,SV.den,CV.den,At.den,Deferred.ofValue,Sem.run_bind,Sem.run_pure,Result.andThen_ok];simp
          rw [hr,Oper.uponIn_defer];refine hn _ U β _ w h (ar.le_refl _) (Env.ao _ _) (λ_ _=>rfl) ⟨hC.size,hC.tmps, ?_,hC.below,hC.mem,hC.inj,hC.fX,hC.kt,hC.gQ,hC.dn,⟨hC.wf.t,hC.wf.m,hC.wf.o,hC.wf.ap,hC.wf.r,hC.wf.d,hC.wf.k,λx hx => ?_⟩,hC.kn⟩
          · show _::a.defers=_;rw [hC.kE];simp [fW]
          · rcases List.mem_cons.1 hx with rfl|hx
            · exact λy hy=>by simpa using List.all_eq_true.1 vb y hy
            · exact hC.wf.df x hx
        · exact h.elim
      · exact h.elim
    · exact h.elim
  case assign x =>
    simp only at h;split at h
    · exact jX h
    · exact jd h
  case convert s d x =>
    simp only at h;split at h
    · exact jX h
    · exact jd h
  case buildSlice t len parts =>
    simp only at h;split at h
    · exact jX h
    · exact jd h
  case slice t x lo hi mx =>
    cases mx with
    |none=>exact jd h
    |some m=>exact jX h
  case store t x y =>
    simp only at h;generalize hx:st.ev x=sx at h;split at h
    · exact jX h
    · exact jd h
  case call cl =>
    obtain⟨callee,args,argTypes⟩:=cl;cases callee<;>first|exact jd h|skip
    case builtin b =>
      cases b<;>first|exact jd h|skip
      exact Ct h
    case invoke Mz m =>
      simp only at h;generalize AS:st.ev Mz=sr at h;split at h
      · rename_i i;generalize hf:ga st.k i=u1 at h;cases u1 with
        |none=>exact h.elim
        |some z =>
        obtain⟨t,v⟩:=z;simp only at h;generalize hm:methodOf G.P t m=u2 at h;cases u2 with
        |none=>exact h.elim
        |some f =>
        simp only at h;split at h;rotate_left
        · exact jd h
        rename_i Cu;split at h
        · exact h.elim
        · rename_i fw;have gK:=BU hf;have uU:=hC.wf.k _ gK;simp only [Kn.wf,Bool.and_eq_true]at uU;have er:=hC.eval Mz (by rw [AS];simp);rw [AS]at er;have hd:(Kn.jy i t v).den U:=hC.kn _ gK;simp only [Kn.den]at hd
          have er:a.eval Mz=.iface t (v.den U β):=by
            rw [er];show (U.v i).1=_;rw [hd,CV.bC U (λ_=>0) β uU.2.2]
          have ea:(args.map a.eval).toList=(args.toList.map st.ev).map (SV.den U β):=by
            rw [Array.toList_map]
            exact zx _ λx hx=>hC.eval x (by
              intro he;exact fw (List.any_eq_true.2 ⟨_,List.mem_map.2 ⟨x,hx,rfl⟩,by rw [he];rfl⟩))
          have ec:#[v.den U β]++args.map a.eval=(((SV.cv v)::args.toList.map st.ev).map (SV.den U β)).toArray:=by
            apply Array.ext';rw [Array.toList_append,ea];simp [SV.den]
          have hw:((SV.cv v)::args.toList.map st.ev).all (SV.wf st.c)=true:=List.all_eq_true.2 λx hx=>by
            rcases List.mem_cons.1 hx with rfl|hx
            · exact uU.2.1
            · obtain⟨y,_,rfl⟩:=List.mem_map.1 hx;exact hC.wf.ev y
          refine w6 r n (by simp) ?_;unfold Oper.wp;rw [Tg hm er ec w,hG.inl f Cu,Oper.upon_enter]
          refine (hI f _ st _ U h hw jc gx β a w ff hC (λv w'=>next (a.put dst v) w') ?_).mono λe w' he=>by
            cases e<;>first|exact he|exact he.elim
          intro v s' ag an w' hk uU D6 hle hl hb eV;exact Cs (st:=s') (st0:=st) (dk:=U) hk eV (ar.le_refl _) hle hl hb (λ_=>rfl) hn
      · exact h.elim
    case value g =>
      have uc:∀ (f:FuncId) (first aK:List (Nat × Nat)) (all:List SV),all=first.map dA++(args.toList.map st.ev++aK.map dA)->st.ev g ≠ .any->(st.ev g).wf st.c=true ->
          (∀x∈first,x.1<st.c.nk)->(∀x∈aK,x.1<st.c.nk) ->
          ((st.ev g).den U β=.func (.func f) (first.map λc=>.pointer (some ⟨β c.1,c.2,none⟩)).toArray (aK.map λc=>.pointer (some ⟨β c.1,c.2,none⟩)).toArray) ->
          G.inl.contains f=true->¬(args.toList.map st.ev).any jD=true->inl f all st (λv s=>St.put (PA G.P W Q QM QP) s dst v s.c K) U->(⟨dst,.call ⟨.value g,args,argTypes⟩,type,pos,after,guard⟩:Oper).wpIn (Fr r) n G.P a w next Q':=by
        intro f first aK all cH wS _ D1 Fw wT hf fw h
        have eg:=hC.eval g wS;rw [wT]at eg
        have ea:(args.map a.eval).toList=(args.toList.map st.ev).map (SV.den U β):=by
          rw [Array.toList_map]
          exact zx _ λx hx=>hC.eval x (by
            intro he;exact fw (List.any_eq_true.2 ⟨_,List.mem_map.2 ⟨x,hx,rfl⟩,by rw [he];rfl⟩))
        have ec:(first.map λc=>(.pointer (some ⟨β c.1,c.2,none⟩):Value)).toArray++args.map a.eval++(aK.map λc=>(.pointer (some ⟨β c.1,c.2,none⟩):Value)).toArray=(all.map (SV.den U β)).toArray:=by
          apply Array.ext';rw [Array.toList_append,Array.toList_append,ea,cH];simp [SV.den,CV.den,At.den,dA,Function.comp_def]
        have hx:(execOp a.eval ⟨dst,.call ⟨.value g,args,argTypes⟩,type,pos,after,guard⟩).run G.P w=(callFunc f (all.map (SV.den U β)).toArray).run G.P w:=by
          simp only [execOp,resolve,eg,Deferred.ofValue,Sem.run_bind,Sem.run_pure,Result.andThen_ok,invoke];rw [<-ec]
        have FE:∀{l:List (Nat × Nat)},(∀x∈l,x.1<st.c.nk)->∀x∈l.map dA,x.wf st.c=true:=λhl x hx=>by
          obtain⟨y,hy,rfl⟩:=List.mem_map.1 hx;exact decide_eq_true (hl y hy)
        have hw:all.all (SV.wf st.c)=true:=by
          rw [cH];refine List.all_eq_true.2 λx hx => ?_;rcases List.mem_append.1 hx with hx|hx
          · exact FE D1 x hx
          · rcases List.mem_append.1 hx with hx|hx
            · obtain⟨y,_,rfl⟩:=List.mem_map.1 hx;exact hC.wf.ev y
            · exact FE Fw x hx
        refine w6 r n (by simp) ?_;unfold Oper.wp;rw [hx,hG.inl f hf,Oper.upon_enter]
        refine (hI f _ st _ U h hw jc gx β a w ff hC (λv w'=>next (a.put dst v) w') ?_).mono λe w' he=>by
          cases e<;>first|exact he|exact he.elim
        intro v s' ag an w' hk uU D6 hle hl hb eV;exact Cs (st:=s') (st0:=st) (dk:=U) hk eV (ar.le_refl _) hle hl hb (λ_=>rfl) hn
      simp only at h;have vb:=hC.wf.ev g;generalize hg:st.ev g=sg at h;split at h
      · rename_i f aK;split at h
        · rename_i Xi;obtain⟨_,rfl⟩:=Xi;exact w6 r n (by simp) (I3 (Xc hG hC.wf (o:=⟨dst,.call ⟨.value g,args,argTypes⟩,type,pos,after,guard⟩) rfl hg h) hC hn Q')
        split at h
        · rename_i hf;split at h
          · exact h.elim
          · rename_i fw;rw [hg]at vb;exact uc f [] aK _ (by simp) (by rw [hg];simp) (by rw [hg];exact vb) (by simp) (λx hx=>by simpa using List.all_eq_true.1 vb x hx) (by rw [hg];rfl) hf fw h
        · unfold Sw at h;generalize hph:tP G f=ph at h;cases ph with
          |none=>exact jd h
          |some tj =>
            obtain⟨t,js⟩:=tj;rcases h with h|h
            · exact jd h
            · obtain⟨fw,iN,ju⟩:=Xg hG hP h jc gx ff hC;have eg:=hC.eval g (by rw [hg];simp);rw [hg]at eg
              have ea:(args.map a.eval).toList=(args.toList.map st.ev).map (SV.den U β):=by
                rw [Array.toList_map]
                exact zx _ λx hx=>hC.eval x (by
                  intro he;exact fw (List.any_eq_true.2 ⟨_,List.mem_append.2 (.inl (List.mem_map.2 ⟨x,hx,rfl⟩)),by rw [he];rfl⟩))
              have hx:(execOp a.eval ⟨dst,.call ⟨.value g,args,argTypes⟩,type,pos,after,guard⟩).run G.P w=(callFunc f ((args.toList.map st.ev++aK.map dA).map (SV.den U β)).toArray).run G.P w:=by
                simp only [execOp,resolve,eg,SV.den,CV.den,At.den,Deferred.ofValue,Sem.run_bind,Sem.run_pure,Result.andThen_ok,invoke];congr 2;apply Array.ext';rw [Array.toList_append,Array.toList_append,ea];simp [SV.den,CV.den,At.den,dA,Function.comp_def]
              refine w6 r n (by simp) ?_;unfold Oper.wp;rw [hx,iN,Oper.upon_enter];refine ju.mono λe w' he => ?_;obtain⟨ch,rfl,hq⟩:=he;exact hq
      · rename_i f first aK
        split at h
        · rename_i hf;split at h
          · exact h.elim
          · rename_i fw;rw [hg]at vb;have te:((first.all λx=>decide (x.1<st.c.nk)) && aK.all λx=>decide (x.1<st.c.nk))=true:=vb;simp only [Bool.and_eq_true]at te;exact uc f first aK _ rfl (by rw [hg];simp) (by rw [hg];exact vb) (λx hx=>by simpa using List.all_eq_true.1 te.1 x hx) (λx hx=>by simpa using List.all_eq_true.1 te.2 x hx) (by rw [hg];rfl) hf fw h
        · exact jd h
      · rename_i f first aK
        split at h
        · rename_i hf;split at h
          · exact h.elim
          · rename_i fw;rw [hg]at vb;have te:((first.all λx=>x.wf st.c) && aK.all λx=>decide (x.1<st.c.nk))=true:=vb;simp only [Bool.and_eq_true]at te;have eg:=hC.eval g (by rw [hg];simp);rw [hg]at eg
            have ea:(args.map a.eval).toList=(args.toList.map st.ev).map (SV.den U β):=by
              rw [Array.toList_map]
              exact zx _ λx hx=>hC.eval x (by
                intro he;exact fw (List.any_eq_true.2 ⟨_,List.mem_map.2 ⟨x,hx,rfl⟩,by rw [he];rfl⟩))
            have ef:(first.map aW.at).map (At.den U β)=first.map (aW.den U β):=by
              rw [List.map_map];exact List.map_congr_left λx _=>aW.vX U β x
            have hx:(execOp a.eval ⟨dst,.call ⟨.value g,args,argTypes⟩,type,pos,after,guard⟩).run G.P w=(callFunc f ((SV.cv (.agg (first.map aW.at))::(args.toList.map st.ev++aK.map dA)).map (SV.den U β)).toArray).run G.P w:=by
              have Cm:a.eval g=.func (.func f) #[.agg (first.map (aW.den U β)).toArray] (aK.map λc=>(.pointer (some ⟨β c.1,c.2,none⟩):Value)).toArray:=eg;simp only [execOp,resolve,Cm,Deferred.ofValue,Sem.run_bind,Sem.run_pure,Result.andThen_ok,invoke];congr 2;apply Array.ext';rw [Array.toList_append,Array.toList_append,ea]
              have e1:(SV.cv (.agg (first.map aW.at))).den U β=.agg (first.map (aW.den U β)).toArray:=by
                show Value.agg ((first.map aW.at).map (At.den U β)).toArray=_;rw [ef]
              rw [List.map_cons,e1,List.map_append];simp [SV.den,CV.den,At.den,dA,Function.comp_def]
            have hw:(SV.cv (.agg (first.map aW.at))::(args.toList.map st.ev++aK.map dA)).all (SV.wf st.c)=true:=by
              refine List.all_eq_true.2 λx hx => ?_;rcases List.mem_cons.1 hx with rfl|hx
              · simp only [SV.wf,CV.wf,List.all_map]
                exact List.all_eq_true.2 λy hy=>by
                  show (y.at).wf st.c=true;rw [aW.EA];exact List.all_eq_true.1 te.1 y hy
              · rcases List.mem_append.1 hx with hx|hx
                · obtain⟨y,_,rfl⟩:=List.mem_map.1 hx;exact hC.wf.ev y
                · obtain⟨y,hy,rfl⟩:=List.mem_map.1 hx;exact List.all_eq_true.1 te.2 y hy
            refine w6 r n (by simp) ?_;unfold Oper.wp;rw [hx,hG.inl f hf,Oper.upon_enter]
            refine (hI f _ st _ U h hw jc gx β a w ff hC (λv w'=>next (a.put dst v) w') ?_).mono λe w' he=>by
              cases e<;>first|exact he|exact he.elim
            intro v s' ag an w' hk uU D6 hle hl hb eV;exact Cs (st:=s') (st0:=st) (dk:=U) hk eV (ar.le_refl _) hle hl hb (λ_=>rfl) hn
        · exact h.elim
      · rename_i k;split at h
        · exact h.elim
        · rename_i fw;have eg:=hC.eval g (by rw [hg];simp);rw [hg]at eg
          have ea:args.map a.eval=((args.toList.map st.ev).map (SV.den U β)).toArray:=by
            apply Array.ext';rw [Array.toList_map]
            exact zx _ λx hx=>hC.eval x (by
              intro he;exact fw (List.any_eq_true.2 ⟨_,List.mem_map.2 ⟨x,hx,rfl⟩,by rw [he];rfl⟩))
          have hw:(args.toList.map st.ev).all (SV.wf st.c)=true:=List.all_eq_true.2 λx hx=>by
            obtain⟨y,_,rfl⟩:=List.mem_map.1 hx;exact hC.wf.ev y
          obtain⟨l,fn,tmps,assign,body,hy,hR⟩:=hY k _ st _ U h hw jc gx R (λ_ _=>rfl) Z β a w ff hC r (n-1) (λv w'=>next (a.put dst v) w') (λv s' ag an w' hk uU D6 hle hl hb eV =>
            Cs (st:=s') (st0:=st) (dk:=U) hk eV (ar.le_refl _) hle hl hb (λ_=>rfl) hn)
          refine⟨λf _=>u_ r f, ?_⟩;rw [Oper.semAt_eq _ _ _ (by simp)]
          have hx:(execOp a.eval ⟨dst,.call ⟨.value g,args,argTypes⟩,type,pos,after,guard⟩).run G.P w=.ok (.round l fn tmps assign body) w:=by
            simp only [execOp,resolve,eg,SV.den,CV.den,At.den,Deferred.ofValue,Sem.run_bind,Sem.run_pure,Result.andThen_ok,invoke,ea];simpa using hy
          rw [hx,Oper.uponIn_round];refine⟨FC,hR.mono λe w' he => ?_⟩;obtain⟨v,rfl,hv⟩:=he;exact hv
      · exact h.elim
end Vc
set_option linter.unusedVariables false
namespace Vc
open Go Go.RowKit
variable {P:Program} {W:eJ} {Q:Value->Prop} {QM QP:World->Value->Prop} {R:Nat->Loop} {Z:List Nat}
theorem Xj{t:TypeId}{cs:List At}{off:Nat}{v:CV}(h:partOf P t cs off=some v)(U:Env)(β:Nat->Nat)(w:World)(b:Nat)(ty:TypeId)(hb:w.heap[b]? = some (.cells (cs.map (At.den U β)).toArray ty)) :
  (loadVar t ⟨b,off,none⟩).run P w=.ok (v.den U β) w:=by
 unfold partOf at h;generalize hz:aQ P t=u at h;split at h
 ·rename_i n;split at h
  ·rename_i hl;simp only [Option.some.injEq]at h;subst h
   have:=DR hz w b off (((cs.drop off).take n).map (At.den U β)) (by simp;omega) (λj v hj=>by
    rw [yW hb];simp only [List.getElem?_map,Option.map_eq_some_iff]at hj;obtain⟨a,ha,rfl⟩:=hj
    have yX:j<n:=by
     rcases Nat.lt_or_ge j n with h'|h'
     ·exact h'
     ·rw [List.getElem?_eq_none (by simp;omega)]at ha;cases ha
    rw [List.getElem?_take_of_lt yX,List.getElem?_drop]at ha;simp [ha])
   exact this
  ·cases h
 ·rename_i n;simp only [Option.map_eq_some_iff]at h;obtain⟨a,ha,rfl⟩:=h
  have:=DT hz w b off (a.den U β) (by rw [yW hb];simp [ha])
  exact this
 ·cases h
theorem MA{t:TypeId}{cs:List At}{off:Nat}{v:CV}{c:ar}(h:partOf P t cs off=some v)(hw:cs.all (At.wf c)=true):v.wf c=true:=by
 unfold partOf at h;generalize aQ P t=u at h;split at h
 ·split at h
  ·simp only [Option.some.injEq]at h;subst h;exact (zr (zr hw off).2 _).1
  ·cases h
 ·simp only [Option.map_eq_some_iff]at h;obtain⟨a,ha,rfl⟩:=h;exact List.all_eq_true.1 hw a (List.mem_of_getElem? ha)
 ·cases h
def pR(tmps:Array Value):ResultVar->Sem Value
 | .tmp t=>pure (tmps.getD t undef)
 | .cell a t=>do loadVar t (<-asAddr (tmps.getD a undef))
theorem MB{U:Env}{β:Nat->Nat}{st:St}{a:Act}{w:World}(hC:Core W R Z U β st a w):∀ (l:List ResultVar) {cs:List CV},dI P st l=some cs ->
    (l.mapM (pR a.tmps)).run P w=.ok (cs.map (CV.den U β)) w/\cs.all (CV.wf st.c)=true
  | [],cs,h=>by simp only [dI,Option.some.injEq]at h;subst h;simp
  | .tmp t::r,cs,h=>by
    simp only [dI]at h;split at h
    · rename_i v l h1 h2;simp only [Option.some.injEq]at h;subst h;obtain⟨q1,q2⟩:=MB hC r h2;have e:=hC.tmps t (by rw [h1];simp);have wv:=hC.wf.t t;rw [h1]at e wv;simp only [List.mapM_cons,pR,Sem.run_bind,Sem.run_pure,Result.andThen_ok,q1,Array.getD_eq_getD_getElem?,e,Option.getD_some,SV.den,List.map_cons,true_and];simp only [List.all_cons,q2,Bool.and_true];exact wv
    · cases h
  | .cell x t::r,cs,h=>by
    simp only [dI]at h;split at h
    · rename_i k off l h1 h2;split at h
      · rename_i c ty h3;split at h
        · rename_i v h4;simp only [Option.some.injEq]at h;subst h;obtain⟨q1,q2⟩:=MB hC r h2;have e:=hC.tmps x (by rw [h1];simp);rw [h1]at e;obtain⟨m1,m2⟩:=hC.fix h3;have hl:=Xj h4 U β w (β k) ty m2
          have e2:a.tmps.getD x undef=.pointer (some ⟨β k,off,none⟩):=by
            simp only [Array.getD_eq_getD_getElem?,e,Option.getD_some,SV.den,CV.den,At.den]
          simp only [List.mapM_cons,pR,Sem.run_bind,Sem.run_pure,Result.andThen_ok,e2,asAddr,hl,q1,List.map_cons,true_and];simp only [List.all_cons,q2,Bool.and_true];exact MA h4 (hC.wf.m k c ty h3).2
        · cases h
      · cases h
    · cases h
theorem MC{fn:Func}{U:Env}{β:Nat->Nat}{st:St}{a:Act}{w:World}(hC:Core W R Z U β st a w){cs:List CV}(h:dI P st fn.results.toList=some cs) :
  (results fn a.tmps).run P w=.ok ((cJ cs).den U β) w/\(cJ cs).wf st.c=true:=by
 obtain⟨q1,q2⟩:=MB hC _ h;refine⟨?_,DW q2⟩
 have hf:(results fn a.tmps)=(do let vs <-fn.results.mapM (pR a.tmps);pure (if h:vs.size=1 then vs[0]else .tuple vs)):=by
  unfold results;congr 1
 rw [hf,Array.mapM_eq_mapM_toList];simp only [Sem.run_bind,Sem.run_map,q1,Result.andThen_ok,Sem.run_pure];unfold cJ
 match cs with
 | []=>simp [SV.den]
 | [c]=>simp [SV.den]
 |c::d::r=>simp [SV.den]
theorem TW:∀(args:List SV) (n i:Nat),ay ((List.range' n args.length).zip args) i=if n<=i then (args[i-n]?).getD .any else .any
  | [],n,i=>by simp [ay]
  |v::r,n,i=>by
    simp only [List.length_cons,List.range'_succ,List.zip_cons_cons,zj];by_cases h:n=i
    · subst h;simp
    · rw [if_neg h,TW r (n+1) i];by_cases h2:n<=i
      · rw [if_pos (by omega),if_pos h2];rw [show i-n=(i-(n+1))+1 by omega];simp
      · rw [if_neg (by omega),if_neg h2]
theorem D7(args:List SV)(i:Nat):ay ((List.range args.length).zip args) i=(args[i]?).getD .any:=by
 have:=TW args 0 i
 rw [List.range_eq_range'];simpa using this
theorem TX{U:Env}{β:Nat->Nat}{args:List SV}{n:Nat}{st:St}{a:Act}{w:World}(hC:Core W R Z U β st a w)(hw:args.all (SV.wf st.c)=true) :
    Core W R (Z++st.d.map β) U β {t:=(List.range args.length).zip args,n:=args.length+(n-args.length),m:=st.m,c:=st.c,o:=st.o,r:=st.r,d := [],k:=st.k}
      {tmps:=(args.map (SV.den U β)).toArray++Array.replicate (n-(args.map (SV.den U β)).toArray.size) undef,defers := []} w where
  size:=by simp
  tmps i hn:=by
    simp only [D7]at hn ⊢;cases hi:args[i]? with
    |none=>rw [hi]at hn;exact (hn rfl).elim
    |some v =>
      have ct:i<args.length:=(List.getElem?_eq_some_iff.1 hi).1;rw [Array.getElem?_append_left (by simpa using ct)];simp [hi]
  kE:=rfl
  below:=hC.below
  mem:=hC.mem
  inj:=hC.inj
  fX:=hC.fX
  kt:=hC.kt
  gQ b hb:=hC.gQ b (by simpa using hb)
  dn:=by simpa using hC.dn
  wf:=⟨λi=>by
    simp only [D7];cases hi:args[i]? with
    |none=>rfl
    |some v=>exact List.all_eq_true.1 hw v (List.mem_of_getElem? hi),hC.wf.m,hC.wf.o,hC.wf.ap,hC.wf.r,λk hk=>(by cases hk),hC.wf.k,λx hx=>(by cases hx)⟩
  kn:=hC.kn
theorem MD{U:Env}{β:Nat->Nat}{args:List SV}{n:Nat}{c:ar}{w:World}{kn:cr}(wQ:cr.wf kn c)(gV:cr.den kn U)(hw:args.all (SV.wf c)=true)(hB:dT W w) :
    Core W R [] U β {t:=(List.range args.length).zip args,n:=args.length+(n-args.length),m := [],c:=c,k:=kn}
      {tmps:=(args.map (SV.den U β)).toArray++Array.replicate (n-(args.map (SV.den U β)).toArray.size) undef,defers := []} w where
  size:=by simp
  tmps i hn:=by
    simp only [D7]at hn ⊢;cases hi:args[i]? with
    |none=>rw [hi]at hn;exact (hn rfl).elim
    |some v =>
      have ct:i<args.length:=(List.getElem?_eq_some_iff.1 hi).1;rw [Array.getElem?_append_left (by simpa using ct)];simp [hi]
  kE:=rfl
  below:=hB
  mem k e h:=by cases h
  inj k k' e e' b h:=by cases h
  fX k e h:=by cases h
  kt k k' e e' h:=by cases h
  gQ b hb:=by cases hb
  dn:=by simp
  wf:=⟨λi=>by
    simp only [D7];cases hi:args[i]? with
    |none=>rfl
    |some v=>exact List.all_eq_true.1 hw v (List.mem_of_getElem? hi),λk cs t h=>(by cases h),λk ce sz t h=>(by cases h),λk x h=>(by cases h),λk e h=>(by cases h),λk hk=>(by cases hk),wQ,λx hx=>(by cases hx)⟩
  kn:=gV
def Ex.to(U:Env):Ex->Exit
 | .normal=>.normal
 | .exit id=>.exit id
 | .ret=>.ret
 | .jz i=>.panic [{v:=(U.v i).1,recovered:=false}]
def Ex.ok(c:ar):Ex->Prop
 | .jz i=>i<c.nv
 |_=>True
def nN(W:eJ)(R:Nat->Loop)(Z:List Nat)(st:St)(U:Env)(β:Nat->Nat)(K:Ex->St->Env->Prop)(Q':Exit->Act->World->Prop):Prop :=
 ∀e ib ag an a' w',K e ib ag->e.ok ib.c->st.c.le ib.c->Env.aC st.c U ag->(∀k,k<st.c.nk->an k=β k)->Core W R Z ag an ib a' w'->Q' (e.to ag) a' w'
theorem nN.og{st ib:St}{U ag:Env}{β an:Nat->Nat}{K:Ex->St->Env->Prop}{Q':Exit->Act->World->Prop}(h:nN W R Z st U β K Q')(hc:st.c.le ib.c)(hl:Env.aC st.c U ag)(hb:∀k,k<st.c.nk->an k=β k):nN W R Z ib ag an K Q' :=
 λe s aB bB a w hk h0 h1 h2 h3 hC=>h e s aB bB a w hk h0 (ar.le_trans hc h1) (Env.aj hc hl h2) (λk hk=>(h3 k (Nat.lt_of_lt_of_le hk hc.k)).trans (hb k hk)) hC
theorem nN.st{st ib:St}{U:Env}{β:Nat->Nat}{K:Ex->St->Env->Prop}{Q':Exit->Act->World->Prop}(h:nN W R Z st U β K Q')(he:ib.c=st.c):nN W R Z ib U β K Q' :=
 h.og (by rw [he];exact ar.le_refl _) (Env.ao _ _) (λ_ _=>rfl)
structure Cv(D:List Nat)(w w':World):Prop where
 os:w'.os=w.os
 tape:w'.tape=w.tape
 output:w'.output=w.output
 size:w'.heap.size=w.heap.size
 block:∀k,k ∉ D->w'.heap[k]? = w.heap[k]?
theorem TY{r:Option Nat}{n:Nat}{fn:Func}{tmps:Array Value}{T:Ending->World->Prop}:∀ (D:List Nat) (w:World),(∀ b∈D,w.heap[b]? = some (.deferred (some [])))->D.Nodup ->
    (∀w',Cv D w w'->∃v,(results fn tmps).run P w'=.ok v w'/\T (.returned v) w')->LeavesInM (Fr r) n P fn tmps T (D.map λb => {target := .collected b,args := #[]}) .returning w
  | [],w,_,_,h=>h w ⟨rfl,rfl,rfl,rfl,λ_ _=>rfl⟩
  |b::D,w,hd,hn,h=>by
    have hb:=hd b (by simp);simp only [List.nodup_cons]at hn;refine⟨by simp,.inl ⟨b,_,rfl,run_takeDeferred hb,TY D _ (λb' gy => ?_) hn.2 λw' hs=>h w' ?_⟩⟩
    · rw [World.putObj_heap_other (λe=>hn.1 (by rw [<-e];exact gy))];exact hd b' (by simp [gy])
    · refine⟨hs.os,hs.tape,hs.output,by rw [hs.size];simp,λk hk => ?_⟩;simp only [List.mem_cons,not_or]at hk;rw [hs.block k hk.2,World.putObj_heap_other hk.1]
theorem Holds.shut{U:Env}{β:Nat->Nat}{k:Nat}{w w':World}{D:List Nat}{e:qB}{c:ar}(h:Holds W U β k e w)(hw:o7 c k e)(hD:∀b∈D,w.heap[b]? = some (.deferred (some [])))(hs:Cv D w w'):Holds W U β k e w':=by
 refine h.eK hw (Env.ao _ _) (λ_ _=>rfl) λb hb=>hs.block b λhm => ?_;obtain⟨_,_,o,hc,hd⟩:=h.wU b hb;rw [hD b hm]at hc;cases hc;exact hd
theorem Core.shut{U:Env}{β:Nat->Nat}{st:St}{a:Act}{w w':World}(hC:Core W R Z U β st a w)(qH:st.df=[])(hs:Cv (st.d.map β) w w'):Core W R Z U β {st with d := []} {a with defers := []} w':=by
 have hD:∀b∈st.d.map β,w.heap[b]? = some (.deferred (some [])):=λb hb=>(hC.gQ b (List.mem_append.2 (.inr hb))).2;have TZ:=List.nodup_append.1 hC.dn
 refine⟨hC.size,hC.tmps,by simp [fW,qH,marksOf],dT.mk (hs.os.trans hC.below.os) (hs.tape.trans hC.below.tape) (hs.output.trans hC.below.output) (by rw [hs.size];exact hC.below.size) (λk hk hl => ?_),λk e hg=>(hC.mem k e hg).shut (hC.wf.eO hg) hD hs,hC.inj,λk e hg=>⟨(hC.fX k e hg).1, ?_⟩,hC.kt,λb hb => ?_, ?_,
  ⟨hC.wf.t,hC.wf.m,hC.wf.o,hC.wf.ap,hC.wf.r,λk hk=>(by cases hk),hC.wf.k,hC.wf.df⟩,hC.kn⟩
 ·rw [hs.block k λhm => ?_]
  ·exact hC.below.block k hk hl
  ·have:=(hC.gQ k (List.mem_append.2 (.inr hm))).1
   omega
 ·rw [hs.block _ λhm => ?_]
  ·exact (hC.fX k e hg).2
  ·have h1:=hD _ hm;rw [(hC.fX k e hg).2]at h1;cases h1
 ·simp only [List.map_nil,List.append_nil]at hb;refine⟨(hC.gQ b (List.mem_append.2 (.inl hb))).1, ?_⟩;rw [hs.block b λhm=>TZ.2.2 b hb b hm rfl];exact (hC.gQ b (List.mem_append.2 (.inl hb))).2
 ·simpa using TZ.1
theorem I5{U ag:Env}{β an:Nat->Nat}{st s':St}{a a':Act}{w w':World}(hC:Core W R Z U β st a w)(eV:Core W R (Z++st.d.map β) ag an {s' with d := []} a' w')(hle:st.c.le s'.c)(hl:Env.aC st.c U ag)(hb:∀k,k<st.c.nk->an k=β k) :
  Core W R Z ag an {t:=st.t,n:=st.n,m:=s'.m,c:=s'.c,o:=s'.o,r:=s'.r,d:=st.d,k:=s'.k,df:=st.df} a w':=by
 have oG:st.d.map an=st.d.map β:=List.map_congr_left λk hk=>hb k (hC.wf.d k hk);refine⟨hC.size,λi hi => ?_, ?_,eV.below,eV.mem,eV.inj,eV.fX,eV.kt,λb qE => ?_, ?_,⟨λi=>SV.aU hle (hC.wf.t i),eV.wf.m,eV.wf.o,eV.wf.ap,eV.wf.r,λk hk=>Nat.lt_of_lt_of_le (hC.wf.d k hk) hle.k,eV.wf.k,λx hx y hy=>Nat.lt_of_lt_of_le (hC.wf.df x hx y hy) hle.k⟩,eV.kn⟩
 ·rw [hC.tmps i hi];exact congrArg some (SV.aa hl hb (hC.wf.t i)).symm
 ·rw [hC.kE,IU hC.wf.df hb];simp only [marksOf];exact congrArg _ (List.map_congr_left λk hk=>by rw [hb k (hC.wf.d k hk)])
 ·rw [oG]at qE;exact eV.gQ b (by simpa using qE)
 ·rw [oG];simpa using eV.dn
theorem ME{f:FuncId}{fn:Func}{b:Code}{args:Array Value}{w:World}{T:Ending->World->Prop}{n:Nat}(hf:P.funcs[f]? = some fn)(hb:fn.body=some b)
  (h:b.wpIn (Fr none) n P (bodyPostM (Fr none) n P fn T) {tmps:=args++Array.replicate (fn.ntmps-args.size) undef,defers := []} w):Calls P f args w T :=
 Mr.1 (callsIn_of_wp_marks (F:=Fr none) hf hb (u_ none f) h rfl)
theorem T0{r:Option Nat}{n:Nat}{fn:Func}{U:Env}{β:Nat->Nat}{s:St}{a:Act}{w:World}{T:Ending->World->Prop}(hC:Core W R Z U β s a w)(qH:s.df=[]){l:List CV}(hr:dI P s fn.results.toList=some l)
  (h:∀w',Core W R Z U β {s with d := []} {a with defers := []} w'->(cJ l).wf s.c=true->T (.returned ((cJ l).den U β)) w'):LeavesInM (Fr r) n P fn a.tmps T a.defers .returning w:=by
 rw [hC.kE,qH];have hd:fW β []++marksOf β s.d=(s.d.map β).map λb => {target := .collected b,args := #[]}:=by simp [marksOf,fW]
 rw [hd];refine TY _ w (λb hb=>(hC.gQ b (List.mem_append.2 (.inr hb))).2) (List.nodup_append.1 hC.dn).2.1 λw' hs => ?_;have eV:=hC.shut qH hs
 have I6:dI P {s with d := []} fn.results.toList=some l:=by
  rw [<-hr]
  have:∀(x:List ResultVar),dI P {s with d := []} x=dI P s x:=by
   intro x
   induction x with
   |nil=>rfl
   |cons y x ih=>cases y<;>simp only [dI,ih]
  exact this _
 obtain⟨q1,q2⟩:=MC eV I6;exact⟨_,q1,h w' eV q2⟩
theorem St.ud(n0:Nat)(v:SV)(st:St):(St.prune n0 v st).c=st.c:=by
 unfold St.prune;split<;>rfl
theorem Core.prune{U:Env}{β:Nat->Nat}{st:St}{a:Act}{w:World}(hC:Core W R Z U β st a w)(n0:Nat)(v:SV):Core W R Z U β (St.prune n0 v st) a w:=by
 unfold St.prune;split
 ·exact hC
 ·exact hC.less λk=>decide (k<n0) || (mP st.m st.o 3000 (eX v++((st.m.filter λx=>decide (x.1<n0)).flatMap (λx=>(aN x.2.1).filter λk=>decide (n0<=k))++(st.o.filter λx=>decide (x.1<n0)).flatMap (λx=>(aN (jP x.2.1)).filter λk=>decide (n0<=k)))) []).contains k
theorem Core.vZ{U:Env}{β:Nat->Nat}{st:St}{a:Act}{w:World}(hC:Core W R Z U β st a w):Core W R Z U β {st with t:=gd 0 st.t} a w :=
 ⟨hC.size,λi h=>by
   have h:ay (gd 0 st.t) i ≠ .any:=h;show a.tmps[i]? = some ((ay (gd 0 st.t) i).den U β);rw [Sr]at h ⊢;exact hC.tmps i h,hC.kE,hC.below,hC.mem,hC.inj,hC.fX,hC.kt,hC.gQ,hC.dn,
  ⟨λi=>by
   show (ay (gd 0 st.t) i).wf st.c=true;rw [Sr];exact hC.wf.t i,hC.wf.m,hC.wf.o,hC.wf.ap,hC.wf.r,hC.wf.d,hC.wf.k,hC.wf.df⟩,hC.kn⟩
def Ex.mode(U:Env):Ex->FrameMode
 | .jz i=>.panicking [{v:=(U.v i).1,recovered:=false}]
 |_=>.returning
theorem Xk{b rest:Code}{d:Tmp}(h:mQ b=some (d,rest)):∃id ops o,b=.seq (.region id ops false) rest/\ops.toList=[o]/\o.dst=some d/\o.guard=none/\∃at',o.op=.call ⟨.builtin .recover,#[],at'⟩:=by
 unfold mQ at h;split at h
 ·rename_i id ops T1;generalize hl:ops.toList=l at h;split at h
  ·rename_i d' args at' ty pos aft;split at h
   ·rename_i ha;cases h
    have:args=#[]:=by apply Array.ext';simpa using ha
    subst this;exact⟨_,_,_,rfl,hl,rfl,rfl,_,rfl⟩
   ·cases h
  ·cases h
 ·cases h
theorem T2{G:bV}(hG:G.Ok){ex:Code->St->(Ex->St->Env->Prop)->Env->Prop}{c0:ar}{dk:Env}{bI:Nat->Nat}
    (hE:∀(c:Code) (st:St) (K:Ex->St->Env->Prop) (U:Env),ex c st K U->c0.le st.c->Env.aC c0 dk U->∀(m:Nat) (β:Nat->Nat) (a:Act) (w:World),(∀k,k<c0.nk->β k=bI k)->Core W R Z U β st a w->∀Q':Exit->Act->World->Prop,nN W R Z st U β K Q'->c.wpIn (Fr none) m G.P Q' a w)
    {fn:Func} {e:Ex} {s:St} {KR:SV->St->Env->Prop} {KP:Nat->St->Env->Prop} {U:Env} (h:leave (PA G.P W Q QM QP) G ex fn e s KR KP U) (jc:c0.le s.c) (gx:Env.aC c0 dk U) {β:Nat->Nat} {a:Act} {w:World} (ff:∀k,k<c0.nk->β k=bI k) (hC:Core W R Z U β s a w) (kN:e.ok s.c) (m:Nat)
    {T:Ending->World->Prop}
    (hR:∀v s2 aB bB w2,KR v s2 aB->v.wf s2.c=true->v ≠ .any->s.c.le s2.c->Env.aC s.c U aB->(∀k,k<s.c.nk->bB k=β k)->Core W R Z aB bB {s2 with d := []} {a with defers := []} w2->T (.returned (v.den aB bB)) w2)
    (hP:∀i s2 aB bB w2,KP i s2 aB->i<s2.c.nv->s.c.le s2.c->Env.aC s.c U aB->(∀k,k<s.c.nk->bB k=β k)->Core W R Z aB bB {s2 with d := []} {a with defers := []} w2->T (.panicked [{v:=(aB.v i).1,recovered:=false}]) w2) :
    (∀id,e ≠ .exit id)/\LeavesInM (Fr none) m G.P fn a.tmps T a.defers (e.mode U) w:=by
  unfold leave at h;generalize qH:s.df=df at h;split at h
  ·
    have fin:(match dI G.P s fn.results.toList with
        |some l=>KR (cJ l) s
        |none => (PA G.P W Q QM QP).fail "leave: results") U -> LeavesInM (Fr none) m G.P fn a.tmps T a.defers .returning w := fun hk => by
      generalize hr:dI G.P s fn.results.toList=u at hk;cases u with
      |none=>exact hk.elim
      |some l=>exact T0 hC qH hr λw3 w7 MF=>hR (cJ l) s U β w3 hk MF (DX l) (ar.le_refl _) (Env.ao _ _) (λ_ _=>rfl) w7
    cases e with
    |exit id=>exact h.elim
    |normal=>exact⟨by simp,fin h⟩
    |ret=>exact⟨by simp,fin h⟩
    |jz i =>
      refine⟨by simp, ?_⟩;simp only at h;generalize hd:s.d=d at h;cases d with
      |cons _ _=>exact h.elim
      |nil =>
        have he:a.defers=[]:=by rw [hC.kE,qH,hd];rfl
        rw [he];show LeavesIn (Fr none) m G.P fn a.tmps T [] (.panicking [{v:=(U.v i).1,recovered:=false}]) w;refine hP i s U β w h kN (ar.le_refl _) (Env.ao _ _) (λ_ _=>rfl) ?_
        have:=hC.shut qH (w':=w) ⟨rfl,rfl,rfl,rfl,λ_ _=>rfl⟩
        exact this
  ·
    rename_i g aK;generalize hd:s.d=d at h;generalize vc:G.P.funcs[g]? = gf at h;split at h;rotate_left
    · exact h.elim
    rename_i gn;generalize Xl:gn.body=gb at h;split at h;rotate_left
    · exact h.elim
    rename_i b;generalize jY:mQ b=rb at h;split at h;rotate_left
    · exact h.elim
    rename_i dst rest;split at h;rotate_left
    · exact h.elim
    rename_i ic;obtain⟨MG,Cu⟩:=ic;simp only at h
    have fM:((aK.map dA).map (SV.den U β)).toArray=(aK.map λc=>(.pointer (some ⟨β c.1,c.2,none⟩):Value)).toArray:=by
      congr 1;simp [dA,SV.den,CV.den,At.den,Function.comp_def]
    have Xm:(aK.map dA).all (SV.wf s.c)=true:=List.all_eq_true.2 λx hx=>by
      obtain⟨y,hy,rfl⟩:=List.mem_map.1 hx;exact decide_eq_true (hC.wf.df _ (by rw [qH];exact List.mem_cons_self ..) y hy)
    have w8:=TX (n:=gn.ntmps) hC Xm;rw [hd]at w8;simp only [List.map_nil,List.append_nil]at w8;obtain⟨id,ops,o,iQ,jS,qF,Xn,at',I7⟩:=Xk jY
    have key:∀ (rv:SV) (u u':FrameMode),u ≠ .run->settle u'=.returning->rv.wf s.c=true->rv ≠ .any->(∀ (iy:Frame) (cs:List Frame),iy.mode=u->(recoverD (iy::cs)=some (rv.den U β,{iy with mode:=u'}::cs))\/(recoverD (iy::cs)=none/\rv.den U β=.nilIface/\u'=u)) ->
        (St.put (PA G.P W Q QM QP) {t:=(List.range (aK.map dA).length).zip (aK.map dA),n:=(aK.map dA).length+(gn.ntmps-(aK.map dA).length),m:=s.m,c:=s.c,o:=s.o,r:=s.r,d := [],k:=s.k} (some dst) rv s.c λs1 =>
          ex rest s1 λe2 s2=>match e2 with
            | .normal=>match s2.d,s2.df with
              | [],[]=>match dI G.P {t:=s.t,n:=s.n,m:=s2.m,c:=s2.c,o:=s2.o,r:=s2.r,d := [],k:=s2.k} fn.results.toList with
                |some l=>KR (cJ l) {t:=s.t,n:=s.n,m:=s2.m,c:=s2.c,o:=s2.o,r:=s2.r,d := [],k:=s2.k}
                |none => (PA G.P W Q QM QP).fail "leave: results"
              |_, _ => (PA G.P W Q QM QP).fail "leave: closure"
            | .ret=>match s2.d,s2.df with
              | [],[]=>match dI G.P {t:=s.t,n:=s.n,m:=s2.m,c:=s2.c,o:=s2.o,r:=s2.r,d := [],k:=s2.k} fn.results.toList with
                |some l=>KR (cJ l) {t:=s.t,n:=s.n,m:=s2.m,c:=s2.c,o:=s2.o,r:=s2.r,d := [],k:=s2.k}
                |none => (PA G.P W Q QM QP).fail "leave: results"
              |_, _ => (PA G.P W Q QM QP).fail "leave: closure"
            |_ => (PA G.P W Q QM QP).fail "leave: closure") U -> LeavesInM (Fr none) m G.P fn a.tmps T a.defers u w := by
      intro rv u u' hu MH Ft hra zE h
      have he:a.defers=[{target := .fn (.func g) (aK.map λc=>(.pointer (some ⟨β c.1,c.2,none⟩):Value)).toArray,args := #[]}]:=by
        rw [hC.kE,qH,hd];rfl
      rw [he];refine⟨hu,.inr ⟨FC,.func g,_,g,(aK.map λc=>(.pointer (some ⟨β c.1,c.2,none⟩):Value)).toArray,rfl, ?_,λg' _=>u_ none g', ?_⟩⟩
      · simp only [invoke];rw [show (#[]:Array Value)++(aK.map λc=>(.pointer (some ⟨β c.1,c.2,none⟩):Value)).toArray=(aK.map λc=>(.pointer (some ⟨β c.1,c.2,none⟩):Value)).toArray from by simp];exact hG.inl g Cu _ w
      refine callsDIn_of_wpSIn vc Xl (u_ none g) λiy cs hm => ?_;rw [iQ];refine wpSIn_seq (wpSIn_region ?_);have i_:ops.size=1:=by rw [<-Array.length_toList,jS];rfl
      have bE:ops=#[o]:=by apply Array.ext';rw [jS]
      subst bE;rw [show List.range (#[o]:Array Oper).size=[0] from rfl]
      have iN:∀ev:Operand->Value,(execOp ev o).run G.P w=.ok .recover w:=λev=>by
        simp [execOp,I7,resolve,invoke,builtin]
      unfold wpOpsSIn;simp only [List.getElem?_toArray,List.getElem?_cons_zero];refine⟨λf _=>u_ none f, ?_⟩;rw [if_pos (by simp [Region.wanted,Xn]),iN];simp only
      have go:∀ jt,jt = {iy with mode:=u'}::cs->wpOpsSIn (Fr none) (m - 1) G.P #[o] (Exit.thenS (rest.wpSIn (Fr none) (m - 1) G.P (bodyPostS G.P gn iy cs fun
          | .returned _,u',w'=>LeavesInM (Fr none) m G.P fn a.tmps T [] (settle u') w'
          | .panicked chain,u',w'=>LeavesInM (Fr none) m G.P fn a.tmps T [] (raised u' chain) w'
          | .outgrown,_,w'=>T .outgrown w')) (bodyPostS G.P gn iy cs fun
          | .returned _,u',w'=>LeavesInM (Fr none) m G.P fn a.tmps T [] (settle u') w'
          | .panicked chain,u',w'=>LeavesInM (Fr none) m G.P fn a.tmps T [] (raised u' chain) w'
          | .outgrown,_,w'=>T .outgrown w')) [] ((⟨(aK.map λc=>(.pointer (some ⟨β c.1,c.2,none⟩):Value)).toArray++Array.replicate (gn.ntmps-(aK.map λc=>(.pointer (some ⟨β c.1,c.2,none⟩):Value)).toArray.size) undef,[]⟩:Act).put o.dst (rv.den U β)) jt w:=by
        intro jt pP;subst pP;refine wpSIn_of_wpIn rfl ?_;rw [<-fM,qF];refine Cs (st0:=s) (dk:=U) h w8 (ar.le_refl _) (ar.le_refl _) (Env.ao _ _) (λ_ _=>rfl) (λ_=>rfl) (next:=λa' w'=>rest.wpIn (Fr none) (m-1) G.P _ a' w') ?_;intro s1 a_ ft a1 w1 vH h1 h2 h3 o9;refine hE rest s1 _ a_ vH (ar.le_trans jc h1) (Env.aj jc gx h2) (m-1) ft a1 w1 (λk hk=>(h3 k (Nat.lt_of_lt_of_le hk jc.k)).trans (ff k hk)) o9 _ ?_;intro e2 s2 aB bB a2 w2 jW _ g1 g2 g3 dW;have q1:s.c.le s2.c:=ar.le_trans h1 g1;have q2:Env.aC s.c U aB:=Env.aj h1 h2 g2;have q3:∀k,k<s.c.nk->bB k=β k:=λk hk=>(g3 k (Nat.lt_of_lt_of_le hk h1.k)).trans (h3 k hk)
        have back:(match s2.d,s2.df with
              | [],[]=>match dI G.P {t:=s.t,n:=s.n,m:=s2.m,c:=s2.c,o:=s2.o,r:=s2.r,d := [],k:=s2.k} fn.results.toList with
                |some l=>KR (cJ l) {t:=s.t,n:=s.n,m:=s2.m,c:=s2.c,o:=s2.o,r:=s2.r,d := [],k:=s2.k}
                |none => (PA G.P W Q QM QP).fail "leave: results"
              |_, _ => (PA G.P W Q QM QP).fail "leave: closure") aB -> a2.defers = [] /\ ∃ u2, { iy with mode := u' } :: cs = { iy with mode := u2 } :: cs /\ ∃ v, (results gn a2.tmps).run G.P w2 = .ok v w2 /\ LeavesInM (Fr none) m G.P fn a.tmps T [] (settle u2) w2 := by
          intro hk;generalize vJ:s2.d=d2 at hk;generalize I2:s2.df=f2 at hk;split at hk
          · generalize hr:dI G.P {t:=s.t,n:=s.n,m:=s2.m,c:=s2.c,o:=s2.o,r:=s2.r,d := [],k:=s2.k} fn.results.toList=ur at hk;cases ur with
            |none=>exact hk.elim
            |some l =>
              have MI:a2.defers=[]:=by rw [dW.kE,vJ,I2];rfl
              have hz:=(MC (P:=G.P) (fn:=gn) dW (cs := []) (by rw [MG];rfl)).1;refine⟨MI,u',rfl,_,hz, ?_⟩;rw [MH]
              have I8:Core W R (Z++s.d.map β) aB bB {s2 with d := []} a2 w2:=by
                rw [hd];simp only [List.map_nil,List.append_nil]
                have:({s2 with d := []}:St)=s2:=by rw [<-vJ]
                rw [this];exact dW
              have oF:=I5 hC I8 q1 q2 q3
              have oD:Core W R Z aB bB {t:=s.t,n:=s.n,m:=s2.m,c:=s2.c,o:=s2.o,r:=s2.r,d := [],k:=s2.k} {a with defers := []} w2:=by
                have iP:=oF;rw [hd]at iP;exact⟨iP.size,iP.tmps,rfl,iP.below,iP.mem,iP.inj,iP.fX,iP.kt,iP.gQ,iP.dn,⟨iP.wf.t,iP.wf.m,iP.wf.o,iP.wf.ap,iP.wf.r,iP.wf.d,iP.wf.k,λx hx=>by cases hx⟩,iP.kn⟩
              obtain⟨r1,r2⟩:=MC (fn:=fn) oD hr;exact⟨_,r1,hR (cJ l) _ aB bB w2 hk r2 (DX l) q1 q2 q3 oD⟩
          · exact hk.elim
        cases e2 with
        |normal=>exact back jW
        |ret=>exact back jW
        |exit id=>exact jW.elim
        |jz i=>exact jW.elim
      rcases zE iy cs hm with h1|⟨h1,h2,h3⟩
      · rw [h1];exact go _ rfl
      · rw [h1];simp only;rw [<-h2];refine go _ ?_;subst h3;rw [<-hm]
    cases e with
    |exit id=>exact h.elim
    |normal =>
      refine⟨by simp, ?_⟩;exact key (.cv (.one .pw)) .returning .returning (by simp) rfl rfl (by simp) (λiy cs hm=>.inr ⟨by simp [recoverD,hm],rfl,rfl⟩) h
    |ret =>
      refine⟨by simp, ?_⟩;exact key (.cv (.one .pw)) .returning .returning (by simp) rfl rfl (by simp) (λiy cs hm=>.inr ⟨by simp [recoverD,hm],rfl,rfl⟩) h
    |jz i =>
      refine⟨by simp, ?_⟩;simp only at h;by_cases hi:(ga s.k i).isSome=true
      · rw [if_pos hi]at h;exact key (.cv (.one (.val i))) (.panicking [{v:=(U.v i).1,recovered:=false}]) (.panicking [{v:=(U.v i).1,recovered:=true}]) (by simp) rfl (decide_eq_true kN) (by simp) (λiy cs hm=>.inl (by simp [recoverD,hm];rfl)) h
      · rw [if_neg hi]at h;exact h.elim
  · exact h.elim
end Vc
set_option linter.unusedVariables false
namespace Vc
open Go Go.RowKit
variable {P:Program} {W:eJ} {Q:Value->Prop} {QM QP:World->Value->Prop} {R:Nat->Loop} {Z:List Nat}
theorem Xo{o:bA}{a:At}{l:List At}{k:CK}{ks:List CK}(h:eY o (a::l)=some (k::ks)):kindOf o a=some k/\eY o l=some ks:=by
 simp only [eY]at h;split at h
 ·rename_i k' r h1 h2;simp only [Option.some.injEq,List.cons.injEq]at h;exact⟨h.1▸h1,h.2▸h2⟩
 ·cases h
theorem MJ(c:ar)(k:CK):c.nk<=(bj c k).nk:=(zq c k).k
theorem D8:∀(ks:List CK) (c:ar) {k:Nat} {x:CE × Nat × TypeId},aO (bu c ks) k=some x->c.nk<=k/\k+3<(aY c ks).nk/\k∈aR (av c ks)/\∃n,x.1=[.var n]/\n<(aY c ks).nl
  | [],c,k,x,h=>by cases h
  |kd::l,c,k,x,h=>by
    have plain:aO (bu (bj c kd) l) k=some x->c.nk<=k/\k+3<(aY c (kd::l)).nk/\k∈aR (av (bj c kd) l)/\∃n,x.1=[.var n]/\n<(aY c (kd::l)).nl:=λh=>by
      obtain⟨h1,h2,h3,h4⟩:=D8 l _ h;exact⟨Nat.le_trans (MJ c kd) h1,h2,h3,h4⟩
    cases kd<;>first
      | (obtain⟨h1,h2,h3,h4⟩:=plain h;exact⟨h1,h2,h3,h4⟩)
      |skip
    rename_i sz t;simp only [bu,zy]at h;by_cases hk:c.nk=k
    · rw [if_pos hk]at h;cases h;subst hk
      have:=(yi l (bj c (.own sz t))).k
      have h2:=(yi l (bj c (.own sz t))).l;exact⟨Nat.le_refl _,by simp only [aY,bj]at this ⊢;omega,by simp [av,bF,aR],c.nl,rfl,by simp only [aY,bj]at h2 ⊢;omega⟩
    · rw [if_neg hk]at h;obtain⟨h1,h2,h3,h4⟩:=plain h;exact⟨h1,h2,by simp only [av,bF,aR];exact List.mem_cons_of_mem _ h3,h4⟩
def w9(fo oy:bA)(ag aB:Env)(an β:Nat->Nat)(k' k:Nat):Prop :=
 (an k'=β k/\an (k'+1)=β (k+1)/\an (k'+2)=β (k+2)/\an (k'+3)=β (k+3)) /\
  ∃n ce sz t,aO fo k'=some ([.var n],sz,t)/\aO oy k=some (ce,sz,t)/\aq ag an [.var n]=aq aB β ce
theorem FF(fo oy:bA)(aB:Env)(β:Nat->Nat):∀ (ks:List CK) (c:ar) {k:Env->Prop} {U:Env} (qz:Nat->Nat) (ys:List At),(∀ j x,aO (bu c ks) j=some x->aO fo j=some x)->nC fo (av c ks) k U->eY oy ys=some ks ->
    ∃ag an,k ag/\Env.aC c U ag/\(∀j,j<c.nk->an j=qz j)/\(av c ks).map (At.den ag an)=ys.map (At.den aB β)/\(av c ks).map (vl fo ag)=ys.map (vl oy aB) /\
      (aR (av c ks)).length=(aR ys).length/\(∀p∈(aR (av c ks)).zip (aR ys),w9 fo oy ag aB an β p.1 p.2)/\(∀j∈aR (av c ks),c.nk<=j)/\(aR (av c ks)).Nodup
  | [],c,k,U,qz,ys,_,h,hk=>by
    cases ys with
    |nil=>exact⟨U,qz,h,Env.ao _ _,λ_ _=>rfl,rfl,rfl,rfl,λp hp=>(by cases hp),λj hj=>(by cases hj),by simp [aR,av]⟩
    |cons y r =>
      simp only [eY]at hk;split at hk<;>simp at hk
  |kd::l,c,k,U,qz,ys,MK,h,hk=>by
    cases ys with
    |nil=>simp [eY]at hk
    |cons y r =>
      obtain⟨h1,h2⟩:=Xo hk
      have fin:kd.plain=true->aR (y::r)=aR r->∀ {a_:Env},nC fo (av (bj c kd) l) k a_->Env.aC c U a_->(bF c kd).den a_ b0=y.den aB β->vl fo a_ (bF c kd)=vl oy aB y->(∀ ag,Env.aC (bj c kd) a_ ag->vl fo ag (bF c kd)=vl fo a_ (bF c kd)) ->
          ∃ag an,k ag/\Env.aC c U ag/\(∀j,j<c.nk->an j=qz j)/\(av c (kd::l)).map (At.den ag an)=(y::r).map (At.den aB β)/\(av c (kd::l)).map (vl fo ag)=(y::r).map (vl oy aB) /\
            (aR (av c (kd::l))).length=(aR (y::r)).length/\(∀p∈(aR (av c (kd::l))).zip (aR (y::r)),w9 fo oy ag aB an β p.1 p.2)/\(∀j∈aR (av c (kd::l)),c.nk<=j)/\(aR (av c (kd::l))).Nodup:=by
        intro nF FG a_ ha hl he hv Cq;have Cw:∀j x,aO (bu (bj c kd) l) j=some x->aO fo j=some x:=λj x hj=>MK j x (by cases kd<;>first|exact hj|cases nF);have uX:(bj c kd).nk=c.nk:=by cases kd<;>first|rfl|cases nF
        obtain⟨ag,an,q1,q2,q3,q4,q5,q6,q7,q8,q9⟩:=FF fo oy aB β l _ qz r Cw ha h2;have ho:aR (av c (kd::l))=aR (av (bj c kd) l):=by cases kd<;>first|rfl|cases nF
        refine⟨ag,an,q1,Env.aj (zq c kd) hl q2,λj hj=>q3 j (by omega), ?_, ?_,by rw [ho,FG];exact q6,by rw [ho,FG];exact q7,by rw [ho];exact λj hj=>by have:=q8 j hj;omega,by rw [ho];exact q9⟩
        · simp only [av,List.map_cons,q4];rw [At.bC ag an b0 (Iz c kd nF),At.aa q2 (β:=b0) (λ_ _=>rfl) (Iy c kd),he]
        · simp only [av,List.map_cons,q5];rw [Cq ag q2,hv]
      cases kd with
      |int kk =>
        cases y<;>simp only [kindOf,reduceCtorEq,Option.some.injEq,CK.int.injEq]at h1
        · rename_i k2 e;subst h1;refine fin rfl rfl (h (e.den aB)) (AO c U _) ?_ ?_ ?_
          · simp [bF,At.den,IE.den,Env.gF]
          · simp [bF,vl,IE.den,Env.gF]
          · intro ag hl;show Vl.i (ag.i c.ni)=Vl.i _;rw [hl.i c.ni (Nat.lt_succ_self _)];rfl
        · split at h1
          · split at h1<;>simp at h1
          · cases h1
      |bool =>
        cases y<;>simp only [kindOf,reduceCtorEq,Option.some.injEq]at h1
        · rename_i e;refine fin rfl rfl (h (e.den aB)) (Sy c U _) ?_ ?_ ?_
          · simp [bF,At.den,BE.den,Env.mu]
          · simp [bF,vl,BE.den,Env.mu]
          · intro ag hl;show Vl.b (ag.b c.nb)=Vl.b _;rw [hl.b c.nb (Nat.lt_succ_self _)];rfl
        · split at h1
          · split at h1<;>simp at h1
          · cases h1
      |vD =>
        cases y<;>simp only [kindOf,reduceCtorEq,Option.some.injEq]at h1
        · rename_i e;refine fin rfl rfl (h (aB.v e)) (ES c U _) ?_ ?_ ?_
          · simp [bF,At.den,Env.ov]
          · simp [bF,vl,At.den,Env.ov]
          · intro ag hl;show Vl.v (ag.v c.nv).1=Vl.v _;rw [hl.v c.nv (Nat.lt_succ_self _)];rfl
        · split at h1
          · split at h1<;>simp at h1
          · cases h1
      |str =>
        have two:∀ag:Env,Env.aC (bj c .str) U ag->True:=λ_ _=>trivial;cases y<;>simp only [kindOf,reduceCtorEq,Option.some.injEq]at h1
        · rename_i x;refine fin rfl rfl (h x) (ET c U _) ?_ ?_ ?_
          · simp [bF,At.den,Env.qN]
          · simp [bF,vl,Env.qN]
          · intro ag hl;show Vl.s (ag.s c.ns)=Vl.s _;rw [hl.s c.ns (Nat.lt_succ_self _)]
        · rename_i x;refine fin rfl rfl (h (aB.s x)) (ET c U _) ?_ ?_ ?_
          · simp [bF,At.den,Env.qN]
          · simp [bF,vl,Env.qN]
          · intro ag hl;show Vl.s (ag.s c.ns)=Vl.s _;rw [hl.s c.ns (Nat.lt_succ_self _)]
        · split at h1
          · split at h1<;>simp at h1
          · cases h1
      |sl sz =>
        cases y<;>simp only [kindOf,reduceCtorEq,Option.some.injEq,CK.sl.injEq]at h1
        · rename_i q p s len cap;subst h1
          have hd:∀ag:Env,ag.b c.nb=aB.b q->ag.p c.np=aB.p p->ag.i c.ni=len.den aB->ag.i (c.ni+1)=cap.den aB->∀ft,(bF c (.sl s)).den ag ft=(At.dD q p s len cap).den aB β:=λag e1 e2 e3 e4 ft=>by
            simp only [bF,At.den,IE.den,e1,e2,e3,e4]
          have hs:=h (aB.b q) (aB.p p) (len.den aB) (cap.den aB);have g1:((((U.mu c.nb (aB.b q)).sC c.np (aB.p p)).gF c.ni (len.den aB)).gF (c.ni+1) (cap.den aB)).b c.nb=aB.b q:=if_pos rfl;have g2:((((U.mu c.nb (aB.b q)).sC c.np (aB.p p)).gF c.ni (len.den aB)).gF (c.ni+1) (cap.den aB)).p c.np=aB.p p:=if_pos rfl
          have g3:((((U.mu c.nb (aB.b q)).sC c.np (aB.p p)).gF c.ni (len.den aB)).gF (c.ni+1) (cap.den aB)).i c.ni=len.den aB:=by
            show (if c.ni=c.ni+1 then _ else if c.ni=c.ni then _ else _)=_;rw [if_neg (by omega),if_pos rfl]
          have g4:((((U.mu c.nb (aB.b q)).sC c.np (aB.p p)).gF c.ni (len.den aB)).gF (c.ni+1) (cap.den aB)).i (c.ni+1)=cap.den aB:=if_pos rfl;refine fin rfl rfl hs (Sz c U _ _ _ _) (hd _ g1 g2 g3 g4 b0) ?_ ?_
          · show Vl.v ((bF c (.sl s)).den _ b0)=Vl.v ((At.dD q p s len cap).den aB b0);rw [hd _ g1 g2 g3 g4 b0];rfl
          · intro ag hl;show Vl.v ((bF c (.sl s)).den ag b0)=Vl.v ((bF c (.sl s)).den _ b0);rw [hd ag (by rw [hl.b c.nb (Nat.lt_succ_self _),g1]) (by rw [hl.p c.np (Nat.lt_succ_self _),g2]) (by rw [hl.i c.ni (by simp [bj]),g3]) (by rw [hl.i (c.ni+1) (by simp [bj]),g4]) b0,hd _ g1 g2 g3 g4 b0]
        · split at h1
          · split at h1<;>simp at h1
          · cases h1
      |own sz t =>
        cases y<;>simp only [kindOf,reduceCtorEq,Option.some.injEq]at h1;rename_i k0;split at h1
        · rename_i ce vE t' hg;split at h1
          · rename_i mR;simp only [Option.some.injEq,CK.own.injEq]at h1;obtain⟨rfl,rfl⟩:=h1;have hf:=MK c.nk ([.var c.nl],vE,t') (by simp [bu,zy])
            have hh:∀x:List OV,nC fo (av (bj c (.own vE t')) l) k (U.kP c.nl x):=by
              have:=h
              simp only [av,bF,nC,hf]at this;exact this
            have hL:=hh ((aq aB β ce).attach.map λx=>⟨x.1,vY aB β ce x.1 x.2⟩)
            have oG:(((aq aB β ce).attach.map λx=>(⟨x.1,vY aB β ce x.1 x.2⟩:OV)).map (·.1))=aq aB β ce:=by
              rw [List.map_map];exact List.attach_map_subtype_val _
            have Cw:∀j x,aO (bu (bj c (.own vE t')) l) j=some x->aO fo j=some x:=λj x hj=>MK j x (by
              simp only [bu,zy]
              have:=(D8 l _ hj).1
              simp only [bj]at this;rw [if_neg (by omega)];exact hj)
            let ft:Nat->Nat:=λj=>if j=c.nk then β k0 else if j=c.nk+1 then β (k0+1)else if j=c.nk+2 then β (k0+2)else if j=c.nk+3 then β (k0+3)else qz j;obtain⟨ag,an,q1,q2,q3,q4,q5,q6,q7,q8,q9⟩:=FF fo oy aB β l (bj c (.own vE t')) ft r Cw hL h2;have oC:=tV c U ((aq aB β ce).attach.map λx=>⟨x.1,vY aB β ce x.1 x.2⟩);have r0:an c.nk=β k0:=by rw [q3 _ (by simp [bj])];exact if_pos rfl
            have r1:an (c.nk+1)=β (k0+1):=by
              rw [q3 _ (by simp [bj])];show (if c.nk+1=c.nk then _ else if c.nk+1=c.nk+1 then _ else _)=_;rw [if_neg (by omega),if_pos rfl]
            have r2:an (c.nk+2)=β (k0+2):=by
              rw [q3 _ (by simp [bj])];show (if c.nk+2=c.nk then _ else if c.nk+2=c.nk+1 then _ else if c.nk+2=c.nk+2 then _ else _)=_;rw [if_neg (by omega),if_neg (by omega),if_pos rfl]
            have r3:an (c.nk+3)=β (k0+3):=by
              rw [q3 _ (by simp [bj])];show (if c.nk+3=c.nk then _ else if c.nk+3=c.nk+1 then _ else if c.nk+3=c.nk+2 then _ else if c.nk+3=c.nk+3 then _ else _)=_;rw [if_neg (by omega),if_neg (by omega),if_neg (by omega),if_pos rfl]
            have rr:ag.l c.nl=((aq aB β ce).attach.map λx=>(⟨x.1,vY aB β ce x.1 x.2⟩:OV)):=by
              rw [q2.l c.nl (by simp [bj])];exact if_pos rfl
            have rk:∀vz,aq ag vz [.var c.nl]=aq aB β ce:=λvz=>by
              simp only [aq,Sg.den,List.append_nil,rr];exact oG
            refine⟨ag,an,q1,Env.aj (zq c (.own vE t')) oC q2,λj hj => ?_, ?_, ?_, ?_,λp hp => ?_,λj hj => ?_, ?_⟩
            · rw [q3 j (by simp only [bj];omega)];show (if j=c.nk then _ else if j=c.nk+1 then _ else if j=c.nk+2 then _ else if j=c.nk+3 then _ else qz j)=qz j;rw [if_neg (by omega),if_neg (by omega),if_neg (by omega),if_neg (by omega)]
            · simp only [av,bF,List.map_cons,q4,At.den,r0,r1,r2,r3]
            · simp only [av,bF,List.map_cons,q5,vl,hf,hg];rw [rk b0,B' aB β b0 mR]
            · simp only [av,bF,aR,List.length_cons,q6]
            · simp only [av,bF,aR,List.zip_cons_cons,List.mem_cons]at hp;rcases hp with rfl|hp
              · exact⟨⟨r0,r1,r2,r3⟩,c.nl,ce,vE,t',hf,hg,rk an⟩
              · exact q7 p hp
            · simp only [av,bF,aR,List.mem_cons]at hj;rcases hj with rfl|hj
              · exact Nat.le_refl _
              · have:=q8 j hj
                simp only [bj]at this;omega
            · simp only [av,bF,aR,List.nodup_cons];refine⟨λhm => ?_,q9⟩
              have:=q8 _ hm
              simp only [bj]at this;omega
          · cases h1
        · cases h1
theorem FH{i:Nat}:∀(bx:List Nat) (vs:List CV) (l:List At) (t:List (Nat × SV)),i ∉ bx->ay (dj t bx vs l) i=ay t i
  | [],vs,l,t,_=>by cases vs<;>rfl
  |s::r,[],l,t,_=>rfl
  |s::r,v::vs,l,t,h=>by
    simp only [List.mem_cons,not_or]at h;simp only [dj];rw [FH r vs _ _ h.2,zj,if_neg (λe=>h.1 e.symm)]
theorem I9(t:List (Nat × SV))(i:Nat):∀kill:List Nat,ay (eZ t kill) i=.any\/ay (eZ t kill) i=ay t i
  | []=>.inr rfl
  |s::r=>by
    simp only [eZ,zj];by_cases h:s=i
    · rw [if_pos h];exact .inl rfl
    · rw [if_neg h];exact I9 t i r
theorem T3{tS:List (Nat × SV)}{ag aB:Env}{an β:Nat->Nat}{i:Nat}:∀ (bx:List Nat) (vs ke:List CV) (l:List At) (t:List (Nat × SV)) (rest:List At),iM tS bx=some ke->ke.map CV.shape=vs.map CV.shape ->
    l.map (At.den ag an)=(ke.flatMap CV.cells++rest).map (At.den aB β)->i∈bx->∃u v',ay (dj t bx vs l) i=.cv u/\ay tS i=.cv v'/\u.den ag an=v'.den aB β
  | [],_,_,_,_,_,_,_,_,h=>by cases h
  |s::r,vs,ke,l,t,rest,hr,hs,hl,hi=>by
    simp only [iM]at hr;split at hr
    · rename_i v' vr h1 h2;simp only [Option.some.injEq]at hr;subst hr;cases vs with
      |nil=>simp at hs
      |cons v vs =>
        simp only [List.map_cons,List.cons.injEq]at hs;simp only [dj]
        have hlen:v'.cells.length=v.cells.length:=by
          have h3:=hs.1;cases v<;>cases v'<;>simp_all [CV.shape,CV.cells]
        have gj:(l.drop v.cells.length).map (At.den ag an)=(vr.flatMap CV.cells++rest).map (At.den aB β):=by
          rw [List.map_drop,hl,<-List.map_drop];congr 1;simp only [List.flatMap_cons,List.append_assoc];rw [<-hlen,List.drop_left]
        by_cases ru:i∈r
        · exact T3 r vs vr _ _ rest h2 hs.2 gj ru
        · have:i=s:=by simpa [ru]using hi
          subst this;refine⟨nA v l,v', ?_,h1, ?_⟩
          · rw [FH r vs _ _ ru,zj,if_pos rfl]
          · have qC:(l.take v.cells.length).map (At.den ag an)=v'.cells.map (At.den aB β):=by
              rw [List.map_take,hl,<-List.map_take];congr 1;simp only [List.flatMap_cons,List.append_assoc];rw [<-hlen,List.take_left]
            have h3:=hs.1;cases v with
            |one a=>cases v' with
              |agg x=>simp [CV.shape]at h3
              |one a' =>
                simp only [CV.cells,List.length_cons,List.length_nil,List.map_cons,List.map_nil]at qC;cases l with
                |nil=>simp at qC
                |cons b l=>simpa [nA,CV.den]using qC
            |agg x=>cases v' with
              |one a=>simp [CV.shape]at h3
              |agg y =>
                simp only [CV.cells]at qC;simp only [nA,CV.den,qC]
    · cases hr
theorem yw:∀ (free:List (Nat × Nat)) (m:Mem) (l:List At) {k:Nat} {lN:List At} {t:TypeId},getM (bY m free l) k=some (lN,t) ->
    ∃pS,getM m k=some (pS,t)/\pS.length=lN.length/\∀o,(k,o) ∉ free->pS[o]? = lN[o]?
  | [],m,l,k,lN,t,h=>⟨lN,by cases l<;>exact h,rfl,λ_ _=>rfl⟩
  | (j,p)::r,m,[],k,lN,t,h=>⟨lN,h,rfl,λ_ _=>rfl⟩
  | (j,p)::r,m,a::l,k,lN,t,h=>by
    simp only [bY]at h;split at h
    · rename_i cs ty hg;obtain⟨pS,h1,h2,h3⟩:=yw r _ l h;rw [uW]at h1;by_cases hj:j=k
      · subst hj;rw [if_pos rfl,hg]at h1;simp only [Option.map_some,Option.some.injEq,Prod.mk.injEq]at h1;obtain⟨rfl,rfl⟩:=h1;refine⟨cs,hg,by simpa using h2,λo ho => ?_⟩;simp only [List.mem_cons,Prod.mk.injEq,not_or]at ho;rw [<-h3 o ho.2,List.getElem?_set_ne (λe=>ho.1 (by simp [e]))]
      · rw [if_neg hj]at h1;exact⟨pS,h1,h2,λo ho=>h3 o (λhm=>ho (List.mem_cons_of_mem _ hm))⟩
    · obtain⟨pS,h1,h2,h3⟩:=yw r _ l h;exact⟨pS,h1,h2,λo ho=>h3 o (λhm=>ho (List.mem_cons_of_mem _ hm))⟩
theorem I_:∀(free:List (Nat × Nat)) (m:Mem) (l:List At) {k:Nat} {x:List At × TypeId},getM m k=some x->∃y,getM (bY m free l) k=some y
  | [],m,l,k,x,h=>⟨x,by cases l<;>exact h⟩
  | (j,p)::r,m,[],k,x,h=>⟨x,h⟩
  | (j,p)::r,m,a::l,k,x,h=>by
    simp only [bY];split
    · rename_i cs ty hg;by_cases hj:j=k
      · subst hj;exact I_ r _ l (x:=(cs.set p a,ty)) (by rw [uW,if_pos rfl,hg];rfl)
      · exact I_ r _ l (x:=x) (by rw [uW,if_neg hj];exact h)
    · exact I_ r _ l h
theorem I'{sM:Mem}{sO:bA}{ag aB:Env}{an β:Nat->Nat}:∀ (free:List (Nat × Nat)) (m:Mem) (l ms:List At) {k o:Nat} {lN:List At} {t:TypeId},ka sM sO free=some ms->(∀ k x,getM m k=some x->getM sM k≠none)->l.map (At.den ag an)=ms.map (At.den aB β) ->
    getM (bY m free l) k=some (lN,t)->(k,o)∈free->o<lN.length->∃f cs y ty,lN[o]? = some f/\getM sM k=some (cs,ty)/\cs[o]? = some y/\f.den ag an=y.den aB β
  | [],_,_,_,_,_,_,_,_,_,_,_,h,_=>by cases h
  | (j,p)::r,m,l,ms,k,o,lN,t,hr,tf,hl,hw,hi,ho=>by
    simp only [ka]at hr;split at hr
    · rename_i cs ty ml hg D9;split at hr
      · rename_i y hy;simp only [Option.some.injEq]at hr;subst hr;cases l with
        |nil=>simp at hl
        |cons a l =>
          simp only [List.map_cons,List.cons.injEq]at hl;simp only [bY]at hw;by_cases ru:(k,o)∈r
          · split at hw
            · exact I' r _ l ml D9 (fun k' x' AU=>by
                rw [uW]at AU;split at AU
                · rename_i he;subst he;rw [hg];simp
                · exact tf _ _ AU) hl.2 hw ru ho
            · exact I' r _ l ml D9 tf hl.2 hw ru ho
          · have hh:k=j/\o=p:=by simpa [ru]using hi
            obtain⟨rfl,rfl⟩:=hh;split at hw
            · rename_i jt ER fx;obtain⟨pS,h1,h2,h3⟩:=yw r _ l hw;rw [uW,if_pos rfl,fx]at h1;simp only [Option.map_some,Option.some.injEq,Prod.mk.injEq]at h1;obtain⟨rfl,rfl⟩:=h1;refine⟨a,cs,y,ty, ?_,hg,hy,hl.1⟩;rw [<-h3 o ru]
              have:o<jt.length:=by simpa using (h2▸ho:o<(jt.set o a).length)
              rw [List.getElem?_set_self this]
            · rename_i fx;obtain⟨pS,h1,_,_⟩:=yw r _ l hw;rw [fx]at h1;cases h1
      · cases hr
    · rename_i ml hg D9;split at hr;rotate_left
      · cases hr
      simp only [Option.some.injEq]at hr;subst hr;cases l with
      |nil=>simp at hl
      |cons a l =>
        simp only [List.map_cons,List.cons.injEq]at hl;simp only [bY]at hw
        have tY:getM m j=none:=by
          cases hq:getM m j with
          |none=>rfl
          |some x=>exact absurd hg (tf j x hq)
        rw [tY]at hw;simp only at hw;obtain⟨pS,h1,_,_⟩:=yw r _ l hw
        have ru:(k,o)∈r:=by
          rcases List.mem_cons.1 hi with he|he
          · cases he;rw [tY]at h1;cases h1
          · exact he
        exact I' r _ l ml D9 tf hl.2 hw ru ho
    · cases hr
theorem T4{k:Nat}{free:List (Nat × Nat)}:∀(x y:List At) (o:Nat),gD k free o x y=true->y.length=x.length/\∀j,(k,o+j) ∉ free->y[j]? = x[j]?
  | [],[],o,_=>⟨rfl,λ_ _=>rfl⟩
  | [],_::_,o,h=>by simp [gD]at h
  |_::_,[],o,h=>by simp [gD]at h
  |a::x,b::y,o,h=>by
    simp only [gD,Bool.and_eq_true,Bool.or_eq_true,List.contains_iff_mem,decide_eq_true_eq]at h;obtain⟨h1,h2⟩:=T4 x y (o+1) h.2;refine⟨by simp [h1],λj hj => ?_⟩;cases j with
    |zero =>
      rcases h.1 with h3|h3
      · exact (hj h3).elim
      · simp [h3]
    |succ j =>
      have:=h2 j (by rw [show o+1+j=o+(j+1) by omega];exact hj)
      simpa using this
theorem T5:∀{t:List (Nat × SV)} {i:Nat},ay t i ≠ .any->∃v,(i,v)∈t
  | [],_,h=>(h rfl).elim
  | (j,v)::r,i,h=>by
    rw [zj]at h;by_cases hj:j=i
    · exact⟨v,by simp [hj]⟩
    · rw [if_neg hj]at h;obtain⟨u,hu⟩:=T5 h;exact⟨u,List.mem_cons_of_mem _ hu⟩
theorem T6:∀{m:Mem} {k:Nat} {x:List At × TypeId},getM m k=some x->(k,x)∈m
  | [],_,_,h=>by cases h
  | (j,v)::r,k,x,h=>by
    rw [DY]at h;by_cases hj:j=k
    · rw [if_pos hj]at h;cases h;simp [hj]
    · rw [if_neg hj]at h;exact List.mem_cons_of_mem _ (T6 h)
theorem Ja:∀{m:bA} {k:Nat} {x:CE × Nat × TypeId},aO m k=some x->(k,x)∈m
  | [],_,_,h=>by cases h
  | (j,v)::r,k,x,h=>by
    rw [zy]at h;by_cases hj:j=k
    · rw [if_pos hj]at h;cases h;simp [hj]
    · rw [if_neg hj]at h;exact List.mem_cons_of_mem _ (Ja h)
theorem D_:∀(x y:bA) (k:Nat),aO (x++y) k=match aO x k with|some v=>some v|none=>aO y k
  | [],y,k=>rfl
  | (j,v)::r,y,k=>by
    simp only [List.cons_append,zy];by_cases hj:j=k
    · simp only [if_pos hj]
    · simp only [if_neg hj];exact D_ r y k
theorem Xp{a b:St}{bx:List Nat}{free:List (Nat × Nat)}{own:List Nat}(h:pM a b bx free own=true) :
  (b.n=a.n/\b.r=a.r/\b.d=a.d/\b.df=a.df)/\(∀i,i ∉ bx->ay a.t i=.any\/ay b.t i=ay a.t i) /\
  (∀k lN t,getM a.m k=some (lN,t)->∃cs,getM b.m k=some (cs,t)/\cs.length=lN.length/\∀o,(k,o) ∉ free->cs[o]? = lN[o]?) /\
  ∀k x,aO a.o k=some x->k ∉ own->aO b.o k=some x:=by
 simp only [pM,Bool.and_eq_true,decide_eq_true_eq,List.all_eq_true,Bool.or_eq_true,List.contains_iff_mem]at h;obtain⟨⟨⟨h0,h3⟩,h1⟩,h2⟩:=h;refine⟨h0,λi hi => ?_,λk lN t hg => ?_,λk x hg hk => ?_⟩
 ·by_cases ha:ay a.t i=.any
  ·exact .inl ha
  ·obtain⟨v,hv⟩:=T5 ha;rcases h1 _ hv with (h3|h3)|h3
   ·exact (hi h3).elim
   ·exact .inl h3
   ·exact .inr h3
 ·have:=h2 _ (T6 hg)
  simp only at this;split at this
  ·rename_i cs t' hb;simp only [Bool.and_eq_true,decide_eq_true_eq]at this;obtain⟨rfl,h3⟩:=this;obtain⟨q1,q2⟩:=T4 _ _ 0 h3;exact⟨cs,hb,q1,λo ho=>q2 o (by simpa using ho)⟩
  ·cases this
 ·rcases h3 _ (Ja hg)with h4|h4
  ·exact (hk h4).elim
  ·rw [h4];exact hg
theorem T7{st:St}(h:st.WF):∀(bx:List Nat) {vs:List CV},iM st.t bx=some vs->vs.all (CV.wf st.c)=true
  | [],vs,hr=>by simp only [iM,Option.some.injEq]at hr;subst hr;rfl
  |s::r,vs,hr=>by
    simp only [iM]at hr;split at hr
    · rename_i v l h1 h2;simp only [Option.some.injEq]at hr;subst hr
      have:=h.t s
      rw [h1]at this;simp only [List.all_cons,T7 h r h2,Bool.and_true];exact this
    · cases hr
theorem T8{c:ar}:∀(bx:List Nat) (vs:List CV) (l:List At) (t:List (Nat × SV)),(∀i,(ay t i).wf c=true)->vs.all (CV.wf c)=true->l.all (At.wf c)=true->∀i,(ay (dj t bx vs l) i).wf c=true
  | [],vs,l,t,h,_,_=>by cases vs<;>exact h
  |s::r,[],l,t,h,_,_=>h
  |s::r,v::vs,l,t,h,hv,hl=>by
    simp only [List.all_cons,Bool.and_eq_true]at hv;simp only [dj];refine T8 r vs _ _ (λi => ?_) hv.2 (zr hl _).2;rw [zj];by_cases hi:s=i
    · rw [if_pos hi];cases v with
      |one a =>
        simp only [nA,SV.wf,CV.wf];cases l with
        |nil=>exact hv.1
        |cons b l=>simp only [List.all_cons,Bool.and_eq_true]at hl;exact hl.1
      |agg x=>exact (zr hl _).1
    · rw [if_neg hi];exact h i
theorem ML{c:ar}:∀ (free:List (Nat × Nat)) (m:Mem) (l:List At),(∀ k cs t,getM m k=some (cs,t)->k < c.nk/\cs.all (At.wf c)=true)->l.all (At.wf c)=true ->
    ∀k cs t,getM (bY m free l) k=some (cs,t)->k<c.nk/\cs.all (At.wf c)=true
  | [],m,l,h,_=>by cases l<;>exact h
  | (j,p)::r,m,[],h,_=>h
  | (j,p)::r,m,a::l,h,hl=>by
    simp only [List.all_cons,Bool.and_eq_true]at hl;simp only [bY];split
    · rename_i cs ty hg;refine ML r _ l (λk jt t hk => ?_) hl.2;rw [uW]at hk;by_cases hj:j=k
      · subst hj;rw [if_pos rfl,hg]at hk;simp only [Option.map_some,Option.some.injEq,Prod.mk.injEq]at hk;obtain⟨rfl,rfl⟩:=hk;have h1:=h j cs ty hg;refine⟨h1.1,List.all_eq_true.2 λx hx => ?_⟩;rcases List.mem_or_eq_of_mem_set hx with hx|rfl
        · exact List.all_eq_true.1 h1.2 x hx
        · exact hl.1
      · rw [if_neg hj]at hk;exact h k jt t hk
    · exact ML r m l h hl.2
theorem MM{α β:Type}:∀(x:List α) (y:List β),x.length=y.length->∀a∈x,∃b,(a,b)∈x.zip y
  | [],_,_,a,h=>by cases h
  |a0::x,[],h,_,_=>by simp at h
  |a0::x,b0::y,h,a,ha=>by
    rcases List.mem_cons.1 ha with rfl|ha
    · exact⟨b0,by simp⟩
    · obtain⟨b,hb⟩:=MM x y (by simpa using h) a ha;exact⟨b,by simp [hb]⟩
theorem FI{α β:Type}:∀(x:List α) (y:List β),y.Nodup->∀{a a':α} {b:β},(a,b)∈x.zip y->(a',b)∈x.zip y->a=a'
  | [],_,_,_,_,_,h,_=>by simp at h
  |_::_,[],_,_,_,_,h,_=>by simp at h
  |a0::x,b0::y,hn,a,a',b,h,h'=>by
    simp only [List.nodup_cons]at hn;simp only [List.zip_cons_cons,List.mem_cons,Prod.mk.injEq]at h h';rcases h with ⟨rfl,rfl⟩|h
    · rcases h' with ⟨rfl,_⟩|h'
      · rfl
      · exact (hn.1 (List.of_mem_zip h').2).elim
    · rcases h' with ⟨rfl,rfl⟩|h'
      · exact (hn.1 (List.of_mem_zip h).2).elim
      · exact FI x y hn.2 h h'
theorem Jb(kf k:Nat)(i:Nat):∀t:List (Nat × SV),ay (rf kf k t) i=sV kf k (ay t i)
  | []=>rfl
  | (j,v)::r=>by
    simp only [rf,zj,Jb kf k i r];split<;>rfl
theorem zF{kf k:Nat}(dt:kf≠k)(i:Nat):∀o:bA,aO o k=none->aO (pL kf k o) i=if i=k then aO o kf else if i=kf then none else aO o i
  | [],_=>by simp [pL,aO]
  | (j,v)::r,h=>by
    rw [zy]at h;split at h
    · cases h
    · rename_i hj;simp only [pL,zy,zF dt i r h];generalize aO r i=a;generalize aO r kf=b;by_cases h1:j=kf
      · simp only [h1,if_true];by_cases h2:i=k
        · rw [if_pos h2.symm,if_pos h2]
        · rw [if_neg (λe=>h2 e.symm),if_neg h2,if_neg h2];by_cases h3:i=kf
          · rw [if_pos h3,if_pos h3]
          · rw [if_neg h3,if_neg h3,if_neg (λe=>h3 e.symm)]
      · simp only [h1,if_false];by_cases h4:j=i
        · rw [if_pos h4,if_neg (λe=>hj (h4.trans e)),if_neg (λe=>h1 (h4.trans e)),if_pos h4]
        · rw [if_neg h4,if_neg h4]
theorem MN{kf k:Nat}{U:Env}{β:Nat->Nat}(hb:β kf=β k/\β (kf+1)=β (k+1)/\β (kf+2)=β (k+2)/\β (kf+3)=β (k+3)):∀v:SV,(sV kf k v).den U β=v.den U β:=by
 intro v;unfold sV;split
 ·rename_i j;split
  ·rename_i h;subst h;simp only [SV.den,CV.den,At.den,hb.1,hb.2.1,hb.2.2.1,hb.2.2.2]
  ·rfl
 ·rfl
theorem MO{kf k:Nat}{v:SV}(h:sV kf k v ≠ .any):v ≠ .any:=by
 intro e;subst e;exact h rfl
theorem MP{U:Env}{β:Nat->Nat}{st:St}{a:Act}{w:World}{kf k:Nat}(hC:Core W R Z U β st a w)(dt:kf≠k)(hb:β kf=β k/\β (kf + 1)=β (k + 1)/\β (kf + 2)=β (k + 2)/\β (kf + 3)=β (k + 3))
    (hm:getM st.m k=none) (ho:aO st.o k=none) (hk:k+3<st.c.nk):Core W R Z U β {st with t:=rf kf k st.t,o:=pL kf k st.o} a w:=by
  have obj:∀{j e},aM st.m (pL kf k st.o) j=some e->∃j',aM st.m st.o j'=some e/\((j=k/\j'=kf)\/(j≠k/\j≠kf/\j'=j)\/(j'=j/\∃x,getM st.m j=some x))/\(Holds W U β j' e w->Holds W U β j e w)/\bM β j e=bM β j' e:=by
    intro j e hg;unfold aM at hg;cases Jc:getM st.m j with
    |some x =>
      rw [Jc]at hg;exact⟨j,by unfold aM;rw [Jc];exact hg,.inr (.inr ⟨rfl,x,rfl⟩),λh=>h,rfl⟩
    |none =>
      rw [Jc]at hg;simp only [zF dt j st.o ho]at hg;by_cases h1:j=k
      · subst h1;rw [if_pos rfl]at hg;cases hx:aO st.o kf with
        |none=>rw [hx]at hg;cases hg
        |some x =>
          rw [hx]at hg;simp only [Option.some.injEq]at hg;subst hg;refine⟨kf,lb (hC.wf.ap kf x hx) hx,.inl ⟨rfl,rfl⟩,λh => ?_,by simp only [bM,hb.1,hb.2.1]⟩;simp only [Holds]at h ⊢;rw [<-hb.1,<-hb.2.1,<-hb.2.2.1,<-hb.2.2.2];exact h
      · rw [if_neg h1]at hg;by_cases h2:j=kf
        · rw [if_pos h2]at hg;cases hg
        · rw [if_neg h2]at hg;cases hx:aO st.o j with
          |none=>rw [hx]at hg;cases hg
          |some x =>
            rw [hx]at hg;simp only [Option.some.injEq]at hg;subst hg;exact⟨j,lb Jc hx,.inr (.inl ⟨h1,h2,rfl⟩),λh=>h,rfl⟩
  have T9:∀{x},getM st.m kf=some x->aO st.o kf=none:=λ{x} h=>by
    cases hx:aO st.o kf with
    |none=>rfl
    |some y=>have:=hC.wf.ap kf y hx;rw [this]at h;cases h
  refine⟨hC.size,λi hn => ?_,hC.kE,hC.below,λj e hg => ?_,λj j' e e' b hx hy lh mb => ?_,hC.fX,hC.kt,hC.gQ,hC.dn,⟨λi => ?_,hC.wf.m,λj ce sz t hg => ?_,λj x hg => ?_,hC.wf.r,hC.wf.d,hC.wf.k,hC.wf.df⟩,hC.kn⟩
  · simp only [Jb]at hn ⊢;rw [hC.tmps i (MO hn),MN hb]
  · obtain⟨j',h1,_,h3,_⟩:=obj hg;exact h3 (hC.mem j' e h1)
  · obtain⟨i,h1,h2,_,h4⟩:=obj hx;obtain⟨i',g1,g2,_,g4⟩:=obj hy;rw [h4]at lh;rw [g4]at mb
    have:=hC.inj i i' e e' b h1 g1 lh mb
    subst this;rcases h2 with ⟨a1,a2⟩|⟨a1,a2,a3⟩|⟨a1,x,a2⟩<;>rcases g2 with ⟨b1,b2⟩|⟨b1,b2,b3⟩|⟨b1,y,IX⟩
    · exact a1.trans b1.symm
    · exact (b2 (b3.symm.trans a2)).elim
    · exfalso;have e1:j'=kf:=b1.symm.trans a2;subst e1;unfold aM at hx;subst a1;rw [hm]at hx;simp only [zF dt j st.o ho,if_true]at hx;rw [T9 IX]at hx;cases hx
    · exact (a2 (a3.symm.trans b2)).elim
    · exact a3.symm.trans b3
    · exact a3.symm.trans b1
    · exfalso;have e1:j=kf:=a1.symm.trans b2;subst e1;unfold aM at hy;subst b1;rw [hm]at hy;simp only [zF dt j' st.o ho,if_true]at hy;rw [T9 a2]at hy;cases hy
    · exact a1.symm.trans b3
    · exact a1.symm.trans b1
  · simp only [Jb];have h1:=hC.wf.t i;unfold sV;split
    · rename_i j hj;split
      · show (decide (k+3<st.c.nk))=true;simpa using hk
      · rw [hj]at h1;exact h1
    · exact h1
  · simp only [zF dt j st.o ho]at hg;split at hg
    · rename_i h1;subst h1;exact⟨hk,(hC.wf.o kf ce sz t hg).2⟩
    · split at hg
      · cases hg
      · exact hC.wf.o j ce sz t hg
  · simp only [zF dt j st.o ho]at hg;split at hg
    · rename_i h1;subst h1;exact hm
    · split at hg
      · cases hg
      · exact hC.wf.ap j x hg
theorem T_:∀(i9:List (Nat × Nat)) (st:St),(jq i9 st).m=st.m/\(jq i9 st).c=st.c/\(jq i9 st).n=st.n/\(jq i9 st).r=st.r/\(jq i9 st).d=st.d/\(jq i9 st).k=st.k/\(jq i9 st).df=st.df
 | [],st=>⟨rfl,rfl,rfl,rfl,rfl,rfl,rfl⟩
 | (kf,k)::r,st=>T_ r _
theorem T'{U:Env}{β:Nat->Nat}{a:Act}{w:World}:∀ (i9:List (Nat × Nat)) {st:St},Core W R Z U β st a w ->
    (∀p∈i9,p.1≠p.2/\(β p.1=β p.2/\β (p.1+1)=β (p.2+1)/\β (p.1+2)=β (p.2+2)/\β (p.1+3)=β (p.2+3))/\getM st.m p.2=none/\aO st.o p.2=none/\p.2+3<st.c.nk)->(i9.map (·.2)).Nodup->Core W R Z U β (jq i9 st) a w
  | [],st,hC,_,_=>hC
  | (kf,k)::r,st,hC,h,hn=>by
    obtain⟨h1,h2,h3,h4,h5⟩:=h (kf,k) (List.mem_cons_self ..);simp only [List.map_cons,List.nodup_cons]at hn;refine T' r (MP hC h1 h2 h3 h4 h5) (λp hp => ?_) hn.2;obtain⟨g1,g2,g3,g4,g5⟩:=h p (List.mem_cons_of_mem _ hp);refine⟨g1,g2,g3, ?_,g5⟩;simp only [zF h1 p.2 st.o h4];rw [if_neg λe=>hn.1 (List.mem_map.2 ⟨p,hp,e⟩)];split
    · rfl
    · exact g4
theorem Ua{i:Nat}:∀(i9:List (Nat × Nat)) (st:St),(∀p∈i9,ay st.t i ≠ .cv (.one (.own p.1)))->ay (jq i9 st).t i=ay st.t i
  | [],st,_=>rfl
  | (kf,k)::r,st,h=>by
    have e:ay (rf kf k st.t) i=ay st.t i:=by
      rw [Jb];have h1:=h (kf,k) (List.mem_cons_self ..);unfold sV;split
      · rename_i j hj;rw [hj]at h1;rw [if_neg (λe=>h1 (by rw [e]))];exact hj.symm
      · rfl
    show ay (jq r _).t i=_;rw [Ua r _ (λp hp=>by rw [show ay ({st with t:=rf kf k st.t,o:=pL kf k st.o}:St).t i=ay (rf kf k st.t) i from rfl,e];exact h p (List.mem_cons_of_mem _ hp))];exact e
theorem Ub{j:Nat}:∀(i9:List (Nat × Nat)) (st:St),(∀p∈i9,p.1≠p.2/\aO st.o p.2=none/\j≠p.1/\j≠p.2)->(i9.map (·.2)).Nodup->aO (jq i9 st).o j=aO st.o j
  | [],st,_,_=>rfl
  | (kf,k)::r,st,h,hn=>by
    obtain⟨h1,h2,h3,h4⟩:=h (kf,k) (List.mem_cons_self ..);simp only [List.map_cons,List.nodup_cons]at hn;have e:∀i,i≠k->i≠kf->aO (pL kf k st.o) i=aO st.o i:=λi a b=>by rw [zF h1 i st.o h2,if_neg a,if_neg b]
    show aO (jq r _).o j=_;rw [Ub r _ (λp hp => ?_) hn.2]
    · exact e j h4 h3
    · obtain⟨g1,g2,g3,g4⟩:=h p (List.mem_cons_of_mem _ hp);refine⟨g1, ?_,g3,g4⟩;simp only [zF h1 p.2 st.o h2];rw [if_neg λe=>hn.1 (List.mem_map.2 ⟨p,hp,e⟩)];split
      · rfl
      · exact g2
theorem FJ{st s:St}{U aB ag:Env}{β an:Nat->Nat}{a:Act}{w:World}{bx kill:List Nat}{free:List (Nat × Nat)}{vs ke:List CV}{mB:List At}{ks:List CK}{tg:List Nat}(ja:st.WF)(ve:cr.den st.k U)(hC:Core W R Z aB β s a w)(gj:Env.aC st.c U aB)(rV:Env.aC st.c U ag)
    (Cx:∀j,j<st.c.nk->an j=β j)
    (FK:iM st.t bx=some vs) (hr:iM s.t bx=some ke) (gW:ke.map CV.shape=vs.map CV.shape) (Xq:ka s.m s.o free=some mB)
    (mE:(av st.c ks).map (At.den ag an)=(ke.flatMap CV.cells++mB).map (At.den aB β)) (hn:s.n=st.n/\s.r=st.r/\s.d=st.d/\s.df=st.df)
    (hs:∀i,i ∉ bx->ay (dj (eZ st.t kill) bx vs (av st.c ks)) i=.any\/ay s.t i=ay (dj (eZ st.t kill) bx vs (av st.c ks)) i)
    (hm:∀k lN t,getM (bY st.m free ((av st.c ks).drop (vs.flatMap CV.cells).length)) k=some (lN,t)->∃cs,getM s.m k=some (cs,t)/\cs.length=lN.length/\∀o,(k,o) ∉ free->cs[o]? = lN[o]?)
    (hlen:(aR (av st.c ks)).length=(aR (ke.flatMap CV.cells++mB)).length)
    (w_:∀p∈(aR (av st.c ks)).zip (aR (ke.flatMap CV.cells++mB)),w9 (bu st.c ks) s.o ag aB an β p.1 p.2) (yv:(aR (ke.flatMap CV.cells++mB)).Nodup)
    (MQ:∀k x,aO (bZ st.o tg) k=some x->aO s.o k=some x) (FL:∀k∈aR (ke.flatMap CV.cells++mB),aO (bZ st.o tg) k=none) :
    Core W R Z ag an {t:=dj (eZ st.t kill) bx vs (av st.c ks),n:=st.n,m:=bY st.m free ((av st.c ks).drop (vs.flatMap CV.cells).length),c:=aY st.c ks,o:=bu st.c ks++bZ st.o tg,r:=st.r,d:=st.d,k:=st.k,df:=st.df} a w:=by
  have hle:=yi ks st.c
  have wQ:∀i,(ay (eZ st.t kill) i).wf st.c=true:=λi=>by
    rcases I9 st.t i kill with h|h<;>rw [h]
    · rfl
    · exact ja.t i
  have iW:∀j,j<st.c.nk->an j=β j:=Cx;have MR:∀{x:SV},x.wf st.c=true->x.den ag an=x.den aB β:=λhx=>(SV.aa rV iW hx).trans (SV.aa gj (λ_ _=>rfl) hx).symm;have MS:∀{x:At},x.wf st.c=true->x.den ag an=x.den aB β:=λhx=>(At.aa rV iW hx).trans (At.aa gj (λ_ _=>rfl) hx).symm
  have FM:(ke.flatMap CV.cells).length=(vs.flatMap CV.cells).length:=by
    have:∀(x y:List CV),x.map CV.shape=y.map CV.shape->(x.flatMap CV.cells).length=(y.flatMap CV.cells).length:=by
      intro x
      induction x with
      |nil=>intro y h;cases y with
        |nil=>rfl
        |cons b y=>simp at h
      |cons c x ih=>intro y h;cases y with
        |nil=>simp at h
        |cons b y =>
          simp only [List.map_cons,List.cons.injEq]at h;simp only [List.flatMap_cons,List.length_append,ih y h.2]
          have:c.cells.length=b.cells.length:=by
            have h3:=h.1;cases c<;>cases b<;>simp_all [CV.shape,CV.cells]
          rw [this]
    exact this _ _ gW
  have FN:((av st.c ks).drop (vs.flatMap CV.cells).length).map (At.den ag an)=mB.map (At.den aB β):=by
    rw [List.map_drop,mE,<-List.map_drop,<-FM,List.drop_left]
  have ti:∀{k x},aO (bZ st.o tg) k=some x->k+3<st.c.nk/\cw st.c x.1=true/\getM st.m k=none:=λ{k x} hg=>by
    rw [yr]at hg;split at hg
    · cases hg
    · exact⟨(ja.o k x.1 x.2.1 x.2.2 hg).1,(ja.o k x.1 x.2.1 x.2.2 hg).2,ja.ap k x hg⟩
  have Xr:∀k cs t,getM (bY st.m free ((av st.c ks).drop (vs.flatMap CV.cells).length)) k=some (cs,t)->k<(aY st.c ks).nk/\cs.all (At.wf (aY st.c ks))=true:=by
    refine ML free st.m _ (λk cs t hk => ?_) (zr (B8 ks st.c) _).2
    have:=ja.m k cs t hk
    exact⟨Nat.lt_of_lt_of_le this.1 hle.k,BS hle this.2⟩
  have mlt:∀{k cs t},getM (bY st.m free ((av st.c ks).drop (vs.flatMap CV.cells).length)) k=some (cs,t)->k<st.c.nk:=λ{k cs t} hg=>by
    obtain⟨pS,h1,_,_⟩:=yw free st.m _ hg;exact (ja.m k pS t h1).1
  have xd:∀{k},getM st.m k=none->getM (bY st.m free ((av st.c ks).drop (vs.flatMap CV.cells).length)) k=none:=λ{k} hk=>by
    cases hg:getM (bY st.m free ((av st.c ks).drop (vs.flatMap CV.cells).length)) k with
    |none=>rfl
    |some x =>
      obtain⟨pS,h1,_,_⟩:=yw free st.m _ (show _=some (x.1,x.2) from hg);rw [hk]at h1;cases h1
  have MT:∀{k},st.c.nk<=k->getM (bY st.m free ((av st.c ks).drop (vs.flatMap CV.cells).length)) k=none:=λ{k} hk=>by
    cases hg:getM (bY st.m free ((av st.c ks).drop (vs.flatMap CV.cells).length)) k with
    |none=>rfl
    |some x=>have:=mlt (show _=some (x.1,x.2) from hg);omega
  have obj:∀ k e,aM (bY st.m free ((av st.c ks).drop (vs.flatMap CV.cells).length)) (bu st.c ks++bZ st.o tg) k=some e ->
      ∃j e0,aM s.m s.o j=some e0/\Holds W ag an k e w/\bM an k e=bM β j e0 /\
        ((j=k/\k<st.c.nk/\((∃cs t,getM s.m k=some (cs,t))\/∃x,aO (bZ st.o tg) k=some x))\/(st.c.nk<=k/\(k,j)∈(aR (av st.c ks)).zip (aR (ke.flatMap CV.cells++mB)))):=by
    intro k e hg;unfold aM at hg;cases tY:getM (bY st.m free ((av st.c ks).drop (vs.flatMap CV.cells).length)) k with
    |some x =>
      obtain⟨lN,t⟩:=x;rw [tY]at hg;simp only [Option.some.injEq]at hg;subst hg;obtain⟨cs,q1,q2,q3⟩:=hm k lN t tY;have hk:=mlt tY;obtain⟨m1,m2⟩:=hC.fix q1;refine⟨k,.fix cs t,o5 q1,⟨by rw [iW k hk];exact m1, ?_⟩,by simp only [bM,iW k hk],.inl ⟨rfl,hk,.inl ⟨cs,t,q1⟩⟩⟩;rw [iW k hk,m2];congr 3;apply List.ext_getElem?;intro o;simp only [List.getElem?_map];by_cases ho:o<lN.length
      · by_cases hf:(k,o)∈free
        · obtain⟨f,jt,y,ty,r1,r2,r3,r4⟩:=I' (ag:=ag) (aB:=aB) (an:=an) (β:=β) free st.m _ mB Xq (fun k x hx=>by
            obtain⟨y,hy⟩:=I_ free st.m ((av st.c ks).drop (vs.flatMap CV.cells).length) hx;obtain⟨cs,pP,_⟩:=hm k y.1 y.2 hy;rw [pP];simp) FN tY hf ho
          rw [q1]at r2;simp only [Option.some.injEq,Prod.mk.injEq]at r2;obtain⟨rfl,rfl⟩:=r2;rw [r1,r3,Option.map_some,Option.map_some,r4]
        · rw [q3 o hf];obtain⟨pS,p1,p2,p3⟩:=yw free st.m _ tY;cases hx:lN[o]? with
          |none=>rfl
          |some x =>
            have MU:pS[o]? = some x:=by rw [p3 o hf,hx]
            simp only [Option.map_some];exact congrArg some (MS (List.all_eq_true.1 (ja.m k pS t p1).2 x (List.mem_of_getElem? MU))).symm
      · rw [List.getElem?_eq_none (by omega),List.getElem?_eq_none (by omega)];rfl
    |none =>
      rw [tY]at hg;simp only [D_]at hg;cases vc:aO (bu st.c ks) k with
      |some x =>
        rw [vc]at hg;simp only [Option.some.injEq]at hg;obtain⟨h1,h2,h3,n0,h4,h5⟩:=D8 ks st.c vc;obtain⟨j,hj⟩:=MM _ _ hlen k h3;obtain⟨⟨e0,e1,e2,e3⟩,n,ce,sz,t,p1,p2,p3⟩:=w_ (k,j) hj;simp only at e0 e1 e2 e3 p1 p2;rw [vc]at p1;simp only [Option.some.injEq]at p1;subst p1;subst hg;have hE:=lb (hC.wf.ap j _ p2) p2;have hH:=hC.mem j _ hE;refine⟨j,_,hE, ?_,by simp only [bM,e0,e1],.inr ⟨h1,hj⟩⟩;simp only [Holds]at hH ⊢;rw [e0,e1,e2,e3,p3];exact hH
      |none =>
        rw [vc]at hg;simp only at hg;cases zG:aO (bZ st.o tg) k with
        |none=>rw [zG]at hg;cases hg
        |some x =>
          rw [zG]at hg;simp only [Option.some.injEq]at hg;subst hg;obtain⟨h1,h2,h3⟩:=ti zG;have h4:=MQ k x zG;have hE:=lb (hC.wf.ap k _ h4) h4;have hH:=hC.mem k _ hE;refine⟨k,_,hE, ?_, ?_,.inl ⟨rfl,by omega,.inr ⟨x,rfl⟩⟩⟩
          · simp only [Holds]at hH ⊢;rw [iW k (by omega),iW (k+1) (by omega),iW (k+2) (by omega),iW (k+3) (by omega),(vC rV iW h2).trans (vC gj (β:=β) (λ_ _=>rfl) h2).symm];exact hH
          · simp only [bM,iW k (by omega:k<st.c.nk),iW (k+1) (by omega)]
  have xe:st.d.map an=st.d.map β:=List.map_congr_left λk hk=>iW k (ja.d k hk);refine⟨by rw [hC.size];exact hn.1,λi wR => ?_, ?_,hC.below,λk e hg => ?_,λk k' e e' b hx hy lh mb => ?_,λk e hg => ?_,λk k' e e' hx hy he => ?_, ?_, ?_,⟨?_,Xr,λk ce sz t hg => ?_,λk x hg => ?_, ?_, ?_,cr.aU hle ja.k,λx hx y hy=>Nat.lt_of_lt_of_le (ja.df x hx y hy) hle.k⟩,cr.aa rV ja.k ve⟩
  · by_cases hi:i∈bx
    · obtain⟨u,v',h1,h2,h3⟩:=T3 (ag:=ag) (aB:=aB) (an:=an) (β:=β) bx vs ke (av st.c ks) (eZ st.t kill) mB hr gW mE hi
      have:=hC.tmps i (by rw [h2];simp)
      rw [this];simp only;rw [h1,h2];exact congrArg some h3.symm
    · rcases hs i hi with h|h
      · exact (wR h).elim
      · have:=hC.tmps i (by rw [h];exact wR)
        rw [this,h];refine congrArg some (MR ?_).symm;rw [FH _ _ _ _ hi];exact wQ i
  · rw [hC.kE,hn.2.2.1,hn.2.2.2,IU ja.df iW];simp only [marksOf];exact congrArg _ (List.map_congr_left λk hk=>by rw [iW k (ja.d k hk)])
  · obtain⟨j,e0,_,h2,_⟩:=obj k e hg;exact h2
  · obtain⟨j,e0,q1,q2,q3,q4⟩:=obj k e hx;obtain⟨j',Xs,p1,p2,p3,p4⟩:=obj k' e' hy;rw [q3]at lh;rw [p3]at mb
    have hj:j=j':=hC.inj j j' e0 Xs b q1 p1 lh mb
    subst hj;rcases q4 with ⟨r1,r2,r3⟩|⟨r1,r2⟩<;>rcases p4 with ⟨t1,t2,t3⟩|⟨t1,t2⟩
    · exact r1.symm.trans t1
    · exfalso;have gK:=(List.of_mem_zip t2).2;rcases r3 with ⟨cs,t,r3⟩|⟨x,r3⟩
      · obtain⟨_,n,ce,sz,t,u1,u2,u3⟩:=w_ _ t2;simp only at u2
        have:=hC.wf.ap j _ u2
        rw [r1]at this;rw [this]at r3;cases r3
      · have:=FL j gK
        rw [r1,r3]at this;cases this
    · exfalso;have gK:=(List.of_mem_zip r2).2;rcases t3 with ⟨cs,t,t3⟩|⟨x,t3⟩
      · obtain⟨_,n,ce,sz,t,u1,u2,u3⟩:=w_ _ r2;simp only at u2
        have:=hC.wf.ap j _ u2
        rw [t1]at this;rw [this]at t3;cases t3
      · have:=FL j gK
        rw [t1,t3]at this;cases this
    · exact FI _ _ yv r2 t2
  · rw [iW k (ja.r k e hg)];exact hC.fX k e (by rw [hn.2.1];exact hg)
  · rw [iW k (ja.r k e hx),iW k' (ja.r k' e' hy)]at he;exact hC.kt k k' e e' (by rw [hn.2.1];exact hx) (by rw [hn.2.1];exact hy) he
  · have:=hC.gQ
    rw [hn.2.2.1]at this;rw [xe];exact this
  · have:=hC.dn
    rw [hn.2.2.1]at this;rw [xe];exact this
  · exact T8 bx vs _ _ (λi=>SV.aU hle (wQ i)) (List.all_eq_true.2 λx hx=>CV.aU hle (List.all_eq_true.1 (T7 ja bx FK) x hx)) (B8 ks st.c)
  · simp only [D_]at hg;cases vc:aO (bu st.c ks) k with
    |some x =>
      rw [vc]at hg;simp only [Option.some.injEq]at hg;obtain⟨h1,h2,h3,n0,h4,h5⟩:=D8 ks st.c vc;subst hg;simp only at h4;subst h4;exact⟨h2,by simp [cw,Sg.wf,h5]⟩
    |none =>
      rw [vc]at hg;obtain⟨h1,h2,h3⟩:=ti hg;exact⟨Nat.lt_of_lt_of_le h1 hle.k,BV hle h2⟩
  · simp only [D_]at hg;cases vc:aO (bu st.c ks) k with
    |some y=>exact MT (D8 ks st.c vc).1
    |none =>
      rw [vc]at hg;exact xd (ti hg).2.2
  · exact λk e hg=>Nat.lt_of_lt_of_le (ja.r k e hg) hle.k
  · exact λk hk=>Nat.lt_of_lt_of_le (ja.d k hk) hle.k
end Vc
