import Derived.Test.YtpfgephckjpcjaaGreatDoorVcY
import Derived.CallsIn
import Derived.TacticsIn
import Derived.RecoverIn
import Derived.RangeFuncLeaves
import Derived.RangeFuncNested
set_option linter.unusedVariables false
set_option linter.unusedSimpArgs false
namespace Vc
open Go Go.RowKit
variable {P:Program} {W:e_} {Q:Value->Prop} {QM QP:World->Value->Prop} {R:Nat->Loop} {Z:List Nat}
def Fr(r:Option Nat):Fence := {Fence.wide with round:=r}
theorem uD(r:Option Nat)(f:FuncId):(Fr r).fn f:=trivial
theorem Ef{r:Option Nat}{n:Nat}:(Fr r).depth.isSome=true->1<=n:=λh=>by cases h
theorem Jw{r:Option Nat}{n:Nat}{f:FuncId}{args:Array Value}{w:World}{T:Ending->World->Prop}:CallsIn (Fr r) n P f args w T↔Calls P f args w T:=callsIn_wide (n:=n)
theorem Jx{r:Option Nat}{n:Nat}{row:String}{args:Array Value}{w:World}{T:Value->World->Prop}(h:Rows P row args w T):RowsIn (Fr r) n P row args w T:=by
 intro c cs _;obtain⟨v,w',h1,h2⟩:=h c cs;exact⟨v,w',h1,(StepsIn.of_steps h2).mono λm _=>fenced_wide P m⟩
theorem wB{o:Oper}{a:Act}{w:World}{next:Act->World->Prop}{Q':Exit->Act->World->Prop}(r:Option Nat)(n:Nat)(hd:∀c,o.op ≠ .defer c)(h:o.wp P a w next Q'):o.wpIn (Fr r) n P a w next Q':=by
  refine⟨λf _=>uD r f, ?_⟩;rw [Oper.semAt_eq _ _ _ hd];unfold Oper.wp at h;generalize (execOp a.eval o).run P w=x at h ⊢;cases x with
  |ok nx w' =>
    cases nx<;>simp only [Oper.upon]at h<;>first
      |exact h
      |exact⟨Ef,Jw.2 h⟩
      |exact⟨Ef,Jx h⟩
      |exact h.elim
  |halt x w'=>cases x<;>simp only [Oper.upon]at h<;>first|exact h|exact h.elim
def va(W:e_)(R:Nat->Loop)(Z:List Nat)(st:St)(ρ:Env)(β:Nat->Nat)(K:St->Env->Prop)(next:Act->World->Prop):Prop :=
 ∀iD ah an a' w',K iD ah->st.c.le iD.c->Env.aE st.c ρ ah->(∀k,k<st.c.nk->an k=β k)->Core W R Z ah an iD a' w'->next a' w'
theorem va.oK{st iD:St}{ρ ah:Env}{β an:Nat->Nat}{K:St->Env->Prop}{next:Act->World->Prop}(h:va W R Z st ρ β K next)(hc:st.c.le iD.c)(hl:Env.aE st.c ρ ah)(hb:∀k,k<st.c.nk->an k=β k):va W R Z iD ah an K next :=
 λs aB bc a w hk h1 h2 h3 hC=>h s aB bc a w hk (aw.le_trans hc h1) (Env.aj hc hl h2) (λk hk=>(h3 k (Nat.lt_of_lt_of_le hk hc.k)).trans (hb k hk)) hC
theorem GP{st:St}{o:Oper}{K:St->Env->Prop}{ρ:Env}(h:re P W st o K ρ){β:Nat->Nat}{a:Act}{w:World}(hC:Core W R Z ρ β st a w){next:Act->World->Prop}(hn:va W R Z st ρ β K next)(Q':Exit->Act->World->Prop):o.wp P a w next Q':=by
 obtain⟨s',ah,sv,C,h1,h2,h3,h4⟩:=h;exact Tn (hC.aE h3) (h4 ah (Env.aq _ _)) Q' λan a' w' hb fb=>hn s' ah an a' w' h1 h2 h3 hb fb
theorem Bz{st st0:St}{dst:Option Tmp}{v:SV}{c:aw}{K:St->Env->Prop}{ρ dL:Env}{next:Act->World->Prop}(h:St.put (PA P W Q QM QP) st dst v c K ρ){β:Nat->Nat}{a:Act}{w:World}{val:Value}
  (hC:Core W R Z ρ β st a w) (TU:st.c.le c) {bE:Nat->Nat} (h0:st0.c.le c) (hl:Env.aE st0.c dL ρ) (jq:∀k,k<st0.c.nk->β k=bE k) (hv:v ≠ .any->val=v.den ρ β) (hn:va W R Z st0 dL bE K next):next (a.put dst val) w:=by
 obtain⟨h1,h2⟩:=zi h;obtain⟨q1,q2,q3,q4,q5,q6⟩:=lg st dst v c;refine hn _ ρ β _ w h1 (by rw [q1];exact h0) hl jq ⟨by rw [IW,hC.size,q3],λi hi => ?_,by rw [IX,hC.kQ,q6,(zm _ _ _ _).2],hC.below,by rw [q2,q4];exact hC.mem,by rw [q2,q4];exact hC.inj,by rw [q5];exact hC.gz,by rw [q5];exact hC.kF,by rw [q6];exact hC.ia,by rw [q6];exact hC.dn,DZ hC.wf TU h2,by rw [(zm _ _ _ _).1];exact hC.kn⟩;rw [zn]at hi ⊢;by_cases hd:dst=some i
 ·rw [if_pos hd]at hi ⊢;rw [hd,fC i (by rw [hC.size];exact (h2 i hd).1),if_pos rfl,hv hi]
 ·rw [if_neg hd]at hi ⊢
  have h3:(a.put dst val).tmps[i]? = a.tmps[i]? := by
   cases DY:dst with
   |none=>rfl
   |some d=>rw [fC i (by rw [hC.size];exact (h2 d DY).1),if_neg (λe=>hd (by rw [DY,e]))]
  rw [h3];exact hC.tmps i hi
theorem Core.dP{ρ:Env}{β:Nat->Nat}{st:St}{a:Act}{w:World}{d:Nat}{e:BE}{b:Bool}(h:Core W R Z ρ β st a w)(hg:ay st.t d=.cv (.one (.bool e)))(hb:e.den ρ=b):Core W R Z ρ β (st.dP d b) a w where
 size:=h.size
 tmps i hn:=by
  simp only [St.dP,zl]at hn ⊢;by_cases hi:d=i
  ·rw [if_pos hi,<-hi,h.tmps d (by rw [hg];simp),hg];simp only [SV.den,CV.den,At.den,BE.den,hb]
  ·rw [if_neg hi]at hn ⊢;exact h.tmps i hn
 kQ:=h.kQ
 below:=h.below
 mem:=h.mem
 inj:=h.inj
 gz:=h.gz
 kF:=h.kF
 ia:=h.ia
 dn:=h.dn
 kn:=h.kn
 wf:=⟨λi=>by
  simp only [St.dP,zl];by_cases hi:d=i
  ·rw [if_pos hi];rfl
  ·rw [if_neg hi];exact h.wf.t i,h.wf.m,h.wf.o,h.wf.ap,h.wf.r,h.wf.d,h.wf.k,h.wf.df⟩
theorem Jy{ops:Array Oper}{tmps:Array Value}{j d:Nat}{b:Bool}(hd:(ops[j]?).bind (·.dst)=some d)(ht:tmps[d]? = some (.bool b)):yielded ops tmps j=some b:=by
 simp [yielded,hd,ht]
theorem Jz{ops:Array Oper}{tmps:Array Value}{j d:Nat}(hd:(ops[j]?).bind (·.dst)=some d)(ht:tmps[d]? = some undef):yielded ops tmps j=none:=by
 simp [yielded,hd,ht,undef]
def sH(P:Program)(W:e_)(R:Nat->Loop)(Z:List Nat)(r:Option Nat)(n:Nat)(c0:aw)(dL:Env)(bE:Nat->Nat)(Q':Exit->Act->World->Prop)(step:St->Oper->(St->Env->Prop)->Env->Prop):Prop :=
 ∀st o K ρ,step st o K ρ->c0.le st.c->Env.aE c0 dL ρ->∀β a w,(∀k,k<c0.nk->β k=bE k)->Core W R Z ρ β st a w->∀(next:Act->World->Prop),va W R Z st ρ β K next->o.wpIn (Fr r) n P a w next Q'
theorem JA{r:Option Nat}{n:Nat}{c0:aw}{dL:Env}{bE:Nat->Nat}{step:St->Oper->(St->Env->Prop)->Env->Prop}{Q':Exit->Act->World->Prop}(hs:sH P W R Z r n c0 dL bE Q' step){ops:Array Oper}{K:St->Env->Prop} :
    ∀(l:List Oper) (st:St) (ρ:Env),lI (PA P W Q QM QP) step ops l st K ρ->c0.le st.c->Env.aE c0 dL ρ->∀β a w,(∀k,k<c0.nk->β k=bE k)->Core W R Z ρ β st a w ->
      ∀(next:Act->World->Prop),(∀a w,next a w->Q' .normal a w)->va W R Z st ρ β K next->wpListIn (Fr r) n P ops Q' l a w
  | [],st,ρ,h,_,_,β,a,w,_,hC,next,hq,hn=>hq _ _ (hn st ρ β a w h (aw.le_refl _) (Env.aq _ _) (λ_ _=>rfl) hC)
  |o::l,st,ρ,h,jJ,ja,β,a,w,iE,hC,next,hq,hn=>by
    have IH:∀iD:St,iD.c=st.c->va W R Z iD ρ β (λs=>lI (PA P W Q QM QP) step ops l s K) (wpListIn (Fr r) n P ops Q' l):=by
      intro iD he s aB bc a2 w2 hk h1 h2 h3 dX;rw [he]at h1 h2 h3;exact JA hs l s aB hk (aw.le_trans jJ h1) (Env.aj jJ ja h2) bc a2 w2 (λk hk=>(h3 k (Nat.lt_of_lt_of_le hk jJ.k)).trans (iE k hk)) dX next hq (hn.oK h1 h2 h3)
    have JB:∀f,o.about P w a.eval=some f->(Fr r).fn f:=λf _=>uD r f;simp only [wpListIn];unfold lI at h;cases rI:o.guard with
    |none =>
      simp only [rI]at h;rw [if_pos (by simp [Region.wanted,rI])];exact hs st o _ ρ h jJ ja β a w iE hC _ (IH st rfl)
    |some jw =>
      obtain⟨j,want⟩:=jw;simp only [rI]at h;unfold zR at h;generalize hd:(ops[j]?).bind (·.dst)=u at h;cases u with
      |none=>exact h.elim
      |some d =>
        simp only at h;split at h
        · rename_i eD;generalize hg:ay st.t d=sv at h;split at h
          · rename_i e
            have ht:a.tmps[d]? = some (.bool (e.den ρ)):=by
              have:=hC.tmps d (by rw [hg];simp)
              rw [hg]at this;exact this
            have hy:=Jy (b:=e.den ρ) hd ht
            have put:∀(b:Bool),e.den ρ=b->(St.put (PA P W Q QM QP) (st.dP d b) o.dst .eH st.c λs=>lI (PA P W Q QM QP) step ops l s K) ρ->wpListIn (Fr r) n P ops Q' l (a.put o.dst undef) w:=λb hb hp =>
              Bz (st:=st.dP d b) (st0:=st) (dL:=ρ) hp (hC.dP hg hb) (aw.le_refl _) (aw.le_refl _) (Env.aq _ _) (λ_ _=>rfl) (λ_=>rfl) (IH st rfl)
            have go:∀(b:Bool),e.den ρ=b->step (st.dP d b) o (λs=>lI (PA P W Q QM QP) step ops l s K) ρ->o.wpIn (Fr r) n P a w (wpListIn (Fr r) n P ops Q' l) Q':=λb hb hp =>
              hs (st.dP d b) o _ ρ hp jJ ja β a w iE (hC.dP hg hb) _ (IH (st.dP d b) rfl)
            rcases zw h with ⟨hb,h⟩|⟨hb,h⟩
            · cases want with
              |true =>
                simp only [if_true,St.norm_eq]at h;rw [if_pos (by simp [Region.wanted,rI,hy,hb])];exact go true hb h
              |false =>
                simp only [Bool.false_eq_true,if_false,St.norm_eq]at h;rw [if_neg (by simp [Region.wanted,rI,hy,hb])];exact⟨JB,put true hb h⟩
            · cases want with
              |true =>
                simp only [if_true,St.norm_eq]at h;rw [if_neg (by simp [Region.wanted,rI,hy,hb])];exact⟨JB,put false hb h⟩
              |false =>
                simp only [Bool.false_eq_true,if_false,St.norm_eq]at h;rw [if_pos (by simp [Region.wanted,rI,hy,hb])];exact go false hb h
          · have ht:a.tmps[d]? = some undef:=by
              have:=hC.tmps d (by rw [hg];simp)
              rw [hg]at this;exact this
            have hy:=Jz hd ht;rw [if_neg (by simp [Region.wanted,rI,hy])];exact⟨JB,Bz (st0:=st) (dL:=ρ) h hC (aw.le_refl _) (aw.le_refl _) (Env.aq _ _) (λ_ _=>rfl) (λ_=>rfl) (IH st rfl)⟩
          · exact h.elim
        · exact h.elim
def tJ(G:bW)(W:e_)(R:Nat->Loop)(Z:List Nat)(c0:aw)(dL:Env)(bE:Nat->Nat)(Q':Exit->Act->World->Prop)(inl:yc (Env->Prop)):Prop :=
  ∀f args s (K':SV->St->Env->Prop) ρ,inl f args s K' ρ->args.all (SV.wf s.c)=true->c0.le s.c->Env.aE c0 dL ρ->∀β a w,(∀k,k<c0.nk->β k=bE k)->Core W R Z ρ β s a w->∀next':Value->World->Prop,
    (∀v s' ah an w',K' v s' ah->v.wf s'.c=true->v ≠ .any->s.c.le s'.c->Env.aE s.c ρ ah->(∀k,k<s.c.nk->an k=β k)->Core W R Z ah an s' a w'->next' (v.den ah an) w') ->
    Calls G.P f (args.map (SV.den ρ β)).toArray w λe w'=>match e with
      | .returned v=>next' v w'
      | .panicked ch=>Q' (.panic ch) a w'
      | .outgrown=>False
def oX(P:Program)(W:e_)(R:Nat->Loop)(c0:aw)(dL:Env)(bE:Nat->Nat)(yl:Yl (Env->Prop)):Prop :=
  ∀k args s (K':SV->St->Env->Prop) ρ,yl k args s K' ρ->args.all (SV.wf s.c)=true->c0.le s.c->Env.aE c0 dL ρ->∀R':Nat->Loop,(∀k,k<c0.nk->R' k=R k)->∀Z β a w,(∀k,k<c0.nk->β k=bE k)->Core W R' Z ρ β s a w ->
    ∀(r:Option Nat) (n:Nat) (next':Value->World->Prop),
    (∀v s' ah an w',K' v s' ah->v.wf s'.c=true->v ≠ .any->s.c.le s'.c->Env.aE s.c ρ ah->(∀k,k<s.c.nk->an k=β k)->Core W R' Z ah an s' a w'->next' (v.den ah an) w') ->
    ∃l fn tmps assign body,(Instr.yield (β k) (args.map (SV.den ρ β)).toArray).run P w=.ok (.round l fn tmps assign body) w/\RoundIn (Fr r) n P l fn tmps assign body w λe w'=>∃v,e=.returned v/\next' v w'
theorem oX.oK{c0 c1:aw}{dL a8:Env}{bE fH:Nat->Nat}{R1:Nat->Loop}{yl:Yl (Env->Prop)}(h:oX P W R c0 dL bE yl)(hc:c0.le c1)(hl:Env.aE c0 dL a8)(hb:∀k,k<c0.nk->fH k=bE k)(hR:∀k,k<c0.nk->R1 k=R k):oX P W R1 c1 a8 fH yl :=
 λk args s K' ρ hy hw h1 h2 R' h3 Z β a w h4=>h k args s K' ρ hy hw (aw.le_trans hc h1) (Env.aj hc hl h2) R' (λk hk=>(h3 k (Nat.lt_of_lt_of_le hk hc.k)).trans (hR k hk)) Z β a w (λk hk=>(h4 k (Nat.lt_of_lt_of_le hk hc.k)).trans (hb k hk))
theorem PU{G:bW}{st:St}{o:Oper}{K:St->Env->Prop}{ρ:Env}(h:oG (PA G.P W Q QM QP) G st o K ρ):∀c,o.op ≠ .defer c:=by
 intro c he;unfold oG at h;have hn:qR G st o=none:=by unfold qR;rw [he]
 have JC:nR G st o=none:=by unfold nR;rw [he]
 rw [hn]at h;simp only at h;rw [JC]at h;simp only at h;unfold mQ at h;simp only [he]at h;unfold vD at h;simp only [he]at h;exact h
theorem PV{G:bW}{st:St}{o:Oper}{K:St->Env->Prop}{ρ:Env}(h:zQ (PA G.P W Q QM QP) G st o K ρ):∀c,o.op ≠ .defer c:=by
 intro c he;unfold zQ at h;simp only [he]at h;exact h
theorem PW{G:bW}{st:St}{o:Oper}{K:St->Env->Prop}{ρ:Env}(h:oH (PA G.P W Q QM QP) G st o K ρ):∀c,o.op ≠ .defer c:=by
 intro c he;unfold oH at h;simp only [he]at h;exact h
def tK(W:e_)(R:Nat->Loop)(Z:List Nat)(c0:aw)(dL:Env)(bE:Nat->Nat)(Q':Exit->Act->World->Prop)(KP:Nat->St->Env->Prop):Prop :=
 ∀i st ρ,KP i st ρ->i<st.c.nv->c0.le st.c->Env.aE c0 dL ρ->∀β a w,(∀k,k<c0.nk->β k=bE k)->Core W R Z ρ β st a w->Q' (.panic [{v:=(ρ.v i).1,recovered:=false}]) a w
theorem z_(p:Nat->Bool):∀(m:Mem) (k:Nat),getM (m.filter λx=>p x.1) k=if p k=true then getM m k else none
  | [],k=>by simp [getM]
  | (j,v)::r,k=>by
    simp only [List.filter_cons];by_cases hj:p j=true
    · simp only [hj,if_true,getM,z_ p r k];by_cases tL:j=k
      · subst tL;simp [hj]
      · simp [tL]
    · rw [if_neg (by simpa using hj),z_ p r k];simp only [getM];by_cases tL:j=k
      · subst tL;simp [hj]
      · simp [tL]
theorem GQ(p:Nat->Bool):∀(m:bq) (k:Nat),aM (m.filter λx=>p x.1) k=if p k=true then aM m k else none
  | [],k=>by simp [aM]
  | (j,v)::r,k=>by
    simp only [List.filter_cons];by_cases hj:p j=true
    · simp only [hj,if_true,aM,GQ p r k];by_cases tL:j=k
      · subst tL;simp [hj]
      · simp [tL]
    · rw [if_neg (by simpa using hj),GQ p r k];simp only [aM];by_cases tL:j=k
      · subst tL;simp [hj]
      · simp [tL]
theorem Core.less{ρ:Env}{β:Nat->Nat}{st:St}{a:Act}{w:World}(hC:Core W R Z ρ β st a w)(p:Nat->Bool):Core W R Z ρ β {st with m:=st.m.filter λx=>p x.1,o:=st.o.filter λx=>p x.1} a w:=by
 have hM:∀{k x},getM (st.m.filter λx=>p x.1) k=some x->getM st.m k=some x:=λ{k x} h=>by
  rw [z_]at h;split at h<;>simp_all
 have hO:∀{k x},aM (st.o.filter λx=>p x.1) k=some x->aM st.o k=some x:=λ{k x} h=>by
  rw [GQ]at h;split at h<;>simp_all
 have hE:∀{k e},aK (st.m.filter λx=>p x.1) (st.o.filter λx=>p x.1) k=some e->aK st.m st.o k=some e:=λ{k e} h=>by
  unfold aK at h ⊢;rw [z_,GQ]at h;by_cases hp:p k=true
  ·simpa [hp]using h
  ·simp [hp]at h
 exact⟨hC.size,hC.tmps,hC.kQ,hC.below,λk e h=>hC.mem k e (hE h),λk k' e e' b h h'=>hC.inj k k' e e' b (hE h) (hE h'),hC.gz,hC.kF,hC.ia,hC.dn,
  ⟨hC.wf.t,λk cs t h=>hC.wf.m k cs t (hM h),λk ce sz t h=>hC.wf.o k ce sz t (hO h),λk x h=>by
   have:=hC.wf.ap k x (hO h)
   show getM (st.m.filter λx=>p x.1) k=none;rw [z_,this];simp,hC.wf.r,hC.wf.d,hC.wf.k,hC.wf.df⟩,hC.kn⟩
theorem Core.uE{ρ:Env}{β:Nat->Nat}{st:St}{a:Act}{w w':World}{bs:List Nat}(hC:Core W R Z ρ β st a w)(PX:bs.all (λb=>(getM st.m b).isSome)=true)(hb:vQ (bs.map β) w w'):Core W R Z ρ β {st with m:=tt st.m bs} a w':=by
 have own:∀b∈bs,∃cs t,getM st.m b=some (cs,t)/\aK st.m st.o b=some (.fix cs t):=λb hb=>by
  have:=List.all_eq_true.1 PX b hb
  obtain⟨⟨cs,t⟩,h⟩:=Option.isSome_iff_exists.1 this;exact⟨cs,t,h,pk h⟩
 have kept:∀{k:Nat} {e:qB},aK (tt st.m bs) st.o k=some e->aK st.m st.o k=some e/\k ∉ bs:=λ{k e} h=>by
  unfold aK tt at h;have hf:=z_ (λb => !bs.contains b) st.m k;rw [hf]at h;by_cases hp:k∈bs
  ·obtain⟨cs,t,h1,_⟩:=own k hp
   have hn:aM st.o k=none:=by
    cases ho:aM st.o k with
    |none=>rfl
    |some x=>have:=hC.wf.ap k x ho;rw [h1]at this;cases this
   simp [hp,hn]at h
  ·refine⟨?_,hp⟩;unfold aK;simpa [hp]using h
 have same:∀{k:Nat} {e:qB},aK st.m st.o k=some e->k ∉ bs->∀b,bK β k e=some b->w'.heap[b]? = w.heap[b]? := λ{k e} hg hk b lV=>by
  refine hb.block b ((hC.mem k e hg).wg b lV).2.1 λhm => ?_;obtain⟨j,hj,rfl⟩:=List.mem_map.1 hm;obtain⟨cs,t,_,h2⟩:=own j hj;exact hk (hC.inj k j e _ _ hg h2 lV rfl▸hj)
 have other:∀{b:Nat} {o:Obj},w.heap[b]? = some o->¬Datum o->w'.heap[b]? = some o:=λ{b o} h ho=>by
  rw [hb.block b (uw h) λhm => ?_,h];obtain⟨j,hj,rfl⟩:=List.mem_map.1 hm;obtain⟨cs,t,h1,_⟩:=own j hj
  have:=(hC.fix h1).2
  rw [h]at this;cases this;exact ho trivial
 refine⟨hC.size,hC.tmps,hC.kQ,dT.mk (hb.os.trans hC.below.os) (hb.tape.trans hC.below.tape) (hb.output.trans hC.below.output) (Nat.le_trans hC.below.size hb.size) (λk hk hl => ?_),λk e h => ?_,λk k' e e' b h h'=>hC.inj k k' e e' b (kept h).1 (kept h').1,
  λk e h=>⟨(hC.gz k e h).1,other (hC.gz k e h).2 (λh=>h)⟩,hC.kF,λb h=>⟨(hC.ia b h).1,other (hC.ia b h).2 (λh=>h)⟩,hC.dn,
  ⟨hC.wf.t,λk cs t h => ?_,hC.wf.o,λk x h => ?_,hC.wf.r,hC.wf.d,hC.wf.k,hC.wf.df⟩,hC.kn⟩
 ·rw [hb.block k (Nat.lt_of_lt_of_le hk hC.below.size) λhm => ?_]
  ·exact hC.below.block k hk hl
  ·obtain⟨j,hj,rfl⟩:=List.mem_map.1 hm;obtain⟨cs,t,h1,_⟩:=own j hj;rcases (hC.fix h1).1.out with h2|h2
   ·exact hl h2
   ·omega
 ·obtain⟨h1,h2⟩:=kept h;exact (hC.mem k e h1).jf (hC.wf.pq h1) (Env.aq _ _) (λ_ _=>rfl) (same h1 h2)
 ·have hf:=z_ (λb => !bs.contains b) st.m k;have h:getM (st.m.filter λx => !bs.contains x.1) k=some (cs,t):=h;rw [hf]at h;split at h
  ·exact hC.wf.m k cs t h
  ·cases h
 ·show getM (st.m.filter λx => !bs.contains x.1) k=none;have hf:=z_ (λb => !bs.contains b) st.m k;rw [hf,hC.wf.ap k x h];simp
theorem Core.more{ρ ah:Env}{β:Nat->Nat}{st:St}{a:Act}{w:World}(hC:Core W R Z ρ β st a w){c:aw}(hc:st.c.le c)(hl:Env.aE st.c ρ ah){kn:cd}(hw:cd.wf kn c)(hk:cd.den kn ah):Core W R Z ah β {st with c:=c,k:=kn} a w:=by
 have h1:=hC.aE hl;have g:=hC.wf.grow hc;exact⟨h1.size,h1.tmps,h1.kQ,h1.below,h1.mem,h1.inj,h1.gz,h1.kF,h1.ia,h1.dn,⟨g.t,g.m,g.o,g.ap,g.r,g.d,hw,g.df⟩,hk⟩
theorem PY(g:Bool)(l:List At):(eY g l).flat=l.all At.flat/\∀c,(eY g l).wf c=l.all (At.wf c):=by
 unfold eY;split
 ·exact⟨by simp [CV.flat],λc=>by simp [CV.wf]⟩
 ·exact⟨rfl,λc=>rfl⟩
theorem TV{G:bW}(hG:G.Ok){c0:aw}{dL:Env}{bE:Nat->Nat}{Q':Exit->Act->World->Prop}{KP:Nat->St->Env->Prop}(hP:tK W R Z c0 dL bE Q' KP){st:St}{f:FuncId}{args:List SV}{t:TypeId}{js:List Nat}{ρ:Env}
    (h:vJ (PA G.P W Q QM QP) G KP st f args t js ρ) (jJ:c0.le st.c) (ja:Env.aE c0 dL ρ) {β:Nat->Nat} {a:Act} {w:World} (iE:∀k,k<c0.nk->β k=bE k) (hC:Core W R Z ρ β st a w) :
    args.any ka≠true/\(callFunc f (args.map (SV.den ρ β)).toArray).run G.P w=.ok (.enter f (args.map (SV.den ρ β)).toArray) w/\Calls G.P f (args.map (SV.den ρ β)).toArray w λe w'=>∃ch,e=.panicked ch/\Q' (.panic ch) a w':=by
  unfold vJ at h;generalize hz:aP G.P t=u1 at h;generalize yw:vy G.P 30 t=u2 at h;generalize PX:se args js=u3 at h;split at h
  · rename_i g n ks bs;split at h
    · exact h.elim
    · rename_i ha;simp only [not_or,Decidable.not_not]at ha;split at h
      · rename_i iF;obtain⟨mg,j6,tF,cX⟩:=iF;obtain⟨a8,l1,h1,h2⟩:=u7 ks st.c h;have hle:=xF ks st.c;have h2:=h2 ⟨.iface t ((eY g (ax st.c ks)).den a8 b0),rfl⟩ rfl;have eD:(aX st.c ks).le {aX st.c ks with nv:=(aX st.c ks).nv+1}:=zq _ .uY;have l2:=Dz (aX st.c ks) a8 ⟨.iface t ((eY g (ax st.c ks)).den a8 b0),rfl⟩;have sC:Env.aE st.c ρ (a8.oP (aX st.c ks).nv ⟨.iface t ((eY g (ax st.c ks)).den a8 b0),rfl⟩):=Env.aj hle l1 l2;refine⟨ha.1,hG.calls f j6 _ w, ?_⟩;have h1:=h1 β w hC.below (Bf hC.wf.ap (Env.aq st.c ρ) (λk cs t hm=>(hC.wf.m k cs t hm).2) (λk ce sz t hm=>(hC.wf.o k ce sz t hm).2) _ (λk hk e hg=>hC.mem k e hg))
        have sD:(bs.map β).Nodup:=by
          have key:∀l:List Nat,(∀x∈l,x∈bs)->l.Nodup->(l.map β).Nodup:=by
            intro l
            induction l with
            |nil=>intro _ _;exact List.nodup_nil
            |cons x l ih =>
              intro nz hn;simp only [List.nodup_cons,List.map_cons]at hn ⊢;refine⟨λhm => ?_,ih (λy hy=>nz y (List.mem_cons_of_mem _ hy)) hn.2⟩;obtain⟨y,hy,he⟩:=List.mem_map.1 hm;obtain⟨⟨cs,t1⟩,g1⟩:=Option.isSome_iff_exists.1 (List.all_eq_true.1 cX x (nz x (List.mem_cons_self ..)));obtain⟨⟨gS,t2⟩,g2⟩:=Option.isSome_iff_exists.1 (List.all_eq_true.1 cX y (nz y (List.mem_cons_of_mem _ hy)))
              have:=hC.inj x y _ _ (β x) (pk g1) (pk g2) rfl (by simp [bK,he])
              exact hn.1 (this▸hy)
          exact key bs (λ_ h=>h) tF
        refine (me.out h1 sD).mono λe w' he => ?_;obtain⟨rfl,JD⟩:=he;refine⟨_,rfl, ?_⟩;have pt:=hC.uE cX JD;have e0:((a8.oP (aX st.c ks).nv ⟨.iface t ((eY g (ax st.c ks)).den a8 b0),rfl⟩).v (aX st.c ks).nv).1=.iface t ((eY g (ax st.c ks)).den a8 b0):=congrArg (λy:OV=>y.1) (if_pos rfl);have Eg:(eY g (ax st.c ks)).wf (aX st.c ks)=true:=by rw [(PY _ _).2];exact Ba ks st.c
        have dX:=pt.more (c := {aX st.c ks with nv:=(aX st.c ks).nv+1}) (aw.le_trans hle eD) sC (kn := .j8 (aX st.c ks).nv t (eY g (ax st.c ks))::st.k) (λz hz => ?_) (λz hz => ?_)
        · have:=hP _ _ _ h2 (Nat.lt_succ_self _) (aw.le_trans jJ (aw.le_trans hle eD)) (Env.aj jJ ja sC) β a w' iE dX
          rw [e0]at this;exact this
        · rcases List.mem_cons.1 hz with rfl|hz
          · simp only [Kn.wf,Bool.and_eq_true,decide_eq_true_eq];exact⟨Nat.lt_succ_self _,CV.aT eD Eg,by rw [(PY _ _).1];exact DB ks st.c mg⟩
          · exact Kn.aT (aw.le_trans hle eD) (hC.wf.k z hz)
        · rcases List.mem_cons.1 hz with rfl|hz
          · simp only [Kn.den];rw [e0,CV.ae l2 (λ_ _=>rfl) Eg];rfl
          · exact Kn.ae sC (hC.wf.k z hz) (hC.kn z hz)
      · exact h.elim
  · exact h.elim
theorem JE{G:bW}(hG:G.Ok){r:Option Nat}{n:Nat}{c0:aw}{dL:Env}{bE:Nat->Nat}{Q':Exit->Act->World->Prop}{inl:yc (Env->Prop)}{yl:Yl (Env->Prop)}{rG:Bool}{KP:Nat->St->Env->Prop}(hI:tJ G W R Z c0 dL bE Q' inl)(hY:oX G.P W R c0 dL bE yl)(sI:rG=true->r=none)(hP:tK W R Z c0 dL bE Q' KP) :
    sH G.P W R Z r n c0 dL bE Q' (qS (PA G.P W Q QM QP) G inl yl rG KP):=by
  intro st o K ρ h jJ ja β a w iE hC next hn
  have jK:oG (PA G.P W Q QM QP) G st o K ρ->o.wpIn (Fr r) n G.P a w next Q':=λh=>wB r n (PU h) (GP (PE hG hC.wf hC.kn h) hC hn Q')
  have kG:oH (PA G.P W Q QM QP) G st o K ρ->o.wpIn (Fr r) n G.P a w next Q':=λh=>wB r n (PW h) (GP (PO hC.wf h) hC hn Q')
  have BA:zQ (PA G.P W Q QM QP) G st o K ρ->o.wpIn (Fr r) n G.P a w next Q':=λh=>wB r n (PV h) (GP (PK hC.wf h) hC hn Q')
  obtain⟨dst,op,type,pos,after,guard⟩:=o;unfold qS at h;cases op<;>first|exact jK h|skip
  case makeSlice t l cp=>exact kG h
  case makeMap t rs=>exact kG h
  case mapUpdate t m k v=>exact kG h
  case insert t m k v=>exact kG h
  case panic x =>
    simp only at h;generalize hx:st.ev x=sx at h;split at h
    · rename_i i;split at h
      · rename_i hi;obtain⟨⟨t,v⟩,hf⟩:=Option.isSome_iff_exists.1 hi;have hm:=AZ hf;have hd:=hC.kn _ hm;have hw:=hC.wf.k _ hm;simp only [Kn.wf,Bool.and_eq_true,decide_eq_true_eq]at hw;simp only [Kn.den]at hd;have e1:=hC.eval x (by rw [hx];simp);rw [hx]at e1;have e2:a.eval x=.iface t (v.den ρ λ_=>0):=e1.trans hd
        have:=hP i st ρ h hw.1 jJ ja β a w iE hC
        rw [hd]at this;refine wB r n (by simp) ?_;unfold Oper.wp
        have hr:(execOp a.eval ⟨dst,.panic x,type,pos,after,guard⟩).run G.P w=.halt (.panic (.iface t (v.den ρ λ_=>0))) w:=by
          simp [execOp,e2,Instr.panic,goPanic]
        rw [hr,Oper.upon_panic];exact this
      · exact h.elim
    · exact h.elim
  case defer c =>
    obtain⟨callee,args,argTypes⟩:=c;simp only at h;generalize ha:args.toList=al at h;split at h
    · rename_i g;generalize hg:st.ev g=sg at h;split at h
      · rename_i f aI;split at h
        · rename_i hd;have TW:r=none:=sI rfl;subst TW;have eg:=hC.eval g (by rw [hg];simp);rw [hg]at eg;have uF:=hC.wf.ev g;rw [hg]at uF;have ea:args=#[]:=by apply Array.ext';rw [ha]
          subst ea;refine⟨λf _=>uD none f, ?_⟩
          have hr:((⟨none,.defer ⟨.value g,#[],argTypes⟩,type,pos,after,guard⟩:Oper).semAt (Fr none).round a.eval).run G.P w=.ok (.defer {target := .fn (.func f) (aI.map λc=>(.pointer (some ⟨β c.1,c.2,none⟩):Value)).toArray,args := #[]}) w:=by
            rw [show (Fr none).round=none from rfl,Oper.semAt_none];simp only [execOp,resolve,eg,SV.den,CV.den,At.den,Deferred.ofValue,Sem.run_bind,Sem.run_pure,Result.andThen_ok];simp
          rw [hr,Oper.uponIn_defer];refine hn _ ρ β _ w h (aw.le_refl _) (Env.aq _ _) (λ_ _=>rfl) ⟨hC.size,hC.tmps, ?_,hC.below,hC.mem,hC.inj,hC.gz,hC.kF,hC.ia,hC.dn,⟨hC.wf.t,hC.wf.m,hC.wf.o,hC.wf.ap,hC.wf.r,hC.wf.d,hC.wf.k,λx hx => ?_⟩,hC.kn⟩
          · show _::a.defers=_;rw [hC.kQ];simp [gG]
          · rcases List.mem_cons.1 hx with rfl|hx
            · exact λy hy=>by simpa using List.all_eq_true.1 uF y hy
            · exact hC.wf.df x hx
        · exact h.elim
      · exact h.elim
    · exact h.elim
  case assign x =>
    simp only at h;split at h
    · exact kG h
    · exact jK h
  case convert s d x =>
    simp only at h;split at h
    · exact kG h
    · exact jK h
  case buildSlice t len parts =>
    simp only at h;split at h
    · exact kG h
    · exact jK h
  case slice t x lo hi mx =>
    cases mx with
    |none=>exact jK h
    |some m=>exact kG h
  case store t x y =>
    simp only at h;generalize hx:st.ev x=sx at h;split at h
    · exact kG h
    · exact jK h
  case call cl =>
    obtain⟨callee,args,argTypes⟩:=cl;cases callee<;>first|exact jK h|skip
    case builtin b =>
      cases b<;>first|exact jK h|skip
      exact BA h
    case invoke JF m =>
      simp only at h;generalize CS:st.ev JF=sr at h;split at h
      · rename_i i;generalize hf:gL st.k i=u1 at h;cases u1 with
        |none=>exact h.elim
        |some z =>
        obtain⟨t,v⟩:=z;simp only at h;generalize hm:methodOf G.P t m=u2 at h;cases u2 with
        |none=>exact h.elim
        |some f =>
        simp only at h;split at h;rotate_left
        · exact jK h
        rename_i BB;split at h
        · exact h.elim
        · rename_i fJ;have h_:=AZ hf;have tE:=hC.wf.k _ h_;simp only [Kn.wf,Bool.and_eq_true]at tE;have er:=hC.eval JF (by rw [CS];simp);rw [CS]at er;have hd:(Kn.j8 i t v).den ρ:=hC.kn _ h_;simp only [Kn.den]at hd
          have er:a.eval JF=.iface t (v.den ρ β):=by
            rw [er];show (ρ.v i).1=_;rw [hd,CV.bn ρ (λ_=>0) β tE.2.2]
          have ea:(args.map a.eval).toList=(args.toList.map st.ev).map (SV.den ρ β):=by
            rw [Array.toList_map]
            exact zy _ λx hx=>hC.eval x (by
              intro he;exact fJ (List.any_eq_true.2 ⟨_,List.mem_map.2 ⟨x,hx,rfl⟩,by rw [he];rfl⟩))
          have ec:#[v.den ρ β]++args.map a.eval=(((SV.cv v)::args.toList.map st.ev).map (SV.den ρ β)).toArray:=by
            apply Array.ext';rw [Array.toList_append,ea];simp [SV.den]
          have hw:((SV.cv v)::args.toList.map st.ev).all (SV.wf st.c)=true:=List.all_eq_true.2 λx hx=>by
            rcases List.mem_cons.1 hx with rfl|hx
            · exact tE.2.1
            · obtain⟨y,_,rfl⟩:=List.mem_map.1 hx;exact hC.wf.ev y
          refine wB r n (by simp) ?_;unfold Oper.wp;rw [Pd hm er ec w,hG.inl f BB,Oper.upon_enter]
          refine (hI f _ st _ ρ h hw jJ ja β a w iE hC (λv w'=>next (a.put dst v) w') ?_).mono λe w' he=>by
            cases e<;>first|exact he|exact he.elim
          intro v s' ah an w' hk tE BC hle hl hb fb;exact Bz (st:=s') (st0:=st) (dL:=ρ) hk fb (aw.le_refl _) hle hl hb (λ_=>rfl) hn
      · exact h.elim
    case value g =>
      have tM:∀ (f:FuncId) (first aI:List (Nat × Nat)) (all:List SV),all=first.map dW++(args.toList.map st.ev++aI.map dW)->st.ev g ≠ .any->(st.ev g).wf st.c=true ->
          (∀x∈first,x.1<st.c.nk)->(∀x∈aI,x.1<st.c.nk) ->
          ((st.ev g).den ρ β=.func (.func f) (first.map λc=>.pointer (some ⟨β c.1,c.2,none⟩)).toArray (aI.map λc=>.pointer (some ⟨β c.1,c.2,none⟩)).toArray) ->
          G.inl.contains f=true->¬(args.toList.map st.ev).any ka=true->inl f all st (λv s=>St.put (PA G.P W Q QM QP) s dst v s.c K) ρ->(⟨dst,.call ⟨.value g,args,argTypes⟩,type,pos,after,guard⟩:Oper).wpIn (Fr r) n G.P a w next Q':=by
        intro f first aI all cX v_ _ CU Ea wc hf fJ h
        have eg:=hC.eval g v_;rw [wc]at eg
        have ea:(args.map a.eval).toList=(args.toList.map st.ev).map (SV.den ρ β):=by
          rw [Array.toList_map]
          exact zy _ λx hx=>hC.eval x (by
            intro he;exact fJ (List.any_eq_true.2 ⟨_,List.mem_map.2 ⟨x,hx,rfl⟩,by rw [he];rfl⟩))
        have ec:(first.map λc=>(.pointer (some ⟨β c.1,c.2,none⟩):Value)).toArray++args.map a.eval++(aI.map λc=>(.pointer (some ⟨β c.1,c.2,none⟩):Value)).toArray=(all.map (SV.den ρ β)).toArray:=by
          apply Array.ext';rw [Array.toList_append,Array.toList_append,ea,cX];simp [SV.den,CV.den,At.den,dW,Function.comp_def]
        have hx:(execOp a.eval ⟨dst,.call ⟨.value g,args,argTypes⟩,type,pos,after,guard⟩).run G.P w=(callFunc f (all.map (SV.den ρ β)).toArray).run G.P w:=by
          simp only [execOp,resolve,eg,Deferred.ofValue,Sem.run_bind,Sem.run_pure,Result.andThen_ok,invoke];rw [<-ec]
        have Eh:∀{l:List (Nat × Nat)},(∀x∈l,x.1<st.c.nk)->∀x∈l.map dW,x.wf st.c=true:=λhl x hx=>by
          obtain⟨y,hy,rfl⟩:=List.mem_map.1 hx;exact decide_eq_true (hl y hy)
        have hw:all.all (SV.wf st.c)=true:=by
          rw [cX];refine List.all_eq_true.2 λx hx => ?_;rcases List.mem_append.1 hx with hx|hx
          · exact Eh CU x hx
          · rcases List.mem_append.1 hx with hx|hx
            · obtain⟨y,_,rfl⟩:=List.mem_map.1 hx;exact hC.wf.ev y
            · exact Eh Ea x hx
        refine wB r n (by simp) ?_;unfold Oper.wp;rw [hx,hG.inl f hf,Oper.upon_enter]
        refine (hI f _ st _ ρ h hw jJ ja β a w iE hC (λv w'=>next (a.put dst v) w') ?_).mono λe w' he=>by
          cases e<;>first|exact he|exact he.elim
        intro v s' ah an w' hk tE BC hle hl hb fb;exact Bz (st:=s') (st0:=st) (dL:=ρ) hk fb (aw.le_refl _) hle hl hb (λ_=>rfl) hn
      simp only at h;have uF:=hC.wf.ev g;generalize hg:st.ev g=sg at h;split at h
      · rename_i f aI;split at h
        · rename_i TX;obtain⟨_,rfl⟩:=TX;exact wB r n (by simp) (GP (TR hG hC.wf (o:=⟨dst,.call ⟨.value g,args,argTypes⟩,type,pos,after,guard⟩) rfl hg h) hC hn Q')
        split at h
        · rename_i hf;split at h
          · exact h.elim
          · rename_i fJ;rw [hg]at uF;exact tM f [] aI _ (by simp) (by rw [hg];simp) (by rw [hg];exact uF) (by simp) (λx hx=>by simpa using List.all_eq_true.1 uF x hx) (by rw [hg];rfl) hf fJ h
        · unfold Ot at h;generalize Xm:tq G f=ph at h;cases ph with
          |none=>exact jK h
          |some tj =>
            obtain⟨t,js⟩:=tj;rcases h with h|h
            · exact jK h
            · obtain⟨fJ,je,j6⟩:=TV hG hP h jJ ja iE hC;have eg:=hC.eval g (by rw [hg];simp);rw [hg]at eg
              have ea:(args.map a.eval).toList=(args.toList.map st.ev).map (SV.den ρ β):=by
                rw [Array.toList_map]
                exact zy _ λx hx=>hC.eval x (by
                  intro he;exact fJ (List.any_eq_true.2 ⟨_,List.mem_append.2 (.inl (List.mem_map.2 ⟨x,hx,rfl⟩)),by rw [he];rfl⟩))
              have hx:(execOp a.eval ⟨dst,.call ⟨.value g,args,argTypes⟩,type,pos,after,guard⟩).run G.P w=(callFunc f ((args.toList.map st.ev++aI.map dW).map (SV.den ρ β)).toArray).run G.P w:=by
                simp only [execOp,resolve,eg,SV.den,CV.den,At.den,Deferred.ofValue,Sem.run_bind,Sem.run_pure,Result.andThen_ok,invoke];congr 2;apply Array.ext';rw [Array.toList_append,Array.toList_append,ea];simp [SV.den,CV.den,At.den,dW,Function.comp_def]
              refine wB r n (by simp) ?_;unfold Oper.wp;rw [hx,je,Oper.upon_enter];refine j6.mono λe w' he => ?_;obtain⟨ch,rfl,hq⟩:=he;exact hq
      · rename_i f first aI
        split at h
        · rename_i hf;split at h
          · exact h.elim
          · rename_i fJ;rw [hg]at uF;have sJ:((first.all λx=>decide (x.1<st.c.nk)) && aI.all λx=>decide (x.1<st.c.nk))=true:=uF;simp only [Bool.and_eq_true]at sJ;exact tM f first aI _ rfl (by rw [hg];simp) (by rw [hg];exact uF) (λx hx=>by simpa using List.all_eq_true.1 sJ.1 x hx) (λx hx=>by simpa using List.all_eq_true.1 sJ.2 x hx) (by rw [hg];rfl) hf fJ h
        · exact jK h
      · rename_i f first aI
        split at h
        · rename_i hf;split at h
          · exact h.elim
          · rename_i fJ;rw [hg]at uF;have sJ:((first.all λx=>x.wf st.c) && aI.all λx=>decide (x.1<st.c.nk))=true:=uF;simp only [Bool.and_eq_true]at sJ;have eg:=hC.eval g (by rw [hg];simp);rw [hg]at eg
            have ea:(args.map a.eval).toList=(args.toList.map st.ev).map (SV.den ρ β):=by
              rw [Array.toList_map]
              exact zy _ λx hx=>hC.eval x (by
                intro he;exact fJ (List.any_eq_true.2 ⟨_,List.mem_map.2 ⟨x,hx,rfl⟩,by rw [he];rfl⟩))
            have ef:(first.map aW.at).map (At.den ρ β)=first.map (aW.den ρ β):=by
              rw [List.map_map];exact List.map_congr_left λx _=>aW.vt ρ β x
            have hx:(execOp a.eval ⟨dst,.call ⟨.value g,args,argTypes⟩,type,pos,after,guard⟩).run G.P w=(callFunc f ((SV.cv (.agg (first.map aW.at))::(args.toList.map st.ev++aI.map dW)).map (SV.den ρ β)).toArray).run G.P w:=by
              have Bt:a.eval g=.func (.func f) #[.agg (first.map (aW.den ρ β)).toArray] (aI.map λc=>(.pointer (some ⟨β c.1,c.2,none⟩):Value)).toArray:=eg;simp only [execOp,resolve,Bt,Deferred.ofValue,Sem.run_bind,Sem.run_pure,Result.andThen_ok,invoke];congr 2;apply Array.ext';rw [Array.toList_append,Array.toList_append,ea]
              have e1:(SV.cv (.agg (first.map aW.at))).den ρ β=.agg (first.map (aW.den ρ β)).toArray:=by
                show Value.agg ((first.map aW.at).map (At.den ρ β)).toArray=_;rw [ef]
              rw [List.map_cons,e1,List.map_append];simp [SV.den,CV.den,At.den,dW,Function.comp_def]
            have hw:(SV.cv (.agg (first.map aW.at))::(args.toList.map st.ev++aI.map dW)).all (SV.wf st.c)=true:=by
              refine List.all_eq_true.2 λx hx => ?_;rcases List.mem_cons.1 hx with rfl|hx
              · simp only [SV.wf,CV.wf,List.all_map]
                exact List.all_eq_true.2 λy hy=>by
                  show (y.at).wf st.c=true;rw [aW.Dj];exact List.all_eq_true.1 sJ.1 y hy
              · rcases List.mem_append.1 hx with hx|hx
                · obtain⟨y,_,rfl⟩:=List.mem_map.1 hx;exact hC.wf.ev y
                · obtain⟨y,hy,rfl⟩:=List.mem_map.1 hx;exact List.all_eq_true.1 sJ.2 y hy
            refine wB r n (by simp) ?_;unfold Oper.wp;rw [hx,hG.inl f hf,Oper.upon_enter]
            refine (hI f _ st _ ρ h hw jJ ja β a w iE hC (λv w'=>next (a.put dst v) w') ?_).mono λe w' he=>by
              cases e<;>first|exact he|exact he.elim
            intro v s' ah an w' hk tE BC hle hl hb fb;exact Bz (st:=s') (st0:=st) (dL:=ρ) hk fb (aw.le_refl _) hle hl hb (λ_=>rfl) hn
        · exact h.elim
      · rename_i k;split at h
        · exact h.elim
        · rename_i fJ;have eg:=hC.eval g (by rw [hg];simp);rw [hg]at eg
          have ea:args.map a.eval=((args.toList.map st.ev).map (SV.den ρ β)).toArray:=by
            apply Array.ext';rw [Array.toList_map]
            exact zy _ λx hx=>hC.eval x (by
              intro he;exact fJ (List.any_eq_true.2 ⟨_,List.mem_map.2 ⟨x,hx,rfl⟩,by rw [he];rfl⟩))
          have hw:(args.toList.map st.ev).all (SV.wf st.c)=true:=List.all_eq_true.2 λx hx=>by
            obtain⟨y,_,rfl⟩:=List.mem_map.1 hx;exact hC.wf.ev y
          obtain⟨l,fn,tmps,assign,body,hy,hR⟩:=hY k _ st _ ρ h hw jJ ja R (λ_ _=>rfl) Z β a w iE hC r (n-1) (λv w'=>next (a.put dst v) w') (λv s' ah an w' hk tE BC hle hl hb fb =>
            Bz (st:=s') (st0:=st) (dL:=ρ) hk fb (aw.le_refl _) hle hl hb (λ_=>rfl) hn)
          refine⟨λf _=>uD r f, ?_⟩;rw [Oper.semAt_eq _ _ _ (by simp)]
          have hx:(execOp a.eval ⟨dst,.call ⟨.value g,args,argTypes⟩,type,pos,after,guard⟩).run G.P w=.ok (.round l fn tmps assign body) w:=by
            simp only [execOp,resolve,eg,SV.den,CV.den,At.den,Deferred.ofValue,Sem.run_bind,Sem.run_pure,Result.andThen_ok,invoke,ea];simpa using hy
          rw [hx,Oper.uponIn_round];refine⟨Ef,hR.mono λe w' he => ?_⟩;obtain⟨v,rfl,hv⟩:=he;exact hv
      · exact h.elim
end Vc
set_option linter.unusedVariables false
namespace Vc
open Go Go.RowKit
variable {P:Program} {W:e_} {Q:Value->Prop} {QM QP:World->Value->Prop} {R:Nat->Loop} {Z:List Nat}
theorem TY{t:TypeId}{cs:List At}{off:Nat}{v:CV}(h:partOf P t cs off=some v)(ρ:Env)(β:Nat->Nat)(w:World)(b:Nat)(ty:TypeId)(hb:w.heap[b]? = some (.cells (cs.map (At.den ρ β)).toArray ty)) :
  (loadVar t ⟨b,off,none⟩).run P w=.ok (v.den ρ β) w:=by
 unfold partOf at h;generalize hz:aP P t=u at h;split at h
 ·rename_i n;split at h
  ·rename_i hl;simp only [Option.some.injEq]at h;subst h
   have:=CL hz w b off (((cs.drop off).take n).map (At.den ρ β)) (by simp;omega) (λj v hj=>by
    rw [yn hb];simp only [List.getElem?_map,Option.map_eq_some_iff]at hj;obtain⟨a,ha,rfl⟩:=hj
    have yp:j<n:=by
     rcases Nat.lt_or_ge j n with h'|h'
     ·exact h'
     ·rw [List.getElem?_eq_none (by simp;omega)]at ha;cases ha
    rw [List.getElem?_take_of_lt yp,List.getElem?_drop]at ha;simp [ha])
   exact this
  ·cases h
 ·rename_i n;simp only [Option.map_eq_some_iff]at h;obtain⟨a,ha,rfl⟩:=h
  have:=CM hz w b off (a.den ρ β) (by rw [yn hb];simp [ha])
  exact this
 ·cases h
theorem TZ{t:TypeId}{cs:List At}{off:Nat}{v:CV}{c:aw}(h:partOf P t cs off=some v)(hw:cs.all (At.wf c)=true):v.wf c=true:=by
 unfold partOf at h;generalize aP P t=u at h;split at h
 ·split at h
  ·simp only [Option.some.injEq]at h;subst h;exact (zr (zr hw off).2 _).1
  ·cases h
 ·simp only [Option.map_eq_some_iff]at h;obtain⟨a,ha,rfl⟩:=h;exact List.all_eq_true.1 hw a (List.mem_of_getElem? ha)
 ·cases h
def pR(tmps:Array Value):ResultVar->Sem Value
 | .tmp t=>pure (tmps.getD t undef)
 | .cell a t=>do loadVar t (<-asAddr (tmps.getD a undef))
theorem JG{ρ:Env}{β:Nat->Nat}{st:St}{a:Act}{w:World}(hC:Core W R Z ρ β st a w):∀ (l:List ResultVar) {cs:List CV},ek P st l=some cs ->
    (l.mapM (pR a.tmps)).run P w=.ok (cs.map (CV.den ρ β)) w/\cs.all (CV.wf st.c)=true
  | [],cs,h=>by simp only [ek,Option.some.injEq]at h;subst h;simp
  | .tmp t::r,cs,h=>by
    simp only [ek]at h;split at h
    · rename_i v l h1 h2;simp only [Option.some.injEq]at h;subst h;obtain⟨q1,q2⟩:=JG hC r h2;have e:=hC.tmps t (by rw [h1];simp);have wv:=hC.wf.t t;rw [h1]at e wv;simp only [List.mapM_cons,pR,Sem.run_bind,Sem.run_pure,Result.andThen_ok,q1,Array.getD_eq_getD_getElem?,e,Option.getD_some,SV.den,List.map_cons,true_and];simp only [List.all_cons,q2,Bool.and_true];exact wv
    · cases h
  | .cell x t::r,cs,h=>by
    simp only [ek]at h;split at h
    · rename_i k off l h1 h2;split at h
      · rename_i c ty h3;split at h
        · rename_i v h4;simp only [Option.some.injEq]at h;subst h;obtain⟨q1,q2⟩:=JG hC r h2;have e:=hC.tmps x (by rw [h1];simp);rw [h1]at e;obtain⟨m1,m2⟩:=hC.fix h3;have hl:=TY h4 ρ β w (β k) ty m2
          have e2:a.tmps.getD x undef=.pointer (some ⟨β k,off,none⟩):=by
            simp only [Array.getD_eq_getD_getElem?,e,Option.getD_some,SV.den,CV.den,At.den]
          simp only [List.mapM_cons,pR,Sem.run_bind,Sem.run_pure,Result.andThen_ok,e2,asAddr,hl,q1,List.map_cons,true_and];simp only [List.all_cons,q2,Bool.and_true];exact TZ h4 (hC.wf.m k c ty h3).2
        · cases h
      · cases h
    · cases h
theorem JH{fn:Func}{ρ:Env}{β:Nat->Nat}{st:St}{a:Act}{w:World}(hC:Core W R Z ρ β st a w){cs:List CV}(h:ek P st fn.results.toList=some cs) :
  (results fn a.tmps).run P w=.ok ((cZ cs).den ρ β) w/\(cZ cs).wf st.c=true:=by
 obtain⟨q1,q2⟩:=JG hC _ h;refine⟨?_,CP q2⟩
 have hf:(results fn a.tmps)=(do let vs <-fn.results.mapM (pR a.tmps);pure (if h:vs.size=1 then vs[0]else .tuple vs)):=by
  unfold results;congr 1
 rw [hf,Array.mapM_eq_mapM_toList];simp only [Sem.run_bind,Sem.run_map,q1,Result.andThen_ok,Sem.run_pure];unfold cZ
 match cs with
 | []=>simp [SV.den]
 | [c]=>simp [SV.den]
 |c::d::r=>simp [SV.den]
theorem PZ:∀(args:List SV) (n i:Nat),ay ((List.range' n args.length).zip args) i=if n<=i then (args[i-n]?).getD .any else .any
  | [],n,i=>by simp [ay]
  |v::r,n,i=>by
    simp only [List.length_cons,List.range'_succ,List.zip_cons_cons,zl];by_cases h:n=i
    · subst h;simp
    · rw [if_neg h,PZ r (n+1) i];by_cases h2:n<=i
      · rw [if_pos (by omega),if_pos h2];rw [show i-n=(i-(n+1))+1 by omega];simp
      · rw [if_neg (by omega),if_neg h2]
theorem z'(args:List SV)(i:Nat):ay ((List.range args.length).zip args) i=(args[i]?).getD .any:=by
 have:=PZ args 0 i
 rw [List.range_eq_range'];simpa using this
theorem P1{ρ:Env}{β:Nat->Nat}{args:List SV}{n:Nat}{st:St}{a:Act}{w:World}(hC:Core W R Z ρ β st a w)(hw:args.all (SV.wf st.c)=true) :
    Core W R (Z++st.d.map β) ρ β {t:=(List.range args.length).zip args,n:=args.length+(n-args.length),m:=st.m,c:=st.c,o:=st.o,r:=st.r,d := [],k:=st.k}
      {tmps:=(args.map (SV.den ρ β)).toArray++Array.replicate (n-(args.map (SV.den ρ β)).toArray.size) undef,defers := []} w where
  size:=by simp
  tmps i hn:=by
    simp only [z']at hn ⊢;cases hi:args[i]? with
    |none=>rw [hi]at hn;exact (hn rfl).elim
    |some v =>
      have eD:i<args.length:=(List.getElem?_eq_some_iff.1 hi).1;rw [Array.getElem?_append_left (by simpa using eD)];simp [hi]
  kQ:=rfl
  below:=hC.below
  mem:=hC.mem
  inj:=hC.inj
  gz:=hC.gz
  kF:=hC.kF
  ia b hb:=hC.ia b (by simpa using hb)
  dn:=by simpa using hC.dn
  wf:=⟨λi=>by
    simp only [z'];cases hi:args[i]? with
    |none=>rfl
    |some v=>exact List.all_eq_true.1 hw v (List.mem_of_getElem? hi),hC.wf.m,hC.wf.o,hC.wf.ap,hC.wf.r,λk hk=>(by cases hk),hC.wf.k,λx hx=>(by cases hx)⟩
  kn:=hC.kn
theorem T0{ρ:Env}{β:Nat->Nat}{args:List SV}{n:Nat}{c:aw}{w:World}{kn:cd}(uv:cd.wf kn c)(ga:cd.den kn ρ)(hw:args.all (SV.wf c)=true)(hB:dT W w) :
    Core W R [] ρ β {t:=(List.range args.length).zip args,n:=args.length+(n-args.length),m := [],c:=c,k:=kn}
      {tmps:=(args.map (SV.den ρ β)).toArray++Array.replicate (n-(args.map (SV.den ρ β)).toArray.size) undef,defers := []} w where
  size:=by simp
  tmps i hn:=by
    simp only [z']at hn ⊢;cases hi:args[i]? with
    |none=>rw [hi]at hn;exact (hn rfl).elim
    |some v =>
      have eD:i<args.length:=(List.getElem?_eq_some_iff.1 hi).1;rw [Array.getElem?_append_left (by simpa using eD)];simp [hi]
  kQ:=rfl
  below:=hB
  mem k e h:=by cases h
  inj k k' e e' b h:=by cases h
  gz k e h:=by cases h
  kF k k' e e' h:=by cases h
  ia b hb:=by cases hb
  dn:=by simp
  wf:=⟨λi=>by
    simp only [z'];cases hi:args[i]? with
    |none=>rfl
    |some v=>exact List.all_eq_true.1 hw v (List.mem_of_getElem? hi),λk cs t h=>(by cases h),λk ce sz t h=>(by cases h),λk x h=>(by cases h),λk e h=>(by cases h),λk hk=>(by cases hk),uv,λx hx=>(by cases hx)⟩
  kn:=ga
theorem P2:∀(bs:List (List At × TypeId)) (n k:Nat),getM ((List.range' n bs.length).zip bs) k=if n<=k then bs[k-n]? else none
  | [],n,k=>by simp [getM]
  |b::bs,n,k=>by
    rw [List.length_cons,List.range'_succ,List.zip_cons_cons,zZ,P2 bs (n+1) k];by_cases h:n=k
    · subst h;simp
    · rw [if_neg h];by_cases h2:n+1<=k
      · rw [if_pos h2,if_pos (by omega),show k-n=(k-(n+1))+1 by omega,List.getElem?_cons_succ]
      · rw [if_neg h2,if_neg (by omega)]
theorem JI(bs:List (List At × TypeId))(k:Nat):getM ((List.range bs.length).zip bs) k=bs[k]? := by
 rw [List.range_eq_range',P2];simp
def wC(ρ:Env)(xs:List Nat)(bs:List (List At × TypeId))(w:World):Prop:=∀k cs t,bs[k]? = some (cs,t)->w.heap[ep xs k]? = some (.cells (cs.map (At.den ρ (ep xs))).toArray t)
theorem T1{ρ:Env}{xs:List Nat}{args:List SV}{n:Nat}{c:aw}{w:World}{bs:List (List At × TypeId)}{kn:cd}(uv:cd.wf kn c)(ga:cd.den kn ρ)(hw:args.all (SV.wf c)=true)(hc:bs.all (fun b=>b.1.all (At.wf c))=true)(h0:bs.length<=c.nk)(hlen:xs.length=bs.length)(tF:xs.Nodup)
    (hl:W.oS=xs) (hB:dT W w) (hx:wC ρ xs bs w) :
    Core W R [] ρ (ep xs) {t:=(List.range args.length).zip args,n:=args.length+(n-args.length),m:=(List.range bs.length).zip bs,c:=c,k:=kn}
      {tmps:=(args.map (SV.den ρ (ep xs))).toArray++Array.replicate (n-(args.map (SV.den ρ (ep xs))).toArray.size) undef,defers := []} w where
  size:=by simp
  tmps i hn:=by
    simp only [z']at hn ⊢;cases hi:args[i]? with
    |none=>rw [hi]at hn;exact (hn rfl).elim
    |some v =>
      have eD:i<args.length:=(List.getElem?_eq_some_iff.1 hi).1;rw [Array.getElem?_append_left (by simpa using eD)];simp [hi]
  kQ:=rfl
  below:=hB
  mem k e h:=by
    unfold aK at h;rw [JI]at h;cases hb:bs[k]? with
    |none=>rw [hb]at h;simp [aM]at h
    |some x =>
      rw [hb]at h;simp only [Option.some.injEq]at h;subst h;have hk:=(List.getElem?_eq_some_iff.1 hb).1;refine⟨fA.mk (.inl ?_),hx k x.1 x.2 hb⟩;rw [hl,ep,List.getD_eq_getElem?_getD,List.getElem?_eq_getElem (by omega)];exact List.getElem_mem _
  inj k k' e e' b h h' hb il:=by
    have key:∀{k e b},aK ((List.range bs.length).zip bs) [] k=some e->bK (ep xs) k e=some b->k<xs.length/\xs[k]? = some b:=λ{k e b} h hb=>by
      unfold aK at h;rw [JI]at h;cases lV:bs[k]? with
      |none=>rw [lV]at h;simp [aM]at h
      |some x =>
        rw [lV]at h;simp only [Option.some.injEq]at h;subst h;have hk:=(List.getElem?_eq_some_iff.1 lV).1;simp only [bK,Option.some.injEq]at hb;refine⟨by omega, ?_⟩;rw [<-hb,ep,List.getD_eq_getElem?_getD,List.getElem?_eq_getElem (by omega)];rfl
    obtain⟨h1,h2⟩:=key h hb;obtain⟨h3,h4⟩:=key h' il;exact (List.getElem?_inj h1 tF).1 (h2.trans h4.symm)
  gz k e h:=by cases h
  kF k k' e e' h:=by cases h
  ia b hb:=by cases hb
  dn:=by simp
  wf:=⟨λi=>by
    simp only [z'];cases hi:args[i]? with
    |none=>rfl
    |some v=>exact List.all_eq_true.1 hw v (List.mem_of_getElem? hi),λk gS t' h=>by
      simp only [JI]at h;have hk:=(List.getElem?_eq_some_iff.1 h).1;exact⟨by show k<c.nk;omega,List.all_eq_true.1 hc _ (List.mem_of_getElem? h)⟩,λk ce sz t h=>(by cases h),λk x h=>(by cases h),λk e h=>(by cases h),λk hk=>(by cases hk),uv,λx hx=>(by cases hx)⟩
  kn:=ga
def Ex.to(ρ:Env):Ex->Exit
 | .normal=>.normal
 | .exit id=>.exit id
 | .ret=>.ret
 | .j4 i=>.panic [{v:=(ρ.v i).1,recovered:=false}]
def Ex.ok(c:aw):Ex->Prop
 | .j4 i=>i<c.nv
 |_=>True
def og(W:e_)(R:Nat->Loop)(Z:List Nat)(st:St)(ρ:Env)(β:Nat->Nat)(K:Ex->St->Env->Prop)(Q':Exit->Act->World->Prop):Prop :=
 ∀e iD ah an a' w',K e iD ah->e.ok iD.c->st.c.le iD.c->Env.aE st.c ρ ah->(∀k,k<st.c.nk->an k=β k)->Core W R Z ah an iD a' w'->Q' (e.to ah) a' w'
theorem og.oK{st iD:St}{ρ ah:Env}{β an:Nat->Nat}{K:Ex->St->Env->Prop}{Q':Exit->Act->World->Prop}(h:og W R Z st ρ β K Q')(hc:st.c.le iD.c)(hl:Env.aE st.c ρ ah)(hb:∀k,k<st.c.nk->an k=β k):og W R Z iD ah an K Q' :=
 λe s aB bc a w hk h0 h1 h2 h3 hC=>h e s aB bc a w hk h0 (aw.le_trans hc h1) (Env.aj hc hl h2) (λk hk=>(h3 k (Nat.lt_of_lt_of_le hk hc.k)).trans (hb k hk)) hC
theorem og.st{st iD:St}{ρ:Env}{β:Nat->Nat}{K:Ex->St->Env->Prop}{Q':Exit->Act->World->Prop}(h:og W R Z st ρ β K Q')(he:iD.c=st.c):og W R Z iD ρ β K Q' :=
 h.oK (by rw [he];exact aw.le_refl _) (Env.aq _ _) (λ_ _=>rfl)
structure BD(D:List Nat)(w w':World):Prop where
 os:w'.os=w.os
 tape:w'.tape=w.tape
 output:w'.output=w.output
 size:w'.heap.size=w.heap.size
 block:∀k,k ∉ D->w'.heap[k]? = w.heap[k]?
theorem P3{r:Option Nat}{n:Nat}{fn:Func}{tmps:Array Value}{T:Ending->World->Prop}:∀ (D:List Nat) (w:World),(∀ b∈D,w.heap[b]? = some (.deferred (some [])))->D.Nodup ->
    (∀w',BD D w w'->∃v,(results fn tmps).run P w'=.ok v w'/\T (.returned v) w')->LeavesInM (Fr r) n P fn tmps T (D.map λb => {target := .collected b,args := #[]}) .returning w
  | [],w,_,_,h=>h w ⟨rfl,rfl,rfl,rfl,λ_ _=>rfl⟩
  |b::D,w,hd,hn,h=>by
    have hb:=hd b (by simp);simp only [List.nodup_cons]at hn;refine⟨by simp,.inl ⟨b,_,rfl,run_takeDeferred hb,P3 D _ (λb' il => ?_) hn.2 λw' hs=>h w' ?_⟩⟩
    · rw [World.putObj_heap_other (λe=>hn.1 (by rw [<-e];exact il))];exact hd b' (by simp [il])
    · refine⟨hs.os,hs.tape,hs.output,by rw [hs.size];simp,λk hk => ?_⟩;simp only [List.mem_cons,not_or]at hk;rw [hs.block k hk.2,World.putObj_heap_other hk.1]
theorem Holds.shut{ρ:Env}{β:Nat->Nat}{k:Nat}{w w':World}{D:List Nat}{e:qB}{c:aw}(h:Holds W ρ β k e w)(hw:po c k e)(hD:∀b∈D,w.heap[b]? = some (.deferred (some [])))(hs:BD D w w'):Holds W ρ β k e w':=by
 refine h.jf hw (Env.aq _ _) (λ_ _=>rfl) λb hb=>hs.block b λhm => ?_;obtain⟨_,_,o,hc,hd⟩:=h.wg b hb;rw [hD b hm]at hc;cases hc;exact hd
theorem Core.shut{ρ:Env}{β:Nat->Nat}{st:St}{a:Act}{w w':World}(hC:Core W R Z ρ β st a w)(qF:st.df=[])(hs:BD (st.d.map β) w w'):Core W R Z ρ β {st with d := []} {a with defers := []} w':=by
 have hD:∀b∈st.d.map β,w.heap[b]? = some (.deferred (some [])):=λb hb=>(hC.ia b (List.mem_append.2 (.inr hb))).2;have P4:=List.nodup_append.1 hC.dn
 refine⟨hC.size,hC.tmps,by simp [gG,qF,marksOf],dT.mk (hs.os.trans hC.below.os) (hs.tape.trans hC.below.tape) (hs.output.trans hC.below.output) (by rw [hs.size];exact hC.below.size) (λk hk hl => ?_),λk e hg=>(hC.mem k e hg).shut (hC.wf.pq hg) hD hs,hC.inj,λk e hg=>⟨(hC.gz k e hg).1, ?_⟩,hC.kF,λb hb => ?_, ?_,
  ⟨hC.wf.t,hC.wf.m,hC.wf.o,hC.wf.ap,hC.wf.r,λk hk=>(by cases hk),hC.wf.k,hC.wf.df⟩,hC.kn⟩
 ·rw [hs.block k λhm => ?_]
  ·exact hC.below.block k hk hl
  ·have:=(hC.ia k (List.mem_append.2 (.inr hm))).1
   omega
 ·rw [hs.block _ λhm => ?_]
  ·exact (hC.gz k e hg).2
  ·have h1:=hD _ hm;rw [(hC.gz k e hg).2]at h1;cases h1
 ·simp only [List.map_nil,List.append_nil]at hb;refine⟨(hC.ia b (List.mem_append.2 (.inl hb))).1, ?_⟩;rw [hs.block b λhm=>P4.2.2 b hb b hm rfl];exact (hC.ia b (List.mem_append.2 (.inl hb))).2
 ·simpa using P4.1
theorem GR{ρ ah:Env}{β an:Nat->Nat}{st s':St}{a a':Act}{w w':World}(hC:Core W R Z ρ β st a w)(fb:Core W R (Z++st.d.map β) ah an {s' with d := []} a' w')(hle:st.c.le s'.c)(hl:Env.aE st.c ρ ah)(hb:∀k,k<st.c.nk->an k=β k) :
  Core W R Z ah an {t:=st.t,n:=st.n,m:=s'.m,c:=s'.c,o:=s'.o,r:=s'.r,d:=st.d,k:=s'.k,df:=st.df} a w':=by
 have oW:st.d.map an=st.d.map β:=List.map_congr_left λk hk=>hb k (hC.wf.d k hk);refine⟨hC.size,λi hi => ?_, ?_,fb.below,fb.mem,fb.inj,fb.gz,fb.kF,λb qD => ?_, ?_,⟨λi=>SV.aT hle (hC.wf.t i),fb.wf.m,fb.wf.o,fb.wf.ap,fb.wf.r,λk hk=>Nat.lt_of_lt_of_le (hC.wf.d k hk) hle.k,fb.wf.k,λx hx y hy=>Nat.lt_of_lt_of_le (hC.wf.df x hx y hy) hle.k⟩,fb.kn⟩
 ·rw [hC.tmps i hi];exact congrArg some (SV.ae hl hb (hC.wf.t i)).symm
 ·rw [hC.kQ,GD hC.wf.df hb];simp only [marksOf];exact congrArg _ (List.map_congr_left λk hk=>by rw [hb k (hC.wf.d k hk)])
 ·rw [oW]at qD;exact fb.ia b (by simpa using qD)
 ·rw [oW];simpa using fb.dn
theorem GS{f:FuncId}{fn:Func}{b:Code}{args:Array Value}{w:World}{T:Ending->World->Prop}{n:Nat}(hf:P.funcs[f]? = some fn)(hb:fn.body=some b)
  (h:b.wpIn (Fr none) n P (bodyPostM (Fr none) n P fn T) {tmps:=args++Array.replicate (fn.ntmps-args.size) undef,defers := []} w):Calls P f args w T :=
 Jw.1 (callsIn_of_wp_marks (F:=Fr none) hf hb (uD none f) h rfl)
theorem P5{r:Option Nat}{n:Nat}{fn:Func}{ρ:Env}{β:Nat->Nat}{s:St}{a:Act}{w:World}{T:Ending->World->Prop}(hC:Core W R Z ρ β s a w)(qF:s.df=[]){l:List CV}(hr:ek P s fn.results.toList=some l)
  (h:∀w',Core W R Z ρ β {s with d := []} {a with defers := []} w'->(cZ l).wf s.c=true->T (.returned ((cZ l).den ρ β)) w'):LeavesInM (Fr r) n P fn a.tmps T a.defers .returning w:=by
 rw [hC.kQ,qF];have hd:gG β []++marksOf β s.d=(s.d.map β).map λb => {target := .collected b,args := #[]}:=by simp [marksOf,gG]
 rw [hd];refine P3 _ w (λb hb=>(hC.ia b (List.mem_append.2 (.inr hb))).2) (List.nodup_append.1 hC.dn).2.1 λw' hs => ?_;have fb:=hC.shut qF hs
 have kH:ek P {s with d := []} fn.results.toList=some l:=by
  rw [<-hr]
  have:∀(x:List ResultVar),ek P {s with d := []} x=ek P s x:=by
   intro x
   induction x with
   |nil=>rfl
   |cons y x ih=>cases y<;>simp only [ek,ih]
  exact this _
 obtain⟨q1,q2⟩:=JH fb kH;exact⟨_,q1,h w' fb q2⟩
theorem St.tN(n0:Nat)(v:SV)(st:St):(St.prune n0 v st).c=st.c:=by
 unfold St.prune;split<;>rfl
theorem Core.prune{ρ:Env}{β:Nat->Nat}{st:St}{a:Act}{w:World}(hC:Core W R Z ρ β st a w)(n0:Nat)(v:SV):Core W R Z ρ β (St.prune n0 v st) a w:=by
 unfold St.prune;split
 ·exact hC
 ·exact hC.less λk=>decide (k<n0) || (nw st.m st.o 3000 (fx v++((st.m.filter λx=>decide (x.1<n0)).flatMap (λx=>(aN x.2.1).filter λk=>decide (n0<=k))++(st.o.filter λx=>decide (x.1<n0)).flatMap (λx=>(aN (kA x.2.1)).filter λk=>decide (n0<=k)))) []).contains k
theorem Core.vw{ρ:Env}{β:Nat->Nat}{st:St}{a:Act}{w:World}(hC:Core W R Z ρ β st a w):Core W R Z ρ β {st with t:=gM 0 st.t} a w :=
 ⟨hC.size,λi h=>by
   have h:ay (gM 0 st.t) i ≠ .any:=h;show a.tmps[i]? = some ((ay (gM 0 st.t) i).den ρ β);rw [Oi]at h ⊢;exact hC.tmps i h,hC.kQ,hC.below,hC.mem,hC.inj,hC.gz,hC.kF,hC.ia,hC.dn,
  ⟨λi=>by
   show (ay (gM 0 st.t) i).wf st.c=true;rw [Oi];exact hC.wf.t i,hC.wf.m,hC.wf.o,hC.wf.ap,hC.wf.r,hC.wf.d,hC.wf.k,hC.wf.df⟩,hC.kn⟩
def Ex.mode(ρ:Env):Ex->FrameMode
 | .j4 i=>.panicking [{v:=(ρ.v i).1,recovered:=false}]
 |_=>.returning
theorem T2{b rest:Code}{d:Tmp}(h:ny b=some (d,rest)):∃id ops o,b=.seq (.region id ops false) rest/\ops.toList=[o]/\o.dst=some d/\o.guard=none/\∃at',o.op=.call ⟨.builtin .recover,#[],at'⟩:=by
 unfold ny at h;split at h
 ·rename_i id ops P6;generalize hl:ops.toList=l at h;split at h
  ·rename_i d' args at' ty pos Xn;split at h
   ·rename_i ha;cases h
    have:args=#[]:=by apply Array.ext';simpa using ha
    subst this;exact⟨_,_,_,rfl,hl,rfl,rfl,_,rfl⟩
   ·cases h
  ·cases h
 ·cases h
theorem JJ{G:bW}(hG:G.Ok){ex:Code->St->(Ex->St->Env->Prop)->Env->Prop}{c0:aw}{dL:Env}{bE:Nat->Nat}
    (hE:∀(c:Code) (st:St) (K:Ex->St->Env->Prop) (ρ:Env),ex c st K ρ->c0.le st.c->Env.aE c0 dL ρ->∀(m:Nat) (β:Nat->Nat) (a:Act) (w:World),(∀k,k<c0.nk->β k=bE k)->Core W R Z ρ β st a w->∀Q':Exit->Act->World->Prop,og W R Z st ρ β K Q'->c.wpIn (Fr none) m G.P Q' a w)
    {fn:Func} {e:Ex} {s:St} {KR:SV->St->Env->Prop} {KP:Nat->St->Env->Prop} {ρ:Env} (h:leave (PA G.P W Q QM QP) G ex fn e s KR KP ρ) (jJ:c0.le s.c) (ja:Env.aE c0 dL ρ) {β:Nat->Nat} {a:Act} {w:World} (iE:∀k,k<c0.nk->β k=bE k) (hC:Core W R Z ρ β s a w) (kO:e.ok s.c) (m:Nat)
    {T:Ending->World->Prop}
    (hR:∀v s2 aB bc w2,KR v s2 aB->v.wf s2.c=true->v ≠ .any->s.c.le s2.c->Env.aE s.c ρ aB->(∀k,k<s.c.nk->bc k=β k)->Core W R Z aB bc {s2 with d := []} {a with defers := []} w2->T (.returned (v.den aB bc)) w2)
    (hP:∀i s2 aB bc w2,KP i s2 aB->i<s2.c.nv->s.c.le s2.c->Env.aE s.c ρ aB->(∀k,k<s.c.nk->bc k=β k)->Core W R Z aB bc {s2 with d := []} {a with defers := []} w2->T (.panicked [{v:=(aB.v i).1,recovered:=false}]) w2) :
    (∀id,e ≠ .exit id)/\LeavesInM (Fr none) m G.P fn a.tmps T a.defers (e.mode ρ) w:=by
  unfold leave at h;generalize qF:s.df=df at h;split at h
  ·
    have fin:(match ek G.P s fn.results.toList with
        |some l=>KR (cZ l) s
        |none => (PA G.P W Q QM QP).fail "leave: results") ρ -> LeavesInM (Fr none) m G.P fn a.tmps T a.defers .returning w := fun hk => by
      generalize hr:ek G.P s fn.results.toList=u at hk;cases u with
      |none=>exact hk.elim
      |some l=>exact P5 hC qF hr λw3 wD JK=>hR (cZ l) s ρ β w3 hk JK (CQ l) (aw.le_refl _) (Env.aq _ _) (λ_ _=>rfl) wD
    cases e with
    |exit id=>exact h.elim
    |normal=>exact⟨by simp,fin h⟩
    |ret=>exact⟨by simp,fin h⟩
    |j4 i =>
      refine⟨by simp, ?_⟩;simp only at h;generalize hd:s.d=d at h;cases d with
      |cons _ _=>exact h.elim
      |nil =>
        have he:a.defers=[]:=by rw [hC.kQ,qF,hd];rfl
        rw [he];show LeavesIn (Fr none) m G.P fn a.tmps T [] (.panicking [{v:=(ρ.v i).1,recovered:=false}]) w;refine hP i s ρ β w h kO (aw.le_refl _) (Env.aq _ _) (λ_ _=>rfl) ?_
        have:=hC.shut qF (w':=w) ⟨rfl,rfl,rfl,rfl,λ_ _=>rfl⟩
        exact this
  ·
    rename_i g aI;generalize hd:s.d=d at h;generalize uG:G.P.funcs[g]? = gf at h;split at h;rotate_left
    · exact h.elim
    rename_i gn;generalize T3:gn.body=gb at h;split at h;rotate_left
    · exact h.elim
    rename_i b;generalize kI:ny b=rb at h;split at h;rotate_left
    · exact h.elim
    rename_i dst rest;split at h;rotate_left
    · exact h.elim
    rename_i iF;obtain⟨JL,BB⟩:=iF;simp only at h
    have gq:((aI.map dW).map (SV.den ρ β)).toArray=(aI.map λc=>(.pointer (some ⟨β c.1,c.2,none⟩):Value)).toArray:=by
      congr 1;simp [dW,SV.den,CV.den,At.den,Function.comp_def]
    have T4:(aI.map dW).all (SV.wf s.c)=true:=List.all_eq_true.2 λx hx=>by
      obtain⟨y,hy,rfl⟩:=List.mem_map.1 hx;exact decide_eq_true (hC.wf.df _ (by rw [qF];exact List.mem_cons_self ..) y hy)
    have wE:=P1 (n:=gn.ntmps) hC T4;rw [hd]at wE;simp only [List.map_nil,List.append_nil]at wE;obtain⟨id,ops,o,ji,mZ,sE,T5,at',T6⟩:=T2 kI
    have key:∀ (rv:SV) (u u':FrameMode),u ≠ .run->settle u'=.returning->rv.wf s.c=true->rv ≠ .any->(∀ (iM:Frame) (cs:List Frame),iM.mode=u->(recoverD (iM::cs)=some (rv.den ρ β,{iM with mode:=u'}::cs))∨(recoverD (iM::cs)=none/\rv.den ρ β=.nilIface/\u'=u)) ->
        (St.put (PA G.P W Q QM QP) {t:=(List.range (aI.map dW).length).zip (aI.map dW),n:=(aI.map dW).length+(gn.ntmps-(aI.map dW).length),m:=s.m,c:=s.c,o:=s.o,r:=s.r,d := [],k:=s.k} (some dst) rv s.c λs1 =>
          ex rest s1 λe2 s2=>match e2 with
            | .normal=>match s2.d,s2.df with
              | [],[]=>match ek G.P {t:=s.t,n:=s.n,m:=s2.m,c:=s2.c,o:=s2.o,r:=s2.r,d := [],k:=s2.k} fn.results.toList with
                |some l=>KR (cZ l) {t:=s.t,n:=s.n,m:=s2.m,c:=s2.c,o:=s2.o,r:=s2.r,d := [],k:=s2.k}
                |none => (PA G.P W Q QM QP).fail "leave: results"
              |_, _ => (PA G.P W Q QM QP).fail "leave: closure"
            | .ret=>match s2.d,s2.df with
              | [],[]=>match ek G.P {t:=s.t,n:=s.n,m:=s2.m,c:=s2.c,o:=s2.o,r:=s2.r,d := [],k:=s2.k} fn.results.toList with
                |some l=>KR (cZ l) {t:=s.t,n:=s.n,m:=s2.m,c:=s2.c,o:=s2.o,r:=s2.r,d := [],k:=s2.k}
                |none => (PA G.P W Q QM QP).fail "leave: results"
              |_, _ => (PA G.P W Q QM QP).fail "leave: closure"
            |_ => (PA G.P W Q QM QP).fail "leave: closure") ρ -> LeavesInM (Fr none) m G.P fn a.tmps T a.defers u w := by
      intro rv u u' hu JM D8 Xo yz h
      have he:a.defers=[{target := .fn (.func g) (aI.map λc=>(.pointer (some ⟨β c.1,c.2,none⟩):Value)).toArray,args := #[]}]:=by
        rw [hC.kQ,qF,hd];rfl
      rw [he];refine⟨hu,.inr ⟨Ef,.func g,_,g,(aI.map λc=>(.pointer (some ⟨β c.1,c.2,none⟩):Value)).toArray,rfl, ?_,λg' _=>uD none g', ?_⟩⟩
      · simp only [invoke];rw [show (#[]:Array Value)++(aI.map λc=>(.pointer (some ⟨β c.1,c.2,none⟩):Value)).toArray=(aI.map λc=>(.pointer (some ⟨β c.1,c.2,none⟩):Value)).toArray from by simp];exact hG.inl g BB _ w
      refine callsDIn_of_wpSIn uG T3 (uD none g) λiM cs hm => ?_;rw [ji];refine wpSIn_seq (wpSIn_region ?_);have lJ:ops.size=1:=by rw [<-Array.length_toList,mZ];rfl
      have bx:ops=#[o]:=by apply Array.ext';rw [mZ]
      subst bx;rw [show List.range (#[o]:Array Oper).size=[0] from rfl]
      have je:∀ev:Operand->Value,(execOp ev o).run G.P w=.ok .recover w:=λev=>by
        simp [execOp,T6,resolve,invoke,builtin]
      unfold wpOpsSIn;simp only [List.getElem?_toArray,List.getElem?_cons_zero];refine⟨λf _=>uD none f, ?_⟩;rw [if_pos (by simp [Region.wanted,T5]),je];simp only
      have go:∀ gS,gS = {iM with mode:=u'}::cs->wpOpsSIn (Fr none) (m - 1) G.P #[o] (Exit.thenS (rest.wpSIn (Fr none) (m - 1) G.P (bodyPostS G.P gn iM cs fun
          | .returned _,u',w'=>LeavesInM (Fr none) m G.P fn a.tmps T [] (settle u') w'
          | .panicked chain,u',w'=>LeavesInM (Fr none) m G.P fn a.tmps T [] (raised u' chain) w'
          | .outgrown,_,w'=>T .outgrown w')) (bodyPostS G.P gn iM cs fun
          | .returned _,u',w'=>LeavesInM (Fr none) m G.P fn a.tmps T [] (settle u') w'
          | .panicked chain,u',w'=>LeavesInM (Fr none) m G.P fn a.tmps T [] (raised u' chain) w'
          | .outgrown,_,w'=>T .outgrown w')) [] ((⟨(aI.map λc=>(.pointer (some ⟨β c.1,c.2,none⟩):Value)).toArray++Array.replicate (gn.ntmps-(aI.map λc=>(.pointer (some ⟨β c.1,c.2,none⟩):Value)).toArray.size) undef,[]⟩:Act).put o.dst (rv.den ρ β)) gS w:=by
        intro gS uu;subst uu;refine wpSIn_of_wpIn rfl ?_;rw [<-gq,sE];refine Bz (st0:=s) (dL:=ρ) h wE (aw.le_refl _) (aw.le_refl _) (Env.aq _ _) (λ_ _=>rfl) (λ_=>rfl) (next:=λa' w'=>rest.wpIn (Fr none) (m-1) G.P _ a' w') ?_;intro s1 a8 fH a1 w1 u_ h1 h2 h3 pt;refine hE rest s1 _ a8 u_ (aw.le_trans jJ h1) (Env.aj jJ ja h2) (m-1) fH a1 w1 (λk hk=>(h3 k (Nat.lt_of_lt_of_le hk jJ.k)).trans (iE k hk)) pt _ ?_;intro e2 s2 aB bc a2 w2 jr _ g1 g2 g3 dX;have q1:s.c.le s2.c:=aw.le_trans h1 g1;have q2:Env.aE s.c ρ aB:=Env.aj h1 h2 g2;have q3:∀k,k<s.c.nk->bc k=β k:=λk hk=>(g3 k (Nat.lt_of_lt_of_le hk h1.k)).trans (h3 k hk)
        have back:(match s2.d,s2.df with
              | [],[]=>match ek G.P {t:=s.t,n:=s.n,m:=s2.m,c:=s2.c,o:=s2.o,r:=s2.r,d := [],k:=s2.k} fn.results.toList with
                |some l=>KR (cZ l) {t:=s.t,n:=s.n,m:=s2.m,c:=s2.c,o:=s2.o,r:=s2.r,d := [],k:=s2.k}
                |none => (PA G.P W Q QM QP).fail "leave: results"
              |_, _ => (PA G.P W Q QM QP).fail "leave: closure") aB -> a2.defers = [] /\ ∃ u2, { iM with mode := u' } :: cs = { iM with mode := u2 } :: cs /\ ∃ v, (results gn a2.tmps).run G.P w2 = .ok v w2 /\ LeavesInM (Fr none) m G.P fn a.tmps T [] (settle u2) w2 := by
          intro hk;generalize Aa:s2.d=d2 at hk;generalize GO:s2.df=f2 at hk;split at hk
          · generalize hr:ek G.P {t:=s.t,n:=s.n,m:=s2.m,c:=s2.c,o:=s2.o,r:=s2.r,d := [],k:=s2.k} fn.results.toList=ur at hk;cases ur with
            |none=>exact hk.elim
            |some l =>
              have JN:a2.defers=[]:=by rw [dX.kQ,Aa,GO];rfl
              have hz:=(JH (P:=G.P) (fn:=gn) dX (cs := []) (by rw [JL];rfl)).1;refine⟨JN,u',rfl,_,hz, ?_⟩;rw [JM]
              have lX:Core W R (Z++s.d.map β) aB bc {s2 with d := []} a2 w2:=by
                rw [hd];simp only [List.map_nil,List.append_nil]
                have:({s2 with d := []}:St)=s2:=by rw [<-Aa]
                rw [this];exact dX
              have lV:=GR hC lX q1 q2 q3
              have fK:Core W R Z aB bc {t:=s.t,n:=s.n,m:=s2.m,c:=s2.c,o:=s2.o,r:=s2.r,d := [],k:=s2.k} {a with defers := []} w2:=by
                have jh:=lV;rw [hd]at jh;exact⟨jh.size,jh.tmps,rfl,jh.below,jh.mem,jh.inj,jh.gz,jh.kF,jh.ia,jh.dn,⟨jh.wf.t,jh.wf.m,jh.wf.o,jh.wf.ap,jh.wf.r,jh.wf.d,jh.wf.k,λx hx=>by cases hx⟩,jh.kn⟩
              obtain⟨r1,r2⟩:=JH (fn:=fn) fK hr;exact⟨_,r1,hR (cZ l) _ aB bc w2 hk r2 (CQ l) q1 q2 q3 fK⟩
          · exact hk.elim
        cases e2 with
        |normal=>exact back jr
        |ret=>exact back jr
        |exit id=>exact jr.elim
        |j4 i=>exact jr.elim
      rcases yz iM cs hm with h1|⟨h1,h2,h3⟩
      · rw [h1];exact go _ rfl
      · rw [h1];simp only;rw [<-h2];refine go _ ?_;subst h3;rw [<-hm]
    cases e with
    |exit id=>exact h.elim
    |normal =>
      refine⟨by simp, ?_⟩;exact key (.cv (.one .oQ)) .returning .returning (by simp) rfl rfl (by simp) (λiM cs hm=>.inr ⟨by simp [recoverD,hm],rfl,rfl⟩) h
    |ret =>
      refine⟨by simp, ?_⟩;exact key (.cv (.one .oQ)) .returning .returning (by simp) rfl rfl (by simp) (λiM cs hm=>.inr ⟨by simp [recoverD,hm],rfl,rfl⟩) h
    |j4 i =>
      refine⟨by simp, ?_⟩;simp only at h;by_cases hi:(gL s.k i).isSome=true
      · rw [if_pos hi]at h;exact key (.cv (.one (.val i))) (.panicking [{v:=(ρ.v i).1,recovered:=false}]) (.panicking [{v:=(ρ.v i).1,recovered:=true}]) (by simp) rfl (decide_eq_true kO) (by simp) (λiM cs hm=>.inl (by simp [recoverD,hm];rfl)) h
      · rw [if_neg hi]at h;exact h.elim
  · exact h.elim
end Vc
set_option linter.unusedVariables false
namespace Vc
open Go Go.RowKit
variable {P:Program} {W:e_} {Q:Value->Prop} {QM QP:World->Value->Prop} {R:Nat->Loop} {Z:List Nat}
theorem T7{o:bq}{a:At}{l:List At}{k:CK}{ks:List CK}(h:fy o (a::l)=some (k::ks)):kindOf o a=some k/\fy o l=some ks:=by
 simp only [fy]at h;split at h
 ·rename_i k' r h1 h2;simp only [Option.some.injEq,List.cons.injEq]at h;exact⟨h.1▸h1,h.2▸h2⟩
 ·cases h
theorem JO(c:aw)(k:CK):c.nk<=(bd c k).nk:=(zq c k).k
theorem CX:∀(ks:List CK) (c:aw) {k:Nat} {x:CE × Nat × TypeId},aM (bo c ks) k=some x->c.nk<=k/\k+3<(aX c ks).nk/\k∈aQ (ax c ks)/\∃n,x.1=[.var n]/\n<(aX c ks).nl
  | [],c,k,x,h=>by cases h
  |kd::l,c,k,x,h=>by
    have plain:aM (bo (bd c kd) l) k=some x->c.nk<=k/\k+3<(aX c (kd::l)).nk/\k∈aQ (ax (bd c kd) l)/\∃n,x.1=[.var n]/\n<(aX c (kd::l)).nl:=λh=>by
      obtain⟨h1,h2,h3,h4⟩:=CX l _ h;exact⟨Nat.le_trans (JO c kd) h1,h2,h3,h4⟩
    cases kd<;>first
      | (obtain⟨h1,h2,h3,h4⟩:=plain h;exact⟨h1,h2,h3,h4⟩)
      |skip
    rename_i sz t;simp only [bo,zz]at h;by_cases hk:c.nk=k
    · rw [if_pos hk]at h;cases h;subst hk
      have:=(xF l (bd c (.own sz t))).k
      have h2:=(xF l (bd c (.own sz t))).l;exact⟨Nat.le_refl _,by simp only [aX,bd]at this ⊢;omega,by simp [ax,bz,aQ],c.nl,rfl,by simp only [aX,bd]at h2 ⊢;omega⟩
    · rw [if_neg hk]at h;obtain⟨h1,h2,h3,h4⟩:=plain h;exact⟨h1,h2,by simp only [ax,bz,aQ];exact List.mem_cons_of_mem _ h3,h4⟩
def wF(fo oy:bq)(ah aB:Env)(an β:Nat->Nat)(k' k:Nat):Prop :=
 (an k'=β k/\an (k'+1)=β (k+1)/\an (k'+2)=β (k+2)/\an (k'+3)=β (k+3)) /\
  ∃n ce sz t,aM fo k'=some ([.var n],sz,t)/\aM oy k=some (ce,sz,t)/\av ah an [.var n]=av aB β ce
theorem Ei(fo oy:bq)(aB:Env)(β:Nat->Nat):∀ (ks:List CK) (c:aw) {k:Env->Prop} {ρ:Env} (qy:Nat->Nat) (ys:List At),(∀ j x,aM (bo c ks) j=some x->aM fo j=some x)->nY fo (ax c ks) k ρ->fy oy ys=some ks ->
    ∃ah an,k ah/\Env.aE c ρ ah/\(∀j,j<c.nk->an j=qy j)/\(ax c ks).map (At.den ah an)=ys.map (At.den aB β)/\(ax c ks).map (vl fo ah)=ys.map (vl oy aB) /\
      (aQ (ax c ks)).length=(aQ ys).length/\(∀p∈(aQ (ax c ks)).zip (aQ ys),wF fo oy ah aB an β p.1 p.2)/\(∀j∈aQ (ax c ks),c.nk<=j)/\(aQ (ax c ks)).Nodup
  | [],c,k,ρ,qy,ys,_,h,hk=>by
    cases ys with
    |nil=>exact⟨ρ,qy,h,Env.aq _ _,λ_ _=>rfl,rfl,rfl,rfl,λp hp=>(by cases hp),λj hj=>(by cases hj),by simp [aQ,ax]⟩
    |cons y r =>
      simp only [fy]at hk;split at hk<;>simp at hk
  |kd::l,c,k,ρ,qy,ys,JP,h,hk=>by
    cases ys with
    |nil=>simp [fy]at hk
    |cons y r =>
      obtain⟨h1,h2⟩:=T7 hk
      have fin:kd.plain=true->aQ (y::r)=aQ r->∀ {a8:Env},nY fo (ax (bd c kd) l) k a8->Env.aE c ρ a8->(bz c kd).den a8 b0=y.den aB β->vl fo a8 (bz c kd)=vl oy aB y->(∀ ah,Env.aE (bd c kd) a8 ah->vl fo ah (bz c kd)=vl fo a8 (bz c kd)) ->
          ∃ah an,k ah/\Env.aE c ρ ah/\(∀j,j<c.nk->an j=qy j)/\(ax c (kd::l)).map (At.den ah an)=(y::r).map (At.den aB β)/\(ax c (kd::l)).map (vl fo ah)=(y::r).map (vl oy aB) /\
            (aQ (ax c (kd::l))).length=(aQ (y::r)).length/\(∀p∈(aQ (ax c (kd::l))).zip (aQ (y::r)),wF fo oy ah aB an β p.1 p.2)/\(∀j∈aQ (ax c (kd::l)),c.nk<=j)/\(aQ (ax c (kd::l))).Nodup:=by
        intro mg Ej a8 ha hl he hv Bx;have BF:∀j x,aM (bo (bd c kd) l) j=some x->aM fo j=some x:=λj x hj=>JP j x (by cases kd<;>first|exact hj|cases mg);have uz:(bd c kd).nk=c.nk:=by cases kd<;>first|rfl|cases mg
        obtain⟨ah,an,q1,q2,q3,q4,q5,q6,q7,q8,q9⟩:=Ei fo oy aB β l _ qy r BF ha h2;have ho:aQ (ax c (kd::l))=aQ (ax (bd c kd) l):=by cases kd<;>first|rfl|cases mg
        refine⟨ah,an,q1,Env.aj (zq c kd) hl q2,λj hj=>q3 j (by omega), ?_, ?_,by rw [ho,Ej];exact q6,by rw [ho,Ej];exact q7,by rw [ho];exact λj hj=>by have:=q8 j hj;omega,by rw [ho];exact q9⟩
        · simp only [ax,List.map_cons,q4];rw [At.bn ah an b0 (Gm c kd mg),At.ae q2 (β:=b0) (λ_ _=>rfl) (Gl c kd),he]
        · simp only [ax,List.map_cons,q5];rw [Bx ah q2,hv]
      cases kd with
      |int kk =>
        cases y<;>simp only [kindOf,reduceCtorEq,Option.some.injEq,CK.int.injEq]at h1
        · rename_i k2 e;subst h1;refine fin rfl rfl (h (e.den aB)) (zU c ρ _) ?_ ?_ ?_
          · simp [bz,At.den,IE.den,Env.gX]
          · simp [bz,vl,IE.den,Env.gX]
          · intro ah hl;show Vl.i (ah.i c.ni)=Vl.i _;rw [hl.i c.ni (Nat.lt_succ_self _)];rfl
        · split at h1
          · split at h1<;>simp at h1
          · cases h1
      |bool =>
        cases y<;>simp only [kindOf,reduceCtorEq,Option.some.injEq]at h1
        · rename_i e;refine fin rfl rfl (h (e.den aB)) (Ov c ρ _) ?_ ?_ ?_
          · simp [bz,At.den,BE.den,Env.mP]
          · simp [bz,vl,BE.den,Env.mP]
          · intro ah hl;show Vl.b (ah.b c.nb)=Vl.b _;rw [hl.b c.nb (Nat.lt_succ_self _)];rfl
        · split at h1
          · split at h1<;>simp at h1
          · cases h1
      |uY =>
        cases y<;>simp only [kindOf,reduceCtorEq,Option.some.injEq]at h1
        · rename_i e;refine fin rfl rfl (h (aB.v e)) (Dz c ρ _) ?_ ?_ ?_
          · simp [bz,At.den,Env.oP]
          · simp [bz,vl,At.den,Env.oP]
          · intro ah hl;show Vl.v (ah.v c.nv).1=Vl.v _;rw [hl.v c.nv (Nat.lt_succ_self _)];rfl
        · split at h1
          · split at h1<;>simp at h1
          · cases h1
      |str =>
        have two:∀ah:Env,Env.aE (bd c .str) ρ ah->True:=λ_ _=>trivial;cases y<;>simp only [kindOf,reduceCtorEq,Option.some.injEq]at h1
        · rename_i x;refine fin rfl rfl (h x) (DA c ρ _) ?_ ?_ ?_
          · simp [bz,At.den,Env.qH]
          · simp [bz,vl,Env.qH]
          · intro ah hl;show Vl.s (ah.s c.ns)=Vl.s _;rw [hl.s c.ns (Nat.lt_succ_self _)]
        · rename_i x;refine fin rfl rfl (h (aB.s x)) (DA c ρ _) ?_ ?_ ?_
          · simp [bz,At.den,Env.qH]
          · simp [bz,vl,Env.qH]
          · intro ah hl;show Vl.s (ah.s c.ns)=Vl.s _;rw [hl.s c.ns (Nat.lt_succ_self _)]
        · split at h1
          · split at h1<;>simp at h1
          · cases h1
      |sl sz =>
        cases y<;>simp only [kindOf,reduceCtorEq,Option.some.injEq,CK.sl.injEq]at h1
        · rename_i q p s len cap;subst h1
          have hd:∀ah:Env,ah.b c.nb=aB.b q->ah.p c.np=aB.p p->ah.i c.ni=len.den aB->ah.i (c.ni+1)=cap.den aB->∀fH,(bz c (.sl s)).den ah fH=(At.gV q p s len cap).den aB β:=λah e1 e2 e3 e4 fH=>by
            simp only [bz,At.den,IE.den,e1,e2,e3,e4]
          have hs:=h (aB.b q) (aB.p p) (len.den aB) (cap.den aB);have g1:((((ρ.mP c.nb (aB.b q)).rR c.np (aB.p p)).gX c.ni (len.den aB)).gX (c.ni+1) (cap.den aB)).b c.nb=aB.b q:=if_pos rfl;have g2:((((ρ.mP c.nb (aB.b q)).rR c.np (aB.p p)).gX c.ni (len.den aB)).gX (c.ni+1) (cap.den aB)).p c.np=aB.p p:=if_pos rfl
          have g3:((((ρ.mP c.nb (aB.b q)).rR c.np (aB.p p)).gX c.ni (len.den aB)).gX (c.ni+1) (cap.den aB)).i c.ni=len.den aB:=by
            show (if c.ni=c.ni+1 then _ else if c.ni=c.ni then _ else _)=_;rw [if_neg (by omega),if_pos rfl]
          have g4:((((ρ.mP c.nb (aB.b q)).rR c.np (aB.p p)).gX c.ni (len.den aB)).gX (c.ni+1) (cap.den aB)).i (c.ni+1)=cap.den aB:=if_pos rfl;refine fin rfl rfl hs (Ow c ρ _ _ _ _) (hd _ g1 g2 g3 g4 b0) ?_ ?_
          · show Vl.v ((bz c (.sl s)).den _ b0)=Vl.v ((At.gV q p s len cap).den aB b0);rw [hd _ g1 g2 g3 g4 b0];rfl
          · intro ah hl;show Vl.v ((bz c (.sl s)).den ah b0)=Vl.v ((bz c (.sl s)).den _ b0);rw [hd ah (by rw [hl.b c.nb (Nat.lt_succ_self _),g1]) (by rw [hl.p c.np (Nat.lt_succ_self _),g2]) (by rw [hl.i c.ni (by simp [bd]),g3]) (by rw [hl.i (c.ni+1) (by simp [bd]),g4]) b0,hd _ g1 g2 g3 g4 b0]
        · split at h1
          · split at h1<;>simp at h1
          · cases h1
      |own sz t =>
        cases y<;>simp only [kindOf,reduceCtorEq,Option.some.injEq]at h1;rename_i k0;split at h1
        · rename_i ce uZ t' hg;split at h1
          · rename_i lN;simp only [Option.some.injEq,CK.own.injEq]at h1;obtain⟨rfl,rfl⟩:=h1;have hf:=JP c.nk ([.var c.nl],uZ,t') (by simp [bo,zz])
            have hh:∀x:List OV,nY fo (ax (bd c (.own uZ t')) l) k (ρ.lh c.nl x):=by
              have:=h
              simp only [ax,bz,nY,hf]at this;exact this
            have hL:=hh ((av aB β ce).attach.map λx=>⟨x.1,vu aB β ce x.1 x.2⟩)
            have oW:(((av aB β ce).attach.map λx=>(⟨x.1,vu aB β ce x.1 x.2⟩:OV)).map (·.1))=av aB β ce:=by
              rw [List.map_map];exact List.attach_map_subtype_val _
            have BF:∀j x,aM (bo (bd c (.own uZ t')) l) j=some x->aM fo j=some x:=λj x hj=>JP j x (by
              simp only [bo,zz]
              have:=(CX l _ hj).1
              simp only [bd]at this;rw [if_neg (by omega)];exact hj)
            let fH:Nat->Nat:=λj=>if j=c.nk then β k0 else if j=c.nk+1 then β (k0+1)else if j=c.nk+2 then β (k0+2)else if j=c.nk+3 then β (k0+3)else qy j;obtain⟨ah,an,q1,q2,q3,q4,q5,q6,q7,q8,q9⟩:=Ei fo oy aB β l (bd c (.own uZ t')) fH r BF hL h2;have su:=tB c ρ ((av aB β ce).attach.map λx=>⟨x.1,vu aB β ce x.1 x.2⟩);have r0:an c.nk=β k0:=by rw [q3 _ (by simp [bd])];exact if_pos rfl
            have r1:an (c.nk+1)=β (k0+1):=by
              rw [q3 _ (by simp [bd])];show (if c.nk+1=c.nk then _ else if c.nk+1=c.nk+1 then _ else _)=_;rw [if_neg (by omega),if_pos rfl]
            have r2:an (c.nk+2)=β (k0+2):=by
              rw [q3 _ (by simp [bd])];show (if c.nk+2=c.nk then _ else if c.nk+2=c.nk+1 then _ else if c.nk+2=c.nk+2 then _ else _)=_;rw [if_neg (by omega),if_neg (by omega),if_pos rfl]
            have r3:an (c.nk+3)=β (k0+3):=by
              rw [q3 _ (by simp [bd])];show (if c.nk+3=c.nk then _ else if c.nk+3=c.nk+1 then _ else if c.nk+3=c.nk+2 then _ else if c.nk+3=c.nk+3 then _ else _)=_;rw [if_neg (by omega),if_neg (by omega),if_neg (by omega),if_pos rfl]
            have rf:ah.l c.nl=((av aB β ce).attach.map λx=>(⟨x.1,vu aB β ce x.1 x.2⟩:OV)):=by
              rw [q2.l c.nl (by simp [bd])];exact if_pos rfl
            have qZ:∀uU,av ah uU [.var c.nl]=av aB β ce:=λuU=>by
              simp only [av,Sg.den,List.append_nil,rf];exact oW
            refine⟨ah,an,q1,Env.aj (zq c (.own uZ t')) su q2,λj hj => ?_, ?_, ?_, ?_,λp hp => ?_,λj hj => ?_, ?_⟩
            · rw [q3 j (by simp only [bd];omega)];show (if j=c.nk then _ else if j=c.nk+1 then _ else if j=c.nk+2 then _ else if j=c.nk+3 then _ else qy j)=qy j;rw [if_neg (by omega),if_neg (by omega),if_neg (by omega),if_neg (by omega)]
            · simp only [ax,bz,List.map_cons,q4,At.den,r0,r1,r2,r3]
            · simp only [ax,bz,List.map_cons,q5,vl,hf,hg];rw [qZ b0,Be aB β b0 lN]
            · simp only [ax,bz,aQ,List.length_cons,q6]
            · simp only [ax,bz,aQ,List.zip_cons_cons,List.mem_cons]at hp;rcases hp with rfl|hp
              · exact⟨⟨r0,r1,r2,r3⟩,c.nl,ce,uZ,t',hf,hg,qZ an⟩
              · exact q7 p hp
            · simp only [ax,bz,aQ,List.mem_cons]at hj;rcases hj with rfl|hj
              · exact Nat.le_refl _
              · have:=q8 j hj
                simp only [bd]at this;omega
            · simp only [ax,bz,aQ,List.nodup_cons];refine⟨λhm => ?_,q9⟩
              have:=q8 _ hm
              simp only [bd]at this;omega
          · cases h1
        · cases h1
theorem Ek{i:Nat}:∀(bp:List Nat) (vs:List CV) (l:List At) (t:List (Nat × SV)),i ∉ bp->ay (dN t bp vs l) i=ay t i
  | [],vs,l,t,_=>by cases vs<;>rfl
  |s::r,[],l,t,_=>rfl
  |s::r,v::vs,l,t,h=>by
    simp only [List.mem_cons,not_or]at h;simp only [dN];rw [Ek r vs _ _ h.2,zl,if_neg (λe=>h.1 e.symm)]
theorem GU(t:List (Nat × SV))(i:Nat):∀kill:List Nat,ay (fz t kill) i=.any∨ay (fz t kill) i=ay t i
  | []=>.inr rfl
  |s::r=>by
    simp only [fz,zl];by_cases h:s=i
    · rw [if_pos h];exact .inl rfl
    · rw [if_neg h];exact GU t i r
theorem P7{tS:List (Nat × SV)}{ah aB:Env}{an β:Nat->Nat}{i:Nat}:∀ (bp:List Nat) (vs kM:List CV) (l:List At) (t:List (Nat × SV)) (rest:List At),fL tS bp=some kM->kM.map CV.shape=vs.map CV.shape ->
    l.map (At.den ah an)=(kM.flatMap CV.cells++rest).map (At.den aB β)->i∈bp->∃u v',ay (dN t bp vs l) i=.cv u/\ay tS i=.cv v'/\u.den ah an=v'.den aB β
  | [],_,_,_,_,_,_,_,_,h=>by cases h
  |s::r,vs,kM,l,t,rest,hr,hs,hl,hi=>by
    simp only [fL]at hr;split at hr
    · rename_i v' vr h1 h2;simp only [Option.some.injEq]at hr;subst hr;cases vs with
      |nil=>simp at hs
      |cons v vs =>
        simp only [List.map_cons,List.cons.injEq]at hs;simp only [dN]
        have hlen:v'.cells.length=v.cells.length:=by
          have h3:=hs.1;cases v<;>cases v'<;>simp_all [CV.shape,CV.cells]
        have jH:(l.drop v.cells.length).map (At.den ah an)=(vr.flatMap CV.cells++rest).map (At.den aB β):=by
          rw [List.map_drop,hl,<-List.map_drop];congr 1;simp only [List.flatMap_cons,List.append_assoc];rw [<-hlen,List.drop_left]
        by_cases rh:i∈r
        · exact P7 r vs vr _ _ rest h2 hs.2 jH rh
        · have:i=s:=by simpa [rh]using hi
          subst this;refine⟨nW v l,v', ?_,h1, ?_⟩
          · rw [Ek r vs _ _ rh,zl,if_pos rfl]
          · have uq:(l.take v.cells.length).map (At.den ah an)=v'.cells.map (At.den aB β):=by
              rw [List.map_take,hl,<-List.map_take];congr 1;simp only [List.flatMap_cons,List.append_assoc];rw [<-hlen,List.take_left]
            have h3:=hs.1;cases v with
            |one a=>cases v' with
              |agg x=>simp [CV.shape]at h3
              |one a' =>
                simp only [CV.cells,List.length_cons,List.length_nil,List.map_cons,List.map_nil]at uq;cases l with
                |nil=>simp at uq
                |cons b l=>simpa [nW,CV.den]using uq
            |agg x=>cases v' with
              |one a=>simp [CV.shape]at h3
              |agg y =>
                simp only [CV.cells]at uq;simp only [nW,CV.den,uq]
    · cases hr
theorem xN:∀ (free:List (Nat × Nat)) (m:Mem) (l:List At) {k:Nat} {mj:List At} {t:TypeId},getM (cc m free l) k=some (mj,t) ->
    ∃pS,getM m k=some (pS,t)/\pS.length=mj.length/\∀o,(k,o) ∉ free->pS[o]? = mj[o]?
  | [],m,l,k,mj,t,h=>⟨mj,by cases l<;>exact h,rfl,λ_ _=>rfl⟩
  | (j,p)::r,m,[],k,mj,t,h=>⟨mj,h,rfl,λ_ _=>rfl⟩
  | (j,p)::r,m,a::l,k,mj,t,h=>by
    simp only [cc]at h;split at h
    · rename_i cs ty hg;obtain⟨pS,h1,h2,h3⟩:=xN r _ l h;rw [ux]at h1;by_cases hj:j=k
      · subst hj;rw [if_pos rfl,hg]at h1;simp only [Option.map_some,Option.some.injEq,Prod.mk.injEq]at h1;obtain⟨rfl,rfl⟩:=h1;refine⟨cs,hg,by simpa using h2,λo ho => ?_⟩;simp only [List.mem_cons,Prod.mk.injEq,not_or]at ho;rw [<-h3 o ho.2,List.getElem?_set_ne (λe=>ho.1 (by simp [e]))]
      · rw [if_neg hj]at h1;exact⟨pS,h1,h2,λo ho=>h3 o (λhm=>ho (List.mem_cons_of_mem _ hm))⟩
    · obtain⟨pS,h1,h2,h3⟩:=xN r _ l h;exact⟨pS,h1,h2,λo ho=>h3 o (λhm=>ho (List.mem_cons_of_mem _ hm))⟩
theorem GV:∀(free:List (Nat × Nat)) (m:Mem) (l:List At) {k:Nat} {x:List At × TypeId},getM m k=some x->∃y,getM (cc m free l) k=some y
  | [],m,l,k,x,h=>⟨x,by cases l<;>exact h⟩
  | (j,p)::r,m,[],k,x,h=>⟨x,h⟩
  | (j,p)::r,m,a::l,k,x,h=>by
    simp only [cc];split
    · rename_i cs ty hg;by_cases hj:j=k
      · subst hj;exact GV r _ l (x:=(cs.set p a,ty)) (by rw [ux,if_pos rfl,hg];rfl)
      · exact GV r _ l (x:=x) (by rw [ux,if_neg hj];exact h)
    · exact GV r _ l h
theorem GW{sM:Mem}{sO:bq}{ah aB:Env}{an β:Nat->Nat}:∀ (free:List (Nat × Nat)) (m:Mem) (l ms:List At) {k o:Nat} {mj:List At} {t:TypeId},kL sM sO free=some ms->(∀ k x,getM m k=some x->getM sM k≠none)->l.map (At.den ah an)=ms.map (At.den aB β) ->
    getM (cc m free l) k=some (mj,t)->(k,o)∈free->o<mj.length->∃f cs y ty,mj[o]? = some f/\getM sM k=some (cs,ty)/\cs[o]? = some y/\f.den ah an=y.den aB β
  | [],_,_,_,_,_,_,_,_,_,_,_,h,_=>by cases h
  | (j,p)::r,m,l,ms,k,o,mj,t,hr,BG,hl,hw,hi,ho=>by
    simp only [kL]at hr;split at hr
    · rename_i cs ty ml hg vb;split at hr
      · rename_i y hy;simp only [Option.some.injEq]at hr;subst hr;cases l with
        |nil=>simp at hl
        |cons a l =>
          simp only [List.map_cons,List.cons.injEq]at hl;simp only [cc]at hw;by_cases rh:(k,o)∈r
          · split at hw
            · exact GW r _ l ml vb (fun k' x' z7=>by
                rw [ux]at z7;split at z7
                · rename_i he;subst he;rw [hg];simp
                · exact BG _ _ z7) hl.2 hw rh ho
            · exact GW r _ l ml vb BG hl.2 hw rh ho
          · have hh:k=j/\o=p:=by simpa [rh]using hi
            obtain⟨rfl,rfl⟩:=hh;split at hw
            · rename_i gS Dy fM;obtain⟨pS,h1,h2,h3⟩:=xN r _ l hw;rw [ux,if_pos rfl,fM]at h1;simp only [Option.map_some,Option.some.injEq,Prod.mk.injEq]at h1;obtain⟨rfl,rfl⟩:=h1;refine⟨a,cs,y,ty, ?_,hg,hy,hl.1⟩;rw [<-h3 o rh]
              have:o<gS.length:=by simpa using (h2▸ho:o<(gS.set o a).length)
              rw [List.getElem?_set_self this]
            · rename_i fM;obtain⟨pS,h1,_,_⟩:=xN r _ l hw;rw [fM]at h1;cases h1
      · cases hr
    · rename_i ml hg vb;split at hr;rotate_left
      · cases hr
      simp only [Option.some.injEq]at hr;subst hr;cases l with
      |nil=>simp at hl
      |cons a l =>
        simp only [List.map_cons,List.cons.injEq]at hl;simp only [cc]at hw
        have tG:getM m j=none:=by
          cases hq:getM m j with
          |none=>rfl
          |some x=>exact absurd hg (BG j x hq)
        rw [tG]at hw;simp only at hw;obtain⟨pS,h1,_,_⟩:=xN r _ l hw
        have rh:(k,o)∈r:=by
          rcases List.mem_cons.1 hi with he|he
          · cases he;rw [tG]at h1;cases h1
          · exact he
        exact GW r _ l ml vb BG hl.2 hw rh ho
    · cases hr
theorem P8{k:Nat}{free:List (Nat × Nat)}:∀(x y:List At) (o:Nat),gW k free o x y=true->y.length=x.length/\∀j,(k,o+j) ∉ free->y[j]? = x[j]?
  | [],[],o,_=>⟨rfl,λ_ _=>rfl⟩
  | [],_::_,o,h=>by simp [gW]at h
  |_::_,[],o,h=>by simp [gW]at h
  |a::x,b::y,o,h=>by
    simp only [gW,Bool.and_eq_true,Bool.or_eq_true,List.contains_iff_mem,decide_eq_true_eq]at h;obtain⟨h1,h2⟩:=P8 x y (o+1) h.2;refine⟨by simp [h1],λj hj => ?_⟩;cases j with
    |zero =>
      rcases h.1 with h3|h3
      · exact (hj h3).elim
      · simp [h3]
    |succ j =>
      have:=h2 j (by rw [show o+1+j=o+(j+1) by omega];exact hj)
      simpa using this
theorem P9:∀{t:List (Nat × SV)} {i:Nat},ay t i ≠ .any->∃v,(i,v)∈t
  | [],_,h=>(h rfl).elim
  | (j,v)::r,i,h=>by
    rw [zl]at h;by_cases hj:j=i
    · exact⟨v,by simp [hj]⟩
    · rw [if_neg hj]at h;obtain⟨u,hu⟩:=P9 h;exact⟨u,List.mem_cons_of_mem _ hu⟩
theorem P_:∀{m:Mem} {k:Nat} {x:List At × TypeId},getM m k=some x->(k,x)∈m
  | [],_,_,h=>by cases h
  | (j,v)::r,k,x,h=>by
    rw [zZ]at h;by_cases hj:j=k
    · rw [if_pos hj]at h;cases h;simp [hj]
    · rw [if_neg hj]at h;exact List.mem_cons_of_mem _ (P_ h)
theorem GX:∀{m:bq} {k:Nat} {x:CE × Nat × TypeId},aM m k=some x->(k,x)∈m
  | [],_,_,h=>by cases h
  | (j,v)::r,k,x,h=>by
    rw [zz]at h;by_cases hj:j=k
    · rw [if_pos hj]at h;cases h;simp [hj]
    · rw [if_neg hj]at h;exact List.mem_cons_of_mem _ (GX h)
theorem CY:∀(x y:bq) (k:Nat),aM (x++y) k=match aM x k with|some v=>some v|none=>aM y k
  | [],y,k=>rfl
  | (j,v)::r,y,k=>by
    simp only [List.cons_append,zz];by_cases hj:j=k
    · simp only [if_pos hj]
    · simp only [if_neg hj];exact CY r y k
theorem T8{a b:St}{bp:List Nat}{free:List (Nat × Nat)}{own:List Nat}(h:pP a b bp free own=true) :
  (b.n=a.n/\b.r=a.r/\b.d=a.d/\b.df=a.df)/\(∀i,i ∉ bp->ay a.t i=.any∨ay b.t i=ay a.t i) /\
  (∀k mj t,getM a.m k=some (mj,t)->∃cs,getM b.m k=some (cs,t)/\cs.length=mj.length/\∀o,(k,o) ∉ free->cs[o]? = mj[o]?) /\
  ∀k x,aM a.o k=some x->k ∉ own->aM b.o k=some x:=by
 simp only [pP,Bool.and_eq_true,decide_eq_true_eq,List.all_eq_true,Bool.or_eq_true,List.contains_iff_mem]at h;obtain⟨⟨⟨h0,h3⟩,h1⟩,h2⟩:=h;refine⟨h0,λi hi => ?_,λk mj t hg => ?_,λk x hg hk => ?_⟩
 ·by_cases ha:ay a.t i=.any
  ·exact .inl ha
  ·obtain⟨v,hv⟩:=P9 ha;rcases h1 _ hv with (h3|h3)|h3
   ·exact (hi h3).elim
   ·exact .inl h3
   ·exact .inr h3
 ·have:=h2 _ (P_ hg)
  simp only at this;split at this
  ·rename_i cs t' hb;simp only [Bool.and_eq_true,decide_eq_true_eq]at this;obtain⟨rfl,h3⟩:=this;obtain⟨q1,q2⟩:=P8 _ _ 0 h3;exact⟨cs,hb,q1,λo ho=>q2 o (by simpa using ho)⟩
  ·cases this
 ·rcases h3 _ (GX hg)with h4|h4
  ·exact (hk h4).elim
  ·rw [h4];exact hg
theorem P'{st:St}(h:st.WF):∀(bp:List Nat) {vs:List CV},fL st.t bp=some vs->vs.all (CV.wf st.c)=true
  | [],vs,hr=>by simp only [fL,Option.some.injEq]at hr;subst hr;rfl
  |s::r,vs,hr=>by
    simp only [fL]at hr;split at hr
    · rename_i v l h1 h2;simp only [Option.some.injEq]at hr;subst hr
      have:=h.t s
      rw [h1]at this;simp only [List.all_cons,P' h r h2,Bool.and_true];exact this
    · cases hr
theorem Qa{c:aw}:∀(bp:List Nat) (vs:List CV) (l:List At) (t:List (Nat × SV)),(∀i,(ay t i).wf c=true)->vs.all (CV.wf c)=true->l.all (At.wf c)=true->∀i,(ay (dN t bp vs l) i).wf c=true
  | [],vs,l,t,h,_,_=>by cases vs<;>exact h
  |s::r,[],l,t,h,_,_=>h
  |s::r,v::vs,l,t,h,hv,hl=>by
    simp only [List.all_cons,Bool.and_eq_true]at hv;simp only [dN];refine Qa r vs _ _ (λi => ?_) hv.2 (zr hl _).2;rw [zl];by_cases hi:s=i
    · rw [if_pos hi];cases v with
      |one a =>
        simp only [nW,SV.wf,CV.wf];cases l with
        |nil=>exact hv.1
        |cons b l=>simp only [List.all_cons,Bool.and_eq_true]at hl;exact hl.1
      |agg x=>exact (zr hl _).1
    · rw [if_neg hi];exact h i
theorem JQ{c:aw}:∀ (free:List (Nat × Nat)) (m:Mem) (l:List At),(∀ k cs t,getM m k=some (cs,t)->k < c.nk/\cs.all (At.wf c)=true)->l.all (At.wf c)=true ->
    ∀k cs t,getM (cc m free l) k=some (cs,t)->k<c.nk/\cs.all (At.wf c)=true
  | [],m,l,h,_=>by cases l<;>exact h
  | (j,p)::r,m,[],h,_=>h
  | (j,p)::r,m,a::l,h,hl=>by
    simp only [List.all_cons,Bool.and_eq_true]at hl;simp only [cc];split
    · rename_i cs ty hg;refine JQ r _ l (λk gS t hk => ?_) hl.2;rw [ux]at hk;by_cases hj:j=k
      · subst hj;rw [if_pos rfl,hg]at hk;simp only [Option.map_some,Option.some.injEq,Prod.mk.injEq]at hk;obtain⟨rfl,rfl⟩:=hk;have h1:=h j cs ty hg;refine⟨h1.1,List.all_eq_true.2 λx hx => ?_⟩;rcases List.mem_or_eq_of_mem_set hx with hx|rfl
        · exact List.all_eq_true.1 h1.2 x hx
        · exact hl.1
      · rw [if_neg hj]at hk;exact h k gS t hk
    · exact JQ r m l h hl.2
theorem JR{α β:Type}:∀(x:List α) (y:List β),x.length=y.length->∀a∈x,∃b,(a,b)∈x.zip y
  | [],_,_,a,h=>by cases h
  |a0::x,[],h,_,_=>by simp at h
  |a0::x,b0::y,h,a,ha=>by
    rcases List.mem_cons.1 ha with rfl|ha
    · exact⟨b0,by simp⟩
    · obtain⟨b,hb⟩:=JR x y (by simpa using h) a ha;exact⟨b,by simp [hb]⟩
theorem Qb{α β:Type}:∀(x:List α) (y:List β),y.Nodup->∀{a a':α} {b:β},(a,b)∈x.zip y->(a',b)∈x.zip y->a=a'
  | [],_,_,_,_,_,h,_=>by simp at h
  |_::_,[],_,_,_,_,h,_=>by simp at h
  |a0::x,b0::y,hn,a,a',b,h,h'=>by
    simp only [List.nodup_cons]at hn;simp only [List.zip_cons_cons,List.mem_cons,Prod.mk.injEq]at h h';rcases h with ⟨rfl,rfl⟩|h
    · rcases h' with ⟨rfl,_⟩|h'
      · rfl
      · exact (hn.1 (List.of_mem_zip h').2).elim
    · rcases h' with ⟨rfl,rfl⟩|h'
      · exact (hn.1 (List.of_mem_zip h).2).elim
      · exact Qb x y hn.2 h h'
theorem GY(kf k:Nat)(i:Nat):∀t:List (Nat × SV),ay (qW kf k t) i=sn kf k (ay t i)
  | []=>rfl
  | (j,v)::r=>by
    simp only [qW,zl,GY kf k i r];split<;>rfl
theorem yA{kf k:Nat}(iS:kf≠k)(i:Nat):∀o:bq,aM o k=none->aM (pO kf k o) i=if i=k then aM o kf else if i=kf then none else aM o i
  | [],_=>by simp [pO,aM]
  | (j,v)::r,h=>by
    rw [zz]at h;split at h
    · cases h
    · rename_i hj;simp only [pO,zz,yA iS i r h];generalize aM r i=a;generalize aM r kf=b;by_cases h1:j=kf
      · simp only [h1,if_true];by_cases h2:i=k
        · rw [if_pos h2.symm,if_pos h2]
        · rw [if_neg (λe=>h2 e.symm),if_neg h2,if_neg h2];by_cases h3:i=kf
          · rw [if_pos h3,if_pos h3]
          · rw [if_neg h3,if_neg h3,if_neg (λe=>h3 e.symm)]
      · simp only [h1,if_false];by_cases h4:j=i
        · rw [if_pos h4,if_neg (λe=>hj (h4.trans e)),if_neg (λe=>h1 (h4.trans e)),if_pos h4]
        · rw [if_neg h4,if_neg h4]
theorem JS{kf k:Nat}{ρ:Env}{β:Nat->Nat}(hb:β kf=β k/\β (kf+1)=β (k+1)/\β (kf+2)=β (k+2)/\β (kf+3)=β (k+3)):∀v:SV,(sn kf k v).den ρ β=v.den ρ β:=by
 intro v;unfold sn;split
 ·rename_i j;split
  ·rename_i h;subst h;simp only [SV.den,CV.den,At.den,hb.1,hb.2.1,hb.2.2.1,hb.2.2.2]
  ·rfl
 ·rfl
theorem JT{kf k:Nat}{v:SV}(h:sn kf k v ≠ .any):v ≠ .any:=by
 intro e;subst e;exact h rfl
theorem JU{ρ:Env}{β:Nat->Nat}{st:St}{a:Act}{w:World}{kf k:Nat}(hC:Core W R Z ρ β st a w)(iS:kf≠k)(hb:β kf=β k/\β (kf + 1)=β (k + 1)/\β (kf + 2)=β (k + 2)/\β (kf + 3)=β (k + 3))
    (hm:getM st.m k=none) (ho:aM st.o k=none) (hk:k+3<st.c.nk):Core W R Z ρ β {st with t:=qW kf k st.t,o:=pO kf k st.o} a w:=by
  have obj:∀{j e},aK st.m (pO kf k st.o) j=some e->∃j',aK st.m st.o j'=some e/\((j=k/\j'=kf)∨(j≠k/\j≠kf/\j'=j)∨(j'=j/\∃x,getM st.m j=some x))/\(Holds W ρ β j' e w->Holds W ρ β j e w)/\bK β j e=bK β j' e:=by
    intro j e hg;unfold aK at hg;cases GZ:getM st.m j with
    |some x =>
      rw [GZ]at hg;exact⟨j,by unfold aK;rw [GZ];exact hg,.inr (.inr ⟨rfl,x,rfl⟩),λh=>h,rfl⟩
    |none =>
      rw [GZ]at hg;simp only [yA iS j st.o ho]at hg;by_cases h1:j=k
      · subst h1;rw [if_pos rfl]at hg;cases hx:aM st.o kf with
        |none=>rw [hx]at hg;cases hg
        |some x =>
          rw [hx]at hg;simp only [Option.some.injEq]at hg;subst hg;refine⟨kf,lK (hC.wf.ap kf x hx) hx,.inl ⟨rfl,rfl⟩,λh => ?_,by simp only [bK,hb.1,hb.2.1]⟩;simp only [Holds]at h ⊢;rw [<-hb.1,<-hb.2.1,<-hb.2.2.1,<-hb.2.2.2];exact h
      · rw [if_neg h1]at hg;by_cases h2:j=kf
        · rw [if_pos h2]at hg;cases hg
        · rw [if_neg h2]at hg;cases hx:aM st.o j with
          |none=>rw [hx]at hg;cases hg
          |some x =>
            rw [hx]at hg;simp only [Option.some.injEq]at hg;subst hg;exact⟨j,lK GZ hx,.inr (.inl ⟨h1,h2,rfl⟩),λh=>h,rfl⟩
  have Qc:∀{x},getM st.m kf=some x->aM st.o kf=none:=λ{x} h=>by
    cases hx:aM st.o kf with
    |none=>rfl
    |some y=>have:=hC.wf.ap kf y hx;rw [this]at h;cases h
  refine⟨hC.size,λi hn => ?_,hC.kQ,hC.below,λj e hg => ?_,λj j' e e' b hx hy kR mI => ?_,hC.gz,hC.kF,hC.ia,hC.dn,⟨λi => ?_,hC.wf.m,λj ce sz t hg => ?_,λj x hg => ?_,hC.wf.r,hC.wf.d,hC.wf.k,hC.wf.df⟩,hC.kn⟩
  · simp only [GY]at hn ⊢;rw [hC.tmps i (JT hn),JS hb]
  · obtain⟨j',h1,_,h3,_⟩:=obj hg;exact h3 (hC.mem j' e h1)
  · obtain⟨i,h1,h2,_,h4⟩:=obj hx;obtain⟨i',g1,g2,_,g4⟩:=obj hy;rw [h4]at kR;rw [g4]at mI
    have:=hC.inj i i' e e' b h1 g1 kR mI
    subst this;rcases h2 with ⟨a1,a2⟩|⟨a1,a2,a3⟩|⟨a1,x,a2⟩<;>rcases g2 with ⟨b1,b2⟩|⟨b1,b2,b3⟩|⟨b1,y,GJ⟩
    · exact a1.trans b1.symm
    · exact (b2 (b3.symm.trans a2)).elim
    · exfalso;have e1:j'=kf:=b1.symm.trans a2;subst e1;unfold aK at hx;subst a1;rw [hm]at hx;simp only [yA iS j st.o ho,if_true]at hx;rw [Qc GJ]at hx;cases hx
    · exact (a2 (a3.symm.trans b2)).elim
    · exact a3.symm.trans b3
    · exact a3.symm.trans b1
    · exfalso;have e1:j=kf:=a1.symm.trans b2;subst e1;unfold aK at hy;subst b1;rw [hm]at hy;simp only [yA iS j' st.o ho,if_true]at hy;rw [Qc a2]at hy;cases hy
    · exact a1.symm.trans b3
    · exact a1.symm.trans b1
  · simp only [GY];have h1:=hC.wf.t i;unfold sn;split
    · rename_i j hj;split
      · show (decide (k+3<st.c.nk))=true;simpa using hk
      · rw [hj]at h1;exact h1
    · exact h1
  · simp only [yA iS j st.o ho]at hg;split at hg
    · rename_i h1;subst h1;exact⟨hk,(hC.wf.o kf ce sz t hg).2⟩
    · split at hg
      · cases hg
      · exact hC.wf.o j ce sz t hg
  · simp only [yA iS j st.o ho]at hg;split at hg
    · rename_i h1;subst h1;exact hm
    · split at hg
      · cases hg
      · exact hC.wf.ap j x hg
theorem Qd:∀(jF:List (Nat × Nat)) (st:St),(jT jF st).m=st.m/\(jT jF st).c=st.c/\(jT jF st).n=st.n/\(jT jF st).r=st.r/\(jT jF st).d=st.d/\(jT jF st).k=st.k/\(jT jF st).df=st.df
 | [],st=>⟨rfl,rfl,rfl,rfl,rfl,rfl,rfl⟩
 | (kf,k)::r,st=>Qd r _
theorem Qe{ρ:Env}{β:Nat->Nat}{a:Act}{w:World}:∀ (jF:List (Nat × Nat)) {st:St},Core W R Z ρ β st a w ->
    (∀p∈jF,p.1≠p.2/\(β p.1=β p.2/\β (p.1+1)=β (p.2+1)/\β (p.1+2)=β (p.2+2)/\β (p.1+3)=β (p.2+3))/\getM st.m p.2=none/\aM st.o p.2=none/\p.2+3<st.c.nk)->(jF.map (·.2)).Nodup->Core W R Z ρ β (jT jF st) a w
  | [],st,hC,_,_=>hC
  | (kf,k)::r,st,hC,h,hn=>by
    obtain⟨h1,h2,h3,h4,h5⟩:=h (kf,k) (List.mem_cons_self ..);simp only [List.map_cons,List.nodup_cons]at hn;refine Qe r (JU hC h1 h2 h3 h4 h5) (λp hp => ?_) hn.2;obtain⟨g1,g2,g3,g4,g5⟩:=h p (List.mem_cons_of_mem _ hp);refine⟨g1,g2,g3, ?_,g5⟩;simp only [yA h1 p.2 st.o h4];rw [if_neg λe=>hn.1 (List.mem_map.2 ⟨p,hp,e⟩)];split
    · rfl
    · exact g4
theorem Qf{i:Nat}:∀(jF:List (Nat × Nat)) (st:St),(∀p∈jF,ay st.t i ≠ .cv (.one (.own p.1)))->ay (jT jF st).t i=ay st.t i
  | [],st,_=>rfl
  | (kf,k)::r,st,h=>by
    have e:ay (qW kf k st.t) i=ay st.t i:=by
      rw [GY];have h1:=h (kf,k) (List.mem_cons_self ..);unfold sn;split
      · rename_i j hj;rw [hj]at h1;rw [if_neg (λe=>h1 (by rw [e]))];exact hj.symm
      · rfl
    show ay (jT r _).t i=_;rw [Qf r _ (λp hp=>by rw [show ay ({st with t:=qW kf k st.t,o:=pO kf k st.o}:St).t i=ay (qW kf k st.t) i from rfl,e];exact h p (List.mem_cons_of_mem _ hp))];exact e
theorem Qg{j:Nat}:∀(jF:List (Nat × Nat)) (st:St),(∀p∈jF,p.1≠p.2/\aM st.o p.2=none/\j≠p.1/\j≠p.2)->(jF.map (·.2)).Nodup->aM (jT jF st).o j=aM st.o j
  | [],st,_,_=>rfl
  | (kf,k)::r,st,h,hn=>by
    obtain⟨h1,h2,h3,h4⟩:=h (kf,k) (List.mem_cons_self ..);simp only [List.map_cons,List.nodup_cons]at hn;have e:∀i,i≠k->i≠kf->aM (pO kf k st.o) i=aM st.o i:=λi a b=>by rw [yA h1 i st.o h2,if_neg a,if_neg b]
    show aM (jT r _).o j=_;rw [Qg r _ (λp hp => ?_) hn.2]
    · exact e j h4 h3
    · obtain⟨g1,g2,g3,g4⟩:=h p (List.mem_cons_of_mem _ hp);refine⟨g1, ?_,g3,g4⟩;simp only [yA h1 p.2 st.o h2];rw [if_neg λe=>hn.1 (List.mem_map.2 ⟨p,hp,e⟩)];split
      · rfl
      · exact g2
theorem Qh{st s:St}{ρ aB ah:Env}{β an:Nat->Nat}{a:Act}{w:World}{bp kill:List Nat}{free:List (Nat × Nat)}{vs kM:List CV}{mV:List At}{ks:List CK}{sK:List Nat}(jG:st.WF)(uH:cd.den st.k ρ)(hC:Core W R Z aB β s a w)(jH:Env.aE st.c ρ aB)(sB:Env.aE st.c ρ ah)
    (Qi:∀j,j<st.c.nk->an j=β j)
    (El:fL st.t bp=some vs) (hr:fL s.t bp=some kM) (iv:kM.map CV.shape=vs.map CV.shape) (T9:kL s.m s.o free=some mV)
    (mW:(ax st.c ks).map (At.den ah an)=(kM.flatMap CV.cells++mV).map (At.den aB β)) (hn:s.n=st.n/\s.r=st.r/\s.d=st.d/\s.df=st.df)
    (hs:∀i,i ∉ bp->ay (dN (fz st.t kill) bp vs (ax st.c ks)) i=.any∨ay s.t i=ay (dN (fz st.t kill) bp vs (ax st.c ks)) i)
    (hm:∀k mj t,getM (cc st.m free ((ax st.c ks).drop (vs.flatMap CV.cells).length)) k=some (mj,t)->∃cs,getM s.m k=some (cs,t)/\cs.length=mj.length/\∀o,(k,o) ∉ free->cs[o]? = mj[o]?)
    (hlen:(aQ (ax st.c ks)).length=(aQ (kM.flatMap CV.cells++mV)).length)
    (wG:∀p∈(aQ (ax st.c ks)).zip (aQ (kM.flatMap CV.cells++mV)),wF (bo st.c ks) s.o ah aB an β p.1 p.2) (tF:(aQ (kM.flatMap CV.cells++mV)).Nodup)
    (JV:∀k x,aM (cf st.o sK) k=some x->aM s.o k=some x) (Em:∀k∈aQ (kM.flatMap CV.cells++mV),aM (cf st.o sK) k=none) :
    Core W R Z ah an {t:=dN (fz st.t kill) bp vs (ax st.c ks),n:=st.n,m:=cc st.m free ((ax st.c ks).drop (vs.flatMap CV.cells).length),c:=aX st.c ks,o:=bo st.c ks++cf st.o sK,r:=st.r,d:=st.d,k:=st.k,df:=st.df} a w:=by
  have hle:=xF ks st.c
  have uv:∀i,(ay (fz st.t kill) i).wf st.c=true:=λi=>by
    rcases GU st.t i kill with h|h<;>rw [h]
    · rfl
    · exact jG.t i
  have jq:∀j,j<st.c.nk->an j=β j:=Qi;have JW:∀{x:SV},x.wf st.c=true->x.den ah an=x.den aB β:=λhx=>(SV.ae sB jq hx).trans (SV.ae jH (λ_ _=>rfl) hx).symm;have JX:∀{x:At},x.wf st.c=true->x.den ah an=x.den aB β:=λhx=>(At.ae sB jq hx).trans (At.ae jH (λ_ _=>rfl) hx).symm
  have En:(kM.flatMap CV.cells).length=(vs.flatMap CV.cells).length:=by
    have:∀(x y:List CV),x.map CV.shape=y.map CV.shape->(x.flatMap CV.cells).length=(y.flatMap CV.cells).length:=by
      intro x
      induction x with
      |nil=>intro y h;cases y with
        |nil=>rfl
        |cons b y=>simp at h
      |cons c x ih=>intro y h;cases y with
        |nil=>simp at h
        |cons b y =>
          simp only [List.map_cons,List.cons.injEq]at h;simp only [List.flatMap_cons,List.length_append,ih y h.2]
          have:c.cells.length=b.cells.length:=by
            have h3:=h.1;cases c<;>cases b<;>simp_all [CV.shape,CV.cells]
          rw [this]
    exact this _ _ iv
  have Eo:((ax st.c ks).drop (vs.flatMap CV.cells).length).map (At.den ah an)=mV.map (At.den aB β):=by
    rw [List.map_drop,mW,<-List.map_drop,<-En,List.drop_left]
  have sL:∀{k x},aM (cf st.o sK) k=some x->k+3<st.c.nk/\cH st.c x.1=true/\getM st.m k=none:=λ{k x} hg=>by
    rw [xL]at hg;split at hg
    · cases hg
    · exact⟨(jG.o k x.1 x.2.1 x.2.2 hg).1,(jG.o k x.1 x.2.1 x.2.2 hg).2,jG.ap k x hg⟩
  have T_:∀k cs t,getM (cc st.m free ((ax st.c ks).drop (vs.flatMap CV.cells).length)) k=some (cs,t)->k<(aX st.c ks).nk/\cs.all (At.wf (aX st.c ks))=true:=by
    refine JQ free st.m _ (λk cs t hk => ?_) (zr (Ba ks st.c) _).2
    have:=jG.m k cs t hk
    exact⟨Nat.lt_of_lt_of_le this.1 hle.k,AY hle this.2⟩
  have mlt:∀{k cs t},getM (cc st.m free ((ax st.c ks).drop (vs.flatMap CV.cells).length)) k=some (cs,t)->k<st.c.nk:=λ{k cs t} hg=>by
    obtain⟨pS,h1,_,_⟩:=xN free st.m _ hg;exact (jG.m k pS t h1).1
  have wH:∀{k},getM st.m k=none->getM (cc st.m free ((ax st.c ks).drop (vs.flatMap CV.cells).length)) k=none:=λ{k} hk=>by
    cases hg:getM (cc st.m free ((ax st.c ks).drop (vs.flatMap CV.cells).length)) k with
    |none=>rfl
    |some x =>
      obtain⟨pS,h1,_,_⟩:=xN free st.m _ (show _=some (x.1,x.2) from hg);rw [hk]at h1;cases h1
  have JY:∀{k},st.c.nk<=k->getM (cc st.m free ((ax st.c ks).drop (vs.flatMap CV.cells).length)) k=none:=λ{k} hk=>by
    cases hg:getM (cc st.m free ((ax st.c ks).drop (vs.flatMap CV.cells).length)) k with
    |none=>rfl
    |some x=>have:=mlt (show _=some (x.1,x.2) from hg);omega
  have obj:∀ k e,aK (cc st.m free ((ax st.c ks).drop (vs.flatMap CV.cells).length)) (bo st.c ks++cf st.o sK) k=some e ->
      ∃j e0,aK s.m s.o j=some e0/\Holds W ah an k e w/\bK an k e=bK β j e0 /\
        ((j=k/\k<st.c.nk/\((∃cs t,getM s.m k=some (cs,t))∨∃x,aM (cf st.o sK) k=some x))∨(st.c.nk<=k/\(k,j)∈(aQ (ax st.c ks)).zip (aQ (kM.flatMap CV.cells++mV)))):=by
    intro k e hg;unfold aK at hg;cases tG:getM (cc st.m free ((ax st.c ks).drop (vs.flatMap CV.cells).length)) k with
    |some x =>
      obtain⟨mj,t⟩:=x;rw [tG]at hg;simp only [Option.some.injEq]at hg;subst hg;obtain⟨cs,q1,q2,q3⟩:=hm k mj t tG;have hk:=mlt tG;obtain⟨m1,m2⟩:=hC.fix q1;refine⟨k,.fix cs t,pk q1,⟨by rw [jq k hk];exact m1, ?_⟩,by simp only [bK,jq k hk],.inl ⟨rfl,hk,.inl ⟨cs,t,q1⟩⟩⟩;rw [jq k hk,m2];congr 3;apply List.ext_getElem?;intro o;simp only [List.getElem?_map];by_cases ho:o<mj.length
      · by_cases hf:(k,o)∈free
        · obtain⟨f,gS,y,ty,r1,r2,r3,r4⟩:=GW (ah:=ah) (aB:=aB) (an:=an) (β:=β) free st.m _ mV T9 (fun k x hx=>by
            obtain⟨y,hy⟩:=GV free st.m ((ax st.c ks).drop (vs.flatMap CV.cells).length) hx;obtain⟨cs,uu,_⟩:=hm k y.1 y.2 hy;rw [uu];simp) Eo tG hf ho
          rw [q1]at r2;simp only [Option.some.injEq,Prod.mk.injEq]at r2;obtain⟨rfl,rfl⟩:=r2;rw [r1,r3,Option.map_some,Option.map_some,r4]
        · rw [q3 o hf];obtain⟨pS,p1,p2,p3⟩:=xN free st.m _ tG;cases hx:mj[o]? with
          |none=>rfl
          |some x =>
            have T':pS[o]? = some x:=by rw [p3 o hf,hx]
            simp only [Option.map_some];exact congrArg some (JX (List.all_eq_true.1 (jG.m k pS t p1).2 x (List.mem_of_getElem? T'))).symm
      · rw [List.getElem?_eq_none (by omega),List.getElem?_eq_none (by omega)];rfl
    |none =>
      rw [tG]at hg;simp only [CY]at hg;cases uG:aM (bo st.c ks) k with
      |some x =>
        rw [uG]at hg;simp only [Option.some.injEq]at hg;obtain⟨h1,h2,h3,n0,h4,h5⟩:=CX ks st.c uG;obtain⟨j,hj⟩:=JR _ _ hlen k h3;obtain⟨⟨e0,e1,e2,e3⟩,n,ce,sz,t,p1,p2,p3⟩:=wG (k,j) hj;simp only at e0 e1 e2 e3 p1 p2;rw [uG]at p1;simp only [Option.some.injEq]at p1;subst p1;subst hg;have hE:=lK (hC.wf.ap j _ p2) p2;have hH:=hC.mem j _ hE;refine⟨j,_,hE, ?_,by simp only [bK,e0,e1],.inr ⟨h1,hj⟩⟩;simp only [Holds]at hH ⊢;rw [e0,e1,e2,e3,p3];exact hH
      |none =>
        rw [uG]at hg;simp only at hg;cases yB:aM (cf st.o sK) k with
        |none=>rw [yB]at hg;cases hg
        |some x =>
          rw [yB]at hg;simp only [Option.some.injEq]at hg;subst hg;obtain⟨h1,h2,h3⟩:=sL yB;have h4:=JV k x yB;have hE:=lK (hC.wf.ap k _ h4) h4;have hH:=hC.mem k _ hE;refine⟨k,_,hE, ?_, ?_,.inl ⟨rfl,by omega,.inr ⟨x,rfl⟩⟩⟩
          · simp only [Holds]at hH ⊢;rw [jq k (by omega),jq (k+1) (by omega),jq (k+2) (by omega),jq (k+3) (by omega),(uX sB jq h2).trans (uX jH (β:=β) (λ_ _=>rfl) h2).symm];exact hH
          · simp only [bK,jq k (by omega:k<st.c.nk),jq (k+1) (by omega)]
  have wI:st.d.map an=st.d.map β:=List.map_congr_left λk hk=>jq k (jG.d k hk);refine⟨by rw [hC.size];exact hn.1,λi vZ => ?_, ?_,hC.below,λk e hg => ?_,λk k' e e' b hx hy kR mI => ?_,λk e hg => ?_,λk k' e e' hx hy he => ?_, ?_, ?_,⟨?_,T_,λk ce sz t hg => ?_,λk x hg => ?_, ?_, ?_,cd.aT hle jG.k,λx hx y hy=>Nat.lt_of_lt_of_le (jG.df x hx y hy) hle.k⟩,cd.ae sB jG.k uH⟩
  · by_cases hi:i∈bp
    · obtain⟨u,v',h1,h2,h3⟩:=P7 (ah:=ah) (aB:=aB) (an:=an) (β:=β) bp vs kM (ax st.c ks) (fz st.t kill) mV hr iv mW hi
      have:=hC.tmps i (by rw [h2];simp)
      rw [this];simp only;rw [h1,h2];exact congrArg some h3.symm
    · rcases hs i hi with h|h
      · exact (vZ h).elim
      · have:=hC.tmps i (by rw [h];exact vZ)
        rw [this,h];refine congrArg some (JW ?_).symm;rw [Ek _ _ _ _ hi];exact uv i
  · rw [hC.kQ,hn.2.2.1,hn.2.2.2,GD jG.df jq];simp only [marksOf];exact congrArg _ (List.map_congr_left λk hk=>by rw [jq k (jG.d k hk)])
  · obtain⟨j,e0,_,h2,_⟩:=obj k e hg;exact h2
  · obtain⟨j,e0,q1,q2,q3,q4⟩:=obj k e hx;obtain⟨j',Ua,p1,p2,p3,p4⟩:=obj k' e' hy;rw [q3]at kR;rw [p3]at mI
    have hj:j=j':=hC.inj j j' e0 Ua b q1 p1 kR mI
    subst hj;rcases q4 with ⟨r1,r2,r3⟩|⟨r1,r2⟩<;>rcases p4 with ⟨t1,t2,t3⟩|⟨t1,t2⟩
    · exact r1.symm.trans t1
    · exfalso;have h_:=(List.of_mem_zip t2).2;rcases r3 with ⟨cs,t,r3⟩|⟨x,r3⟩
      · obtain⟨_,n,ce,sz,t,u1,u2,u3⟩:=wG _ t2;simp only at u2
        have:=hC.wf.ap j _ u2
        rw [r1]at this;rw [this]at r3;cases r3
      · have:=Em j h_
        rw [r1,r3]at this;cases this
    · exfalso;have h_:=(List.of_mem_zip r2).2;rcases t3 with ⟨cs,t,t3⟩|⟨x,t3⟩
      · obtain⟨_,n,ce,sz,t,u1,u2,u3⟩:=wG _ r2;simp only at u2
        have:=hC.wf.ap j _ u2
        rw [t1]at this;rw [this]at t3;cases t3
      · have:=Em j h_
        rw [t1,t3]at this;cases this
    · exact Qb _ _ tF r2 t2
  · rw [jq k (jG.r k e hg)];exact hC.gz k e (by rw [hn.2.1];exact hg)
  · rw [jq k (jG.r k e hx),jq k' (jG.r k' e' hy)]at he;exact hC.kF k k' e e' (by rw [hn.2.1];exact hx) (by rw [hn.2.1];exact hy) he
  · have:=hC.ia
    rw [hn.2.2.1]at this;rw [wI];exact this
  · have:=hC.dn
    rw [hn.2.2.1]at this;rw [wI];exact this
  · exact Qa bp vs _ _ (λi=>SV.aT hle (uv i)) (List.all_eq_true.2 λx hx=>CV.aT hle (List.all_eq_true.1 (P' jG bp El) x hx)) (Ba ks st.c)
  · simp only [CY]at hg;cases uG:aM (bo st.c ks) k with
    |some x =>
      rw [uG]at hg;simp only [Option.some.injEq]at hg;obtain⟨h1,h2,h3,n0,h4,h5⟩:=CX ks st.c uG;subst hg;simp only at h4;subst h4;exact⟨h2,by simp [cH,Sg.wf,h5]⟩
    |none =>
      rw [uG]at hg;obtain⟨h1,h2,h3⟩:=sL hg;exact⟨Nat.lt_of_lt_of_le h1 hle.k,A0 hle h2⟩
  · simp only [CY]at hg;cases uG:aM (bo st.c ks) k with
    |some y=>exact JY (CX ks st.c uG).1
    |none =>
      rw [uG]at hg;exact wH (sL hg).2.2
  · exact λk e hg=>Nat.lt_of_lt_of_le (jG.r k e hg) hle.k
  · exact λk hk=>Nat.lt_of_lt_of_le (jG.d k hk) hle.k
end Vc
