import Derived.Test.YtnjpiipdgapakaaGreatDoorVcY
import Derived.CallsIn
import Derived.TacticsIn
import Derived.RecoverIn
import Derived.RangeFuncLeaves
import Derived.RangeFuncNested
set_option linter.unusedVariables false
set_option linter.unusedSimpArgs false
namespace Vc
open Go Go.RowKit
variable {P:Program} {W:dN} {Q:Value->Prop} {QM QP:World->Value->Prop} {R:Nat->Loop} {Z:List Nat}
def Fr(r:Option Nat):Fence := {Fence.wide with round:=r}
theorem sD(r:Option Nat)(f:FuncId):(Fr r).fn f:=trivial
theorem C_{r:Option Nat}{n:Nat}:(Fr r).depth.isSome=true->1<=n:=λh=>by cases h
theorem IY{r:Option Nat}{n:Nat}{f:FuncId}{args:Array Value}{w:World}{T:Ending->World->Prop}:CallsIn (Fr r) n P f args w T↔Calls P f args w T:=callsIn_wide (n:=n)
theorem IZ{r:Option Nat}{n:Nat}{row:String}{args:Array Value}{w:World}{T:Value->World->Prop}(h:Rows P row args w T):RowsIn (Fr r) n P row args w T:=by
 intro c cs _;obtain⟨v,w',h1,h2⟩:=h c cs;exact⟨v,w',h1,(StepsIn.of_steps h2).mono λm _=>fenced_wide P m⟩
theorem tq{o:Oper}{a:Act}{w:World}{next:Act->World->Prop}{Q':Exit->Act->World->Prop}(r:Option Nat)(n:Nat)(hd:∀c,o.op ≠ .defer c)(h:o.wp P a w next Q'):o.wpIn (Fr r) n P a w next Q':=by
  refine⟨λf _=>sD r f, ?_⟩;rw [Oper.semAt_eq _ _ _ hd];unfold Oper.wp at h;generalize (execOp a.eval o).run P w=x at h ⊢;cases x with
  |ok nx w' =>
    cases nx<;>simp only [Oper.upon]at h<;>first
      |exact h
      |exact⟨C_,IY.2 h⟩
      |exact⟨C_,IZ h⟩
      |exact h.elim
  |halt x w'=>cases x<;>simp only [Oper.upon]at h<;>first|exact h|exact h.elim
def tt(W:dN)(R:Nat->Loop)(Z:List Nat)(st:St)(J:Env)(β:Nat->Nat)(K:St->Env->Prop)(next:Act->World->Prop):Prop :=
 ∀gu aa ag a' w',K gu aa->st.c.le gu.c->Env.au st.c J aa->(∀k,k<st.c.nk->ag k=β k)->Core W R Z aa ag gu a' w'->next a' w'
theorem tt.kU{st gu:St}{J aa:Env}{β ag:Nat->Nat}{K:St->Env->Prop}{next:Act->World->Prop}(h:tt W R Z st J β K next)(hc:st.c.le gu.c)(hl:Env.au st.c J aa)(hb:∀k,k<st.c.nk->ag k=β k):tt W R Z gu aa ag K next :=
 λs ar aQ a w hk h1 h2 h3 hC=>h s ar aQ a w hk (an.le_trans hc h1) (Env.ae hc hl h2) (λk hk=>(h3 k (Nat.lt_of_lt_of_le hk hc.k)).trans (hb k hk)) hC
theorem C'{st:St}{o:Oper}{K:St->Env->Prop}{J:Env}(h:oI P W st o K J){β:Nat->Nat}{a:Act}{w:World}(hC:Core W R Z J β st a w){next:Act->World->Prop}(hn:tt W R Z st J β K next)(Q':Exit->Act->World->Prop):o.wp P a w next Q':=by
 obtain⟨s',aa,sv,C,h1,h2,h3,h4⟩:=h;exact Ig (hC.au h3) (h4 aa (Env.ah _ _)) Q' λag a' w' hb dS=>hn s' aa ag a' w' h1 h2 h3 hb dS
theorem zL{st st0:St}{dst:Option Tmp}{v:SV}{c:an}{K:St->Env->Prop}{J cM:Env}{next:Act->World->Prop}(h:St.put (PA P W Q QM QP) st dst v c K J){β:Nat->Nat}{a:Act}{w:World}{val:Value}
  (hC:Core W R Z J β st a w) (SS:st.c.le c) {bh:Nat->Nat} (h0:st0.c.le c) (hl:Env.au st0.c cM J) (gY:∀k,k<st0.c.nk->β k=bh k) (hv:v ≠ .any->val=v.den J β) (hn:tt W R Z st0 cM bh K next):next (a.put dst val) w:=by
 obtain⟨h1,h2⟩:=zf h;obtain⟨q1,q2,q3,q4,q5,q6⟩:=zu st dst v c;refine hn _ J β _ w h1 (by rw [q1];exact h0) hl gY ⟨by rw [Ia,hC.size,q3],λi hi => ?_,by rw [Ib,hC.ja,q6,(zk _ _ _ _).2],hC.below,by rw [q2,q4];exact hC.mem,by rw [q2,q4];exact hC.inj,by rw [q5];exact hC.fb,by rw [q5];exact hC.iU,by rw [q6];exact hC.fR,by rw [q6];exact hC.dn,CT hC.wf SS h2,by rw [(zk _ _ _ _).1];exact hC.kn⟩;rw [zl]at hi ⊢;by_cases hd:dst=some i
 ·rw [if_pos hd]at hi ⊢;rw [hd,ed i (by rw [hC.size];exact (h2 i hd).1),if_pos rfl,hv hi]
 ·rw [if_neg hd]at hi ⊢
  have h3:(a.put dst val).tmps[i]? = a.tmps[i]? := by
   cases CS:dst with
   |none=>rfl
   |some d=>rw [ed i (by rw [hC.size];exact (h2 d CS).1),if_neg (λe=>hd (by rw [CS,e]))]
  rw [h3];exact hC.tmps i hi
theorem Core.cQ{J:Env}{β:Nat->Nat}{st:St}{a:Act}{w:World}{d:Nat}{e:BE}{b:Bool}(h:Core W R Z J β st a w)(hg:aq st.t d=.cv (.one (.bool e)))(hb:e.den J=b):Core W R Z J β (st.cQ d b) a w where
 size:=h.size
 tmps i hn:=by
  simp only [St.cQ,zi]at hn ⊢;by_cases hi:d=i
  ·rw [if_pos hi,<-hi,h.tmps d (by rw [hg];simp),hg];simp only [SV.den,CV.den,At.den,BE.den,hb]
  ·rw [if_neg hi]at hn ⊢;exact h.tmps i hn
 ja:=h.ja
 below:=h.below
 mem:=h.mem
 inj:=h.inj
 fb:=h.fb
 iU:=h.iU
 fR:=h.fR
 dn:=h.dn
 kn:=h.kn
 wf:=⟨λi=>by
  simp only [St.cQ,zi];by_cases hi:d=i
  ·rw [if_pos hi];rfl
  ·rw [if_neg hi];exact h.wf.t i,h.wf.m,h.wf.o,h.wf.ap,h.wf.r,h.wf.d,h.wf.k,h.wf.df⟩
theorem I0{ops:Array Oper}{tmps:Array Value}{j d:Nat}{b:Bool}(hd:(ops[j]?).bind (·.dst)=some d)(ht:tmps[d]? = some (.bool b)):yielded ops tmps j=some b:=by
 simp [yielded,hd,ht]
theorem I1{ops:Array Oper}{tmps:Array Value}{j d:Nat}(hd:(ops[j]?).bind (·.dst)=some d)(ht:tmps[d]? = some undef):yielded ops tmps j=none:=by
 simp [yielded,hd,ht,undef]
def qz(P:Program)(W:dN)(R:Nat->Loop)(Z:List Nat)(r:Option Nat)(n:Nat)(c0:an)(cM:Env)(bh:Nat->Nat)(Q':Exit->Act->World->Prop)(step:St->Oper->(St->Env->Prop)->Env->Prop):Prop :=
 ∀st o K J,step st o K J->c0.le st.c->Env.au c0 cM J->∀β a w,(∀k,k<c0.nk->β k=bh k)->Core W R Z J β st a w->∀(next:Act->World->Prop),tt W R Z st J β K next->o.wpIn (Fr r) n P a w next Q'
theorem I2{r:Option Nat}{n:Nat}{c0:an}{cM:Env}{bh:Nat->Nat}{step:St->Oper->(St->Env->Prop)->Env->Prop}{Q':Exit->Act->World->Prop}(hs:qz P W R Z r n c0 cM bh Q' step){ops:Array Oper}{K:St->Env->Prop} :
    ∀(l:List Oper) (st:St) (J:Env),jO (PA P W Q QM QP) step ops l st K J->c0.le st.c->Env.au c0 cM J->∀β a w,(∀k,k<c0.nk->β k=bh k)->Core W R Z J β st a w ->
      ∀(next:Act->World->Prop),(∀a w,next a w->Q' .normal a w)->tt W R Z st J β K next->wpListIn (Fr r) n P ops Q' l a w
  | [],st,J,h,_,_,β,a,w,_,hC,next,hq,hn=>hq _ _ (hn st J β a w h (an.le_refl _) (Env.ah _ _) (λ_ _=>rfl) hC)
  |o::l,st,J,h,gU,fP,β,a,w,dU,hC,next,hq,hn=>by
    have IH:∀gu:St,gu.c=st.c->tt W R Z gu J β (λs=>jO (PA P W Q QM QP) step ops l s K) (wpListIn (Fr r) n P ops Q' l):=by
      intro gu he s ar aQ a2 w2 hk h1 h2 h3 cV;rw [he]at h1 h2 h3;exact I2 hs l s ar hk (an.le_trans gU h1) (Env.ae gU fP h2) aQ a2 w2 (λk hk=>(h3 k (Nat.lt_of_lt_of_le hk gU.k)).trans (dU k hk)) cV next hq (hn.kU h1 h2 h3)
    have I3:∀f,o.about P w a.eval=some f->(Fr r).fn f:=λf _=>sD r f;simp only [wpListIn];unfold jO at h;cases rn:o.guard with
    |none =>
      simp only [rn]at h;rw [if_pos (by simp [Region.wanted,rn])];exact hs st o _ J h gU fP β a w dU hC _ (IH st rfl)
    |some jw =>
      obtain⟨j,want⟩:=jw;simp only [rn]at h;unfold xx at h;generalize hd:(ops[j]?).bind (·.dst)=u at h;cases u with
      |none=>exact h.elim
      |some d =>
        simp only at h;split at h
        · rename_i cw;generalize hg:aq st.t d=sv at h;split at h
          · rename_i e
            have ht:a.tmps[d]? = some (.bool (e.den J)):=by
              have:=hC.tmps d (by rw [hg];simp)
              rw [hg]at this;exact this
            have hy:=I0 (b:=e.den J) hd ht
            have put:∀(b:Bool),e.den J=b->(St.put (PA P W Q QM QP) (st.cQ d b) o.dst .fJ st.c λs=>jO (PA P W Q QM QP) step ops l s K) J->wpListIn (Fr r) n P ops Q' l (a.put o.dst undef) w:=λb hb hp =>
              zL (st:=st.cQ d b) (st0:=st) (cM:=J) hp (hC.cQ hg hb) (an.le_refl _) (an.le_refl _) (Env.ah _ _) (λ_ _=>rfl) (λ_=>rfl) (IH st rfl)
            have go:∀(b:Bool),e.den J=b->step (st.cQ d b) o (λs=>jO (PA P W Q QM QP) step ops l s K) J->o.wpIn (Fr r) n P a w (wpListIn (Fr r) n P ops Q' l) Q':=λb hb hp =>
              hs (st.cQ d b) o _ J hp gU fP β a w dU (hC.cQ hg hb) _ (IH (st.cQ d b) rfl)
            rcases zq h with ⟨hb,h⟩|⟨hb,h⟩
            · cases want with
              |true =>
                simp only [if_true,St.norm_eq]at h;rw [if_pos (by simp [Region.wanted,rn,hy,hb])];exact go true hb h
              |false =>
                simp only [Bool.false_eq_true,if_false,St.norm_eq]at h;rw [if_neg (by simp [Region.wanted,rn,hy,hb])];exact⟨I3,put true hb h⟩
            · cases want with
              |true =>
                simp only [if_true,St.norm_eq]at h;rw [if_neg (by simp [Region.wanted,rn,hy,hb])];exact⟨I3,put false hb h⟩
              |false =>
                simp only [Bool.false_eq_true,if_false,St.norm_eq]at h;rw [if_pos (by simp [Region.wanted,rn,hy,hb])];exact go false hb h
          · have ht:a.tmps[d]? = some undef:=by
              have:=hC.tmps d (by rw [hg];simp)
              rw [hg]at this;exact this
            have hy:=I1 hd ht;rw [if_neg (by simp [Region.wanted,rn,hy])];exact⟨I3,zL (st0:=st) (cM:=J) h hC (an.le_refl _) (an.le_refl _) (Env.ah _ _) (λ_ _=>rfl) (λ_=>rfl) (IH st rfl)⟩
          · exact h.elim
        · exact h.elim
def rp(G:bY)(W:dN)(R:Nat->Loop)(Z:List Nat)(c0:an)(cM:Env)(bh:Nat->Nat)(Q':Exit->Act->World->Prop)(inl:vS (Env->Prop)):Prop :=
  ∀f args s (K':SV->St->Env->Prop) J,inl f args s K' J->args.all (SV.wf s.c)=true->c0.le s.c->Env.au c0 cM J->∀β a w,(∀k,k<c0.nk->β k=bh k)->Core W R Z J β s a w->∀next':Value->World->Prop,
    (∀v s' aa ag w',K' v s' aa->v.wf s'.c=true->v ≠ .any->s.c.le s'.c->Env.au s.c J aa->(∀k,k<s.c.nk->ag k=β k)->Core W R Z aa ag s' a w'->next' (v.den aa ag) w') ->
    Calls G.P f (args.map (SV.den J β)).toArray w λe w'=>match e with
      | .returned v=>next' v w'
      | .panicked ch=>Q' (.panic ch) a w'
      | .outgrown=>False
def mR(P:Program)(W:dN)(R:Nat->Loop)(c0:an)(cM:Env)(bh:Nat->Nat)(yl:Yl (Env->Prop)):Prop :=
  ∀k args s (K':SV->St->Env->Prop) J,yl k args s K' J->args.all (SV.wf s.c)=true->c0.le s.c->Env.au c0 cM J->∀R':Nat->Loop,(∀k,k<c0.nk->R' k=R k)->∀Z β a w,(∀k,k<c0.nk->β k=bh k)->Core W R' Z J β s a w ->
    ∀(r:Option Nat) (n:Nat) (next':Value->World->Prop),
    (∀v s' aa ag w',K' v s' aa->v.wf s'.c=true->v ≠ .any->s.c.le s'.c->Env.au s.c J aa->(∀k,k<s.c.nk->ag k=β k)->Core W R' Z aa ag s' a w'->next' (v.den aa ag) w') ->
    ∃l fn tmps assign body,(Instr.yield (β k) (args.map (SV.den J β)).toArray).run P w=.ok (.round l fn tmps assign body) w/\RoundIn (Fr r) n P l fn tmps assign body w λe w'=>∃v,e=.returned v/\next' v w'
theorem mR.kU{c0 c1:an}{cM aM:Env}{bh eA:Nat->Nat}{R1:Nat->Loop}{yl:Yl (Env->Prop)}(h:mR P W R c0 cM bh yl)(hc:c0.le c1)(hl:Env.au c0 cM aM)(hb:∀k,k<c0.nk->eA k=bh k)(hR:∀k,k<c0.nk->R1 k=R k):mR P W R1 c1 aM eA yl :=
 λk args s K' J hy hw h1 h2 R' h3 Z β a w h4=>h k args s K' J hy hw (an.le_trans hc h1) (Env.ae hc hl h2) R' (λk hk=>(h3 k (Nat.lt_of_lt_of_le hk hc.k)).trans (hR k hk)) Z β a w (λk hk=>(h4 k (Nat.lt_of_lt_of_le hk hc.k)).trans (hb k hk))
theorem O1{G:bY}{st:St}{o:Oper}{K:St->Env->Prop}{J:Env}(h:mw (PA G.P W Q QM QP) G st o K J):∀c,o.op ≠ .defer c:=by
 intro c he;unfold mw at h;have hn:o0 G st o=none:=by unfold o0;rw [he]
 have I4:lJ G st o=none:=by unfold lJ;rw [he]
 rw [hn]at h;simp only at h;rw [I4]at h;simp only at h;unfold kN at h;simp only [he]at h;unfold tM at h;simp only [he]at h;exact h
theorem O2{G:bY}{st:St}{o:Oper}{K:St->Env->Prop}{J:Env}(h:xw (PA G.P W Q QM QP) G st o K J):∀c,o.op ≠ .defer c:=by
 intro c he;unfold xw at h;simp only [he]at h;exact h
theorem O3{G:bY}{st:St}{o:Oper}{K:St->Env->Prop}{J:Env}(h:my (PA G.P W Q QM QP) G st o K J):∀c,o.op ≠ .defer c:=by
 intro c he;unfold my at h;simp only [he]at h;exact h
def rq(W:dN)(R:Nat->Loop)(Z:List Nat)(c0:an)(cM:Env)(bh:Nat->Nat)(Q':Exit->Act->World->Prop)(KP:Nat->St->Env->Prop):Prop :=
 ∀i st J,KP i st J->i<st.c.nv->c0.le st.c->Env.au c0 cM J->∀β a w,(∀k,k<c0.nk->β k=bh k)->Core W R Z J β st a w->Q' (.panic [{v:=(J.v i).1,recovered:=false}]) a w
theorem xL(p:Nat->Bool):∀(m:Mem) (k:Nat),getM (m.filter λx=>p x.1) k=if p k=true then getM m k else none
  | [],k=>by simp [getM]
  | (j,v)::r,k=>by
    simp only [List.filter_cons];by_cases hj:p j=true
    · simp only [hj,if_true,getM,xL p r k];by_cases rr:j=k
      · subst rr;simp [hj]
      · simp [rr]
    · rw [if_neg (by simpa using hj),xL p r k];simp only [getM];by_cases rr:j=k
      · subst rr;simp [hj]
      · simp [rr]
theorem FK(p:Nat->Bool):∀(m:aY) (k:Nat),aD (m.filter λx=>p x.1) k=if p k=true then aD m k else none
  | [],k=>by simp [aD]
  | (j,v)::r,k=>by
    simp only [List.filter_cons];by_cases hj:p j=true
    · simp only [hj,if_true,aD,FK p r k];by_cases rr:j=k
      · subst rr;simp [hj]
      · simp [rr]
    · rw [if_neg (by simpa using hj),FK p r k];simp only [aD];by_cases rr:j=k
      · subst rr;simp [hj]
      · simp [rr]
theorem Core.less{J:Env}{β:Nat->Nat}{st:St}{a:Act}{w:World}(hC:Core W R Z J β st a w)(p:Nat->Bool):Core W R Z J β {st with m:=st.m.filter λx=>p x.1,o:=st.o.filter λx=>p x.1} a w:=by
 have hM:∀{k x},getM (st.m.filter λx=>p x.1) k=some x->getM st.m k=some x:=λ{k x} h=>by
  rw [xL]at h;split at h<;>simp_all
 have hO:∀{k x},aD (st.o.filter λx=>p x.1) k=some x->aD st.o k=some x:=λ{k x} h=>by
  rw [FK]at h;split at h<;>simp_all
 have hE:∀{k e},aC (st.m.filter λx=>p x.1) (st.o.filter λx=>p x.1) k=some e->aC st.m st.o k=some e:=λ{k e} h=>by
  unfold aC at h ⊢;rw [xL,FK]at h;by_cases hp:p k=true
  ·simpa [hp]using h
  ·simp [hp]at h
 exact⟨hC.size,hC.tmps,hC.ja,hC.below,λk e h=>hC.mem k e (hE h),λk k' e e' b h h'=>hC.inj k k' e e' b (hE h) (hE h'),hC.fb,hC.iU,hC.fR,hC.dn,
  ⟨hC.wf.t,λk cs t h=>hC.wf.m k cs t (hM h),λk ce sz t h=>hC.wf.o k ce sz t (hO h),λk x h=>by
   have:=hC.wf.ap k x (hO h)
   show getM (st.m.filter λx=>p x.1) k=none;rw [xL,this];simp,hC.wf.r,hC.wf.d,hC.wf.k,hC.wf.df⟩,hC.kn⟩
theorem Core.sE{J:Env}{β:Nat->Nat}{st:St}{a:Act}{w w':World}{bs:List Nat}(hC:Core W R Z J β st a w)(O4:bs.all (λb=>(getM st.m b).isSome)=true)(hb:ua (bs.map β) w w'):Core W R Z J β {st with m:=qX st.m bs} a w':=by
 have own:∀b∈bs,∃cs t,getM st.m b=some (cs,t)/\aC st.m st.o b=some (.fix cs t):=λb hb=>by
  have:=List.all_eq_true.1 O4 b hb
  obtain⟨⟨cs,t⟩,h⟩:=Option.isSome_iff_exists.1 this;exact⟨cs,t,h,nA h⟩
 have kept:∀{k:Nat} {e:oF},aC (qX st.m bs) st.o k=some e->aC st.m st.o k=some e/\k ∉ bs:=λ{k e} h=>by
  unfold aC qX at h;have hf:=xL (λb => !bs.contains b) st.m k;rw [hf]at h;by_cases hp:k∈bs
  ·obtain⟨cs,t,h1,_⟩:=own k hp
   have hn:aD st.o k=none:=by
    cases ho:aD st.o k with
    |none=>rfl
    |some x=>have:=hC.wf.ap k x ho;rw [h1]at this;cases this
   simp [hp,hn]at h
  ·refine⟨?_,hp⟩;unfold aC;simpa [hp]using h
 have same:∀{k:Nat} {e:oF},aC st.m st.o k=some e->k ∉ bs->∀b,bu β k e=some b->w'.heap[b]? = w.heap[b]? := λ{k e} hg hk b jX=>by
  refine hb.block b ((hC.mem k e hg).uk b jX).2.1 λhm => ?_;obtain⟨j,hj,rfl⟩:=List.mem_map.1 hm;obtain⟨cs,t,_,h2⟩:=own j hj;exact hk (hC.inj k j e _ _ hg h2 jX rfl▸hj)
 have other:∀{b:Nat} {o:Obj},w.heap[b]? = some o->¬Datum o->w'.heap[b]? = some o:=λ{b o} h ho=>by
  rw [hb.block b (sj h) λhm => ?_,h];obtain⟨j,hj,rfl⟩:=List.mem_map.1 hm;obtain⟨cs,t,h1,_⟩:=own j hj
  have:=(hC.fix h1).2
  rw [h]at this;cases this;exact ho trivial
 refine⟨hC.size,hC.tmps,hC.ja,cS.mk (hb.os.trans hC.below.os) (hb.tape.trans hC.below.tape) (hb.output.trans hC.below.output) (Nat.le_trans hC.below.size hb.size) (λk hk hl => ?_),λk e h => ?_,λk k' e e' b h h'=>hC.inj k k' e e' b (kept h).1 (kept h').1,
  λk e h=>⟨(hC.fb k e h).1,other (hC.fb k e h).2 (λh=>h)⟩,hC.iU,λb h=>⟨(hC.fR b h).1,other (hC.fR b h).2 (λh=>h)⟩,hC.dn,
  ⟨hC.wf.t,λk cs t h => ?_,hC.wf.o,λk x h => ?_,hC.wf.r,hC.wf.d,hC.wf.k,hC.wf.df⟩,hC.kn⟩
 ·rw [hb.block k (Nat.lt_of_lt_of_le hk hC.below.size) λhm => ?_]
  ·exact hC.below.block k hk hl
  ·obtain⟨j,hj,rfl⟩:=List.mem_map.1 hm;obtain⟨cs,t,h1,_⟩:=own j hj;rcases (hC.fix h1).1.out with h2|h2
   ·exact hl h2
   ·omega
 ·obtain⟨h1,h2⟩:=kept h;exact (hC.mem k e h1).eE (hC.wf.dR h1) (Env.ah _ _) (λ_ _=>rfl) (same h1 h2)
 ·have hf:=xL (λb => !bs.contains b) st.m k;have h:getM (st.m.filter λx => !bs.contains x.1) k=some (cs,t):=h;rw [hf]at h;split at h
  ·exact hC.wf.m k cs t h
  ·cases h
 ·show getM (st.m.filter λx => !bs.contains x.1) k=none;have hf:=xL (λb => !bs.contains b) st.m k;rw [hf,hC.wf.ap k x h];simp
theorem Core.more{J aa:Env}{β:Nat->Nat}{st:St}{a:Act}{w:World}(hC:Core W R Z J β st a w){c:an}(hc:st.c.le c)(hl:Env.au st.c J aa){kn:bK}(hw:bK.wf kn c)(hk:bK.den kn aa):Core W R Z aa β {st with c:=c,k:=kn} a w:=by
 have h1:=hC.au hl;have g:=hC.wf.grow hc;exact⟨h1.size,h1.tmps,h1.ja,h1.below,h1.mem,h1.inj,h1.fb,h1.iU,h1.fR,h1.dn,⟨g.t,g.m,g.o,g.ap,g.r,g.d,hw,g.df⟩,hk⟩
theorem O5(g:Bool)(l:List At):(dK g l).flat=l.all At.flat/\∀c,(dK g l).wf c=l.all (At.wf c):=by
 unfold dK;split
 ·exact⟨by simp [CV.flat],λc=>by simp [CV.wf]⟩
 ·exact⟨rfl,λc=>rfl⟩
theorem SU{G:bY}(hG:G.Ok){c0:an}{cM:Env}{bh:Nat->Nat}{Q':Exit->Act->World->Prop}{KP:Nat->St->Env->Prop}(hP:rq W R Z c0 cM bh Q' KP){st:St}{f:FuncId}{args:List SV}{t:TypeId}{js:List Nat}{J:Env}
    (h:tT (PA G.P W Q QM QP) G KP st f args t js J) (gU:c0.le st.c) (fP:Env.au c0 cM J) {β:Nat->Nat} {a:Act} {w:World} (dU:∀k,k<c0.nk->β k=bh k) (hC:Core W R Z J β st a w) :
    args.any iG≠true/\(callFunc f (args.map (SV.den J β)).toArray).run G.P w=.ok (.enter f (args.map (SV.den J β)).toArray) w/\Calls G.P f (args.map (SV.den J β)).toArray w λe w'=>∃ch,e=.panicked ch/\Q' (.panic ch) a w':=by
  unfold tT at h;generalize hz:aF G.P t=u1 at h;generalize rk:tI G.P 30 t=u2 at h;generalize O4:qn args js=u3 at h;split at h
  · rename_i g n ks bs;split at h
    · exact h.elim
    · rename_i ha;simp only [not_or,Decidable.not_not]at ha;split at h
      · rename_i gv;obtain⟨lj,iD,rj,bQ⟩:=gv;obtain⟨aM,l1,h1,h2⟩:=ti ks st.c h;have hle:=vo ks st.c;have h2:=h2 ⟨.iface t ((dK g (ao st.c ks)).den aM b0),rfl⟩ rfl;have cw:(aK st.c ks).le {aK st.c ks with nv:=(aK st.c ks).nv+1}:=zn _ .tf;have l2:=Co (aK st.c ks) aM ⟨.iface t ((dK g (ao st.c ks)).den aM b0),rfl⟩;have tk:Env.au st.c J (aM.mD (aK st.c ks).nv ⟨.iface t ((dK g (ao st.c ks)).den aM b0),rfl⟩):=Env.ae hle l1 l2;refine⟨ha.1,hG.calls f iD _ w, ?_⟩;have h1:=h1 β w hC.below (yY hC.wf.ap (Env.ah st.c J) (λk cs t hm=>(hC.wf.m k cs t hm).2) (λk ce sz t hm=>(hC.wf.o k ce sz t hm).2) _ (λk hk e hg=>hC.mem k e hg))
        have pj:(bs.map β).Nodup:=by
          have key:∀l:List Nat,(∀x∈l,x∈bs)->l.Nodup->(l.map β).Nodup:=by
            intro l
            induction l with
            |nil=>intro _ _;exact List.nodup_nil
            |cons x l ih =>
              intro su hn;simp only [List.nodup_cons,List.map_cons]at hn ⊢;refine⟨λhm => ?_,ih (λy hy=>su y (List.mem_cons_of_mem _ hy)) hn.2⟩;obtain⟨y,hy,he⟩:=List.mem_map.1 hm;obtain⟨⟨cs,t1⟩,g1⟩:=Option.isSome_iff_exists.1 (List.all_eq_true.1 bQ x (su x (List.mem_cons_self ..)));obtain⟨⟨fH,t2⟩,g2⟩:=Option.isSome_iff_exists.1 (List.all_eq_true.1 bQ y (su y (List.mem_cons_of_mem _ hy)))
              have:=hC.inj x y _ _ (β x) (nA g1) (nA g2) rfl (by simp [bu,he])
              exact hn.1 (this▸hy)
          exact key bs (λ_ h=>h) rj
        refine (j8.out h1 pj).mono λe w' he => ?_;obtain⟨rfl,I5⟩:=he;refine⟨_,rfl, ?_⟩;have nE:=hC.sE bQ I5;have e0:((aM.mD (aK st.c ks).nv ⟨.iface t ((dK g (ao st.c ks)).den aM b0),rfl⟩).v (aK st.c ks).nv).1=.iface t ((dK g (ao st.c ks)).den aM b0):=congrArg (λy:OV=>y.1) (if_pos rfl);have Da:(dK g (ao st.c ks)).wf (aK st.c ks)=true:=by rw [(O5 _ _).2];exact yU ks st.c
        have cV:=nE.more (c := {aK st.c ks with nv:=(aK st.c ks).nv+1}) (an.le_trans hle cw) tk (kn := .k_ (aK st.c ks).nv t (dK g (ao st.c ks))::st.k) (λz hz => ?_) (λz hz => ?_)
        · have:=hP _ _ _ h2 (Nat.lt_succ_self _) (an.le_trans gU (an.le_trans hle cw)) (Env.ae gU fP tk) β a w' dU cV
          rw [e0]at this;exact this
        · rcases List.mem_cons.1 hz with rfl|hz
          · simp only [Kn.wf,Bool.and_eq_true,decide_eq_true_eq];exact⟨Nat.lt_succ_self _,CV.aH cw Da,by rw [(O5 _ _).1];exact Cq ks st.c lj⟩
          · exact Kn.aH (an.le_trans hle cw) (hC.wf.k z hz)
        · rcases List.mem_cons.1 hz with rfl|hz
          · simp only [Kn.den];rw [e0,CV.U l2 (λ_ _=>rfl) Da];rfl
          · exact Kn.U tk (hC.wf.k z hz) (hC.kn z hz)
      · exact h.elim
  · exact h.elim
theorem I6{G:bY}(hG:G.Ok){r:Option Nat}{n:Nat}{c0:an}{cM:Env}{bh:Nat->Nat}{Q':Exit->Act->World->Prop}{inl:vS (Env->Prop)}{yl:Yl (Env->Prop)}{pQ:Bool}{KP:Nat->St->Env->Prop}(hI:rp G W R Z c0 cM bh Q' inl)(hY:mR G.P W R c0 cM bh yl)(qB:pQ=true->r=none)(hP:rq W R Z c0 cM bh Q' KP) :
    qz G.P W R Z r n c0 cM bh Q' (o6 (PA G.P W Q QM QP) G inl yl pQ KP):=by
  intro st o K J h gU fP β a w dU hC next hn
  have iq:mw (PA G.P W Q QM QP) G st o K J->o.wpIn (Fr r) n G.P a w next Q':=λh=>tq r n (O1 h) (C' (ON hG hC.wf hC.kn h) hC hn Q')
  have iV:my (PA G.P W Q QM QP) G st o K J->o.wpIn (Fr r) n G.P a w next Q':=λh=>tq r n (O3 h) (C' (OY hC.wf h) hC hn Q')
  have zM:xw (PA G.P W Q QM QP) G st o K J->o.wpIn (Fr r) n G.P a w next Q':=λh=>tq r n (O2 h) (C' (OT hC.wf h) hC hn Q')
  obtain⟨dst,op,type,pos,after,guard⟩:=o;unfold o6 at h;cases op<;>first|exact iq h|skip
  case makeSlice t l cp=>exact iV h
  case makeMap t rs=>exact iV h
  case mapUpdate t m k v=>exact iV h
  case insert t m k v=>exact iV h
  case panic x =>
    simp only at h;generalize hx:st.ev x=sx at h;split at h
    · rename_i i;split at h
      · rename_i hi;obtain⟨⟨t,v⟩,hf⟩:=Option.isSome_iff_exists.1 hi;have hm:=yF hf;have hd:=hC.kn _ hm;have hw:=hC.wf.k _ hm;simp only [Kn.wf,Bool.and_eq_true,decide_eq_true_eq]at hw;simp only [Kn.den]at hd;have e1:=hC.eval x (by rw [hx];simp);rw [hx]at e1;have e2:a.eval x=.iface t (v.den J λ_=>0):=e1.trans hd
        have:=hP i st J h hw.1 gU fP β a w dU hC
        rw [hd]at this;refine tq r n (by simp) ?_;unfold Oper.wp
        have hr:(execOp a.eval ⟨dst,.panic x,type,pos,after,guard⟩).run G.P w=.halt (.panic (.iface t (v.den J λ_=>0))) w:=by
          simp [execOp,e2,Instr.panic,goPanic]
        rw [hr,Oper.upon_panic];exact this
      · exact h.elim
    · exact h.elim
  case defer c =>
    obtain⟨callee,args,argTypes⟩:=c;simp only at h;generalize ha:args.toList=al at h;split at h
    · rename_i g;generalize hg:st.ev g=sg at h;split at h
      · rename_i f az;split at h
        · rename_i hd;have SW:r=none:=qB rfl;subst SW;have eg:=hC.eval g (by rw [hg];simp);rw [hg]at eg;have sF:=hC.wf.ev g;rw [hg]at sF;have ea:args=#[]:=by apply Array.ext';rw [ha]
          subst ea;refine⟨λf _=>sD none f, ?_⟩
          have hr:((⟨none,.defer ⟨.value g,#[],argTypes⟩,type,pos,after,guard⟩:Oper).semAt (Fr none).round a.eval).run G.P w=.ok (.defer {target := .fn (.func f) (az.map λc=>(.pointer (some ⟨β c.1,c.2,none⟩):Value)).toArray,args := #[]}) w:=by
            rw [show (Fr none).round=none from rfl,Oper.semAt_none];simp only [execOp,resolve,eg,SV.den,CV.den,At.den,Deferred.ofValue,Sem.run_bind,Sem.run_pure,Result.andThen_ok];simp
          rw [hr,Oper.uponIn_defer];refine hn _ J β _ w h (an.le_refl _) (Env.ah _ _) (λ_ _=>rfl) ⟨hC.size,hC.tmps, ?_,hC.below,hC.mem,hC.inj,hC.fb,hC.iU,hC.fR,hC.dn,⟨hC.wf.t,hC.wf.m,hC.wf.o,hC.wf.ap,hC.wf.r,hC.wf.d,hC.wf.k,λx hx => ?_⟩,hC.kn⟩
          · show _::a.defers=_;rw [hC.ja];simp [fm]
          · rcases List.mem_cons.1 hx with rfl|hx
            · exact λy hy=>by simpa using List.all_eq_true.1 sF y hy
            · exact hC.wf.df x hx
        · exact h.elim
      · exact h.elim
    · exact h.elim
  case assign x =>
    simp only at h;split at h
    · exact iV h
    · exact iq h
  case convert s d x =>
    simp only at h;split at h
    · exact iV h
    · exact iq h
  case buildSlice t len parts =>
    simp only at h;split at h
    · exact iV h
    · exact iq h
  case slice t x lo hi mx =>
    cases mx with
    |none=>exact iq h
    |some m=>exact iV h
  case store t x y =>
    simp only at h;generalize hx:st.ev x=sx at h;split at h
    · exact iV h
    · exact iq h
  case call cl =>
    obtain⟨callee,args,argTypes⟩:=cl;cases callee<;>first|exact iq h|skip
    case builtin b =>
      cases b<;>first|exact iq h|skip
      exact zM h
    case invoke I7 m =>
      simp only at h;generalize Bl:st.ev I7=sr at h;split at h
      · rename_i i;generalize hf:fv st.k i=u1 at h;cases u1 with
        |none=>exact h.elim
        |some z =>
        obtain⟨t,v⟩:=z;simp only at h;generalize hm:methodOf G.P t m=u2 at h;cases u2 with
        |none=>exact h.elim
        |some f =>
        simp only at h;split at h;rotate_left
        · exact iq h
        rename_i zN;split at h
        · exact h.elim
        · rename_i eD;have fQ:=yF hf;have ri:=hC.wf.k _ fQ;simp only [Kn.wf,Bool.and_eq_true]at ri;have er:=hC.eval I7 (by rw [Bl];simp);rw [Bl]at er;have hd:(Kn.k_ i t v).den J:=hC.kn _ fQ;simp only [Kn.den]at hd
          have er:a.eval I7=.iface t (v.den J β):=by
            rw [er];show (J.v i).1=_;rw [hd,CV.aU J (λ_=>0) β ri.2.2]
          have ea:(args.map a.eval).toList=(args.toList.map st.ev).map (SV.den J β):=by
            rw [Array.toList_map]
            exact zo _ λx hx=>hC.eval x (by
              intro he;exact eD (List.any_eq_true.2 ⟨_,List.mem_map.2 ⟨x,hx,rfl⟩,by rw [he];rfl⟩))
          have ec:#[v.den J β]++args.map a.eval=(((SV.cv v)::args.toList.map st.ev).map (SV.den J β)).toArray:=by
            apply Array.ext';rw [Array.toList_append,ea];simp [SV.den]
          have hw:((SV.cv v)::args.toList.map st.ev).all (SV.wf st.c)=true:=List.all_eq_true.2 λx hx=>by
            rcases List.mem_cons.1 hx with rfl|hx
            · exact ri.2.1
            · obtain⟨y,_,rfl⟩:=List.mem_map.1 hx;exact hC.wf.ev y
          refine tq r n (by simp) ?_;unfold Oper.wp;rw [Oq hm er ec w,hG.inl f zN,Oper.upon_enter]
          refine (hI f _ st _ J h hw gU fP β a w dU hC (λv w'=>next (a.put dst v) w') ?_).mono λe w' he=>by
            cases e<;>first|exact he|exact he.elim
          intro v s' aa ag w' hk ri zO hle hl hb dS;exact zL (st:=s') (st0:=st) (cM:=J) hk dS (an.le_refl _) hle hl hb (λ_=>rfl) hn
      · exact h.elim
    case value g =>
      have ru:∀ (f:FuncId) (first az:List (Nat × Nat)) (all:List SV),all=first.map cU++(args.toList.map st.ev++az.map cU)->st.ev g ≠ .any->(st.ev g).wf st.c=true ->
          (∀x∈first,x.1<st.c.nk)->(∀x∈az,x.1<st.c.nk) ->
          ((st.ev g).den J β=.func (.func f) (first.map λc=>.pointer (some ⟨β c.1,c.2,none⟩)).toArray (az.map λc=>.pointer (some ⟨β c.1,c.2,none⟩)).toArray) ->
          G.inl.contains f=true->¬(args.toList.map st.ev).any iG=true->inl f all st (λv s=>St.put (PA G.P W Q QM QP) s dst v s.c K) J->(⟨dst,.call ⟨.value g,args,argTypes⟩,type,pos,after,guard⟩:Oper).wpIn (Fr r) n G.P a w next Q':=by
        intro f first az all bQ ui _ Bp C4 uj hf eD h
        have eg:=hC.eval g ui;rw [uj]at eg
        have ea:(args.map a.eval).toList=(args.toList.map st.ev).map (SV.den J β):=by
          rw [Array.toList_map]
          exact zo _ λx hx=>hC.eval x (by
            intro he;exact eD (List.any_eq_true.2 ⟨_,List.mem_map.2 ⟨x,hx,rfl⟩,by rw [he];rfl⟩))
        have ec:(first.map λc=>(.pointer (some ⟨β c.1,c.2,none⟩):Value)).toArray++args.map a.eval++(az.map λc=>(.pointer (some ⟨β c.1,c.2,none⟩):Value)).toArray=(all.map (SV.den J β)).toArray:=by
          apply Array.ext';rw [Array.toList_append,Array.toList_append,ea,bQ];simp [SV.den,CV.den,At.den,cU,Function.comp_def]
        have hx:(execOp a.eval ⟨dst,.call ⟨.value g,args,argTypes⟩,type,pos,after,guard⟩).run G.P w=(callFunc f (all.map (SV.den J β)).toArray).run G.P w:=by
          simp only [execOp,resolve,eg,Deferred.ofValue,Sem.run_bind,Sem.run_pure,Result.andThen_ok,invoke];rw [<-ec]
        have Db:∀{l:List (Nat × Nat)},(∀x∈l,x.1<st.c.nk)->∀x∈l.map cU,x.wf st.c=true:=λhl x hx=>by
          obtain⟨y,hy,rfl⟩:=List.mem_map.1 hx;exact decide_eq_true (hl y hy)
        have hw:all.all (SV.wf st.c)=true:=by
          rw [bQ];refine List.all_eq_true.2 λx hx => ?_;rcases List.mem_append.1 hx with hx|hx
          · exact Db Bp x hx
          · rcases List.mem_append.1 hx with hx|hx
            · obtain⟨y,_,rfl⟩:=List.mem_map.1 hx;exact hC.wf.ev y
            · exact Db C4 x hx
        refine tq r n (by simp) ?_;unfold Oper.wp;rw [hx,hG.inl f hf,Oper.upon_enter]
        refine (hI f _ st _ J h hw gU fP β a w dU hC (λv w'=>next (a.put dst v) w') ?_).mono λe w' he=>by
          cases e<;>first|exact he|exact he.elim
        intro v s' aa ag w' hk ri zO hle hl hb dS;exact zL (st:=s') (st0:=st) (cM:=J) hk dS (an.le_refl _) hle hl hb (λ_=>rfl) hn
      simp only at h;have sF:=hC.wf.ev g;generalize hg:st.ev g=sg at h;split at h
      · rename_i f az;split at h
        · rename_i I8;obtain⟨_,rfl⟩:=I8;exact tq r n (by simp) (C' (SO hG hC.wf (o:=⟨dst,.call ⟨.value g,args,argTypes⟩,type,pos,after,guard⟩) rfl hg h) hC hn Q')
        split at h
        · rename_i I8;obtain⟨_,rfl⟩:=I8;exact tq r n (by simp) (C' (SN hG hC.wf (o:=⟨dst,.call ⟨.value g,args,argTypes⟩,type,pos,after,guard⟩) rfl hg h) hC hn Q')
        split at h
        · rename_i hf;split at h
          · exact h.elim
          · rename_i eD;rw [hg]at sF;exact ru f [] az _ (by simp) (by rw [hg];simp) (by rw [hg];exact sF) (by simp) (λx hx=>by simpa using List.all_eq_true.1 sF x hx) (by rw [hg];rfl) hf eD h
        · unfold NH at h;generalize W7:qW G f=ph at h;cases ph with
          |none=>exact iq h
          |some tj =>
            obtain⟨t,js⟩:=tj;rcases h with h|h
            · exact iq h
            · obtain⟨eD,gQ,iD⟩:=SU hG hP h gU fP dU hC;have eg:=hC.eval g (by rw [hg];simp);rw [hg]at eg
              have ea:(args.map a.eval).toList=(args.toList.map st.ev).map (SV.den J β):=by
                rw [Array.toList_map]
                exact zo _ λx hx=>hC.eval x (by
                  intro he;exact eD (List.any_eq_true.2 ⟨_,List.mem_append.2 (.inl (List.mem_map.2 ⟨x,hx,rfl⟩)),by rw [he];rfl⟩))
              have hx:(execOp a.eval ⟨dst,.call ⟨.value g,args,argTypes⟩,type,pos,after,guard⟩).run G.P w=(callFunc f ((args.toList.map st.ev++az.map cU).map (SV.den J β)).toArray).run G.P w:=by
                simp only [execOp,resolve,eg,SV.den,CV.den,At.den,Deferred.ofValue,Sem.run_bind,Sem.run_pure,Result.andThen_ok,invoke];congr 2;apply Array.ext';rw [Array.toList_append,Array.toList_append,ea];simp [SV.den,CV.den,At.den,cU,Function.comp_def]
              refine tq r n (by simp) ?_;unfold Oper.wp;rw [hx,gQ,Oper.upon_enter];refine iD.mono λe w' he => ?_;obtain⟨ch,rfl,hq⟩:=he;exact hq
      · rename_i f first az
        split at h
        · rename_i hf;split at h
          · exact h.elim
          · rename_i eD;rw [hg]at sF;have qC:((first.all λx=>decide (x.1<st.c.nk)) && az.all λx=>decide (x.1<st.c.nk))=true:=sF;simp only [Bool.and_eq_true]at qC;exact ru f first az _ rfl (by rw [hg];simp) (by rw [hg];exact sF) (λx hx=>by simpa using List.all_eq_true.1 qC.1 x hx) (λx hx=>by simpa using List.all_eq_true.1 qC.2 x hx) (by rw [hg];rfl) hf eD h
        · exact iq h
      · rename_i f first az
        split at h
        · rename_i hf;split at h
          · exact h.elim
          · rename_i eD;rw [hg]at sF;have qC:((first.all λx=>x.wf st.c) && az.all λx=>decide (x.1<st.c.nk))=true:=sF;simp only [Bool.and_eq_true]at qC;have eg:=hC.eval g (by rw [hg];simp);rw [hg]at eg
            have ea:(args.map a.eval).toList=(args.toList.map st.ev).map (SV.den J β):=by
              rw [Array.toList_map]
              exact zo _ λx hx=>hC.eval x (by
                intro he;exact eD (List.any_eq_true.2 ⟨_,List.mem_map.2 ⟨x,hx,rfl⟩,by rw [he];rfl⟩))
            have ef:(first.map aJ.at).map (At.den J β)=first.map (aJ.den J β):=by
              rw [List.map_map];exact List.map_congr_left λx _=>aJ.tE J β x
            have hx:(execOp a.eval ⟨dst,.call ⟨.value g,args,argTypes⟩,type,pos,after,guard⟩).run G.P w=(callFunc f ((SV.cv (.agg (first.map aJ.at))::(args.toList.map st.ev++az.map cU)).map (SV.den J β)).toArray).run G.P w:=by
              have wy:a.eval g=.func (.func f) #[.agg (first.map (aJ.den J β)).toArray] (az.map λc=>(.pointer (some ⟨β c.1,c.2,none⟩):Value)).toArray:=eg;simp only [execOp,resolve,wy,Deferred.ofValue,Sem.run_bind,Sem.run_pure,Result.andThen_ok,invoke];congr 2;apply Array.ext';rw [Array.toList_append,Array.toList_append,ea]
              have e1:(SV.cv (.agg (first.map aJ.at))).den J β=.agg (first.map (aJ.den J β)).toArray:=by
                show Value.agg ((first.map aJ.at).map (At.den J β)).toArray=_;rw [ef]
              rw [List.map_cons,e1,List.map_append];simp [SV.den,CV.den,At.den,cU,Function.comp_def]
            have hw:(SV.cv (.agg (first.map aJ.at))::(args.toList.map st.ev++az.map cU)).all (SV.wf st.c)=true:=by
              refine List.all_eq_true.2 λx hx => ?_;rcases List.mem_cons.1 hx with rfl|hx
              · simp only [SV.wf,CV.wf,List.all_map]
                exact List.all_eq_true.2 λy hy=>by
                  show (y.at).wf st.c=true;rw [aJ.B9];exact List.all_eq_true.1 qC.1 y hy
              · rcases List.mem_append.1 hx with hx|hx
                · obtain⟨y,_,rfl⟩:=List.mem_map.1 hx;exact hC.wf.ev y
                · obtain⟨y,hy,rfl⟩:=List.mem_map.1 hx;exact List.all_eq_true.1 qC.2 y hy
            refine tq r n (by simp) ?_;unfold Oper.wp;rw [hx,hG.inl f hf,Oper.upon_enter]
            refine (hI f _ st _ J h hw gU fP β a w dU hC (λv w'=>next (a.put dst v) w') ?_).mono λe w' he=>by
              cases e<;>first|exact he|exact he.elim
            intro v s' aa ag w' hk ri zO hle hl hb dS;exact zL (st:=s') (st0:=st) (cM:=J) hk dS (an.le_refl _) hle hl hb (λ_=>rfl) hn
        · exact h.elim
      · rename_i k;split at h
        · exact h.elim
        · rename_i eD;have eg:=hC.eval g (by rw [hg];simp);rw [hg]at eg
          have ea:args.map a.eval=((args.toList.map st.ev).map (SV.den J β)).toArray:=by
            apply Array.ext';rw [Array.toList_map]
            exact zo _ λx hx=>hC.eval x (by
              intro he;exact eD (List.any_eq_true.2 ⟨_,List.mem_map.2 ⟨x,hx,rfl⟩,by rw [he];rfl⟩))
          have hw:(args.toList.map st.ev).all (SV.wf st.c)=true:=List.all_eq_true.2 λx hx=>by
            obtain⟨y,_,rfl⟩:=List.mem_map.1 hx;exact hC.wf.ev y
          obtain⟨l,fn,tmps,assign,body,hy,hR⟩:=hY k _ st _ J h hw gU fP R (λ_ _=>rfl) Z β a w dU hC r (n-1) (λv w'=>next (a.put dst v) w') (λv s' aa ag w' hk ri zO hle hl hb dS =>
            zL (st:=s') (st0:=st) (cM:=J) hk dS (an.le_refl _) hle hl hb (λ_=>rfl) hn)
          refine⟨λf _=>sD r f, ?_⟩;rw [Oper.semAt_eq _ _ _ (by simp)]
          have hx:(execOp a.eval ⟨dst,.call ⟨.value g,args,argTypes⟩,type,pos,after,guard⟩).run G.P w=.ok (.round l fn tmps assign body) w:=by
            simp only [execOp,resolve,eg,SV.den,CV.den,At.den,Deferred.ofValue,Sem.run_bind,Sem.run_pure,Result.andThen_ok,invoke,ea];simpa using hy
          rw [hx,Oper.uponIn_round];refine⟨C_,hR.mono λe w' he => ?_⟩;obtain⟨v,rfl,hv⟩:=he;exact hv
      · exact h.elim
end Vc
set_option linter.unusedVariables false
namespace Vc
open Go Go.RowKit
variable {P:Program} {W:dN} {Q:Value->Prop} {QM QP:World->Value->Prop} {R:Nat->Loop} {Z:List Nat}
theorem SX{t:TypeId}{cs:List At}{off:Nat}{v:CV}(h:partOf P t cs off=some v)(J:Env)(β:Nat->Nat)(w:World)(b:Nat)(ty:TypeId)(hb:w.heap[b]? = some (.cells (cs.map (At.den J β)).toArray ty)) :
  (loadVar t ⟨b,off,none⟩).run P w=.ok (v.den J β) w:=by
 unfold partOf at h;generalize hz:aF P t=u at h;split at h
 ·rename_i n;split at h
  ·rename_i hl;simp only [Option.some.injEq]at h;subst h
   have:=Be hz w b off (((cs.drop off).take n).map (At.den J β)) (by simp;omega) (λj v hj=>by
    rw [v_ hb];simp only [List.getElem?_map,Option.map_eq_some_iff]at hj;obtain⟨a,ha,rfl⟩:=hj
    have wg:j<n:=by
     rcases Nat.lt_or_ge j n with h'|h'
     ·exact h'
     ·rw [List.getElem?_eq_none (by simp;omega)]at ha;cases ha
    rw [List.getElem?_take_of_lt wg,List.getElem?_drop]at ha;simp [ha])
   exact this
  ·cases h
 ·rename_i n;simp only [Option.map_eq_some_iff]at h;obtain⟨a,ha,rfl⟩:=h
  have:=Bf hz w b off (a.den J β) (by rw [v_ hb];simp [ha])
  exact this
 ·cases h
theorem I9{t:TypeId}{cs:List At}{off:Nat}{v:CV}{c:an}(h:partOf P t cs off=some v)(hw:cs.all (At.wf c)=true):v.wf c=true:=by
 unfold partOf at h;generalize aF P t=u at h;split at h
 ·split at h
  ·simp only [Option.some.injEq]at h;subst h;exact (zp (zp hw off).2 _).1
  ·cases h
 ·simp only [Option.map_eq_some_iff]at h;obtain⟨a,ha,rfl⟩:=h;exact List.all_eq_true.1 hw a (List.mem_of_getElem? ha)
 ·cases h
def oe(tmps:Array Value):ResultVar->Sem Value
 | .tmp t=>pure (tmps.getD t undef)
 | .cell a t=>do loadVar t (<-asAddr (tmps.getD a undef))
theorem I_{J:Env}{β:Nat->Nat}{st:St}{a:Act}{w:World}(hC:Core W R Z J β st a w):∀ (l:List ResultVar) {cs:List CV},dc P st l=some cs ->
    (l.mapM (oe a.tmps)).run P w=.ok (cs.map (CV.den J β)) w/\cs.all (CV.wf st.c)=true
  | [],cs,h=>by simp only [dc,Option.some.injEq]at h;subst h;simp
  | .tmp t::r,cs,h=>by
    simp only [dc]at h;split at h
    · rename_i v l h1 h2;simp only [Option.some.injEq]at h;subst h;obtain⟨q1,q2⟩:=I_ hC r h2;have e:=hC.tmps t (by rw [h1];simp);have wv:=hC.wf.t t;rw [h1]at e wv;simp only [List.mapM_cons,oe,Sem.run_bind,Sem.run_pure,Result.andThen_ok,q1,Array.getD_eq_getD_getElem?,e,Option.getD_some,SV.den,List.map_cons,true_and];simp only [List.all_cons,q2,Bool.and_true];exact wv
    · cases h
  | .cell x t::r,cs,h=>by
    simp only [dc]at h;split at h
    · rename_i k off l h1 h2;split at h
      · rename_i c ty h3;split at h
        · rename_i v h4;simp only [Option.some.injEq]at h;subst h;obtain⟨q1,q2⟩:=I_ hC r h2;have e:=hC.tmps x (by rw [h1];simp);rw [h1]at e;obtain⟨m1,m2⟩:=hC.fix h3;have hl:=SX h4 J β w (β k) ty m2
          have e2:a.tmps.getD x undef=.pointer (some ⟨β k,off,none⟩):=by
            simp only [Array.getD_eq_getD_getElem?,e,Option.getD_some,SV.den,CV.den,At.den]
          simp only [List.mapM_cons,oe,Sem.run_bind,Sem.run_pure,Result.andThen_ok,e2,asAddr,hl,q1,List.map_cons,true_and];simp only [List.all_cons,q2,Bool.and_true];exact I9 h4 (hC.wf.m k c ty h3).2
        · cases h
      · cases h
    · cases h
theorem I'{fn:Func}{J:Env}{β:Nat->Nat}{st:St}{a:Act}{w:World}(hC:Core W R Z J β st a w){cs:List CV}(h:dc P st fn.results.toList=some cs) :
  (results fn a.tmps).run P w=.ok ((cd cs).den J β) w/\(cd cs).wf st.c=true:=by
 obtain⟨q1,q2⟩:=I_ hC _ h;refine⟨?_,Bi q2⟩
 have hf:(results fn a.tmps)=(do let vs <-fn.results.mapM (oe a.tmps);pure (if h:vs.size=1 then vs[0]else .tuple vs)):=by
  unfold results;congr 1
 rw [hf,Array.mapM_eq_mapM_toList];simp only [Sem.run_bind,Sem.run_map,q1,Result.andThen_ok,Sem.run_pure];unfold cd
 match cs with
 | []=>simp [SV.den]
 | [c]=>simp [SV.den]
 |c::d::r=>simp [SV.den]
theorem O6:∀(args:List SV) (n i:Nat),aq ((List.range' n args.length).zip args) i=if n<=i then (args[i-n]?).getD .any else .any
  | [],n,i=>by simp [aq]
  |v::r,n,i=>by
    simp only [List.length_cons,List.range'_succ,List.zip_cons_cons,zi];by_cases h:n=i
    · subst h;simp
    · rw [if_neg h,O6 r (n+1) i];by_cases h2:n<=i
      · rw [if_pos (by omega),if_pos h2];rw [show i-n=(i-(n+1))+1 by omega];simp
      · rw [if_neg (by omega),if_neg h2]
theorem xM(args:List SV)(i:Nat):aq ((List.range args.length).zip args) i=(args[i]?).getD .any:=by
 have:=O6 args 0 i
 rw [List.range_eq_range'];simpa using this
theorem O7{J:Env}{β:Nat->Nat}{args:List SV}{n:Nat}{st:St}{a:Act}{w:World}(hC:Core W R Z J β st a w)(hw:args.all (SV.wf st.c)=true) :
    Core W R (Z++st.d.map β) J β {t:=(List.range args.length).zip args,n:=args.length+(n-args.length),m:=st.m,c:=st.c,o:=st.o,r:=st.r,d := [],k:=st.k}
      {tmps:=(args.map (SV.den J β)).toArray++Array.replicate (n-(args.map (SV.den J β)).toArray.size) undef,defers := []} w where
  size:=by simp
  tmps i hn:=by
    simp only [xM]at hn ⊢;cases hi:args[i]? with
    |none=>rw [hi]at hn;exact (hn rfl).elim
    |some v =>
      have cw:i<args.length:=(List.getElem?_eq_some_iff.1 hi).1;rw [Array.getElem?_append_left (by simpa using cw)];simp [hi]
  ja:=rfl
  below:=hC.below
  mem:=hC.mem
  inj:=hC.inj
  fb:=hC.fb
  iU:=hC.iU
  fR b hb:=hC.fR b (by simpa using hb)
  dn:=by simpa using hC.dn
  wf:=⟨λi=>by
    simp only [xM];cases hi:args[i]? with
    |none=>rfl
    |some v=>exact List.all_eq_true.1 hw v (List.mem_of_getElem? hi),hC.wf.m,hC.wf.o,hC.wf.ap,hC.wf.r,λk hk=>(by cases hk),hC.wf.k,λx hx=>(by cases hx)⟩
  kn:=hC.kn
theorem SY{J:Env}{β:Nat->Nat}{args:List SV}{n:Nat}{c:an}{w:World}{kn:bK}(si:bK.wf kn c)(fA:bK.den kn J)(hw:args.all (SV.wf c)=true)(hB:cS W w) :
    Core W R [] J β {t:=(List.range args.length).zip args,n:=args.length+(n-args.length),m := [],c:=c,k:=kn}
      {tmps:=(args.map (SV.den J β)).toArray++Array.replicate (n-(args.map (SV.den J β)).toArray.size) undef,defers := []} w where
  size:=by simp
  tmps i hn:=by
    simp only [xM]at hn ⊢;cases hi:args[i]? with
    |none=>rw [hi]at hn;exact (hn rfl).elim
    |some v =>
      have cw:i<args.length:=(List.getElem?_eq_some_iff.1 hi).1;rw [Array.getElem?_append_left (by simpa using cw)];simp [hi]
  ja:=rfl
  below:=hB
  mem k e h:=by cases h
  inj k k' e e' b h:=by cases h
  fb k e h:=by cases h
  iU k k' e e' h:=by cases h
  fR b hb:=by cases hb
  dn:=by simp
  wf:=⟨λi=>by
    simp only [xM];cases hi:args[i]? with
    |none=>rfl
    |some v=>exact List.all_eq_true.1 hw v (List.mem_of_getElem? hi),λk cs t h=>(by cases h),λk ce sz t h=>(by cases h),λk x h=>(by cases h),λk e h=>(by cases h),λk hk=>(by cases hk),si,λx hx=>(by cases hx)⟩
  kn:=fA
theorem O8:∀(bs:List (List At × TypeId)) (n k:Nat),getM ((List.range' n bs.length).zip bs) k=if n<=k then bs[k-n]? else none
  | [],n,k=>by simp [getM]
  |b::bs,n,k=>by
    rw [List.length_cons,List.range'_succ,List.zip_cons_cons,xI,O8 bs (n+1) k];by_cases h:n=k
    · subst h;simp
    · rw [if_neg h];by_cases h2:n+1<=k
      · rw [if_pos h2,if_pos (by omega),show k-n=(k-(n+1))+1 by omega,List.getElem?_cons_succ]
      · rw [if_neg h2,if_neg (by omega)]
theorem Ja(bs:List (List At × TypeId))(k:Nat):getM ((List.range bs.length).zip bs) k=bs[k]? := by
 rw [List.range_eq_range',O8];simp
def ux(J:Env)(xs:List Nat)(bs:List (List At × TypeId))(w:World):Prop:=∀k cs t,bs[k]? = some (cs,t)->w.heap[dD xs k]? = some (.cells (cs.map (At.den J (dD xs))).toArray t)
theorem SZ{J:Env}{xs:List Nat}{args:List SV}{n:Nat}{c:an}{w:World}{bs:List (List At × TypeId)}{kn:bK}(si:bK.wf kn c)(fA:bK.den kn J)(hw:args.all (SV.wf c)=true)(hc:bs.all (fun b=>b.1.all (At.wf c))=true)(h0:bs.length<=c.nk)(hlen:xs.length=bs.length)(rj:xs.Nodup)
    (hl:W.mH=xs) (hB:cS W w) (hx:ux J xs bs w) :
    Core W R [] J (dD xs) {t:=(List.range args.length).zip args,n:=args.length+(n-args.length),m:=(List.range bs.length).zip bs,c:=c,k:=kn}
      {tmps:=(args.map (SV.den J (dD xs))).toArray++Array.replicate (n-(args.map (SV.den J (dD xs))).toArray.size) undef,defers := []} w where
  size:=by simp
  tmps i hn:=by
    simp only [xM]at hn ⊢;cases hi:args[i]? with
    |none=>rw [hi]at hn;exact (hn rfl).elim
    |some v =>
      have cw:i<args.length:=(List.getElem?_eq_some_iff.1 hi).1;rw [Array.getElem?_append_left (by simpa using cw)];simp [hi]
  ja:=rfl
  below:=hB
  mem k e h:=by
    unfold aC at h;rw [Ja]at h;cases hb:bs[k]? with
    |none=>rw [hb]at h;simp [aD]at h
    |some x =>
      rw [hb]at h;simp only [Option.some.injEq]at h;subst h;have hk:=(List.getElem?_eq_some_iff.1 hb).1;refine⟨dT.mk (.inl ?_),hx k x.1 x.2 hb⟩;rw [hl,dD,List.getD_eq_getElem?_getD,List.getElem?_eq_getElem (by omega)];exact List.getElem_mem _
  inj k k' e e' b h h' hb eG:=by
    have key:∀{k e b},aC ((List.range bs.length).zip bs) [] k=some e->bu (dD xs) k e=some b->k<xs.length/\xs[k]? = some b:=λ{k e b} h hb=>by
      unfold aC at h;rw [Ja]at h;cases jX:bs[k]? with
      |none=>rw [jX]at h;simp [aD]at h
      |some x =>
        rw [jX]at h;simp only [Option.some.injEq]at h;subst h;have hk:=(List.getElem?_eq_some_iff.1 jX).1;simp only [bu,Option.some.injEq]at hb;refine⟨by omega, ?_⟩;rw [<-hb,dD,List.getD_eq_getElem?_getD,List.getElem?_eq_getElem (by omega)];rfl
    obtain⟨h1,h2⟩:=key h hb;obtain⟨h3,h4⟩:=key h' eG;exact (List.getElem?_inj h1 rj).1 (h2.trans h4.symm)
  fb k e h:=by cases h
  iU k k' e e' h:=by cases h
  fR b hb:=by cases hb
  dn:=by simp
  wf:=⟨λi=>by
    simp only [xM];cases hi:args[i]? with
    |none=>rfl
    |some v=>exact List.all_eq_true.1 hw v (List.mem_of_getElem? hi),λk fH t' h=>by
      simp only [Ja]at h;have hk:=(List.getElem?_eq_some_iff.1 h).1;exact⟨by show k<c.nk;omega,List.all_eq_true.1 hc _ (List.mem_of_getElem? h)⟩,λk ce sz t h=>(by cases h),λk x h=>(by cases h),λk e h=>(by cases h),λk hk=>(by cases hk),si,λx hx=>(by cases hx)⟩
  kn:=fA
def Ex.to(J:Env):Ex->Exit
 | .normal=>.normal
 | .exit id=>.exit id
 | .ret=>.ret
 | .iC i=>.panic [{v:=(J.v i).1,recovered:=false}]
def Ex.ok(c:an):Ex->Prop
 | .iC i=>i<c.nv
 |_=>True
def l7(W:dN)(R:Nat->Loop)(Z:List Nat)(st:St)(J:Env)(β:Nat->Nat)(K:Ex->St->Env->Prop)(Q':Exit->Act->World->Prop):Prop :=
 ∀e gu aa ag a' w',K e gu aa->e.ok gu.c->st.c.le gu.c->Env.au st.c J aa->(∀k,k<st.c.nk->ag k=β k)->Core W R Z aa ag gu a' w'->Q' (e.to aa) a' w'
theorem l7.kU{st gu:St}{J aa:Env}{β ag:Nat->Nat}{K:Ex->St->Env->Prop}{Q':Exit->Act->World->Prop}(h:l7 W R Z st J β K Q')(hc:st.c.le gu.c)(hl:Env.au st.c J aa)(hb:∀k,k<st.c.nk->ag k=β k):l7 W R Z gu aa ag K Q' :=
 λe s ar aQ a w hk h0 h1 h2 h3 hC=>h e s ar aQ a w hk h0 (an.le_trans hc h1) (Env.ae hc hl h2) (λk hk=>(h3 k (Nat.lt_of_lt_of_le hk hc.k)).trans (hb k hk)) hC
theorem l7.st{st gu:St}{J:Env}{β:Nat->Nat}{K:Ex->St->Env->Prop}{Q':Exit->Act->World->Prop}(h:l7 W R Z st J β K Q')(he:gu.c=st.c):l7 W R Z gu J β K Q' :=
 h.kU (by rw [he];exact an.le_refl _) (Env.ah _ _) (λ_ _=>rfl)
structure zP(D:List Nat)(w w':World):Prop where
 os:w'.os=w.os
 tape:w'.tape=w.tape
 output:w'.output=w.output
 size:w'.heap.size=w.heap.size
 block:∀k,k ∉ D->w'.heap[k]? = w.heap[k]?
theorem O9{r:Option Nat}{n:Nat}{fn:Func}{tmps:Array Value}{T:Ending->World->Prop}:∀ (D:List Nat) (w:World),(∀ b∈D,w.heap[b]? = some (.deferred (some [])))->D.Nodup ->
    (∀w',zP D w w'->∃v,(results fn tmps).run P w'=.ok v w'/\T (.returned v) w')->LeavesInM (Fr r) n P fn tmps T (D.map λb => {target := .collected b,args := #[]}) .returning w
  | [],w,_,_,h=>h w ⟨rfl,rfl,rfl,rfl,λ_ _=>rfl⟩
  |b::D,w,hd,hn,h=>by
    have hb:=hd b (by simp);simp only [List.nodup_cons]at hn;refine⟨by simp,.inl ⟨b,_,rfl,run_takeDeferred hb,O9 D _ (λb' eG => ?_) hn.2 λw' hs=>h w' ?_⟩⟩
    · rw [World.putObj_heap_other (λe=>hn.1 (by rw [<-e];exact eG))];exact hd b' (by simp [eG])
    · refine⟨hs.os,hs.tape,hs.output,by rw [hs.size];simp,λk hk => ?_⟩;simp only [List.mem_cons,not_or]at hk;rw [hs.block k hk.2,World.putObj_heap_other hk.1]
theorem Holds.shut{J:Env}{β:Nat->Nat}{k:Nat}{w w':World}{D:List Nat}{e:oF}{c:an}(h:Holds W J β k e w)(hw:nC c k e)(hD:∀b∈D,w.heap[b]? = some (.deferred (some [])))(hs:zP D w w'):Holds W J β k e w':=by
 refine h.eE hw (Env.ah _ _) (λ_ _=>rfl) λb hb=>hs.block b λhm => ?_;obtain⟨_,_,o,hc,hd⟩:=h.uk b hb;rw [hD b hm]at hc;cases hc;exact hd
theorem Core.shut{J:Env}{β:Nat->Nat}{st:St}{a:Act}{w w':World}(hC:Core W R Z J β st a w)(oL:st.df=[])(hs:zP (st.d.map β) w w'):Core W R Z J β {st with d := []} {a with defers := []} w':=by
 have hD:∀b∈st.d.map β,w.heap[b]? = some (.deferred (some [])):=λb hb=>(hC.fR b (List.mem_append.2 (.inr hb))).2;have O_:=List.nodup_append.1 hC.dn
 refine⟨hC.size,hC.tmps,by simp [fm,oL,marksOf],cS.mk (hs.os.trans hC.below.os) (hs.tape.trans hC.below.tape) (hs.output.trans hC.below.output) (by rw [hs.size];exact hC.below.size) (λk hk hl => ?_),λk e hg=>(hC.mem k e hg).shut (hC.wf.dR hg) hD hs,hC.inj,λk e hg=>⟨(hC.fb k e hg).1, ?_⟩,hC.iU,λb hb => ?_, ?_,
  ⟨hC.wf.t,hC.wf.m,hC.wf.o,hC.wf.ap,hC.wf.r,λk hk=>(by cases hk),hC.wf.k,hC.wf.df⟩,hC.kn⟩
 ·rw [hs.block k λhm => ?_]
  ·exact hC.below.block k hk hl
  ·have:=(hC.fR k (List.mem_append.2 (.inr hm))).1
   omega
 ·rw [hs.block _ λhm => ?_]
  ·exact (hC.fb k e hg).2
  ·have h1:=hD _ hm;rw [(hC.fb k e hg).2]at h1;cases h1
 ·simp only [List.map_nil,List.append_nil]at hb;refine⟨(hC.fR b (List.mem_append.2 (.inl hb))).1, ?_⟩;rw [hs.block b λhm=>O_.2.2 b hb b hm rfl];exact (hC.fR b (List.mem_append.2 (.inl hb))).2
 ·simpa using O_.1
theorem FL{J aa:Env}{β ag:Nat->Nat}{st s':St}{a a':Act}{w w':World}(hC:Core W R Z J β st a w)(dS:Core W R (Z++st.d.map β) aa ag {s' with d := []} a' w')(hle:st.c.le s'.c)(hl:Env.au st.c J aa)(hb:∀k,k<st.c.nk->ag k=β k) :
  Core W R Z aa ag {t:=st.t,n:=st.n,m:=s'.m,c:=s'.c,o:=s'.o,r:=s'.r,d:=st.d,k:=s'.k,df:=st.df} a w':=by
 have mP:st.d.map ag=st.d.map β:=List.map_congr_left λk hk=>hb k (hC.wf.d k hk);refine⟨hC.size,λi hi => ?_, ?_,dS.below,dS.mem,dS.inj,dS.fb,dS.iU,λb oH => ?_, ?_,⟨λi=>SV.aH hle (hC.wf.t i),dS.wf.m,dS.wf.o,dS.wf.ap,dS.wf.r,λk hk=>Nat.lt_of_lt_of_le (hC.wf.d k hk) hle.k,dS.wf.k,λx hx y hy=>Nat.lt_of_lt_of_le (hC.wf.df x hx y hy) hle.k⟩,dS.kn⟩
 ·rw [hC.tmps i hi];exact congrArg some (SV.U hl hb (hC.wf.t i)).symm
 ·rw [hC.ja,FA hC.wf.df hb];simp only [marksOf];exact congrArg _ (List.map_congr_left λk hk=>by rw [hb k (hC.wf.d k hk)])
 ·rw [mP]at oH;exact dS.fR b (by simpa using oH)
 ·rw [mP];simpa using dS.dn
theorem FM{f:FuncId}{fn:Func}{b:Code}{args:Array Value}{w:World}{T:Ending->World->Prop}{n:Nat}(hf:P.funcs[f]? = some fn)(hb:fn.body=some b)
  (h:b.wpIn (Fr none) n P (bodyPostM (Fr none) n P fn T) {tmps:=args++Array.replicate (fn.ntmps-args.size) undef,defers := []} w):Calls P f args w T :=
 IY.1 (callsIn_of_wp_marks (F:=Fr none) hf hb (sD none f) h rfl)
theorem O'{r:Option Nat}{n:Nat}{fn:Func}{J:Env}{β:Nat->Nat}{s:St}{a:Act}{w:World}{T:Ending->World->Prop}(hC:Core W R Z J β s a w)(oL:s.df=[]){l:List CV}(hr:dc P s fn.results.toList=some l)
  (h:∀w',Core W R Z J β {s with d := []} {a with defers := []} w'->(cd l).wf s.c=true->T (.returned ((cd l).den J β)) w'):LeavesInM (Fr r) n P fn a.tmps T a.defers .returning w:=by
 rw [hC.ja,oL];have hd:fm β []++marksOf β s.d=(s.d.map β).map λb => {target := .collected b,args := #[]}:=by simp [marksOf,fm]
 rw [hd];refine O9 _ w (λb hb=>(hC.fR b (List.mem_append.2 (.inr hb))).2) (List.nodup_append.1 hC.dn).2.1 λw' hs => ?_;have dS:=hC.shut oL hs
 have Jb:dc P {s with d := []} fn.results.toList=some l:=by
  rw [<-hr]
  have:∀(x:List ResultVar),dc P {s with d := []} x=dc P s x:=by
   intro x
   induction x with
   |nil=>rfl
   |cons y x ih=>cases y<;>simp only [dc,ih]
  exact this _
 obtain⟨q1,q2⟩:=I' dS Jb;exact⟨_,q1,h w' dS q2⟩
theorem St.ry(n0:Nat)(v:SV)(st:St):(St.prune n0 v st).c=st.c:=by
 unfold St.prune;split<;>rfl
theorem Core.prune{J:Env}{β:Nat->Nat}{st:St}{a:Act}{w:World}(hC:Core W R Z J β st a w)(n0:Nat)(v:SV):Core W R Z J β (St.prune n0 v st) a w:=by
 unfold St.prune;split
 ·exact hC
 ·exact hC.less λk=>decide (k<n0) || (lg st.m st.o 3000 (dW v++((st.m.filter λx=>decide (x.1<n0)).flatMap (λx=>(aE x.2.1).filter λk=>decide (n0<=k))++(st.o.filter λx=>decide (x.1<n0)).flatMap (λx=>(aE (iN x.2.1)).filter λk=>decide (n0<=k)))) []).contains k
theorem Core.tG{J:Env}{β:Nat->Nat}{st:St}{a:Act}{w:World}(hC:Core W R Z J β st a w):Core W R Z J β {st with t:=fx 0 st.t} a w :=
 ⟨hC.size,λi h=>by
   have h:aq (fx 0 st.t) i ≠ .any:=h;show a.tmps[i]? = some ((aq (fx 0 st.t) i).den J β);rw [NB]at h ⊢;exact hC.tmps i h,hC.ja,hC.below,hC.mem,hC.inj,hC.fb,hC.iU,hC.fR,hC.dn,
  ⟨λi=>by
   show (aq (fx 0 st.t) i).wf st.c=true;rw [NB];exact hC.wf.t i,hC.wf.m,hC.wf.o,hC.wf.ap,hC.wf.r,hC.wf.d,hC.wf.k,hC.wf.df⟩,hC.kn⟩
def Ex.mode(J:Env):Ex->FrameMode
 | .iC i=>.panicking [{v:=(J.v i).1,recovered:=false}]
 |_=>.returning
theorem S0{b rest:Code}{d:Tmp}(h:lh b=some (d,rest)):∃id ops o,b=.seq (.region id ops false) rest/\ops.toList=[o]/\o.dst=some d/\o.guard=none/\∃at',o.op=.call ⟨.builtin .recover,#[],at'⟩:=by
 unfold lh at h;split at h
 ·rename_i id ops Pa;generalize hl:ops.toList=l at h;split at h
  ·rename_i d' args at' ty pos W8;split at h
   ·rename_i ha;cases h
    have:args=#[]:=by apply Array.ext';simpa using ha
    subst this;exact⟨_,_,_,rfl,hl,rfl,rfl,_,rfl⟩
   ·cases h
  ·cases h
 ·cases h
theorem Jc{G:bY}(hG:G.Ok){ex:Code->St->(Ex->St->Env->Prop)->Env->Prop}{c0:an}{cM:Env}{bh:Nat->Nat}
    (hE:∀(c:Code) (st:St) (K:Ex->St->Env->Prop) (J:Env),ex c st K J->c0.le st.c->Env.au c0 cM J->∀(m:Nat) (β:Nat->Nat) (a:Act) (w:World),(∀k,k<c0.nk->β k=bh k)->Core W R Z J β st a w->∀Q':Exit->Act->World->Prop,l7 W R Z st J β K Q'->c.wpIn (Fr none) m G.P Q' a w)
    {fn:Func} {e:Ex} {s:St} {KR:SV->St->Env->Prop} {KP:Nat->St->Env->Prop} {J:Env} (h:leave (PA G.P W Q QM QP) G ex fn e s KR KP J) (gU:c0.le s.c) (fP:Env.au c0 cM J) {β:Nat->Nat} {a:Act} {w:World} (dU:∀k,k<c0.nk->β k=bh k) (hC:Core W R Z J β s a w) (i_:e.ok s.c) (m:Nat)
    {T:Ending->World->Prop}
    (hR:∀v s2 ar aQ w2,KR v s2 ar->v.wf s2.c=true->v ≠ .any->s.c.le s2.c->Env.au s.c J ar->(∀k,k<s.c.nk->aQ k=β k)->Core W R Z ar aQ {s2 with d := []} {a with defers := []} w2->T (.returned (v.den ar aQ)) w2)
    (hP:∀i s2 ar aQ w2,KP i s2 ar->i<s2.c.nv->s.c.le s2.c->Env.au s.c J ar->(∀k,k<s.c.nk->aQ k=β k)->Core W R Z ar aQ {s2 with d := []} {a with defers := []} w2->T (.panicked [{v:=(ar.v i).1,recovered:=false}]) w2) :
    (∀id,e ≠ .exit id)/\LeavesInM (Fr none) m G.P fn a.tmps T a.defers (e.mode J) w:=by
  unfold leave at h;generalize oL:s.df=df at h;split at h
  ·
    have fin:(match dc G.P s fn.results.toList with
        |some l=>KR (cd l) s
        |none => (PA G.P W Q QM QP).fail "leave: results") J -> LeavesInM (Fr none) m G.P fn a.tmps T a.defers .returning w := fun hk => by
      generalize hr:dc G.P s fn.results.toList=u at hk;cases u with
      |none=>exact hk.elim
      |some l=>exact O' hC oL hr λw3 uy S1=>hR (cd l) s J β w3 hk S1 (Bj l) (an.le_refl _) (Env.ah _ _) (λ_ _=>rfl) uy
    cases e with
    |exit id=>exact h.elim
    |normal=>exact⟨by simp,fin h⟩
    |ret=>exact⟨by simp,fin h⟩
    |iC i =>
      refine⟨by simp, ?_⟩;simp only at h;generalize hd:s.d=d at h;cases d with
      |cons _ _=>exact h.elim
      |nil =>
        have he:a.defers=[]:=by rw [hC.ja,oL,hd];rfl
        rw [he];show LeavesIn (Fr none) m G.P fn a.tmps T [] (.panicking [{v:=(J.v i).1,recovered:=false}]) w;refine hP i s J β w h i_ (an.le_refl _) (Env.ah _ _) (λ_ _=>rfl) ?_
        have:=hC.shut oL (w':=w) ⟨rfl,rfl,rfl,rfl,λ_ _=>rfl⟩
        exact this
  ·
    rename_i g az;generalize hd:s.d=d at h;generalize sG:G.P.funcs[g]? = gf at h;split at h;rotate_left
    · exact h.elim
    rename_i gn;generalize S2:gn.body=gb at h;split at h;rotate_left
    · exact h.elim
    rename_i b;generalize iW:lh b=rb at h;split at h;rotate_left
    · exact h.elim
    rename_i dst rest;split at h;rotate_left
    · exact h.elim
    rename_i gv;obtain⟨Jd,zN⟩:=gv;simp only at h
    have d_:((az.map cU).map (SV.den J β)).toArray=(az.map λc=>(.pointer (some ⟨β c.1,c.2,none⟩):Value)).toArray:=by
      congr 1;simp [cU,SV.den,CV.den,At.den,Function.comp_def]
    have S3:(az.map cU).all (SV.wf s.c)=true:=List.all_eq_true.2 λx hx=>by
      obtain⟨y,hy,rfl⟩:=List.mem_map.1 hx;exact decide_eq_true (hC.wf.df _ (by rw [oL];exact List.mem_cons_self ..) y hy)
    have uz:=O7 (n:=gn.ntmps) hC S3;rw [hd]at uz;simp only [List.map_nil,List.append_nil]at uz;obtain⟨id,ops,o,gd,jc,oJ,S4,at',FN⟩:=S0 iW
    have key:∀ (rv:SV) (u u':FrameMode),u ≠ .run->settle u'=.returning->rv.wf s.c=true->rv ≠ .any->(∀ (gD:Frame) (cs:List Frame),gD.mode=u->(recoverD (gD::cs)=some (rv.den J β,{gD with mode:=u'}::cs))∨(recoverD (gD::cs)=none/\rv.den J β=.nilIface/\u'=u)) ->
        (St.put (PA G.P W Q QM QP) {t:=(List.range (az.map cU).length).zip (az.map cU),n:=(az.map cU).length+(gn.ntmps-(az.map cU).length),m:=s.m,c:=s.c,o:=s.o,r:=s.r,d := [],k:=s.k} (some dst) rv s.c λs1 =>
          ex rest s1 λe2 s2=>match e2 with
            | .normal=>match s2.d,s2.df with
              | [],[]=>match dc G.P {t:=s.t,n:=s.n,m:=s2.m,c:=s2.c,o:=s2.o,r:=s2.r,d := [],k:=s2.k} fn.results.toList with
                |some l=>KR (cd l) {t:=s.t,n:=s.n,m:=s2.m,c:=s2.c,o:=s2.o,r:=s2.r,d := [],k:=s2.k}
                |none => (PA G.P W Q QM QP).fail "leave: results"
              |_, _ => (PA G.P W Q QM QP).fail "leave: closure"
            | .ret=>match s2.d,s2.df with
              | [],[]=>match dc G.P {t:=s.t,n:=s.n,m:=s2.m,c:=s2.c,o:=s2.o,r:=s2.r,d := [],k:=s2.k} fn.results.toList with
                |some l=>KR (cd l) {t:=s.t,n:=s.n,m:=s2.m,c:=s2.c,o:=s2.o,r:=s2.r,d := [],k:=s2.k}
                |none => (PA G.P W Q QM QP).fail "leave: results"
              |_, _ => (PA G.P W Q QM QP).fail "leave: closure"
            |_ => (PA G.P W Q QM QP).fail "leave: closure") J -> LeavesInM (Fr none) m G.P fn a.tmps T a.defers u w := by
      intro rv u u' hu Je C0 W9 wB h
      have he:a.defers=[{target := .fn (.func g) (az.map λc=>(.pointer (some ⟨β c.1,c.2,none⟩):Value)).toArray,args := #[]}]:=by
        rw [hC.ja,oL,hd];rfl
      rw [he];refine⟨hu,.inr ⟨C_,.func g,_,g,(az.map λc=>(.pointer (some ⟨β c.1,c.2,none⟩):Value)).toArray,rfl, ?_,λg' _=>sD none g', ?_⟩⟩
      · simp only [invoke];rw [show (#[]:Array Value)++(az.map λc=>(.pointer (some ⟨β c.1,c.2,none⟩):Value)).toArray=(az.map λc=>(.pointer (some ⟨β c.1,c.2,none⟩):Value)).toArray from by simp];exact hG.inl g zN _ w
      refine callsDIn_of_wpSIn sG S2 (sD none g) λgD cs hm => ?_;rw [gd];refine wpSIn_seq (wpSIn_region ?_);have iS:ops.size=1:=by rw [<-Array.length_toList,jc];rfl
      have aX:ops=#[o]:=by apply Array.ext';rw [jc]
      subst aX;rw [show List.range (#[o]:Array Oper).size=[0] from rfl]
      have gQ:∀ev:Operand->Value,(execOp ev o).run G.P w=.ok .recover w:=λev=>by
        simp [execOp,FN,resolve,invoke,builtin]
      unfold wpOpsSIn;simp only [List.getElem?_toArray,List.getElem?_cons_zero];refine⟨λf _=>sD none f, ?_⟩;rw [if_pos (by simp [Region.wanted,S4]),gQ];simp only
      have go:∀ fH,fH = {gD with mode:=u'}::cs->wpOpsSIn (Fr none) (m - 1) G.P #[o] (Exit.thenS (rest.wpSIn (Fr none) (m - 1) G.P (bodyPostS G.P gn gD cs fun
          | .returned _,u',w'=>LeavesInM (Fr none) m G.P fn a.tmps T [] (settle u') w'
          | .panicked chain,u',w'=>LeavesInM (Fr none) m G.P fn a.tmps T [] (raised u' chain) w'
          | .outgrown,_,w'=>T .outgrown w')) (bodyPostS G.P gn gD cs fun
          | .returned _,u',w'=>LeavesInM (Fr none) m G.P fn a.tmps T [] (settle u') w'
          | .panicked chain,u',w'=>LeavesInM (Fr none) m G.P fn a.tmps T [] (raised u' chain) w'
          | .outgrown,_,w'=>T .outgrown w')) [] ((⟨(az.map λc=>(.pointer (some ⟨β c.1,c.2,none⟩):Value)).toArray++Array.replicate (gn.ntmps-(az.map λc=>(.pointer (some ⟨β c.1,c.2,none⟩):Value)).toArray.size) undef,[]⟩:Act).put o.dst (rv.den J β)) fH w:=by
        intro fH oc;subst oc;refine wpSIn_of_wpIn rfl ?_;rw [<-d_,oJ];refine zL (st0:=s) (cM:=J) h uz (an.le_refl _) (an.le_refl _) (Env.ah _ _) (λ_ _=>rfl) (λ_=>rfl) (next:=λa' w'=>rest.wpIn (Fr none) (m-1) G.P _ a' w') ?_;intro s1 aM eA a1 w1 tm h1 h2 h3 nE;refine hE rest s1 _ aM tm (an.le_trans gU h1) (Env.ae gU fP h2) (m-1) eA a1 w1 (λk hk=>(h3 k (Nat.lt_of_lt_of_le hk gU.k)).trans (dU k hk)) nE _ ?_;intro e2 s2 ar aQ a2 w2 g_ _ g1 g2 g3 cV;have q1:s.c.le s2.c:=an.le_trans h1 g1;have q2:Env.au s.c J ar:=Env.ae h1 h2 g2;have q3:∀k,k<s.c.nk->aQ k=β k:=λk hk=>(g3 k (Nat.lt_of_lt_of_le hk h1.k)).trans (h3 k hk)
        have back:(match s2.d,s2.df with
              | [],[]=>match dc G.P {t:=s.t,n:=s.n,m:=s2.m,c:=s2.c,o:=s2.o,r:=s2.r,d := [],k:=s2.k} fn.results.toList with
                |some l=>KR (cd l) {t:=s.t,n:=s.n,m:=s2.m,c:=s2.c,o:=s2.o,r:=s2.r,d := [],k:=s2.k}
                |none => (PA G.P W Q QM QP).fail "leave: results"
              |_, _ => (PA G.P W Q QM QP).fail "leave: closure") ar -> a2.defers = [] /\ ∃ u2, { gD with mode := u' } :: cs = { gD with mode := u2 } :: cs /\ ∃ v, (results gn a2.tmps).run G.P w2 = .ok v w2 /\ LeavesInM (Fr none) m G.P fn a.tmps T [] (settle u2) w2 := by
          intro hk;generalize zQ:s2.d=d2 at hk;generalize FJ:s2.df=f2 at hk;split at hk
          · generalize hr:dc G.P {t:=s.t,n:=s.n,m:=s2.m,c:=s2.c,o:=s2.o,r:=s2.r,d := [],k:=s2.k} fn.results.toList=ur at hk;cases ur with
            |none=>exact hk.elim
            |some l =>
              have Jf:a2.defers=[]:=by rw [cV.ja,zQ,FJ];rfl
              have hz:=(I' (P:=G.P) (fn:=gn) cV (cs := []) (by rw [Jd];rfl)).1;refine⟨Jf,u',rfl,_,hz, ?_⟩;rw [Je]
              have FO:Core W R (Z++s.d.map β) ar aQ {s2 with d := []} a2 w2:=by
                rw [hd];simp only [List.map_nil,List.append_nil]
                have:({s2 with d := []}:St)=s2:=by rw [<-zQ]
                rw [this];exact cV
              have jX:=FL hC FO q1 q2 q3
              have mM:Core W R Z ar aQ {t:=s.t,n:=s.n,m:=s2.m,c:=s2.c,o:=s2.o,r:=s2.r,d := [],k:=s2.k} {a with defers := []} w2:=by
                have gT:=jX;rw [hd]at gT;exact⟨gT.size,gT.tmps,rfl,gT.below,gT.mem,gT.inj,gT.fb,gT.iU,gT.fR,gT.dn,⟨gT.wf.t,gT.wf.m,gT.wf.o,gT.wf.ap,gT.wf.r,gT.wf.d,gT.wf.k,λx hx=>by cases hx⟩,gT.kn⟩
              obtain⟨r1,r2⟩:=I' (fn:=fn) mM hr;exact⟨_,r1,hR (cd l) _ ar aQ w2 hk r2 (Bj l) q1 q2 q3 mM⟩
          · exact hk.elim
        cases e2 with
        |normal=>exact back g_
        |ret=>exact back g_
        |exit id=>exact g_.elim
        |iC i=>exact g_.elim
      rcases wB gD cs hm with h1|⟨h1,h2,h3⟩
      · rw [h1];exact go _ rfl
      · rw [h1];simp only;rw [<-h2];refine go _ ?_;subst h3;rw [<-hm]
    cases e with
    |exit id=>exact h.elim
    |normal =>
      refine⟨by simp, ?_⟩;exact key (.cv (.one .mE)) .returning .returning (by simp) rfl rfl (by simp) (λgD cs hm=>.inr ⟨by simp [recoverD,hm],rfl,rfl⟩) h
    |ret =>
      refine⟨by simp, ?_⟩;exact key (.cv (.one .mE)) .returning .returning (by simp) rfl rfl (by simp) (λgD cs hm=>.inr ⟨by simp [recoverD,hm],rfl,rfl⟩) h
    |iC i =>
      refine⟨by simp, ?_⟩;simp only at h;by_cases hi:(fv s.k i).isSome=true
      · rw [if_pos hi]at h;exact key (.cv (.one (.val i))) (.panicking [{v:=(J.v i).1,recovered:=false}]) (.panicking [{v:=(J.v i).1,recovered:=true}]) (by simp) rfl (decide_eq_true i_) (by simp) (λgD cs hm=>.inl (by simp [recoverD,hm];rfl)) h
      · rw [if_neg hi]at h;exact h.elim
  · exact h.elim
end Vc
set_option linter.unusedVariables false
namespace Vc
open Go Go.RowKit
variable {P:Program} {W:dN} {Q:Value->Prop} {QM QP:World->Value->Prop} {R:Nat->Loop} {Z:List Nat}
theorem S5{o:aY}{a:At}{l:List At}{k:CK}{ks:List CK}(h:dX o (a::l)=some (k::ks)):kindOf o a=some k/\dX o l=some ks:=by
 simp only [dX]at h;split at h
 ·rename_i k' r h1 h2;simp only [Option.some.injEq,List.cons.injEq]at h;exact⟨h.1▸h1,h.2▸h2⟩
 ·cases h
theorem Jg(c:an)(k:CK):c.nk<=(aS c k).nk:=(zn c k).k
theorem Br:∀(ks:List CK) (c:an) {k:Nat} {x:CE × Nat × TypeId},aD (aV c ks) k=some x->c.nk<=k/\k+3<(aK c ks).nk/\k∈aG (ao c ks)/\∃n,x.1=[.var n]/\n<(aK c ks).nl
  | [],c,k,x,h=>by cases h
  |kd::l,c,k,x,h=>by
    have plain:aD (aV (aS c kd) l) k=some x->c.nk<=k/\k+3<(aK c (kd::l)).nk/\k∈aG (ao (aS c kd) l)/\∃n,x.1=[.var n]/\n<(aK c (kd::l)).nl:=λh=>by
      obtain⟨h1,h2,h3,h4⟩:=Br l _ h;exact⟨Nat.le_trans (Jg c kd) h1,h2,h3,h4⟩
    cases kd<;>first
      | (obtain⟨h1,h2,h3,h4⟩:=plain h;exact⟨h1,h2,h3,h4⟩)
      |skip
    rename_i sz t;simp only [aV,zt]at h;by_cases hk:c.nk=k
    · rw [if_pos hk]at h;cases h;subst hk
      have:=(vo l (aS c (.own sz t))).k
      have h2:=(vo l (aS c (.own sz t))).l;exact⟨Nat.le_refl _,by simp only [aK,aS]at this ⊢;omega,by simp [ao,a8,aG],c.nl,rfl,by simp only [aK,aS]at h2 ⊢;omega⟩
    · rw [if_neg hk]at h;obtain⟨h1,h2,h3,h4⟩:=plain h;exact⟨h1,h2,by simp only [ao,a8,aG];exact List.mem_cons_of_mem _ h3,h4⟩
def uA(fo oy:aY)(aa ar:Env)(ag β:Nat->Nat)(k' k:Nat):Prop :=
 (ag k'=β k/\ag (k'+1)=β (k+1)/\ag (k'+2)=β (k+2)/\ag (k'+3)=β (k+3)) /\
  ∃n ce sz t,aD fo k'=some ([.var n],sz,t)/\aD oy k=some (ce,sz,t)/\ak aa ag [.var n]=ak ar β ce
theorem Dc(fo oy:aY)(ar:Env)(β:Nat->Nat):∀ (ks:List CK) (c:an) {k:Env->Prop} {J:Env} (oD:Nat->Nat) (ys:List At),(∀ j x,aD (aV c ks) j=some x->aD fo j=some x)->lR fo (ao c ks) k J->dX oy ys=some ks ->
    ∃aa ag,k aa/\Env.au c J aa/\(∀j,j<c.nk->ag j=oD j)/\(ao c ks).map (At.den aa ag)=ys.map (At.den ar β)/\(ao c ks).map (vl fo aa)=ys.map (vl oy ar) /\
      (aG (ao c ks)).length=(aG ys).length/\(∀p∈(aG (ao c ks)).zip (aG ys),uA fo oy aa ar ag β p.1 p.2)/\(∀j∈aG (ao c ks),c.nk<=j)/\(aG (ao c ks)).Nodup
  | [],c,k,J,oD,ys,_,h,hk=>by
    cases ys with
    |nil=>exact⟨J,oD,h,Env.ah _ _,λ_ _=>rfl,rfl,rfl,rfl,λp hp=>(by cases hp),λj hj=>(by cases hj),by simp [aG,ao]⟩
    |cons y r =>
      simp only [dX]at hk;split at hk<;>simp at hk
  |kd::l,c,k,J,oD,ys,Jh,h,hk=>by
    cases ys with
    |nil=>simp [dX]at hk
    |cons y r =>
      obtain⟨h1,h2⟩:=S5 hk
      have fin:kd.plain=true->aG (y::r)=aG r->∀ {aM:Env},lR fo (ao (aS c kd) l) k aM->Env.au c J aM->(a8 c kd).den aM b0=y.den ar β->vl fo aM (a8 c kd)=vl oy ar y->(∀ aa,Env.au (aS c kd) aM aa->vl fo aa (a8 c kd)=vl fo aM (a8 c kd)) ->
          ∃aa ag,k aa/\Env.au c J aa/\(∀j,j<c.nk->ag j=oD j)/\(ao c (kd::l)).map (At.den aa ag)=(y::r).map (At.den ar β)/\(ao c (kd::l)).map (vl fo aa)=(y::r).map (vl oy ar) /\
            (aG (ao c (kd::l))).length=(aG (y::r)).length/\(∀p∈(aG (ao c (kd::l))).zip (aG (y::r)),uA fo oy aa ar ag β p.1 p.2)/\(∀j∈aG (ao c (kd::l)),c.nk<=j)/\(aG (ao c (kd::l))).Nodup:=by
        intro lj Dd aM ha hl he hv zJ;have zR:∀j x,aD (aV (aS c kd) l) j=some x->aD fo j=some x:=λj x hj=>Jh j x (by cases kd<;>first|exact hj|cases lj);have sw:(aS c kd).nk=c.nk:=by cases kd<;>first|rfl|cases lj
        obtain⟨aa,ag,q1,q2,q3,q4,q5,q6,q7,q8,q9⟩:=Dc fo oy ar β l _ oD r zR ha h2;have ho:aG (ao c (kd::l))=aG (ao (aS c kd) l):=by cases kd<;>first|rfl|cases lj
        refine⟨aa,ag,q1,Env.ae (zn c kd) hl q2,λj hj=>q3 j (by omega), ?_, ?_,by rw [ho,Dd];exact q6,by rw [ho,Dd];exact q7,by rw [ho];exact λj hj=>by have:=q8 j hj;omega,by rw [ho];exact q9⟩
        · simp only [ao,List.map_cons,q4];rw [At.aU aa ag b0 (Fk c kd lj),At.U q2 (β:=b0) (λ_ _=>rfl) (Fj c kd),he]
        · simp only [ao,List.map_cons,q5];rw [zJ aa q2,hv]
      cases kd with
      |int kk =>
        cases y<;>simp only [kindOf,reduceCtorEq,Option.some.injEq,CK.int.injEq]at h1
        · rename_i k2 e;subst h1;refine fin rfl rfl (h (e.den ar)) (xC c J _) ?_ ?_ ?_
          · simp [a8,At.den,IE.den,Env.fI]
          · simp [a8,vl,IE.den,Env.fI]
          · intro aa hl;show Vl.i (aa.i c.ni)=Vl.i _;rw [hl.i c.ni (Nat.lt_succ_self _)];rfl
        · split at h1
          · split at h1<;>simp at h1
          · cases h1
      |bool =>
        cases y<;>simp only [kindOf,reduceCtorEq,Option.some.injEq]at h1
        · rename_i e;refine fin rfl rfl (h (e.den ar)) (NJ c J _) ?_ ?_ ?_
          · simp [a8,At.den,BE.den,Env.kL]
          · simp [a8,vl,BE.den,Env.kL]
          · intro aa hl;show Vl.b (aa.b c.nb)=Vl.b _;rw [hl.b c.nb (Nat.lt_succ_self _)];rfl
        · split at h1
          · split at h1<;>simp at h1
          · cases h1
      |tf =>
        cases y<;>simp only [kindOf,reduceCtorEq,Option.some.injEq]at h1
        · rename_i e;refine fin rfl rfl (h (ar.v e)) (Co c J _) ?_ ?_ ?_
          · simp [a8,At.den,Env.mD]
          · simp [a8,vl,At.den,Env.mD]
          · intro aa hl;show Vl.v (aa.v c.nv).1=Vl.v _;rw [hl.v c.nv (Nat.lt_succ_self _)];rfl
        · split at h1
          · split at h1<;>simp at h1
          · cases h1
      |str =>
        have two:∀aa:Env,Env.au (aS c .str) J aa->True:=λ_ _=>trivial;cases y<;>simp only [kindOf,reduceCtorEq,Option.some.injEq]at h1
        · rename_i x;refine fin rfl rfl (h x) (Cp c J _) ?_ ?_ ?_
          · simp [a8,At.den,Env.oP]
          · simp [a8,vl,Env.oP]
          · intro aa hl;show Vl.s (aa.s c.ns)=Vl.s _;rw [hl.s c.ns (Nat.lt_succ_self _)]
        · rename_i x;refine fin rfl rfl (h (ar.s x)) (Cp c J _) ?_ ?_ ?_
          · simp [a8,At.den,Env.oP]
          · simp [a8,vl,Env.oP]
          · intro aa hl;show Vl.s (aa.s c.ns)=Vl.s _;rw [hl.s c.ns (Nat.lt_succ_self _)]
        · split at h1
          · split at h1<;>simp at h1
          · cases h1
      |sl sz =>
        cases y<;>simp only [kindOf,reduceCtorEq,Option.some.injEq,CK.sl.injEq]at h1
        · rename_i q p s len cap;subst h1
          have hd:∀aa:Env,aa.b c.nb=ar.b q->aa.p c.np=ar.p p->aa.i c.ni=len.den ar->aa.i (c.ni+1)=cap.den ar->∀eA,(a8 c (.sl s)).den aa eA=(At.fu q p s len cap).den ar β:=λaa e1 e2 e3 e4 eA=>by
            simp only [a8,At.den,IE.den,e1,e2,e3,e4]
          have hs:=h (ar.b q) (ar.p p) (len.den ar) (cap.den ar);have g1:((((J.kL c.nb (ar.b q)).pZ c.np (ar.p p)).fI c.ni (len.den ar)).fI (c.ni+1) (cap.den ar)).b c.nb=ar.b q:=if_pos rfl;have g2:((((J.kL c.nb (ar.b q)).pZ c.np (ar.p p)).fI c.ni (len.den ar)).fI (c.ni+1) (cap.den ar)).p c.np=ar.p p:=if_pos rfl
          have g3:((((J.kL c.nb (ar.b q)).pZ c.np (ar.p p)).fI c.ni (len.den ar)).fI (c.ni+1) (cap.den ar)).i c.ni=len.den ar:=by
            show (if c.ni=c.ni+1 then _ else if c.ni=c.ni then _ else _)=_;rw [if_neg (by omega),if_pos rfl]
          have g4:((((J.kL c.nb (ar.b q)).pZ c.np (ar.p p)).fI c.ni (len.den ar)).fI (c.ni+1) (cap.den ar)).i (c.ni+1)=cap.den ar:=if_pos rfl;refine fin rfl rfl hs (NK c J _ _ _ _) (hd _ g1 g2 g3 g4 b0) ?_ ?_
          · show Vl.v ((a8 c (.sl s)).den _ b0)=Vl.v ((At.fu q p s len cap).den ar b0);rw [hd _ g1 g2 g3 g4 b0];rfl
          · intro aa hl;show Vl.v ((a8 c (.sl s)).den aa b0)=Vl.v ((a8 c (.sl s)).den _ b0);rw [hd aa (by rw [hl.b c.nb (Nat.lt_succ_self _),g1]) (by rw [hl.p c.np (Nat.lt_succ_self _),g2]) (by rw [hl.i c.ni (by simp [aS]),g3]) (by rw [hl.i (c.ni+1) (by simp [aS]),g4]) b0,hd _ g1 g2 g3 g4 b0]
        · split at h1
          · split at h1<;>simp at h1
          · cases h1
      |own sz t =>
        cases y<;>simp only [kindOf,reduceCtorEq,Option.some.injEq]at h1;rename_i k0;split at h1
        · rename_i ce tg t' hg;split at h1
          · rename_i jS;simp only [Option.some.injEq,CK.own.injEq]at h1;obtain⟨rfl,rfl⟩:=h1;have hf:=Jh c.nk ([.var c.nl],tg,t') (by simp [aV,zt])
            have hh:∀x:List OV,lR fo (ao (aS c (.own tg t')) l) k (J.jy c.nl x):=by
              have:=h
              simp only [ao,a8,lR,hf]at this;exact this
            have hL:=hh ((ak ar β ce).attach.map λx=>⟨x.1,tF ar β ce x.1 x.2⟩)
            have mP:(((ak ar β ce).attach.map λx=>(⟨x.1,tF ar β ce x.1 x.2⟩:OV)).map (·.1))=ak ar β ce:=by
              rw [List.map_map];exact List.attach_map_subtype_val _
            have zR:∀j x,aD (aV (aS c (.own tg t')) l) j=some x->aD fo j=some x:=λj x hj=>Jh j x (by
              simp only [aV,zt]
              have:=(Br l _ hj).1
              simp only [aS]at this;rw [if_neg (by omega)];exact hj)
            let eA:Nat->Nat:=λj=>if j=c.nk then β k0 else if j=c.nk+1 then β (k0+1)else if j=c.nk+2 then β (k0+2)else if j=c.nk+3 then β (k0+3)else oD j;obtain⟨aa,ag,q1,q2,q3,q4,q5,q6,q7,q8,q9⟩:=Dc fo oy ar β l (aS c (.own tg t')) eA r zR hL h2;have mL:=re c J ((ak ar β ce).attach.map λx=>⟨x.1,tF ar β ce x.1 x.2⟩);have r0:ag c.nk=β k0:=by rw [q3 _ (by simp [aS])];exact if_pos rfl
            have r1:ag (c.nk+1)=β (k0+1):=by
              rw [q3 _ (by simp [aS])];show (if c.nk+1=c.nk then _ else if c.nk+1=c.nk+1 then _ else _)=_;rw [if_neg (by omega),if_pos rfl]
            have r2:ag (c.nk+2)=β (k0+2):=by
              rw [q3 _ (by simp [aS])];show (if c.nk+2=c.nk then _ else if c.nk+2=c.nk+1 then _ else if c.nk+2=c.nk+2 then _ else _)=_;rw [if_neg (by omega),if_neg (by omega),if_pos rfl]
            have r3:ag (c.nk+3)=β (k0+3):=by
              rw [q3 _ (by simp [aS])];show (if c.nk+3=c.nk then _ else if c.nk+3=c.nk+1 then _ else if c.nk+3=c.nk+2 then _ else if c.nk+3=c.nk+3 then _ else _)=_;rw [if_neg (by omega),if_neg (by omega),if_neg (by omega),if_pos rfl]
            have pq:aa.l c.nl=((ak ar β ce).attach.map λx=>(⟨x.1,tF ar β ce x.1 x.2⟩:OV)):=by
              rw [q2.l c.nl (by simp [aS])];exact if_pos rfl
            have pf:∀s_,ak aa s_ [.var c.nl]=ak ar β ce:=λs_=>by
              simp only [ak,Sg.den,List.append_nil,pq];exact mP
            refine⟨aa,ag,q1,Env.ae (zn c (.own tg t')) mL q2,λj hj => ?_, ?_, ?_, ?_,λp hp => ?_,λj hj => ?_, ?_⟩
            · rw [q3 j (by simp only [aS];omega)];show (if j=c.nk then _ else if j=c.nk+1 then _ else if j=c.nk+2 then _ else if j=c.nk+3 then _ else oD j)=oD j;rw [if_neg (by omega),if_neg (by omega),if_neg (by omega),if_neg (by omega)]
            · simp only [ao,a8,List.map_cons,q4,At.den,r0,r1,r2,r3]
            · simp only [ao,a8,List.map_cons,q5,vl,hf,hg];rw [pf b0,yX ar β b0 jS]
            · simp only [ao,a8,aG,List.length_cons,q6]
            · simp only [ao,a8,aG,List.zip_cons_cons,List.mem_cons]at hp;rcases hp with rfl|hp
              · exact⟨⟨r0,r1,r2,r3⟩,c.nl,ce,tg,t',hf,hg,pf ag⟩
              · exact q7 p hp
            · simp only [ao,a8,aG,List.mem_cons]at hj;rcases hj with rfl|hj
              · exact Nat.le_refl _
              · have:=q8 j hj
                simp only [aS]at this;omega
            · simp only [ao,a8,aG,List.nodup_cons];refine⟨λhm => ?_,q9⟩
              have:=q8 _ hm
              simp only [aS]at this;omega
          · cases h1
        · cases h1
theorem De{i:Nat}:∀(aW:List Nat) (vs:List CV) (l:List At) (t:List (Nat × SV)),i ∉ aW->aq (cO t aW vs l) i=aq t i
  | [],vs,l,t,_=>by cases vs<;>rfl
  |s::r,[],l,t,_=>rfl
  |s::r,v::vs,l,t,h=>by
    simp only [List.mem_cons,not_or]at h;simp only [cO];rw [De r vs _ _ h.2,zi,if_neg (λe=>h.1 e.symm)]
theorem FP(t:List (Nat × SV))(i:Nat):∀kill:List Nat,aq (dY t kill) i=.any∨aq (dY t kill) i=aq t i
  | []=>.inr rfl
  |s::r=>by
    simp only [dY,zi];by_cases h:s=i
    · rw [if_pos h];exact .inl rfl
    · rw [if_neg h];exact FP t i r
theorem Pb{tS:List (Nat × SV)}{aa ar:Env}{ag β:Nat->Nat}{i:Nat}:∀ (aW:List Nat) (vs i7:List CV) (l:List At) (t:List (Nat × SV)) (rest:List At),gO tS aW=some i7->i7.map CV.shape=vs.map CV.shape ->
    l.map (At.den aa ag)=(i7.flatMap CV.cells++rest).map (At.den ar β)->i∈aW->∃u v',aq (cO t aW vs l) i=.cv u/\aq tS i=.cv v'/\u.den aa ag=v'.den ar β
  | [],_,_,_,_,_,_,_,_,h=>by cases h
  |s::r,vs,i7,l,t,rest,hr,hs,hl,hi=>by
    simp only [gO]at hr;split at hr
    · rename_i v' vr h1 h2;simp only [Option.some.injEq]at hr;subst hr;cases vs with
      |nil=>simp at hs
      |cons v vs =>
        simp only [List.map_cons,List.cons.injEq]at hs;simp only [cO]
        have hlen:v'.cells.length=v.cells.length:=by
          have h3:=hs.1;cases v<;>cases v'<;>simp_all [CV.shape,CV.cells]
        have fZ:(l.drop v.cells.length).map (At.den aa ag)=(vr.flatMap CV.cells++rest).map (At.den ar β):=by
          rw [List.map_drop,hl,<-List.map_drop];congr 1;simp only [List.flatMap_cons,List.append_assoc];rw [<-hlen,List.drop_left]
        by_cases pt:i∈r
        · exact Pb r vs vr _ _ rest h2 hs.2 fZ pt
        · have:i=s:=by simpa [pt]using hi
          subst this;refine⟨lP v l,v', ?_,h1, ?_⟩
          · rw [De r vs _ _ pt,zi,if_pos rfl]
          · have oG:(l.take v.cells.length).map (At.den aa ag)=v'.cells.map (At.den ar β):=by
              rw [List.map_take,hl,<-List.map_take];congr 1;simp only [List.flatMap_cons,List.append_assoc];rw [<-hlen,List.take_left]
            have h3:=hs.1;cases v with
            |one a=>cases v' with
              |agg x=>simp [CV.shape]at h3
              |one a' =>
                simp only [CV.cells,List.length_cons,List.length_nil,List.map_cons,List.map_nil]at oG;cases l with
                |nil=>simp at oG
                |cons b l=>simpa [lP,CV.den]using oG
            |agg x=>cases v' with
              |one a=>simp [CV.shape]at h3
              |agg y =>
                simp only [CV.cells]at oG;simp only [lP,CV.den,oG]
    · cases hr
theorem vC:∀ (free:List (Nat × Nat)) (m:Mem) (l:List At) {k:Nat} {kb:List At} {t:TypeId},getM (bH m free l) k=some (kb,t) ->
    ∃og,getM m k=some (og,t)/\og.length=kb.length/\∀o,(k,o) ∉ free->og[o]? = kb[o]?
  | [],m,l,k,kb,t,h=>⟨kb,by cases l<;>exact h,rfl,λ_ _=>rfl⟩
  | (j,p)::r,m,[],k,kb,t,h=>⟨kb,h,rfl,λ_ _=>rfl⟩
  | (j,p)::r,m,a::l,k,kb,t,h=>by
    simp only [bH]at h;split at h
    · rename_i cs ty hg;obtain⟨og,h1,h2,h3⟩:=vC r _ l h;rw [sq]at h1;by_cases hj:j=k
      · subst hj;rw [if_pos rfl,hg]at h1;simp only [Option.map_some,Option.some.injEq,Prod.mk.injEq]at h1;obtain⟨rfl,rfl⟩:=h1;refine⟨cs,hg,by simpa using h2,λo ho => ?_⟩;simp only [List.mem_cons,Prod.mk.injEq,not_or]at ho;rw [<-h3 o ho.2,List.getElem?_set_ne (λe=>ho.1 (by simp [e]))]
      · rw [if_neg hj]at h1;exact⟨og,h1,h2,λo ho=>h3 o (λhm=>ho (List.mem_cons_of_mem _ hm))⟩
    · obtain⟨og,h1,h2,h3⟩:=vC r _ l h;exact⟨og,h1,h2,λo ho=>h3 o (λhm=>ho (List.mem_cons_of_mem _ hm))⟩
theorem FQ:∀(free:List (Nat × Nat)) (m:Mem) (l:List At) {k:Nat} {x:List At × TypeId},getM m k=some x->∃y,getM (bH m free l) k=some y
  | [],m,l,k,x,h=>⟨x,by cases l<;>exact h⟩
  | (j,p)::r,m,[],k,x,h=>⟨x,h⟩
  | (j,p)::r,m,a::l,k,x,h=>by
    simp only [bH];split
    · rename_i cs ty hg;by_cases hj:j=k
      · subst hj;exact FQ r _ l (x:=(cs.set p a,ty)) (by rw [sq,if_pos rfl,hg];rfl)
      · exact FQ r _ l (x:=x) (by rw [sq,if_neg hj];exact h)
    · exact FQ r _ l h
theorem FR{sM:Mem}{sO:aY}{aa ar:Env}{ag β:Nat->Nat}:∀ (free:List (Nat × Nat)) (m:Mem) (l ms:List At) {k o:Nat} {kb:List At} {t:TypeId},i6 sM sO free=some ms->(∀ k x,getM m k=some x->getM sM k≠none)->l.map (At.den aa ag)=ms.map (At.den ar β) ->
    getM (bH m free l) k=some (kb,t)->(k,o)∈free->o<kb.length->∃f cs y ty,kb[o]? = some f/\getM sM k=some (cs,ty)/\cs[o]? = some y/\f.den aa ag=y.den ar β
  | [],_,_,_,_,_,_,_,_,_,_,_,h,_=>by cases h
  | (j,p)::r,m,l,ms,k,o,kb,t,hr,zS,hl,hw,hi,ho=>by
    simp only [i6]at hr;split at hr
    · rename_i cs ty ml hg Bs;split at hr
      · rename_i y hy;simp only [Option.some.injEq]at hr;subst hr;cases l with
        |nil=>simp at hl
        |cons a l =>
          simp only [List.map_cons,List.cons.injEq]at hl;simp only [bH]at hw;by_cases pt:(k,o)∈r
          · split at hw
            · exact FR r _ l ml Bs (fun k' x' vB=>by
                rw [sq]at vB;split at vB
                · rename_i he;subst he;rw [hg];simp
                · exact zS _ _ vB) hl.2 hw pt ho
            · exact FR r _ l ml Bs zS hl.2 hw pt ho
          · have hh:k=j/\o=p:=by simpa [pt]using hi
            obtain⟨rfl,rfl⟩:=hh;split at hw
            · rename_i fH Cn eF;obtain⟨og,h1,h2,h3⟩:=vC r _ l hw;rw [sq,if_pos rfl,eF]at h1;simp only [Option.map_some,Option.some.injEq,Prod.mk.injEq]at h1;obtain⟨rfl,rfl⟩:=h1;refine⟨a,cs,y,ty, ?_,hg,hy,hl.1⟩;rw [<-h3 o pt]
              have:o<fH.length:=by simpa using (h2▸ho:o<(fH.set o a).length)
              rw [List.getElem?_set_self this]
            · rename_i eF;obtain⟨og,h1,_,_⟩:=vC r _ l hw;rw [eF]at h1;cases h1
      · cases hr
    · rename_i ml hg Bs;split at hr;rotate_left
      · cases hr
      simp only [Option.some.injEq]at hr;subst hr;cases l with
      |nil=>simp at hl
      |cons a l =>
        simp only [List.map_cons,List.cons.injEq]at hl;simp only [bH]at hw
        have rl:getM m j=none:=by
          cases hq:getM m j with
          |none=>rfl
          |some x=>exact absurd hg (zS j x hq)
        rw [rl]at hw;simp only at hw;obtain⟨og,h1,_,_⟩:=vC r _ l hw
        have pt:(k,o)∈r:=by
          rcases List.mem_cons.1 hi with he|he
          · cases he;rw [rl]at h1;cases h1
          · exact he
        exact FR r _ l ml Bs zS hl.2 hw pt ho
    · cases hr
theorem Pc{k:Nat}{free:List (Nat × Nat)}:∀(x y:List At) (o:Nat),fG k free o x y=true->y.length=x.length/\∀j,(k,o+j) ∉ free->y[j]? = x[j]?
  | [],[],o,_=>⟨rfl,λ_ _=>rfl⟩
  | [],_::_,o,h=>by simp [fG]at h
  |_::_,[],o,h=>by simp [fG]at h
  |a::x,b::y,o,h=>by
    simp only [fG,Bool.and_eq_true,Bool.or_eq_true,List.contains_iff_mem,decide_eq_true_eq]at h;obtain⟨h1,h2⟩:=Pc x y (o+1) h.2;refine⟨by simp [h1],λj hj => ?_⟩;cases j with
    |zero =>
      rcases h.1 with h3|h3
      · exact (hj h3).elim
      · simp [h3]
    |succ j =>
      have:=h2 j (by rw [show o+1+j=o+(j+1) by omega];exact hj)
      simpa using this
theorem Pd:∀{t:List (Nat × SV)} {i:Nat},aq t i ≠ .any->∃v,(i,v)∈t
  | [],_,h=>(h rfl).elim
  | (j,v)::r,i,h=>by
    rw [zi]at h;by_cases hj:j=i
    · exact⟨v,by simp [hj]⟩
    · rw [if_neg hj]at h;obtain⟨u,hu⟩:=Pd h;exact⟨u,List.mem_cons_of_mem _ hu⟩
theorem Pe:∀{m:Mem} {k:Nat} {x:List At × TypeId},getM m k=some x->(k,x)∈m
  | [],_,_,h=>by cases h
  | (j,v)::r,k,x,h=>by
    rw [xI]at h;by_cases hj:j=k
    · rw [if_pos hj]at h;cases h;simp [hj]
    · rw [if_neg hj]at h;exact List.mem_cons_of_mem _ (Pe h)
theorem FT:∀{m:aY} {k:Nat} {x:CE × Nat × TypeId},aD m k=some x->(k,x)∈m
  | [],_,_,h=>by cases h
  | (j,v)::r,k,x,h=>by
    rw [zt]at h;by_cases hj:j=k
    · rw [if_pos hj]at h;cases h;simp [hj]
    · rw [if_neg hj]at h;exact List.mem_cons_of_mem _ (FT h)
theorem Bt:∀(x y:aY) (k:Nat),aD (x++y) k=match aD x k with|some v=>some v|none=>aD y k
  | [],y,k=>rfl
  | (j,v)::r,y,k=>by
    simp only [List.cons_append,zt];by_cases hj:j=k
    · simp only [if_pos hj]
    · simp only [if_neg hj];exact Bt r y k
theorem S6{a b:St}{aW:List Nat}{free:List (Nat × Nat)}{own:List Nat}(h:oa a b aW free own=true) :
  (b.n=a.n/\b.r=a.r/\b.d=a.d/\b.df=a.df)/\(∀i,i ∉ aW->aq a.t i=.any∨aq b.t i=aq a.t i) /\
  (∀k kb t,getM a.m k=some (kb,t)->∃cs,getM b.m k=some (cs,t)/\cs.length=kb.length/\∀o,(k,o) ∉ free->cs[o]? = kb[o]?) /\
  ∀k x,aD a.o k=some x->k ∉ own->aD b.o k=some x:=by
 simp only [oa,Bool.and_eq_true,decide_eq_true_eq,List.all_eq_true,Bool.or_eq_true,List.contains_iff_mem]at h;obtain⟨⟨⟨h0,h3⟩,h1⟩,h2⟩:=h;refine⟨h0,λi hi => ?_,λk kb t hg => ?_,λk x hg hk => ?_⟩
 ·by_cases ha:aq a.t i=.any
  ·exact .inl ha
  ·obtain⟨v,hv⟩:=Pd ha;rcases h1 _ hv with (h3|h3)|h3
   ·exact (hi h3).elim
   ·exact .inl h3
   ·exact .inr h3
 ·have:=h2 _ (Pe hg)
  simp only at this;split at this
  ·rename_i cs t' hb;simp only [Bool.and_eq_true,decide_eq_true_eq]at this;obtain⟨rfl,h3⟩:=this;obtain⟨q1,q2⟩:=Pc _ _ 0 h3;exact⟨cs,hb,q1,λo ho=>q2 o (by simpa using ho)⟩
  ·cases this
 ·rcases h3 _ (FT hg)with h4|h4
  ·exact (hk h4).elim
  ·rw [h4];exact hg
theorem Pf{st:St}(h:st.WF):∀(aW:List Nat) {vs:List CV},gO st.t aW=some vs->vs.all (CV.wf st.c)=true
  | [],vs,hr=>by simp only [gO,Option.some.injEq]at hr;subst hr;rfl
  |s::r,vs,hr=>by
    simp only [gO]at hr;split at hr
    · rename_i v l h1 h2;simp only [Option.some.injEq]at hr;subst hr
      have:=h.t s
      rw [h1]at this;simp only [List.all_cons,Pf h r h2,Bool.and_true];exact this
    · cases hr
theorem Pg{c:an}:∀(aW:List Nat) (vs:List CV) (l:List At) (t:List (Nat × SV)),(∀i,(aq t i).wf c=true)->vs.all (CV.wf c)=true->l.all (At.wf c)=true->∀i,(aq (cO t aW vs l) i).wf c=true
  | [],vs,l,t,h,_,_=>by cases vs<;>exact h
  |s::r,[],l,t,h,_,_=>h
  |s::r,v::vs,l,t,h,hv,hl=>by
    simp only [List.all_cons,Bool.and_eq_true]at hv;simp only [cO];refine Pg r vs _ _ (λi => ?_) hv.2 (zp hl _).2;rw [zi];by_cases hi:s=i
    · rw [if_pos hi];cases v with
      |one a =>
        simp only [lP,SV.wf,CV.wf];cases l with
        |nil=>exact hv.1
        |cons b l=>simp only [List.all_cons,Bool.and_eq_true]at hl;exact hl.1
      |agg x=>exact (zp hl _).1
    · rw [if_neg hi];exact h i
theorem Ji{c:an}:∀ (free:List (Nat × Nat)) (m:Mem) (l:List At),(∀ k cs t,getM m k=some (cs,t)->k < c.nk/\cs.all (At.wf c)=true)->l.all (At.wf c)=true ->
    ∀k cs t,getM (bH m free l) k=some (cs,t)->k<c.nk/\cs.all (At.wf c)=true
  | [],m,l,h,_=>by cases l<;>exact h
  | (j,p)::r,m,[],h,_=>h
  | (j,p)::r,m,a::l,h,hl=>by
    simp only [List.all_cons,Bool.and_eq_true]at hl;simp only [bH];split
    · rename_i cs ty hg;refine Ji r _ l (λk fH t hk => ?_) hl.2;rw [sq]at hk;by_cases hj:j=k
      · subst hj;rw [if_pos rfl,hg]at hk;simp only [Option.map_some,Option.some.injEq,Prod.mk.injEq]at hk;obtain⟨rfl,rfl⟩:=hk;have h1:=h j cs ty hg;refine⟨h1.1,List.all_eq_true.2 λx hx => ?_⟩;rcases List.mem_or_eq_of_mem_set hx with hx|rfl
        · exact List.all_eq_true.1 h1.2 x hx
        · exact hl.1
      · rw [if_neg hj]at hk;exact h k fH t hk
    · exact Ji r m l h hl.2
theorem Jj{α β:Type}:∀(x:List α) (y:List β),x.length=y.length->∀a∈x,∃b,(a,b)∈x.zip y
  | [],_,_,a,h=>by cases h
  |a0::x,[],h,_,_=>by simp at h
  |a0::x,b0::y,h,a,ha=>by
    rcases List.mem_cons.1 ha with rfl|ha
    · exact⟨b0,by simp⟩
    · obtain⟨b,hb⟩:=Jj x y (by simpa using h) a ha;exact⟨b,by simp [hb]⟩
theorem Df{α β:Type}:∀(x:List α) (y:List β),y.Nodup->∀{a a':α} {b:β},(a,b)∈x.zip y->(a',b)∈x.zip y->a=a'
  | [],_,_,_,_,_,h,_=>by simp at h
  |_::_,[],_,_,_,_,h,_=>by simp at h
  |a0::x,b0::y,hn,a,a',b,h,h'=>by
    simp only [List.nodup_cons]at hn;simp only [List.zip_cons_cons,List.mem_cons,Prod.mk.injEq]at h h';rcases h with ⟨rfl,rfl⟩|h
    · rcases h' with ⟨rfl,_⟩|h'
      · rfl
      · exact (hn.1 (List.of_mem_zip h').2).elim
    · rcases h' with ⟨rfl,rfl⟩|h'
      · exact (hn.1 (List.of_mem_zip h).2).elim
      · exact Df x y hn.2 h h'
theorem FU(kf k:Nat)(i:Nat):∀t:List (Nat × SV),aq (o_ kf k t) i=qt kf k (aq t i)
  | []=>rfl
  | (j,v)::r=>by
    simp only [o_,zi,FU kf k i r];split<;>rfl
theorem wC{kf k:Nat}(dO:kf≠k)(i:Nat):∀o:aY,aD o k=none->aD (n_ kf k o) i=if i=k then aD o kf else if i=kf then none else aD o i
  | [],_=>by simp [n_,aD]
  | (j,v)::r,h=>by
    rw [zt]at h;split at h
    · cases h
    · rename_i hj;simp only [n_,zt,wC dO i r h];generalize aD r i=a;generalize aD r kf=b;by_cases h1:j=kf
      · simp only [h1,if_true];by_cases h2:i=k
        · rw [if_pos h2.symm,if_pos h2]
        · rw [if_neg (λe=>h2 e.symm),if_neg h2,if_neg h2];by_cases h3:i=kf
          · rw [if_pos h3,if_pos h3]
          · rw [if_neg h3,if_neg h3,if_neg (λe=>h3 e.symm)]
      · simp only [h1,if_false];by_cases h4:j=i
        · rw [if_pos h4,if_neg (λe=>hj (h4.trans e)),if_neg (λe=>h1 (h4.trans e)),if_pos h4]
        · rw [if_neg h4,if_neg h4]
theorem Jk{kf k:Nat}{J:Env}{β:Nat->Nat}(hb:β kf=β k/\β (kf+1)=β (k+1)/\β (kf+2)=β (k+2)/\β (kf+3)=β (k+3)):∀v:SV,(qt kf k v).den J β=v.den J β:=by
 intro v;unfold qt;split
 ·rename_i j;split
  ·rename_i h;subst h;simp only [SV.den,CV.den,At.den,hb.1,hb.2.1,hb.2.2.1,hb.2.2.2]
  ·rfl
 ·rfl
theorem Jl{kf k:Nat}{v:SV}(h:qt kf k v ≠ .any):v ≠ .any:=by
 intro e;subst e;exact h rfl
theorem Jm{J:Env}{β:Nat->Nat}{st:St}{a:Act}{w:World}{kf k:Nat}(hC:Core W R Z J β st a w)(dO:kf≠k)(hb:β kf=β k/\β (kf + 1)=β (k + 1)/\β (kf + 2)=β (k + 2)/\β (kf + 3)=β (k + 3))
    (hm:getM st.m k=none) (ho:aD st.o k=none) (hk:k+3<st.c.nk):Core W R Z J β {st with t:=o_ kf k st.t,o:=n_ kf k st.o} a w:=by
  have obj:∀{j e},aC st.m (n_ kf k st.o) j=some e->∃j',aC st.m st.o j'=some e/\((j=k/\j'=kf)∨(j≠k/\j≠kf/\j'=j)∨(j'=j/\∃x,getM st.m j=some x))/\(Holds W J β j' e w->Holds W J β j e w)/\bu β j e=bu β j' e:=by
    intro j e hg;unfold aC at hg;cases FV:getM st.m j with
    |some x =>
      rw [FV]at hg;exact⟨j,by unfold aC;rw [FV];exact hg,.inr (.inr ⟨rfl,x,rfl⟩),λh=>h,rfl⟩
    |none =>
      rw [FV]at hg;simp only [wC dO j st.o ho]at hg;by_cases h1:j=k
      · subst h1;rw [if_pos rfl]at hg;cases hx:aD st.o kf with
        |none=>rw [hx]at hg;cases hg
        |some x =>
          rw [hx]at hg;simp only [Option.some.injEq]at hg;subst hg;refine⟨kf,jP (hC.wf.ap kf x hx) hx,.inl ⟨rfl,rfl⟩,λh => ?_,by simp only [bu,hb.1,hb.2.1]⟩;simp only [Holds]at h ⊢;rw [<-hb.1,<-hb.2.1,<-hb.2.2.1,<-hb.2.2.2];exact h
      · rw [if_neg h1]at hg;by_cases h2:j=kf
        · rw [if_pos h2]at hg;cases hg
        · rw [if_neg h2]at hg;cases hx:aD st.o j with
          |none=>rw [hx]at hg;cases hg
          |some x =>
            rw [hx]at hg;simp only [Option.some.injEq]at hg;subst hg;exact⟨j,jP FV hx,.inr (.inl ⟨h1,h2,rfl⟩),λh=>h,rfl⟩
  have Ph:∀{x},getM st.m kf=some x->aD st.o kf=none:=λ{x} h=>by
    cases hx:aD st.o kf with
    |none=>rfl
    |some y=>have:=hC.wf.ap kf y hx;rw [this]at h;cases h
  refine⟨hC.size,λi hn => ?_,hC.ja,hC.below,λj e hg => ?_,λj j' e e' b hx hy jb kC => ?_,hC.fb,hC.iU,hC.fR,hC.dn,⟨λi => ?_,hC.wf.m,λj ce sz t hg => ?_,λj x hg => ?_,hC.wf.r,hC.wf.d,hC.wf.k,hC.wf.df⟩,hC.kn⟩
  · simp only [FU]at hn ⊢;rw [hC.tmps i (Jl hn),Jk hb]
  · obtain⟨j',h1,_,h3,_⟩:=obj hg;exact h3 (hC.mem j' e h1)
  · obtain⟨i,h1,h2,_,h4⟩:=obj hx;obtain⟨i',g1,g2,_,g4⟩:=obj hy;rw [h4]at jb;rw [g4]at kC
    have:=hC.inj i i' e e' b h1 g1 jb kC
    subst this;rcases h2 with ⟨a1,a2⟩|⟨a1,a2,a3⟩|⟨a1,x,a2⟩<;>rcases g2 with ⟨b1,b2⟩|⟨b1,b2,b3⟩|⟨b1,y,FE⟩
    · exact a1.trans b1.symm
    · exact (b2 (b3.symm.trans a2)).elim
    · exfalso;have e1:j'=kf:=b1.symm.trans a2;subst e1;unfold aC at hx;subst a1;rw [hm]at hx;simp only [wC dO j st.o ho,if_true]at hx;rw [Ph FE]at hx;cases hx
    · exact (a2 (a3.symm.trans b2)).elim
    · exact a3.symm.trans b3
    · exact a3.symm.trans b1
    · exfalso;have e1:j=kf:=a1.symm.trans b2;subst e1;unfold aC at hy;subst b1;rw [hm]at hy;simp only [wC dO j' st.o ho,if_true]at hy;rw [Ph a2]at hy;cases hy
    · exact a1.symm.trans b3
    · exact a1.symm.trans b1
  · simp only [FU];have h1:=hC.wf.t i;unfold qt;split
    · rename_i j hj;split
      · show (decide (k+3<st.c.nk))=true;simpa using hk
      · rw [hj]at h1;exact h1
    · exact h1
  · simp only [wC dO j st.o ho]at hg;split at hg
    · rename_i h1;subst h1;exact⟨hk,(hC.wf.o kf ce sz t hg).2⟩
    · split at hg
      · cases hg
      · exact hC.wf.o j ce sz t hg
  · simp only [wC dO j st.o ho]at hg;split at hg
    · rename_i h1;subst h1;exact hm
    · split at hg
      · cases hg
      · exact hC.wf.ap j x hg
theorem Pj:∀(ij:List (Nat × Nat)) (st:St),(iy ij st).m=st.m/\(iy ij st).c=st.c/\(iy ij st).n=st.n/\(iy ij st).r=st.r/\(iy ij st).d=st.d/\(iy ij st).k=st.k/\(iy ij st).df=st.df
 | [],st=>⟨rfl,rfl,rfl,rfl,rfl,rfl,rfl⟩
 | (kf,k)::r,st=>Pj r _
theorem Pk{J:Env}{β:Nat->Nat}{a:Act}{w:World}:∀ (ij:List (Nat × Nat)) {st:St},Core W R Z J β st a w ->
    (∀p∈ij,p.1≠p.2/\(β p.1=β p.2/\β (p.1+1)=β (p.2+1)/\β (p.1+2)=β (p.2+2)/\β (p.1+3)=β (p.2+3))/\getM st.m p.2=none/\aD st.o p.2=none/\p.2+3<st.c.nk)->(ij.map (·.2)).Nodup->Core W R Z J β (iy ij st) a w
  | [],st,hC,_,_=>hC
  | (kf,k)::r,st,hC,h,hn=>by
    obtain⟨h1,h2,h3,h4,h5⟩:=h (kf,k) (List.mem_cons_self ..);simp only [List.map_cons,List.nodup_cons]at hn;refine Pk r (Jm hC h1 h2 h3 h4 h5) (λp hp => ?_) hn.2;obtain⟨g1,g2,g3,g4,g5⟩:=h p (List.mem_cons_of_mem _ hp);refine⟨g1,g2,g3, ?_,g5⟩;simp only [wC h1 p.2 st.o h4];rw [if_neg λe=>hn.1 (List.mem_map.2 ⟨p,hp,e⟩)];split
    · rfl
    · exact g4
theorem Pl{i:Nat}:∀(ij:List (Nat × Nat)) (st:St),(∀p∈ij,aq st.t i ≠ .cv (.one (.own p.1)))->aq (iy ij st).t i=aq st.t i
  | [],st,_=>rfl
  | (kf,k)::r,st,h=>by
    have e:aq (o_ kf k st.t) i=aq st.t i:=by
      rw [FU];have h1:=h (kf,k) (List.mem_cons_self ..);unfold qt;split
      · rename_i j hj;rw [hj]at h1;rw [if_neg (λe=>h1 (by rw [e]))];exact hj.symm
      · rfl
    show aq (iy r _).t i=_;rw [Pl r _ (λp hp=>by rw [show aq ({st with t:=o_ kf k st.t,o:=n_ kf k st.o}:St).t i=aq (o_ kf k st.t) i from rfl,e];exact h p (List.mem_cons_of_mem _ hp))];exact e
theorem Pm{j:Nat}:∀(ij:List (Nat × Nat)) (st:St),(∀p∈ij,p.1≠p.2/\aD st.o p.2=none/\j≠p.1/\j≠p.2)->(ij.map (·.2)).Nodup->aD (iy ij st).o j=aD st.o j
  | [],st,_,_=>rfl
  | (kf,k)::r,st,h,hn=>by
    obtain⟨h1,h2,h3,h4⟩:=h (kf,k) (List.mem_cons_self ..);simp only [List.map_cons,List.nodup_cons]at hn;have e:∀i,i≠k->i≠kf->aD (n_ kf k st.o) i=aD st.o i:=λi a b=>by rw [wC h1 i st.o h2,if_neg a,if_neg b]
    show aD (iy r _).o j=_;rw [Pm r _ (λp hp => ?_) hn.2]
    · exact e j h4 h3
    · obtain⟨g1,g2,g3,g4⟩:=h p (List.mem_cons_of_mem _ hp);refine⟨g1, ?_,g3,g4⟩;simp only [wC h1 p.2 st.o h2];rw [if_neg λe=>hn.1 (List.mem_map.2 ⟨p,hp,e⟩)];split
      · rfl
      · exact g2
theorem Dg{st s:St}{J ar aa:Env}{β ag:Nat->Nat}{a:Act}{w:World}{aW kill:List Nat}{free:List (Nat × Nat)}{vs i7:List CV}{kR:List At}{ks:List CK}{qD:List Nat}(il:st.WF)(sH:bK.den st.k J)(hC:Core W R Z ar β s a w)(fZ:Env.au st.c J ar)(pR:Env.au st.c J aa)
    (S7:∀j,j<st.c.nk->ag j=β j)
    (Dh:gO st.t aW=some vs) (hr:gO s.t aW=some i7) (ga:i7.map CV.shape=vs.map CV.shape) (S8:i6 s.m s.o free=some kR)
    (kS:(ao st.c ks).map (At.den aa ag)=(i7.flatMap CV.cells++kR).map (At.den ar β)) (hn:s.n=st.n/\s.r=st.r/\s.d=st.d/\s.df=st.df)
    (hs:∀i,i ∉ aW->aq (cO (dY st.t kill) aW vs (ao st.c ks)) i=.any∨aq s.t i=aq (cO (dY st.t kill) aW vs (ao st.c ks)) i)
    (hm:∀k kb t,getM (bH st.m free ((ao st.c ks).drop (vs.flatMap CV.cells).length)) k=some (kb,t)->∃cs,getM s.m k=some (cs,t)/\cs.length=kb.length/\∀o,(k,o) ∉ free->cs[o]? = kb[o]?)
    (hlen:(aG (ao st.c ks)).length=(aG (i7.flatMap CV.cells++kR)).length)
    (uB:∀p∈(aG (ao st.c ks)).zip (aG (i7.flatMap CV.cells++kR)),uA (aV st.c ks) s.o aa ar ag β p.1 p.2) (rj:(aG (i7.flatMap CV.cells++kR)).Nodup)
    (Jn:∀k x,aD (bI st.o qD) k=some x->aD s.o k=some x) (Di:∀k∈aG (i7.flatMap CV.cells++kR),aD (bI st.o qD) k=none) :
    Core W R Z aa ag {t:=cO (dY st.t kill) aW vs (ao st.c ks),n:=st.n,m:=bH st.m free ((ao st.c ks).drop (vs.flatMap CV.cells).length),c:=aK st.c ks,o:=aV st.c ks++bI st.o qD,r:=st.r,d:=st.d,k:=st.k,df:=st.df} a w:=by
  have hle:=vo ks st.c
  have si:∀i,(aq (dY st.t kill) i).wf st.c=true:=λi=>by
    rcases FP st.t i kill with h|h<;>rw [h]
    · rfl
    · exact il.t i
  have gY:∀j,j<st.c.nk->ag j=β j:=S7;have Jo:∀{x:SV},x.wf st.c=true->x.den aa ag=x.den ar β:=λhx=>(SV.U pR gY hx).trans (SV.U fZ (λ_ _=>rfl) hx).symm;have Jp:∀{x:At},x.wf st.c=true->x.den aa ag=x.den ar β:=λhx=>(At.U pR gY hx).trans (At.U fZ (λ_ _=>rfl) hx).symm
  have Dj:(i7.flatMap CV.cells).length=(vs.flatMap CV.cells).length:=by
    have:∀(x y:List CV),x.map CV.shape=y.map CV.shape->(x.flatMap CV.cells).length=(y.flatMap CV.cells).length:=by
      intro x
      induction x with
      |nil=>intro y h;cases y with
        |nil=>rfl
        |cons b y=>simp at h
      |cons c x ih=>intro y h;cases y with
        |nil=>simp at h
        |cons b y =>
          simp only [List.map_cons,List.cons.injEq]at h;simp only [List.flatMap_cons,List.length_append,ih y h.2]
          have:c.cells.length=b.cells.length:=by
            have h3:=h.1;cases c<;>cases b<;>simp_all [CV.shape,CV.cells]
          rw [this]
    exact this _ _ ga
  have Dk:((ao st.c ks).drop (vs.flatMap CV.cells).length).map (At.den aa ag)=kR.map (At.den ar β):=by
    rw [List.map_drop,kS,<-List.map_drop,<-Dj,List.drop_left]
  have qE:∀{k x},aD (bI st.o qD) k=some x->k+3<st.c.nk/\bP st.c x.1=true/\getM st.m k=none:=λ{k x} hg=>by
    rw [vz]at hg;split at hg
    · cases hg
    · exact⟨(il.o k x.1 x.2.1 x.2.2 hg).1,(il.o k x.1 x.2.1 x.2.2 hg).2,il.ap k x hg⟩
  have S9:∀k cs t,getM (bH st.m free ((ao st.c ks).drop (vs.flatMap CV.cells).length)) k=some (cs,t)->k<(aK st.c ks).nk/\cs.all (At.wf (aK st.c ks))=true:=by
    refine Ji free st.m _ (λk cs t hk => ?_) (zp (yU ks st.c) _).2
    have:=il.m k cs t hk
    exact⟨Nat.lt_of_lt_of_le this.1 hle.k,yE hle this.2⟩
  have mlt:∀{k cs t},getM (bH st.m free ((ao st.c ks).drop (vs.flatMap CV.cells).length)) k=some (cs,t)->k<st.c.nk:=λ{k cs t} hg=>by
    obtain⟨og,h1,_,_⟩:=vC free st.m _ hg;exact (il.m k og t h1).1
  have uC:∀{k},getM st.m k=none->getM (bH st.m free ((ao st.c ks).drop (vs.flatMap CV.cells).length)) k=none:=λ{k} hk=>by
    cases hg:getM (bH st.m free ((ao st.c ks).drop (vs.flatMap CV.cells).length)) k with
    |none=>rfl
    |some x =>
      obtain⟨og,h1,_,_⟩:=vC free st.m _ (show _=some (x.1,x.2) from hg);rw [hk]at h1;cases h1
  have Jq:∀{k},st.c.nk<=k->getM (bH st.m free ((ao st.c ks).drop (vs.flatMap CV.cells).length)) k=none:=λ{k} hk=>by
    cases hg:getM (bH st.m free ((ao st.c ks).drop (vs.flatMap CV.cells).length)) k with
    |none=>rfl
    |some x=>have:=mlt (show _=some (x.1,x.2) from hg);omega
  have obj:∀ k e,aC (bH st.m free ((ao st.c ks).drop (vs.flatMap CV.cells).length)) (aV st.c ks++bI st.o qD) k=some e ->
      ∃j e0,aC s.m s.o j=some e0/\Holds W aa ag k e w/\bu ag k e=bu β j e0 /\
        ((j=k/\k<st.c.nk/\((∃cs t,getM s.m k=some (cs,t))∨∃x,aD (bI st.o qD) k=some x))∨(st.c.nk<=k/\(k,j)∈(aG (ao st.c ks)).zip (aG (i7.flatMap CV.cells++kR)))):=by
    intro k e hg;unfold aC at hg;cases rl:getM (bH st.m free ((ao st.c ks).drop (vs.flatMap CV.cells).length)) k with
    |some x =>
      obtain⟨kb,t⟩:=x;rw [rl]at hg;simp only [Option.some.injEq]at hg;subst hg;obtain⟨cs,q1,q2,q3⟩:=hm k kb t rl;have hk:=mlt rl;obtain⟨m1,m2⟩:=hC.fix q1;refine⟨k,.fix cs t,nA q1,⟨by rw [gY k hk];exact m1, ?_⟩,by simp only [bu,gY k hk],.inl ⟨rfl,hk,.inl ⟨cs,t,q1⟩⟩⟩;rw [gY k hk,m2];congr 3;apply List.ext_getElem?;intro o;simp only [List.getElem?_map];by_cases ho:o<kb.length
      · by_cases hf:(k,o)∈free
        · obtain⟨f,fH,y,ty,r1,r2,r3,r4⟩:=FR (aa:=aa) (ar:=ar) (ag:=ag) (β:=β) free st.m _ kR S8 (fun k x hx=>by
            obtain⟨y,hy⟩:=FQ free st.m ((ao st.c ks).drop (vs.flatMap CV.cells).length) hx;obtain⟨cs,oc,_⟩:=hm k y.1 y.2 hy;rw [oc];simp) Dk rl hf ho
          rw [q1]at r2;simp only [Option.some.injEq,Prod.mk.injEq]at r2;obtain⟨rfl,rfl⟩:=r2;rw [r1,r3,Option.map_some,Option.map_some,r4]
        · rw [q3 o hf];obtain⟨og,p1,p2,p3⟩:=vC free st.m _ rl;cases hx:kb[o]? with
          |none=>rfl
          |some x =>
            have Jr:og[o]? = some x:=by rw [p3 o hf,hx]
            simp only [Option.map_some];exact congrArg some (Jp (List.all_eq_true.1 (il.m k og t p1).2 x (List.mem_of_getElem? Jr))).symm
      · rw [List.getElem?_eq_none (by omega),List.getElem?_eq_none (by omega)];rfl
    |none =>
      rw [rl]at hg;simp only [Bt]at hg;cases sG:aD (aV st.c ks) k with
      |some x =>
        rw [sG]at hg;simp only [Option.some.injEq]at hg;obtain⟨h1,h2,h3,n0,h4,h5⟩:=Br ks st.c sG;obtain⟨j,hj⟩:=Jj _ _ hlen k h3;obtain⟨⟨e0,e1,e2,e3⟩,n,ce,sz,t,p1,p2,p3⟩:=uB (k,j) hj;simp only at e0 e1 e2 e3 p1 p2;rw [sG]at p1;simp only [Option.some.injEq]at p1;subst p1;subst hg;have hE:=jP (hC.wf.ap j _ p2) p2;have hH:=hC.mem j _ hE;refine⟨j,_,hE, ?_,by simp only [bu,e0,e1],.inr ⟨h1,hj⟩⟩;simp only [Holds]at hH ⊢;rw [e0,e1,e2,e3,p3];exact hH
      |none =>
        rw [sG]at hg;simp only at hg;cases wD:aD (bI st.o qD) k with
        |none=>rw [wD]at hg;cases hg
        |some x =>
          rw [wD]at hg;simp only [Option.some.injEq]at hg;subst hg;obtain⟨h1,h2,h3⟩:=qE wD;have h4:=Jn k x wD;have hE:=jP (hC.wf.ap k _ h4) h4;have hH:=hC.mem k _ hE;refine⟨k,_,hE, ?_, ?_,.inl ⟨rfl,by omega,.inr ⟨x,rfl⟩⟩⟩
          · simp only [Holds]at hH ⊢;rw [gY k (by omega),gY (k+1) (by omega),gY (k+2) (by omega),gY (k+3) (by omega),(zy pR gY h2).trans (zy fZ (β:=β) (λ_ _=>rfl) h2).symm];exact hH
          · simp only [bu,gY k (by omega:k<st.c.nk),gY (k+1) (by omega)]
  have uD:st.d.map ag=st.d.map β:=List.map_congr_left λk hk=>gY k (il.d k hk);refine⟨by rw [hC.size];exact hn.1,λi uh => ?_, ?_,hC.below,λk e hg => ?_,λk k' e e' b hx hy jb kC => ?_,λk e hg => ?_,λk k' e e' hx hy he => ?_, ?_, ?_,⟨?_,S9,λk ce sz t hg => ?_,λk x hg => ?_, ?_, ?_,bK.aH hle il.k,λx hx y hy=>Nat.lt_of_lt_of_le (il.df x hx y hy) hle.k⟩,bK.U pR il.k sH⟩
  · by_cases hi:i∈aW
    · obtain⟨u,v',h1,h2,h3⟩:=Pb (aa:=aa) (ar:=ar) (ag:=ag) (β:=β) aW vs i7 (ao st.c ks) (dY st.t kill) kR hr ga kS hi
      have:=hC.tmps i (by rw [h2];simp)
      rw [this];simp only;rw [h1,h2];exact congrArg some h3.symm
    · rcases hs i hi with h|h
      · exact (uh h).elim
      · have:=hC.tmps i (by rw [h];exact uh)
        rw [this,h];refine congrArg some (Jo ?_).symm;rw [De _ _ _ _ hi];exact si i
  · rw [hC.ja,hn.2.2.1,hn.2.2.2,FA il.df gY];simp only [marksOf];exact congrArg _ (List.map_congr_left λk hk=>by rw [gY k (il.d k hk)])
  · obtain⟨j,e0,_,h2,_⟩:=obj k e hg;exact h2
  · obtain⟨j,e0,q1,q2,q3,q4⟩:=obj k e hx;obtain⟨j',S_,p1,p2,p3,p4⟩:=obj k' e' hy;rw [q3]at jb;rw [p3]at kC
    have hj:j=j':=hC.inj j j' e0 S_ b q1 p1 jb kC
    subst hj;rcases q4 with ⟨r1,r2,r3⟩|⟨r1,r2⟩<;>rcases p4 with ⟨t1,t2,t3⟩|⟨t1,t2⟩
    · exact r1.symm.trans t1
    · exfalso;have fQ:=(List.of_mem_zip t2).2;rcases r3 with ⟨cs,t,r3⟩|⟨x,r3⟩
      · obtain⟨_,n,ce,sz,t,u1,u2,u3⟩:=uB _ t2;simp only at u2
        have:=hC.wf.ap j _ u2
        rw [r1]at this;rw [this]at r3;cases r3
      · have:=Di j fQ
        rw [r1,r3]at this;cases this
    · exfalso;have fQ:=(List.of_mem_zip r2).2;rcases t3 with ⟨cs,t,t3⟩|⟨x,t3⟩
      · obtain⟨_,n,ce,sz,t,u1,u2,u3⟩:=uB _ r2;simp only at u2
        have:=hC.wf.ap j _ u2
        rw [t1]at this;rw [this]at t3;cases t3
      · have:=Di j fQ
        rw [t1,t3]at this;cases this
    · exact Df _ _ rj r2 t2
  · rw [gY k (il.r k e hg)];exact hC.fb k e (by rw [hn.2.1];exact hg)
  · rw [gY k (il.r k e hx),gY k' (il.r k' e' hy)]at he;exact hC.iU k k' e e' (by rw [hn.2.1];exact hx) (by rw [hn.2.1];exact hy) he
  · have:=hC.fR
    rw [hn.2.2.1]at this;rw [uD];exact this
  · have:=hC.dn
    rw [hn.2.2.1]at this;rw [uD];exact this
  · exact Pg aW vs _ _ (λi=>SV.aH hle (si i)) (List.all_eq_true.2 λx hx=>CV.aH hle (List.all_eq_true.1 (Pf il aW Dh) x hx)) (yU ks st.c)
  · simp only [Bt]at hg;cases sG:aD (aV st.c ks) k with
    |some x =>
      rw [sG]at hg;simp only [Option.some.injEq]at hg;obtain⟨h1,h2,h3,n0,h4,h5⟩:=Br ks st.c sG;subst hg;simp only at h4;subst h4;exact⟨h2,by simp [bP,Sg.wf,h5]⟩
    |none =>
      rw [sG]at hg;obtain⟨h1,h2,h3⟩:=qE hg;exact⟨Nat.lt_of_lt_of_le h1 hle.k,yG hle h2⟩
  · simp only [Bt]at hg;cases sG:aD (aV st.c ks) k with
    |some y=>exact Jq (Br ks st.c sG).1
    |none =>
      rw [sG]at hg;exact uC (qE hg).2.2
  · exact λk e hg=>Nat.lt_of_lt_of_le (il.r k e hg) hle.k
  · exact λk hk=>Nat.lt_of_lt_of_le (il.d k hk) hle.k
end Vc
