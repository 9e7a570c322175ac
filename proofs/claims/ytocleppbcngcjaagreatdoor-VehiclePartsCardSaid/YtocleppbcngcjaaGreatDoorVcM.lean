import Derived.Test.YtocleppbcngcjaaGreatDoorVcY
import Derived.CallsIn
import Derived.TacticsIn
import Derived.RecoverIn
import Derived.RangeFuncLeaves
import Derived.RangeFuncNested
set_option linter.unusedVariables false
set_option linter.unusedSimpArgs false
namespace Vc
open Go Go.RowKit
variable {P:Program} {W:dR} {Q:Value->Prop} {QM QP:World->Value->Prop} {R:Nat->Loop} {Z:List Nat}
def Fr(r:Option Nat):Fence := {Fence.wide with round:=r}
theorem tW(r:Option Nat)(f:FuncId):(Fr r).fn f:=trivial
theorem Ez{r:Option Nat}{n:Nat}:(Fr r).depth.isSome=true->1<=n:=λh=>by cases h
theorem J2{r:Option Nat}{n:Nat}{f:FuncId}{args:Array Value}{w:World}{T:Ending->World->Prop}:CallsIn (Fr r) n P f args w T↔Calls P f args w T:=callsIn_wide (n:=n)
theorem J3{r:Option Nat}{n:Nat}{row:String}{args:Array Value}{w:World}{T:Value->World->Prop}(h:Rows P row args w T):RowsIn (Fr r) n P row args w T:=by
 intro c cs _;obtain⟨v,w',h1,h2⟩:=h c cs;exact⟨v,w',h1,(StepsIn.of_steps h2).mono λm _=>fenced_wide P m⟩
theorem uF{o:Oper}{a:Act}{w:World}{next:Act->World->Prop}{Q':Exit->Act->World->Prop}(r:Option Nat)(n:Nat)(hd:∀c,o.op ≠ .defer c)(h:o.wp P a w next Q'):o.wpIn (Fr r) n P a w next Q':=by
  refine⟨λf _=>tW r f, ?_⟩;rw [Oper.semAt_eq _ _ _ hd];unfold Oper.wp at h;generalize (execOp a.eval o).run P w=x at h ⊢;cases x with
  |ok nx w' =>
    cases nx<;>simp only [Oper.upon]at h<;>first
      |exact h
      |exact⟨Ez,J2.2 h⟩
      |exact⟨Ez,J3 h⟩
      |exact h.elim
  |halt x w'=>cases x<;>simp only [Oper.upon]at h<;>first|exact h|exact h.elim
def uG(W:dR)(R:Nat->Loop)(Z:List Nat)(st:St)(U:Env)(β:Nat->Nat)(K:St->Env->Prop)(next:Act->World->Prop):Prop :=
 ∀gx af ak a' w',K gx af->st.c.le gx.c->Env.ay st.c U af->(∀k,k<st.c.nk->ak k=β k)->Core W R Z af ak gx a' w'->next a' w'
theorem uG.lN{st gx:St}{U af:Env}{β ak:Nat->Nat}{K:St->Env->Prop}{next:Act->World->Prop}(h:uG W R Z st U β K next)(hc:st.c.le gx.c)(hl:Env.ay st.c U af)(hb:∀k,k<st.c.nk->ak k=β k):uG W R Z gx af ak K next :=
 λs aw bc a w hk h1 h2 h3 hC=>h s aw bc a w hk (ar.le_trans hc h1) (Env.ah hc hl h2) (λk hk=>(h3 k (Nat.lt_of_lt_of_le hk hc.k)).trans (hb k hk)) hC
theorem EA{st:St}{o:Oper}{K:St->Env->Prop}{U:Env}(h:pL P W st o K U){β:Nat->Nat}{a:Act}{w:World}(hC:Core W R Z U β st a w){next:Act->World->Prop}(hn:uG W R Z st U β K next)(Q':Exit->Act->World->Prop):o.wp P a w next Q':=by
 obtain⟨s',af,sv,C,h1,h2,h3,h4⟩:=h;exact UR (hC.ay h3) (h4 af (Env.an _ _)) Q' λak a' w' hb dY=>hn s' af ak a' w' h1 h2 h3 hb dY
theorem Be{st st0:St}{dst:Option Tmp}{v:SV}{c:ar}{K:St->Env->Prop}{U cP:Env}{next:Act->World->Prop}(h:St.put (PA P W Q QM QP) st dst v c K U){β:Nat->Nat}{a:Act}{w:World}{val:Value}
  (hC:Core W R Z U β st a w) (Ha:st.c.le c) {bu:Nat->Nat} (h0:st0.c.le c) (hl:Env.ay st0.c cP U) (gZ:∀k,k<st0.c.nk->β k=bu k) (hv:v ≠ .any->val=v.den U β) (hn:uG W R Z st0 cP bu K next):next (a.put dst val) w:=by
 obtain⟨h1,h2⟩:=zh h;obtain⟨q1,q2,q3,q4,q5,q6⟩:=zz st dst v c;refine hn _ U β _ w h1 (by rw [q1];exact h0) hl gZ ⟨by rw [Jt,hC.size,q3],λi hi => ?_,by rw [Ju,hC.jF,q6,(zn _ _ _ _).2],hC.below,by rw [q2,q4];exact hC.mem,by rw [q2,q4];exact hC.inj,by rw [q5];exact hC.ft,by rw [q5];exact hC.jz,by rw [q6];exact hC.gd,by rw [q6];exact hC.dn,Ef hC.wf Ha h2,by rw [(zn _ _ _ _).1];exact hC.kn⟩;rw [zo]at hi ⊢;by_cases hd:dst=some i
 ·rw [if_pos hd]at hi ⊢;rw [hd,ez i (by rw [hC.size];exact (h2 i hd).1),if_pos rfl,hv hi]
 ·rw [if_neg hd]at hi ⊢
  have h3:(a.put dst val).tmps[i]? = a.tmps[i]? := by
   cases Ee:dst with
   |none=>rfl
   |some d=>rw [ez i (by rw [hC.size];exact (h2 d Ee).1),if_neg (λe=>hd (by rw [Ee,e]))]
  rw [h3];exact hC.tmps i hi
theorem Core.cQ{U:Env}{β:Nat->Nat}{st:St}{a:Act}{w:World}{d:Nat}{e:BE}{b:Bool}(h:Core W R Z U β st a w)(hg:av st.t d=.cv (.one (.bool e)))(hb:e.den U=b):Core W R Z U β (st.cQ d b) a w where
 size:=h.size
 tmps i hn:=by
  simp only [St.cQ,zl]at hn ⊢;by_cases hi:d=i
  ·rw [if_pos hi,<-hi,h.tmps d (by rw [hg];simp),hg];simp only [SV.den,CV.den,At.den,BE.den,hb]
  ·rw [if_neg hi]at hn ⊢;exact h.tmps i hn
 jF:=h.jF
 below:=h.below
 mem:=h.mem
 inj:=h.inj
 ft:=h.ft
 jz:=h.jz
 gd:=h.gd
 dn:=h.dn
 kn:=h.kn
 wf:=⟨λi=>by
  simp only [St.cQ,zl];by_cases hi:d=i
  ·rw [if_pos hi];rfl
  ·rw [if_neg hi];exact h.wf.t i,h.wf.m,h.wf.o,h.wf.ap,h.wf.r,h.wf.d,h.wf.k,h.wf.df⟩
theorem J4{ops:Array Oper}{tmps:Array Value}{j d:Nat}{b:Bool}(hd:(ops[j]?).bind (·.dst)=some d)(ht:tmps[d]? = some (.bool b)):yielded ops tmps j=some b:=by
 simp [yielded,hd,ht]
theorem J5{ops:Array Oper}{tmps:Array Value}{j d:Nat}(hd:(ops[j]?).bind (·.dst)=some d)(ht:tmps[d]? = some undef):yielded ops tmps j=none:=by
 simp [yielded,hd,ht,undef]
def rO(P:Program)(W:dR)(R:Nat->Loop)(Z:List Nat)(r:Option Nat)(n:Nat)(c0:ar)(cP:Env)(bu:Nat->Nat)(Q':Exit->Act->World->Prop)(step:St->Oper->(St->Env->Prop)->Env->Prop):Prop :=
 ∀st o K U,step st o K U->c0.le st.c->Env.ay c0 cP U->∀β a w,(∀k,k<c0.nk->β k=bu k)->Core W R Z U β st a w->∀(next:Act->World->Prop),uG W R Z st U β K next->o.wpIn (Fr r) n P a w next Q'
theorem J6{r:Option Nat}{n:Nat}{c0:ar}{cP:Env}{bu:Nat->Nat}{step:St->Oper->(St->Env->Prop)->Env->Prop}{Q':Exit->Act->World->Prop}(hs:rO P W R Z r n c0 cP bu Q' step){ops:Array Oper}{K:St->Env->Prop} :
    ∀(l:List Oper) (st:St) (U:Env),kq (PA P W Q QM QP) step ops l st K U->c0.le st.c->Env.ay c0 cP U->∀β a w,(∀k,k<c0.nk->β k=bu k)->Core W R Z U β st a w ->
      ∀(next:Act->World->Prop),(∀a w,next a w->Q' .normal a w)->uG W R Z st U β K next->wpListIn (Fr r) n P ops Q' l a w
  | [],st,U,h,_,_,β,a,w,_,hC,next,hq,hn=>hq _ _ (hn st U β a w h (ar.le_refl _) (Env.an _ _) (λ_ _=>rfl) hC)
  |o::l,st,U,h,ij,fI,β,a,w,gW,hC,next,hq,hn=>by
    have IH:∀gx:St,gx.c=st.c->uG W R Z gx U β (λs=>kq (PA P W Q QM QP) step ops l s K) (wpListIn (Fr r) n P ops Q' l):=by
      intro gx he s aw bc a2 w2 hk h1 h2 h3 dE;rw [he]at h1 h2 h3;exact J6 hs l s aw hk (ar.le_trans ij h1) (Env.ah ij fI h2) bc a2 w2 (λk hk=>(h3 k (Nat.lt_of_lt_of_le hk ij.k)).trans (gW k hk)) dE next hq (hn.lN h1 h2 h3)
    have J7:∀f,o.about P w a.eval=some f->(Fr r).fn f:=λf _=>tW r f;simp only [wpListIn];unfold kq at h;cases sU:o.guard with
    |none =>
      simp only [sU]at h;rw [if_pos (by simp [Region.wanted,sU])];exact hs st o _ U h ij fI β a w gW hC _ (IH st rfl)
    |some jw =>
      obtain⟨j,want⟩:=jw;simp only [sU]at h;unfold y7 at h;generalize hd:(ops[j]?).bind (·.dst)=u at h;cases u with
      |none=>exact h.elim
      |some d =>
        simp only at h;split at h
        · rename_i cn;generalize hg:av st.t d=sv at h;split at h
          · rename_i e
            have ht:a.tmps[d]? = some (.bool (e.den U)):=by
              have:=hC.tmps d (by rw [hg];simp)
              rw [hg]at this;exact this
            have hy:=J4 (b:=e.den U) hd ht
            have put:∀(b:Bool),e.den U=b->(St.put (PA P W Q QM QP) (st.cQ d b) o.dst .dF st.c λs=>kq (PA P W Q QM QP) step ops l s K) U->wpListIn (Fr r) n P ops Q' l (a.put o.dst undef) w:=λb hb hp =>
              Be (st:=st.cQ d b) (st0:=st) (cP:=U) hp (hC.cQ hg hb) (ar.le_refl _) (ar.le_refl _) (Env.an _ _) (λ_ _=>rfl) (λ_=>rfl) (IH st rfl)
            have go:∀(b:Bool),e.den U=b->step (st.cQ d b) o (λs=>kq (PA P W Q QM QP) step ops l s K) U->o.wpIn (Fr r) n P a w (wpListIn (Fr r) n P ops Q' l) Q':=λb hb hp =>
              hs (st.cQ d b) o _ U hp ij fI β a w gW (hC.cQ hg hb) _ (IH (st.cQ d b) rfl)
            rcases zw h with ⟨hb,h⟩|⟨hb,h⟩
            · cases want with
              |true =>
                simp only [if_true,St.norm_eq]at h;rw [if_pos (by simp [Region.wanted,sU,hy,hb])];exact go true hb h
              |false =>
                simp only [Bool.false_eq_true,if_false,St.norm_eq]at h;rw [if_neg (by simp [Region.wanted,sU,hy,hb])];exact⟨J7,put true hb h⟩
            · cases want with
              |true =>
                simp only [if_true,St.norm_eq]at h;rw [if_neg (by simp [Region.wanted,sU,hy,hb])];exact⟨J7,put false hb h⟩
              |false =>
                simp only [Bool.false_eq_true,if_false,St.norm_eq]at h;rw [if_pos (by simp [Region.wanted,sU,hy,hb])];exact go false hb h
          · have ht:a.tmps[d]? = some undef:=by
              have:=hC.tmps d (by rw [hg];simp)
              rw [hg]at this;exact this
            have hy:=J5 hd ht;rw [if_neg (by simp [Region.wanted,sU,hy])];exact⟨J7,Be (st0:=st) (cP:=U) h hC (ar.le_refl _) (ar.le_refl _) (Env.an _ _) (λ_ _=>rfl) (λ_=>rfl) (IH st rfl)⟩
          · exact h.elim
        · exact h.elim
def sV(G:bF)(W:dR)(R:Nat->Loop)(Z:List Nat)(c0:ar)(cP:Env)(bu:Nat->Nat)(Q':Exit->Act->World->Prop)(inl:xI (Env->Prop)):Prop :=
  ∀f args s (K':SV->St->Env->Prop) U,inl f args s K' U->args.all (SV.wf s.c)=true->c0.le s.c->Env.ay c0 cP U->∀β a w,(∀k,k<c0.nk->β k=bu k)->Core W R Z U β s a w->∀next':Value->World->Prop,
    (∀v s' af ak w',K' v s' af->v.wf s'.c=true->v ≠ .any->s.c.le s'.c->Env.ay s.c U af->(∀k,k<s.c.nk->ak k=β k)->Core W R Z af ak s' a w'->next' (v.den af ak) w') ->
    Calls G.P f (args.map (SV.den U β)).toArray w λe w'=>match e with
      | .returned v=>next' v w'
      | .panicked ch=>Q' (.panic ch) a w'
      | .outgrown=>False
def nF(P:Program)(W:dR)(R:Nat->Loop)(c0:ar)(cP:Env)(bu:Nat->Nat)(yl:Yl (Env->Prop)):Prop :=
  ∀k args s (K':SV->St->Env->Prop) U,yl k args s K' U->args.all (SV.wf s.c)=true->c0.le s.c->Env.ay c0 cP U->∀R':Nat->Loop,(∀k,k<c0.nk->R' k=R k)->∀Z β a w,(∀k,k<c0.nk->β k=bu k)->Core W R' Z U β s a w ->
    ∀(r:Option Nat) (n:Nat) (next':Value->World->Prop),
    (∀v s' af ak w',K' v s' af->v.wf s'.c=true->v ≠ .any->s.c.le s'.c->Env.ay s.c U af->(∀k,k<s.c.nk->ak k=β k)->Core W R' Z af ak s' a w'->next' (v.den af ak) w') ->
    ∃l fn tmps assign body,(Instr.yield (β k) (args.map (SV.den U β)).toArray).run P w=.ok (.round l fn tmps assign body) w/\RoundIn (Fr r) n P l fn tmps assign body w λe w'=>∃v,e=.returned v/\next' v w'
theorem nF.lN{c0 c1:ar}{cP aR:Env}{bu eE:Nat->Nat}{R1:Nat->Loop}{yl:Yl (Env->Prop)}(h:nF P W R c0 cP bu yl)(hc:c0.le c1)(hl:Env.ay c0 cP aR)(hb:∀k,k<c0.nk->eE k=bu k)(hR:∀k,k<c0.nk->R1 k=R k):nF P W R1 c1 aR eE yl :=
 λk args s K' U hy hw h1 h2 R' h3 Z β a w h4=>h k args s K' U hy hw (ar.le_trans hc h1) (Env.ah hc hl h2) R' (λk hk=>(h3 k (Nat.lt_of_lt_of_le hk hc.k)).trans (hR k hk)) Z β a w (λk hk=>(h4 k (Nat.lt_of_lt_of_le hk hc.k)).trans (hb k hk))
theorem Q4{G:bF}{st:St}{o:Oper}{K:St->Env->Prop}{U:Env}(h:nc (PA G.P W Q QM QP) G st o K U):∀c,o.op ≠ .defer c:=by
 intro c he;unfold nc at h;have hn:qf G st o=none:=by unfold qf;rw [he]
 have CY:mw G st o=none:=by unfold mw;rw [he]
 rw [hn]at h;simp only at h;rw [CY]at h;simp only at h;unfold lE at h;simp only [he]at h;unfold vg at h;simp only [he]at h;exact h
theorem Q6{G:bF}{st:St}{o:Oper}{K:St->Env->Prop}{U:Env}(h:yZ (PA G.P W Q QM QP) G st o K U):∀c,o.op ≠ .defer c:=by
 intro c he;unfold yZ at h;simp only [he]at h;exact h
theorem Q7{G:bF}{st:St}{o:Oper}{K:St->Env->Prop}{U:Env}(h:nf (PA G.P W Q QM QP) G st o K U):∀c,o.op ≠ .defer c:=by
 intro c he;unfold nf at h;simp only [he]at h;exact h
def sW(W:dR)(R:Nat->Loop)(Z:List Nat)(c0:ar)(cP:Env)(bu:Nat->Nat)(Q':Exit->Act->World->Prop)(KP:Nat->St->Env->Prop):Prop :=
 ∀i st U,KP i st U->i<st.c.nv->c0.le st.c->Env.ay c0 cP U->∀β a w,(∀k,k<c0.nk->β k=bu k)->Core W R Z U β st a w->Q' (.panic [{v:=(U.v i).1,recovered:=false}]) a w
theorem zL(p:Nat->Bool):∀(m:Mem) (k:Nat),getM (m.filter λx=>p x.1) k=if p k=true then getM m k else none
  | [],k=>by simp [getM]
  | (j,v)::r,k=>by
    simp only [List.filter_cons];by_cases hj:p j=true
    · simp only [hj,if_true,getM,zL p r k];by_cases sX:j=k
      · subst sX;simp [hj]
      · simp [sX]
    · rw [if_neg (by simpa using hj),zL p r k];simp only [getM];by_cases sX:j=k
      · subst sX;simp [hj]
      · simp [sX]
theorem Hb(p:Nat->Bool):∀(m:ba) (k:Nat),aG (m.filter λx=>p x.1) k=if p k=true then aG m k else none
  | [],k=>by simp [aG]
  | (j,v)::r,k=>by
    simp only [List.filter_cons];by_cases hj:p j=true
    · simp only [hj,if_true,aG,Hb p r k];by_cases sX:j=k
      · subst sX;simp [hj]
      · simp [sX]
    · rw [if_neg (by simpa using hj),Hb p r k];simp only [aG];by_cases sX:j=k
      · subst sX;simp [hj]
      · simp [sX]
theorem Core.less{U:Env}{β:Nat->Nat}{st:St}{a:Act}{w:World}(hC:Core W R Z U β st a w)(p:Nat->Bool):Core W R Z U β {st with m:=st.m.filter λx=>p x.1,o:=st.o.filter λx=>p x.1} a w:=by
 have hM:∀{k x},getM (st.m.filter λx=>p x.1) k=some x->getM st.m k=some x:=λ{k x} h=>by
  rw [zL]at h;split at h<;>simp_all
 have hO:∀{k x},aG (st.o.filter λx=>p x.1) k=some x->aG st.o k=some x:=λ{k x} h=>by
  rw [Hb]at h;split at h<;>simp_all
 have hE:∀{k e},aE (st.m.filter λx=>p x.1) (st.o.filter λx=>p x.1) k=some e->aE st.m st.o k=some e:=λ{k e} h=>by
  unfold aE at h ⊢;rw [zL,Hb]at h;by_cases hp:p k=true
  ·simpa [hp]using h
  ·simp [hp]at h
 exact⟨hC.size,hC.tmps,hC.jF,hC.below,λk e h=>hC.mem k e (hE h),λk k' e e' b h h'=>hC.inj k k' e e' b (hE h) (hE h'),hC.ft,hC.jz,hC.gd,hC.dn,
  ⟨hC.wf.t,λk cs t h=>hC.wf.m k cs t (hM h),λk ce sz t h=>hC.wf.o k ce sz t (hO h),λk x h=>by
   have:=hC.wf.ap k x (hO h)
   show getM (st.m.filter λx=>p x.1) k=none;rw [zL,this];simp,hC.wf.r,hC.wf.d,hC.wf.k,hC.wf.df⟩,hC.kn⟩
theorem Core.tX{U:Env}{β:Nat->Nat}{st:St}{a:Act}{w w':World}{bs:List Nat}(hC:Core W R Z U β st a w)(Q8:bs.all (λb=>(getM st.m b).isSome)=true)(hb:vx (bs.map β) w w'):Core W R Z U β {st with m:=sG st.m bs} a w':=by
 have own:∀b∈bs,∃cs t,getM st.m b=some (cs,t)/\aE st.m st.o b=some (.fix cs t):=λb hb=>by
  have:=List.all_eq_true.1 Q8 b hb
  obtain⟨⟨cs,t⟩,h⟩:=Option.isSome_iff_exists.1 this;exact⟨cs,t,h,n_ h⟩
 have kept:∀{k:Nat} {e:pI},aE (sG st.m bs) st.o k=some e->aE st.m st.o k=some e/\k ∉ bs:=λ{k e} h=>by
  unfold aE sG at h;have hf:=zL (λb => !bs.contains b) st.m k;rw [hf]at h;by_cases hp:k∈bs
  ·obtain⟨cs,t,h1,_⟩:=own k hp
   have hn:aG st.o k=none:=by
    cases ho:aG st.o k with
    |none=>rfl
    |some x=>have:=hC.wf.ap k x ho;rw [h1]at this;cases this
   simp [hp,hn]at h
  ·refine⟨?_,hp⟩;unfold aE;simpa [hp]using h
 have same:∀{k:Nat} {e:pI},aE st.m st.o k=some e->k ∉ bs->∀b,bD β k e=some b->w'.heap[b]? = w.heap[b]? := λ{k e} hg hk b k_=>by
  refine hb.block b ((hC.mem k e hg).vI b k_).2.1 λhm => ?_;obtain⟨j,hj,rfl⟩:=List.mem_map.1 hm;obtain⟨cs,t,_,h2⟩:=own j hj;exact hk (hC.inj k j e _ _ hg h2 k_ rfl▸hj)
 have other:∀{b:Nat} {o:Obj},w.heap[b]? = some o->¬Datum o->w'.heap[b]? = some o:=λ{b o} h ho=>by
  rw [hb.block b (bM h) λhm => ?_,h];obtain⟨j,hj,rfl⟩:=List.mem_map.1 hm;obtain⟨cs,t,h1,_⟩:=own j hj
  have:=(hC.fix h1).2
  rw [h]at this;cases this;exact ho trivial
 refine⟨hC.size,hC.tmps,hC.jF,dz.mk (hb.os.trans hC.below.os) (hb.tape.trans hC.below.tape) (hb.output.trans hC.below.output) (Nat.le_trans hC.below.size hb.size) (λk hk hl => ?_),λk e h => ?_,λk k' e e' b h h'=>hC.inj k k' e e' b (kept h).1 (kept h').1,
  λk e h=>⟨(hC.ft k e h).1,other (hC.ft k e h).2 (λh=>h)⟩,hC.jz,λb h=>⟨(hC.gd b h).1,other (hC.gd b h).2 (λh=>h)⟩,hC.dn,
  ⟨hC.wf.t,λk cs t h => ?_,hC.wf.o,λk x h => ?_,hC.wf.r,hC.wf.d,hC.wf.k,hC.wf.df⟩,hC.kn⟩
 ·rw [hb.block k (Nat.lt_of_lt_of_le hk hC.below.size) λhm => ?_]
  ·exact hC.below.block k hk hl
  ·obtain⟨j,hj,rfl⟩:=List.mem_map.1 hm;obtain⟨cs,t,h1,_⟩:=own j hj;rcases (hC.fix h1).1.out with h2|h2
   ·exact hl h2
   ·omega
 ·obtain⟨h1,h2⟩:=kept h;exact (hC.mem k e h1).cA (hC.wf.dU h1) (Env.an _ _) (λ_ _=>rfl) (same h1 h2)
 ·have hf:=zL (λb => !bs.contains b) st.m k;have h:getM (st.m.filter λx => !bs.contains x.1) k=some (cs,t):=h;rw [hf]at h;split at h
  ·exact hC.wf.m k cs t h
  ·cases h
 ·show getM (st.m.filter λx => !bs.contains x.1) k=none;have hf:=zL (λb => !bs.contains b) st.m k;rw [hf,hC.wf.ap k x h];simp
theorem Core.more{U af:Env}{β:Nat->Nat}{st:St}{a:Act}{w:World}(hC:Core W R Z U β st a w){c:ar}(hc:st.c.le c)(hl:Env.ay st.c U af){kn:bV}(hw:bV.wf kn c)(hk:bV.den kn af):Core W R Z af β {st with c:=c,k:=kn} a w:=by
 have h1:=hC.ay hl;have g:=hC.wf.grow hc;exact⟨h1.size,h1.tmps,h1.jF,h1.below,h1.mem,h1.inj,h1.ft,h1.jz,h1.gd,h1.dn,⟨g.t,g.m,g.o,g.ap,g.r,g.d,hw,g.df⟩,hk⟩
theorem Q9(g:Bool)(l:List At):(dO g l).flat=l.all At.flat/\∀c,(dO g l).wf c=l.all (At.wf c):=by
 unfold dO;split
 ·exact⟨by simp [CV.flat],λc=>by simp [CV.wf]⟩
 ·exact⟨rfl,λc=>rfl⟩
theorem Vo{G:bF}(hG:G.Ok){c0:ar}{cP:Env}{bu:Nat->Nat}{Q':Exit->Act->World->Prop}{KP:Nat->St->Env->Prop}(hP:sW W R Z c0 cP bu Q' KP){st:St}{f:FuncId}{args:List SV}{t:TypeId}{js:List Nat}{U:Env}
    (h:vn (PA G.P W Q QM QP) G KP st f args t js U) (ij:c0.le st.c) (fI:Env.ay c0 cP U) {β:Nat->Nat} {a:Act} {w:World} (gW:∀k,k<c0.nk->β k=bu k) (hC:Core W R Z U β st a w) :
    args.any iT≠true/\(callFunc f (args.map (SV.den U β)).toArray).run G.P w=.ok (.enter f (args.map (SV.den U β)).toArray) w/\Calls G.P f (args.map (SV.den U β)).toArray w λe w'=>∃ch,e=.panicked ch/\Q' (.panic ch) a w':=by
  unfold vn at h;generalize hz:aH G.P t=u1 at h;generalize sR:u_ G.P 30 t=u2 at h;generalize Q8:rD args js=u3 at h;split at h
  · rename_i g n ks bs;split at h
    · exact h.elim
    · rename_i ha;simp only [not_or,Decidable.not_not]at ha;split at h
      · rename_i gy;obtain⟨mH,iz,xw,cf⟩:=gy;obtain⟨aR,l1,h1,h2⟩:=uC ks st.c h;have hle:=xk ks st.c;have h2:=h2 ⟨.iface t ((dO g (au st.c ks)).den aR b0),rfl⟩ rfl;have cn:(aP st.c ks).le {aP st.c ks with nv:=(aP st.c ks).nv+1}:=zr _ .uA;have l2:=DQ (aP st.c ks) aR ⟨.iface t ((dO g (au st.c ks)).den aR b0),rfl⟩;have rL:Env.ay st.c U (aR.ny (aP st.c ks).nv ⟨.iface t ((dO g (au st.c ks)).den aR b0),rfl⟩):=Env.ah hle l1 l2;refine⟨ha.1,hG.calls f iz _ w, ?_⟩;have h1:=h1 β w hC.below (AW hC.wf.ap (Env.an st.c U) (λk cs t hm=>(hC.wf.m k cs t hm).2) (λk ce sz t hm=>(hC.wf.o k ce sz t hm).2) _ (λk hk e hg=>hC.mem k e hg))
        have qq:(bs.map β).Nodup:=by
          have key:∀l:List Nat,(∀x∈l,x∈bs)->l.Nodup->(l.map β).Nodup:=by
            intro l
            induction l with
            |nil=>intro _ _;exact List.nodup_nil
            |cons x l ih =>
              intro pM hn;simp only [List.nodup_cons,List.map_cons]at hn ⊢;refine⟨λhm => ?_,ih (λy hy=>pM y (List.mem_cons_of_mem _ hy)) hn.2⟩;obtain⟨y,hy,he⟩:=List.mem_map.1 hm;obtain⟨⟨cs,t1⟩,g1⟩:=Option.isSome_iff_exists.1 (List.all_eq_true.1 cf x (pM x (List.mem_cons_self ..)));obtain⟨⟨iK,t2⟩,g2⟩:=Option.isSome_iff_exists.1 (List.all_eq_true.1 cf y (pM y (List.mem_cons_of_mem _ hy)))
              have:=hC.inj x y _ _ (β x) (n_ g1) (n_ g2) rfl (by simp [bD,he])
              exact hn.1 (this▸hy)
          exact key bs (λ_ h=>h) xw
        refine (kR.out h1 qq).mono λe w' he => ?_;obtain⟨rfl,J8⟩:=he;refine⟨_,rfl, ?_⟩;have oe:=hC.tX cf J8;have e0:((aR.ny (aP st.c ks).nv ⟨.iface t ((dO g (au st.c ks)).den aR b0),rfl⟩).v (aP st.c ks).nv).1=.iface t ((dO g (au st.c ks)).den aR b0):=congrArg (λy:OV=>y.1) (if_pos rfl);have EB:(dO g (au st.c ks)).wf (aP st.c ks)=true:=by rw [(Q9 _ _).2];exact AS ks st.c
        have dE:=oe.more (c := {aP st.c ks with nv:=(aP st.c ks).nv+1}) (ar.le_trans hle cn) rL (kn := .iO (aP st.c ks).nv t (dO g (au st.c ks))::st.k) (λz hz => ?_) (λz hz => ?_)
        · have:=hP _ _ _ h2 (Nat.lt_succ_self _) (ar.le_trans ij (ar.le_trans hle cn)) (Env.ah ij fI rL) β a w' gW dE
          rw [e0]at this;exact this
        · rcases List.mem_cons.1 hz with rfl|hz
          · simp only [Kn.wf,Bool.and_eq_true,decide_eq_true_eq];exact⟨Nat.lt_succ_self _,CV.aL cn EB,by rw [(Q9 _ _).1];exact DT ks st.c mH⟩
          · exact Kn.aL (ar.le_trans hle cn) (hC.wf.k z hz)
        · rcases List.mem_cons.1 hz with rfl|hz
          · simp only [Kn.den];rw [e0,CV.aa l2 (λ_ _=>rfl) EB];rfl
          · exact Kn.aa rL (hC.wf.k z hz) (hC.kn z hz)
      · exact h.elim
  · exact h.elim
theorem J9{G:bF}(hG:G.Ok){r:Option Nat}{n:Nat}{c0:ar}{cP:Env}{bu:Nat->Nat}{Q':Exit->Act->World->Prop}{inl:xI (Env->Prop)}{yl:Yl (Env->Prop)}{qT:Bool}{KP:Nat->St->Env->Prop}(hI:sV G W R Z c0 cP bu Q' inl)(hY:nF G.P W R c0 cP bu yl)(rP:qT=true->r=none)(hP:sW W R Z c0 cP bu Q' KP) :
    rO G.P W R Z r n c0 cP bu Q' (qh (PA G.P W Q QM QP) G inl yl qT KP):=by
  intro st o K U h ij fI β a w gW hC next hn
  have il:nc (PA G.P W Q QM QP) G st o K U->o.wpIn (Fr r) n G.P a w next Q':=λh=>uF r n (Q4 h) (EA (QO hG hC.wf hC.kn h) hC hn Q')
  have jl:nf (PA G.P W Q QM QP) G st o K U->o.wpIn (Fr r) n G.P a w next Q':=λh=>uF r n (Q7 h) (EA (Q0 hC.wf h) hC hn Q')
  have Bf:yZ (PA G.P W Q QM QP) G st o K U->o.wpIn (Fr r) n G.P a w next Q':=λh=>uF r n (Q6 h) (EA (QW hC.wf h) hC hn Q')
  obtain⟨dst,op,type,pos,after,guard⟩:=o;unfold qh at h;cases op<;>first|exact il h|skip
  case makeSlice t l cp=>exact jl h
  case makeMap t rs=>exact jl h
  case mapUpdate t m k v=>exact jl h
  case insert t m k v=>exact jl h
  case panic x =>
    simp only at h;generalize hx:st.ev x=sx at h;split at h
    · rename_i i;split at h
      · rename_i hi;obtain⟨⟨t,v⟩,hf⟩:=Option.isSome_iff_exists.1 hi;have hm:=AD hf;have hd:=hC.kn _ hm;have hw:=hC.wf.k _ hm;simp only [Kn.wf,Bool.and_eq_true,decide_eq_true_eq]at hw;simp only [Kn.den]at hd;have e1:=hC.eval x (by rw [hx];simp);rw [hx]at e1;have e2:a.eval x=.iface t (v.den U λ_=>0):=e1.trans hd
        have:=hP i st U h hw.1 ij fI β a w gW hC
        rw [hd]at this;refine uF r n (by simp) ?_;unfold Oper.wp
        have hr:(execOp a.eval ⟨dst,.panic x,type,pos,after,guard⟩).run G.P w=.halt (.panic (.iface t (v.den U λ_=>0))) w:=by
          simp [execOp,e2,Instr.panic,goPanic]
        rw [hr,Oper.upon_panic];exact this
      · exact h.elim
    · exact h.elim
  case defer c =>
    obtain⟨callee,args,argTypes⟩:=c;simp only at h;generalize ha:args.toList=al at h;split at h
    · rename_i g;generalize hg:st.ev g=sg at h;split at h
      · rename_i f aB;split at h
        · rename_i hd;have Vp:r=none:=rP rfl;subst Vp;have eg:=hC.eval g (by rw [hg];simp);rw [hg]at eg;have tY:=hC.wf.ev g;rw [hg]at tY;have ea:args=#[]:=by apply Array.ext';rw [ha]
          subst ea;refine⟨λf _=>tW none f, ?_⟩
          have hr:((⟨none,.defer ⟨.value g,#[],argTypes⟩,type,pos,after,guard⟩:Oper).semAt (Fr none).round a.eval).run G.P w=.ok (.defer {target := .fn (.func f) (aB.map λc=>(.pointer (some ⟨β c.1,c.2,none⟩):Value)).toArray,args := #[]}) w:=by
            rw [show (Fr none).round=none from rfl,Oper.semAt_none];simp only [execOp,resolve,eg,SV.den,CV.den,At.den,Deferred.ofValue,Sem.run_bind,Sem.run_pure,Result.andThen_ok];simp
          rw [hr,Oper.uponIn_defer];refine hn _ U β _ w h (ar.le_refl _) (Env.an _ _) (λ_ _=>rfl) ⟨hC.size,hC.tmps, ?_,hC.below,hC.mem,hC.inj,hC.ft,hC.jz,hC.gd,hC.dn,⟨hC.wf.t,hC.wf.m,hC.wf.o,hC.wf.ap,hC.wf.r,hC.wf.d,hC.wf.k,λx hx => ?_⟩,hC.kn⟩
          · show _::a.defers=_;rw [hC.jF];simp [fm]
          · rcases List.mem_cons.1 hx with rfl|hx
            · exact λy hy=>by simpa using List.all_eq_true.1 tY y hy
            · exact hC.wf.df x hx
        · exact h.elim
      · exact h.elim
    · exact h.elim
  case assign x =>
    simp only at h;split at h
    · exact jl h
    · exact il h
  case convert s d x =>
    simp only at h;split at h
    · exact jl h
    · exact il h
  case buildSlice t len parts =>
    simp only at h;split at h
    · exact jl h
    · exact il h
  case slice t x lo hi mx =>
    cases mx with
    |none=>exact il h
    |some m=>exact jl h
  case store t x y =>
    simp only at h;generalize hx:st.ev x=sx at h;split at h
    · exact jl h
    · exact il h
  case call cl =>
    obtain⟨callee,args,argTypes⟩:=cl;cases callee<;>first|exact il h|skip
    case builtin b =>
      cases b<;>first|exact il h|skip
      exact Bf h
    case invoke J_ m =>
      simp only at h;generalize CS:st.ev J_=sr at h;split at h
      · rename_i i;generalize hf:fA st.k i=u1 at h;cases u1 with
        |none=>exact h.elim
        |some z =>
        obtain⟨t,v⟩:=z;simp only at h;generalize hm:methodOf G.P t m=u2 at h;cases u2 with
        |none=>exact h.elim
        |some f =>
        simp only at h;split at h;rotate_left
        · exact il h
        rename_i Bg;split at h
        · exact h.elim
        · rename_i eG;have fY:=AD hf;have tR:=hC.wf.k _ fY;simp only [Kn.wf,Bool.and_eq_true]at tR;have er:=hC.eval J_ (by rw [CS];simp);rw [CS]at er;have hd:(Kn.iO i t v).den U:=hC.kn _ fY;simp only [Kn.den]at hd
          have er:a.eval J_=.iface t (v.den U β):=by
            rw [er];show (U.v i).1=_;rw [hd,CV.bg U (λ_=>0) β tR.2.2]
          have ea:(args.map a.eval).toList=(args.toList.map st.ev).map (SV.den U β):=by
            rw [Array.toList_map]
            exact zt _ λx hx=>hC.eval x (by
              intro he;exact eG (List.any_eq_true.2 ⟨_,List.mem_map.2 ⟨x,hx,rfl⟩,by rw [he];rfl⟩))
          have ec:#[v.den U β]++args.map a.eval=(((SV.cv v)::args.toList.map st.ev).map (SV.den U β)).toArray:=by
            apply Array.ext';rw [Array.toList_append,ea];simp [SV.den]
          have hw:((SV.cv v)::args.toList.map st.ev).all (SV.wf st.c)=true:=List.all_eq_true.2 λx hx=>by
            rcases List.mem_cons.1 hx with rfl|hx
            · exact tR.2.1
            · obtain⟨y,_,rfl⟩:=List.mem_map.1 hx;exact hC.wf.ev y
          refine uF r n (by simp) ?_;unfold Oper.wp;rw [Qs hm er ec w,hG.inl f Bg,Oper.upon_enter]
          refine (hI f _ st _ U h hw ij fI β a w gW hC (λv w'=>next (a.put dst v) w') ?_).mono λe w' he=>by
            cases e<;>first|exact he|exact he.elim
          intro v s' af ak w' hk tR CZ hle hl hb dY;exact Be (st:=s') (st0:=st) (cP:=U) hk dY (ar.le_refl _) hle hl hb (λ_=>rfl) hn
      · exact h.elim
    case value g =>
      have sY:∀ (f:FuncId) (first aB:List (Nat × Nat)) (all:List SV),all=first.map cV++(args.toList.map st.ev++aB.map cV)->st.ev g ≠ .any->(st.ev g).wf st.c=true ->
          (∀x∈first,x.1<st.c.nk)->(∀x∈aB,x.1<st.c.nk) ->
          ((st.ev g).den U β=.func (.func f) (first.map λc=>.pointer (some ⟨β c.1,c.2,none⟩)).toArray (aB.map λc=>.pointer (some ⟨β c.1,c.2,none⟩)).toArray) ->
          G.inl.contains f=true->¬(args.toList.map st.ev).any iT=true->inl f all st (λv s=>St.put (PA G.P W Q QM QP) s dst v s.c K) U->(⟨dst,.call ⟨.value g,args,argTypes⟩,type,pos,after,guard⟩:Oper).wpIn (Fr r) n G.P a w next Q':=by
        intro f first aB all cf vG _ CW Es vH hf eG h
        have eg:=hC.eval g vG;rw [vH]at eg
        have ea:(args.map a.eval).toList=(args.toList.map st.ev).map (SV.den U β):=by
          rw [Array.toList_map]
          exact zt _ λx hx=>hC.eval x (by
            intro he;exact eG (List.any_eq_true.2 ⟨_,List.mem_map.2 ⟨x,hx,rfl⟩,by rw [he];rfl⟩))
        have ec:(first.map λc=>(.pointer (some ⟨β c.1,c.2,none⟩):Value)).toArray++args.map a.eval++(aB.map λc=>(.pointer (some ⟨β c.1,c.2,none⟩):Value)).toArray=(all.map (SV.den U β)).toArray:=by
          apply Array.ext';rw [Array.toList_append,Array.toList_append,ea,cf];simp [SV.den,CV.den,At.den,cV,Function.comp_def]
        have hx:(execOp a.eval ⟨dst,.call ⟨.value g,args,argTypes⟩,type,pos,after,guard⟩).run G.P w=(callFunc f (all.map (SV.den U β)).toArray).run G.P w:=by
          simp only [execOp,resolve,eg,Deferred.ofValue,Sem.run_bind,Sem.run_pure,Result.andThen_ok,invoke];rw [<-ec]
        have EC:∀{l:List (Nat × Nat)},(∀x∈l,x.1<st.c.nk)->∀x∈l.map cV,x.wf st.c=true:=λhl x hx=>by
          obtain⟨y,hy,rfl⟩:=List.mem_map.1 hx;exact decide_eq_true (hl y hy)
        have hw:all.all (SV.wf st.c)=true:=by
          rw [cf];refine List.all_eq_true.2 λx hx => ?_;rcases List.mem_append.1 hx with hx|hx
          · exact EC CW x hx
          · rcases List.mem_append.1 hx with hx|hx
            · obtain⟨y,_,rfl⟩:=List.mem_map.1 hx;exact hC.wf.ev y
            · exact EC Es x hx
        refine uF r n (by simp) ?_;unfold Oper.wp;rw [hx,hG.inl f hf,Oper.upon_enter]
        refine (hI f _ st _ U h hw ij fI β a w gW hC (λv w'=>next (a.put dst v) w') ?_).mono λe w' he=>by
          cases e<;>first|exact he|exact he.elim
        intro v s' af ak w' hk tR CZ hle hl hb dY;exact Be (st:=s') (st0:=st) (cP:=U) hk dY (ar.le_refl _) hle hl hb (λ_=>rfl) hn
      simp only at h;have tY:=hC.wf.ev g;generalize hg:st.ev g=sg at h;split at h
      · rename_i f aB;split at h
        · rename_i C0;obtain⟨_,rfl⟩:=C0;exact uF r n (by simp) (EA (Vk hG hC.wf (o:=⟨dst,.call ⟨.value g,args,argTypes⟩,type,pos,after,guard⟩) rfl hg h) hC hn Q')
        split at h
        · rename_i C0;obtain⟨_,rfl⟩:=C0;exact uF r n (by simp) (EA (Vj hG hC.wf (o:=⟨dst,.call ⟨.value g,args,argTypes⟩,type,pos,after,guard⟩) rfl hg h) hC hn Q')
        split at h
        · rename_i hf;split at h
          · exact h.elim
          · rename_i eG;rw [hg]at tY;exact sY f [] aB _ (by simp) (by rw [hg];simp) (by rw [hg];exact tY) (by simp) (λx hx=>by simpa using List.all_eq_true.1 tY x hx) (by rw [hg];rfl) hf eG h
        · unfold PG at h;generalize Zd:sF G f=ph at h;cases ph with
          |none=>exact il h
          |some tj =>
            obtain⟨t,js⟩:=tj;rcases h with h|h
            · exact il h
            · obtain⟨eG,gS,iz⟩:=Vo hG hP h ij fI gW hC;have eg:=hC.eval g (by rw [hg];simp);rw [hg]at eg
              have ea:(args.map a.eval).toList=(args.toList.map st.ev).map (SV.den U β):=by
                rw [Array.toList_map]
                exact zt _ λx hx=>hC.eval x (by
                  intro he;exact eG (List.any_eq_true.2 ⟨_,List.mem_append.2 (.inl (List.mem_map.2 ⟨x,hx,rfl⟩)),by rw [he];rfl⟩))
              have hx:(execOp a.eval ⟨dst,.call ⟨.value g,args,argTypes⟩,type,pos,after,guard⟩).run G.P w=(callFunc f ((args.toList.map st.ev++aB.map cV).map (SV.den U β)).toArray).run G.P w:=by
                simp only [execOp,resolve,eg,SV.den,CV.den,At.den,Deferred.ofValue,Sem.run_bind,Sem.run_pure,Result.andThen_ok,invoke];congr 2;apply Array.ext';rw [Array.toList_append,Array.toList_append,ea];simp [SV.den,CV.den,At.den,cV,Function.comp_def]
              refine uF r n (by simp) ?_;unfold Oper.wp;rw [hx,gS,Oper.upon_enter];refine iz.mono λe w' he => ?_;obtain⟨ch,rfl,hq⟩:=he;exact hq
      · rename_i f first aB
        split at h
        · rename_i hf;split at h
          · exact h.elim
          · rename_i eG;rw [hg]at tY;have rQ:((first.all λx=>decide (x.1<st.c.nk)) && aB.all λx=>decide (x.1<st.c.nk))=true:=tY;simp only [Bool.and_eq_true]at rQ;exact sY f first aB _ rfl (by rw [hg];simp) (by rw [hg];exact tY) (λx hx=>by simpa using List.all_eq_true.1 rQ.1 x hx) (λx hx=>by simpa using List.all_eq_true.1 rQ.2 x hx) (by rw [hg];rfl) hf eG h
        · exact il h
      · rename_i f first aB
        split at h
        · rename_i hf;split at h
          · exact h.elim
          · rename_i eG;rw [hg]at tY;have rQ:((first.all λx=>x.wf st.c) && aB.all λx=>decide (x.1<st.c.nk))=true:=tY;simp only [Bool.and_eq_true]at rQ;have eg:=hC.eval g (by rw [hg];simp);rw [hg]at eg
            have ea:(args.map a.eval).toList=(args.toList.map st.ev).map (SV.den U β):=by
              rw [Array.toList_map]
              exact zt _ λx hx=>hC.eval x (by
                intro he;exact eG (List.any_eq_true.2 ⟨_,List.mem_map.2 ⟨x,hx,rfl⟩,by rw [he];rfl⟩))
            have ef:(first.map aO.at).map (At.den U β)=first.map (aO.den U β):=by
              rw [List.map_map];exact List.map_congr_left λx _=>aO.uY U β x
            have hx:(execOp a.eval ⟨dst,.call ⟨.value g,args,argTypes⟩,type,pos,after,guard⟩).run G.P w=(callFunc f ((SV.cv (.agg (first.map aO.at))::(args.toList.map st.ev++aB.map cV)).map (SV.den U β)).toArray).run G.P w:=by
              have xZ:a.eval g=.func (.func f) #[.agg (first.map (aO.den U β)).toArray] (aB.map λc=>(.pointer (some ⟨β c.1,c.2,none⟩):Value)).toArray:=eg;simp only [execOp,resolve,xZ,Deferred.ofValue,Sem.run_bind,Sem.run_pure,Result.andThen_ok,invoke];congr 2;apply Array.ext';rw [Array.toList_append,Array.toList_append,ea]
              have e1:(SV.cv (.agg (first.map aO.at))).den U β=.agg (first.map (aO.den U β)).toArray:=by
                show Value.agg ((first.map aO.at).map (At.den U β)).toArray=_;rw [ef]
              rw [List.map_cons,e1,List.map_append];simp [SV.den,CV.den,At.den,cV,Function.comp_def]
            have hw:(SV.cv (.agg (first.map aO.at))::(args.toList.map st.ev++aB.map cV)).all (SV.wf st.c)=true:=by
              refine List.all_eq_true.2 λx hx => ?_;rcases List.mem_cons.1 hx with rfl|hx
              · simp only [SV.wf,CV.wf,List.all_map]
                exact List.all_eq_true.2 λy hy=>by
                  show (y.at).wf st.c=true;rw [aO.DC];exact List.all_eq_true.1 rQ.1 y hy
              · rcases List.mem_append.1 hx with hx|hx
                · obtain⟨y,_,rfl⟩:=List.mem_map.1 hx;exact hC.wf.ev y
                · obtain⟨y,hy,rfl⟩:=List.mem_map.1 hx;exact List.all_eq_true.1 rQ.2 y hy
            refine uF r n (by simp) ?_;unfold Oper.wp;rw [hx,hG.inl f hf,Oper.upon_enter]
            refine (hI f _ st _ U h hw ij fI β a w gW hC (λv w'=>next (a.put dst v) w') ?_).mono λe w' he=>by
              cases e<;>first|exact he|exact he.elim
            intro v s' af ak w' hk tR CZ hle hl hb dY;exact Be (st:=s') (st0:=st) (cP:=U) hk dY (ar.le_refl _) hle hl hb (λ_=>rfl) hn
        · exact h.elim
      · rename_i k;split at h
        · exact h.elim
        · rename_i eG;have eg:=hC.eval g (by rw [hg];simp);rw [hg]at eg
          have ea:args.map a.eval=((args.toList.map st.ev).map (SV.den U β)).toArray:=by
            apply Array.ext';rw [Array.toList_map]
            exact zt _ λx hx=>hC.eval x (by
              intro he;exact eG (List.any_eq_true.2 ⟨_,List.mem_map.2 ⟨x,hx,rfl⟩,by rw [he];rfl⟩))
          have hw:(args.toList.map st.ev).all (SV.wf st.c)=true:=List.all_eq_true.2 λx hx=>by
            obtain⟨y,_,rfl⟩:=List.mem_map.1 hx;exact hC.wf.ev y
          obtain⟨l,fn,tmps,assign,body,hy,hR⟩:=hY k _ st _ U h hw ij fI R (λ_ _=>rfl) Z β a w gW hC r (n-1) (λv w'=>next (a.put dst v) w') (λv s' af ak w' hk tR CZ hle hl hb dY =>
            Be (st:=s') (st0:=st) (cP:=U) hk dY (ar.le_refl _) hle hl hb (λ_=>rfl) hn)
          refine⟨λf _=>tW r f, ?_⟩;rw [Oper.semAt_eq _ _ _ (by simp)]
          have hx:(execOp a.eval ⟨dst,.call ⟨.value g,args,argTypes⟩,type,pos,after,guard⟩).run G.P w=.ok (.round l fn tmps assign body) w:=by
            simp only [execOp,resolve,eg,SV.den,CV.den,At.den,Deferred.ofValue,Sem.run_bind,Sem.run_pure,Result.andThen_ok,invoke,ea];simpa using hy
          rw [hx,Oper.uponIn_round];refine⟨Ez,hR.mono λe w' he => ?_⟩;obtain⟨v,rfl,hv⟩:=he;exact hv
      · exact h.elim
end Vc
set_option linter.unusedVariables false
namespace Vc
open Go Go.RowKit
variable {P:Program} {W:dR} {Q:Value->Prop} {QM QP:World->Value->Prop} {R:Nat->Loop} {Z:List Nat}
theorem Vr{t:TypeId}{cs:List At}{off:Nat}{v:CV}(h:partOf P t cs off=some v)(U:Env)(β:Nat->Nat)(w:World)(b:Nat)(ty:TypeId)(hb:w.heap[b]? = some (.cells (cs.map (At.den U β)).toArray ty)) :
  (loadVar t ⟨b,off,none⟩).run P w=.ok (v.den U β) w:=by
 unfold partOf at h;generalize hz:aH P t=u at h;split at h
 ·rename_i n;split at h
  ·rename_i hl;simp only [Option.some.injEq]at h;subst h
   have:=CJ hz w b off (((cs.drop off).take n).map (At.den U β)) (by simp;omega) (λj v hj=>by
    rw [cell_of_heap hb];simp only [List.getElem?_map,Option.map_eq_some_iff]at hj;obtain⟨a,ha,rfl⟩:=hj
    have xU:j<n:=by
     rcases Nat.lt_or_ge j n with h'|h'
     ·exact h'
     ·rw [List.getElem?_eq_none (by simp;omega)]at ha;cases ha
    rw [List.getElem?_take_of_lt xU,List.getElem?_drop]at ha;simp [ha])
   exact this
  ·cases h
 ·rename_i n;simp only [Option.map_eq_some_iff]at h;obtain⟨a,ha,rfl⟩:=h
  have:=CL hz w b off (a.den U β) (by rw [cell_of_heap hb];simp [ha])
  exact this
 ·cases h
theorem Vs{t:TypeId}{cs:List At}{off:Nat}{v:CV}{c:ar}(h:partOf P t cs off=some v)(hw:cs.all (At.wf c)=true):v.wf c=true:=by
 unfold partOf at h;generalize aH P t=u at h;split at h
 ·split at h
  ·simp only [Option.some.injEq]at h;subst h;exact (zu (zu hw off).2 _).1
  ·cases h
 ·simp only [Option.map_eq_some_iff]at h;obtain⟨a,ha,rfl⟩:=h;exact List.all_eq_true.1 hw a (List.mem_of_getElem? ha)
 ·cases h
def oR(tmps:Array Value):ResultVar->Sem Value
 | .tmp t=>pure (tmps.getD t undef)
 | .cell a t=>do loadVar t (<-asAddr (tmps.getD a undef))
theorem J'{U:Env}{β:Nat->Nat}{st:St}{a:Act}{w:World}(hC:Core W R Z U β st a w):∀ (l:List ResultVar) {cs:List CV},di P st l=some cs ->
    (l.mapM (oR a.tmps)).run P w=.ok (cs.map (CV.den U β)) w/\cs.all (CV.wf st.c)=true
  | [],cs,h=>by simp only [di,Option.some.injEq]at h;subst h;simp
  | .tmp t::r,cs,h=>by
    simp only [di]at h;split at h
    · rename_i v l h1 h2;simp only [Option.some.injEq]at h;subst h;obtain⟨q1,q2⟩:=J' hC r h2;have e:=hC.tmps t (by rw [h1];simp);have wv:=hC.wf.t t;rw [h1]at e wv;simp only [List.mapM_cons,oR,Sem.run_bind,Sem.run_pure,Result.andThen_ok,q1,Array.getD_eq_getD_getElem?,e,Option.getD_some,SV.den,List.map_cons,true_and];simp only [List.all_cons,q2,Bool.and_true];exact wv
    · cases h
  | .cell x t::r,cs,h=>by
    simp only [di]at h;split at h
    · rename_i k off l h1 h2;split at h
      · rename_i c ty h3;split at h
        · rename_i v h4;simp only [Option.some.injEq]at h;subst h;obtain⟨q1,q2⟩:=J' hC r h2;have e:=hC.tmps x (by rw [h1];simp);rw [h1]at e;obtain⟨m1,m2⟩:=hC.fix h3;have hl:=Vr h4 U β w (β k) ty m2
          have e2:a.tmps.getD x undef=.pointer (some ⟨β k,off,none⟩):=by
            simp only [Array.getD_eq_getD_getElem?,e,Option.getD_some,SV.den,CV.den,At.den]
          simp only [List.mapM_cons,oR,Sem.run_bind,Sem.run_pure,Result.andThen_ok,e2,asAddr,hl,q1,List.map_cons,true_and];simp only [List.all_cons,q2,Bool.and_true];exact Vs h4 (hC.wf.m k c ty h3).2
        · cases h
      · cases h
    · cases h
theorem Ka{fn:Func}{U:Env}{β:Nat->Nat}{st:St}{a:Act}{w:World}(hC:Core W R Z U β st a w){cs:List CV}(h:di P st fn.results.toList=some cs) :
  (results fn a.tmps).run P w=.ok ((cq cs).den U β) w/\(cq cs).wf st.c=true:=by
 obtain⟨q1,q2⟩:=J' hC _ h;refine⟨?_,CO q2⟩
 have hf:(results fn a.tmps)=(do let vs <-fn.results.mapM (oR a.tmps);pure (if h:vs.size=1 then vs[0]else .tuple vs)):=by
  unfold results;congr 1
 rw [hf,Array.mapM_eq_mapM_toList];simp only [Sem.run_bind,Sem.run_map,q1,Result.andThen_ok,Sem.run_pure];unfold cq
 match cs with
 | []=>simp [SV.den]
 | [c]=>simp [SV.den]
 |c::d::r=>simp [SV.den]
theorem Q_:∀(args:List SV) (n i:Nat),av ((List.range' n args.length).zip args) i=if n<=i then (args[i-n]?).getD .any else .any
  | [],n,i=>by simp [av]
  |v::r,n,i=>by
    simp only [List.length_cons,List.range'_succ,List.zip_cons_cons,zl];by_cases h:n=i
    · subst h;simp
    · rw [if_neg h,Q_ r (n+1) i];by_cases h2:n<=i
      · rw [if_pos (by omega),if_pos h2];rw [show i-n=(i-(n+1))+1 by omega];simp
      · rw [if_neg (by omega),if_neg h2]
theorem C4(args:List SV)(i:Nat):av ((List.range args.length).zip args) i=(args[i]?).getD .any:=by
 have:=Q_ args 0 i
 rw [List.range_eq_range'];simpa using this
theorem Ra{U:Env}{β:Nat->Nat}{args:List SV}{n:Nat}{st:St}{a:Act}{w:World}(hC:Core W R Z U β st a w)(hw:args.all (SV.wf st.c)=true) :
    Core W R (Z++st.d.map β) U β {t:=(List.range args.length).zip args,n:=args.length+(n-args.length),m:=st.m,c:=st.c,o:=st.o,r:=st.r,d := [],k:=st.k}
      {tmps:=(args.map (SV.den U β)).toArray++Array.replicate (n-(args.map (SV.den U β)).toArray.size) undef,defers := []} w where
  size:=by simp
  tmps i hn:=by
    simp only [C4]at hn ⊢;cases hi:args[i]? with
    |none=>rw [hi]at hn;exact (hn rfl).elim
    |some v =>
      have cn:i<args.length:=(List.getElem?_eq_some_iff.1 hi).1;rw [Array.getElem?_append_left (by simpa using cn)];simp [hi]
  jF:=rfl
  below:=hC.below
  mem:=hC.mem
  inj:=hC.inj
  ft:=hC.ft
  jz:=hC.jz
  gd b hb:=hC.gd b (by simpa using hb)
  dn:=by simpa using hC.dn
  wf:=⟨λi=>by
    simp only [C4];cases hi:args[i]? with
    |none=>rfl
    |some v=>exact List.all_eq_true.1 hw v (List.mem_of_getElem? hi),hC.wf.m,hC.wf.o,hC.wf.ap,hC.wf.r,λk hk=>(by cases hk),hC.wf.k,λx hx=>(by cases hx)⟩
  kn:=hC.kn
theorem Vt{U:Env}{β:Nat->Nat}{args:List SV}{n:Nat}{c:ar}{w:World}{kn:bV}(vE:bV.wf kn c)(eR:bV.den kn U)(hw:args.all (SV.wf c)=true)(hB:dz W w) :
    Core W R [] U β {t:=(List.range args.length).zip args,n:=args.length+(n-args.length),m := [],c:=c,k:=kn}
      {tmps:=(args.map (SV.den U β)).toArray++Array.replicate (n-(args.map (SV.den U β)).toArray.size) undef,defers := []} w where
  size:=by simp
  tmps i hn:=by
    simp only [C4]at hn ⊢;cases hi:args[i]? with
    |none=>rw [hi]at hn;exact (hn rfl).elim
    |some v =>
      have cn:i<args.length:=(List.getElem?_eq_some_iff.1 hi).1;rw [Array.getElem?_append_left (by simpa using cn)];simp [hi]
  jF:=rfl
  below:=hB
  mem k e h:=by cases h
  inj k k' e e' b h:=by cases h
  ft k e h:=by cases h
  jz k k' e e' h:=by cases h
  gd b hb:=by cases hb
  dn:=by simp
  wf:=⟨λi=>by
    simp only [C4];cases hi:args[i]? with
    |none=>rfl
    |some v=>exact List.all_eq_true.1 hw v (List.mem_of_getElem? hi),λk cs t h=>(by cases h),λk ce sz t h=>(by cases h),λk x h=>(by cases h),λk e h=>(by cases h),λk hk=>(by cases hk),vE,λx hx=>(by cases hx)⟩
  kn:=eR
def Ex.to(U:Env):Ex->Exit
 | .normal=>.normal
 | .exit id=>.exit id
 | .ret=>.ret
 | .iP i=>.panic [{v:=(U.v i).1,recovered:=false}]
def Ex.ok(c:ar):Ex->Prop
 | .iP i=>i<c.nv
 |_=>True
def mR(W:dR)(R:Nat->Loop)(Z:List Nat)(st:St)(U:Env)(β:Nat->Nat)(K:Ex->St->Env->Prop)(Q':Exit->Act->World->Prop):Prop :=
 ∀e gx af ak a' w',K e gx af->e.ok gx.c->st.c.le gx.c->Env.ay st.c U af->(∀k,k<st.c.nk->ak k=β k)->Core W R Z af ak gx a' w'->Q' (e.to af) a' w'
theorem mR.lN{st gx:St}{U af:Env}{β ak:Nat->Nat}{K:Ex->St->Env->Prop}{Q':Exit->Act->World->Prop}(h:mR W R Z st U β K Q')(hc:st.c.le gx.c)(hl:Env.ay st.c U af)(hb:∀k,k<st.c.nk->ak k=β k):mR W R Z gx af ak K Q' :=
 λe s aw bc a w hk h0 h1 h2 h3 hC=>h e s aw bc a w hk h0 (ar.le_trans hc h1) (Env.ah hc hl h2) (λk hk=>(h3 k (Nat.lt_of_lt_of_le hk hc.k)).trans (hb k hk)) hC
theorem mR.st{st gx:St}{U:Env}{β:Nat->Nat}{K:Ex->St->Env->Prop}{Q':Exit->Act->World->Prop}(h:mR W R Z st U β K Q')(he:gx.c=st.c):mR W R Z gx U β K Q' :=
 h.lN (by rw [he];exact ar.le_refl _) (Env.an _ _) (λ_ _=>rfl)
structure Shut(D:List Nat)(w w':World):Prop where
 os:w'.os=w.os
 tape:w'.tape=w.tape
 output:w'.output=w.output
 size:w'.heap.size=w.heap.size
 block:∀k,k ∉ D->w'.heap[k]? = w.heap[k]?
theorem Rb{r:Option Nat}{n:Nat}{fn:Func}{tmps:Array Value}{T:Ending->World->Prop}:∀ (D:List Nat) (w:World),(∀ b∈D,w.heap[b]? = some (.deferred (some [])))->D.Nodup ->
    (∀w',Shut D w w'->∃v,(results fn tmps).run P w'=.ok v w'/\T (.returned v) w')->LeavesInM (Fr r) n P fn tmps T (D.map λb => {target := .collected b,args := #[]}) .returning w
  | [],w,_,_,h=>h w ⟨rfl,rfl,rfl,rfl,λ_ _=>rfl⟩
  |b::D,w,hd,hn,h=>by
    have hb:=hd b (by simp);simp only [List.nodup_cons]at hn;refine⟨by simp,.inl ⟨b,_,rfl,run_takeDeferred hb,Rb D _ (λb' gg => ?_) hn.2 λw' hs=>h w' ?_⟩⟩
    · rw [World.putObj_heap_other (λe=>hn.1 (by rw [<-e];exact gg))];exact hd b' (by simp [gg])
    · refine⟨hs.os,hs.tape,hs.output,by rw [hs.size];simp,λk hk => ?_⟩;simp only [List.mem_cons,not_or]at hk;rw [hs.block k hk.2,World.putObj_heap_other hk.1]
theorem Holds.shut{U:Env}{β:Nat->Nat}{k:Nat}{w w':World}{D:List Nat}{e:pI}{c:ar}(h:Holds W U β k e w)(hw:od c k e)(hD:∀b∈D,w.heap[b]? = some (.deferred (some [])))(hs:Shut D w w'):Holds W U β k e w':=by
 refine h.cA hw (Env.an _ _) (λ_ _=>rfl) λb hb=>hs.block b λhm => ?_;obtain⟨_,_,o,hc,hd⟩:=h.vI b hb;rw [hD b hm]at hc;cases hc;exact hd
theorem Core.shut{U:Env}{β:Nat->Nat}{st:St}{a:Act}{w w':World}(hC:Core W R Z U β st a w)(pP:st.df=[])(hs:Shut (st.d.map β) w w'):Core W R Z U β {st with d := []} {a with defers := []} w':=by
 have hD:∀b∈st.d.map β,w.heap[b]? = some (.deferred (some [])):=λb hb=>(hC.gd b (List.mem_append.2 (.inr hb))).2;have Kb:=List.nodup_append.1 hC.dn
 refine⟨hC.size,hC.tmps,by simp [fm,pP,marksOf],dz.mk (hs.os.trans hC.below.os) (hs.tape.trans hC.below.tape) (hs.output.trans hC.below.output) (by rw [hs.size];exact hC.below.size) (λk hk hl => ?_),λk e hg=>(hC.mem k e hg).shut (hC.wf.dU hg) hD hs,hC.inj,λk e hg=>⟨(hC.ft k e hg).1, ?_⟩,hC.jz,λb hb => ?_, ?_,
  ⟨hC.wf.t,hC.wf.m,hC.wf.o,hC.wf.ap,hC.wf.r,λk hk=>(by cases hk),hC.wf.k,hC.wf.df⟩,hC.kn⟩
 ·rw [hs.block k λhm => ?_]
  ·exact hC.below.block k hk hl
  ·have:=(hC.gd k (List.mem_append.2 (.inr hm))).1
   omega
 ·rw [hs.block _ λhm => ?_]
  ·exact (hC.ft k e hg).2
  ·have h1:=hD _ hm;rw [(hC.ft k e hg).2]at h1;cases h1
 ·simp only [List.map_nil,List.append_nil]at hb;refine⟨(hC.gd b (List.mem_append.2 (.inl hb))).1, ?_⟩;rw [hs.block b λhm=>Kb.2.2 b hb b hm rfl];exact (hC.gd b (List.mem_append.2 (.inl hb))).2
 ·simpa using Kb.1
theorem Hc{U af:Env}{β ak:Nat->Nat}{st s':St}{a a':Act}{w w':World}(hC:Core W R Z U β st a w)(dY:Core W R (Z++st.d.map β) af ak {s' with d := []} a' w')(hle:st.c.le s'.c)(hl:Env.ay st.c U af)(hb:∀k,k<st.c.nk->ak k=β k) :
  Core W R Z af ak {t:=st.t,n:=st.n,m:=s'.m,c:=s'.c,o:=s'.o,r:=s'.r,d:=st.d,k:=s'.k,df:=st.df} a w':=by
 have nE:st.d.map ak=st.d.map β:=List.map_congr_left λk hk=>hb k (hC.wf.d k hk);refine⟨hC.size,λi hi => ?_, ?_,dY.below,dY.mem,dY.inj,dY.ft,dY.jz,λb pK => ?_, ?_,⟨λi=>SV.aL hle (hC.wf.t i),dY.wf.m,dY.wf.o,dY.wf.ap,dY.wf.r,λk hk=>Nat.lt_of_lt_of_le (hC.wf.d k hk) hle.k,dY.wf.k,λx hx y hy=>Nat.lt_of_lt_of_le (hC.wf.df x hx y hy) hle.k⟩,dY.kn⟩
 ·rw [hC.tmps i hi];exact congrArg some (SV.aa hl hb (hC.wf.t i)).symm
 ·rw [hC.jF,G3 hC.wf.df hb];simp only [marksOf];exact congrArg _ (List.map_congr_left λk hk=>by rw [hb k (hC.wf.d k hk)])
 ·rw [nE]at pK;exact dY.gd b (by simpa using pK)
 ·rw [nE];simpa using dY.dn
theorem Kc{f:FuncId}{fn:Func}{b:Code}{args:Array Value}{w:World}{T:Ending->World->Prop}{n:Nat}(hf:P.funcs[f]? = some fn)(hb:fn.body=some b)
  (h:b.wpIn (Fr none) n P (bodyPostM (Fr none) n P fn T) {tmps:=args++Array.replicate (fn.ntmps-args.size) undef,defers := []} w):Calls P f args w T :=
 J2.1 (callsIn_of_wp_marks (F:=Fr none) hf hb (tW none f) h rfl)
theorem Rc{r:Option Nat}{n:Nat}{fn:Func}{U:Env}{β:Nat->Nat}{s:St}{a:Act}{w:World}{T:Ending->World->Prop}(hC:Core W R Z U β s a w)(pP:s.df=[]){l:List CV}(hr:di P s fn.results.toList=some l)
  (h:∀w',Core W R Z U β {s with d := []} {a with defers := []} w'->(cq l).wf s.c=true->T (.returned ((cq l).den U β)) w'):LeavesInM (Fr r) n P fn a.tmps T a.defers .returning w:=by
 rw [hC.jF,pP];have hd:fm β []++marksOf β s.d=(s.d.map β).map λb => {target := .collected b,args := #[]}:=by simp [marksOf,fm]
 rw [hd];refine Rb _ w (λb hb=>(hC.gd b (List.mem_append.2 (.inr hb))).2) (List.nodup_append.1 hC.dn).2.1 λw' hs => ?_;have dY:=hC.shut pP hs
 have Vu:di P {s with d := []} fn.results.toList=some l:=by
  rw [<-hr]
  have:∀(x:List ResultVar),di P {s with d := []} x=di P s x:=by
   intro x
   induction x with
   |nil=>rfl
   |cons y x ih=>cases y<;>simp only [di,ih]
  exact this _
 obtain⟨q1,q2⟩:=Ka dY Vu;exact⟨_,q1,h w' dY q2⟩
theorem St.sZ(n0:Nat)(v:SV)(st:St):(St.prune n0 v st).c=st.c:=by
 unfold St.prune;split<;>rfl
theorem Core.prune{U:Env}{β:Nat->Nat}{st:St}{a:Act}{w:World}(hC:Core W R Z U β st a w)(n0:Nat)(v:SV):Core W R Z U β (St.prune n0 v st) a w:=by
 unfold St.prune;split
 ·exact hC
 ·exact hC.less λk=>decide (k<n0) || (lX st.m st.o 3000 (d_ v++((st.m.filter λx=>decide (x.1<n0)).flatMap (λx=>(aF x.2.1).filter λk=>decide (n0<=k))++(st.o.filter λx=>decide (x.1<n0)).flatMap (λx=>(aF (jg x.2.1)).filter λk=>decide (n0<=k)))) []).contains k
theorem Core.u7{U:Env}{β:Nat->Nat}{st:St}{a:Act}{w:World}(hC:Core W R Z U β st a w):Core W R Z U β {st with t:=fB 0 st.t} a w :=
 ⟨hC.size,λi h=>by
   have h:av (fB 0 st.t) i ≠ .any:=h;show a.tmps[i]? = some ((av (fB 0 st.t) i).den U β);rw [Py]at h ⊢;exact hC.tmps i h,hC.jF,hC.below,hC.mem,hC.inj,hC.ft,hC.jz,hC.gd,hC.dn,
  ⟨λi=>by
   show (av (fB 0 st.t) i).wf st.c=true;rw [Py];exact hC.wf.t i,hC.wf.m,hC.wf.o,hC.wf.ap,hC.wf.r,hC.wf.d,hC.wf.k,hC.wf.df⟩,hC.kn⟩
def Ex.mode(U:Env):Ex->FrameMode
 | .iP i=>.panicking [{v:=(U.v i).1,recovered:=false}]
 |_=>.returning
theorem Vv{b rest:Code}{d:Tmp}(h:lY b=some (d,rest)):∃id ops o,b=.seq (.region id ops false) rest/\ops.toList=[o]/\o.dst=some d/\o.guard=none/\∃at',o.op=.call ⟨.builtin .recover,#[],at'⟩:=by
 unfold lY at h;split at h
 ·rename_i id ops Rd;generalize hl:ops.toList=l at h;split at h
  ·rename_i d' args at' ty pos Ze;split at h
   ·rename_i ha;cases h
    have:args=#[]:=by apply Array.ext';simpa using ha
    subst this;exact⟨_,_,_,rfl,hl,rfl,rfl,_,rfl⟩
   ·cases h
  ·cases h
 ·cases h
theorem Re{G:bF}(hG:G.Ok){ex:Code->St->(Ex->St->Env->Prop)->Env->Prop}{c0:ar}{cP:Env}{bu:Nat->Nat}
    (hE:∀(c:Code) (st:St) (K:Ex->St->Env->Prop) (U:Env),ex c st K U->c0.le st.c->Env.ay c0 cP U->∀(m:Nat) (β:Nat->Nat) (a:Act) (w:World),(∀k,k<c0.nk->β k=bu k)->Core W R Z U β st a w->∀Q':Exit->Act->World->Prop,mR W R Z st U β K Q'->c.wpIn (Fr none) m G.P Q' a w)
    {fn:Func} {e:Ex} {s:St} {KR:SV->St->Env->Prop} {KP:Nat->St->Env->Prop} {U:Env} (h:leave (PA G.P W Q QM QP) G ex fn e s KR KP U) (ij:c0.le s.c) (fI:Env.ay c0 cP U) {β:Nat->Nat} {a:Act} {w:World} (gW:∀k,k<c0.nk->β k=bu k) (hC:Core W R Z U β s a w) (jR:e.ok s.c) (m:Nat)
    {T:Ending->World->Prop}
    (hR:∀v s2 aw bc w2,KR v s2 aw->v.wf s2.c=true->v ≠ .any->s.c.le s2.c->Env.ay s.c U aw->(∀k,k<s.c.nk->bc k=β k)->Core W R Z aw bc {s2 with d := []} {a with defers := []} w2->T (.returned (v.den aw bc)) w2)
    (hP:∀i s2 aw bc w2,KP i s2 aw->i<s2.c.nv->s.c.le s2.c->Env.ay s.c U aw->(∀k,k<s.c.nk->bc k=β k)->Core W R Z aw bc {s2 with d := []} {a with defers := []} w2->T (.panicked [{v:=(aw.v i).1,recovered:=false}]) w2) :
    (∀id,e ≠ .exit id)/\LeavesInM (Fr none) m G.P fn a.tmps T a.defers (e.mode U) w:=by
  unfold leave at h;generalize pP:s.df=df at h;split at h
  ·
    have fin:(match di G.P s fn.results.toList with
        |some l=>KR (cq l) s
        |none => (PA G.P W Q QM QP).fail "leave: results") U -> LeavesInM (Fr none) m G.P fn a.tmps T a.defers .returning w := fun hk => by
      generalize hr:di G.P s fn.results.toList=u at hk;cases u with
      |none=>exact hk.elim
      |some l=>exact Rc hC pP hr λw3 vR Kd=>hR (cq l) s U β w3 hk Kd (CP l) (ar.le_refl _) (Env.an _ _) (λ_ _=>rfl) vR
    cases e with
    |exit id=>exact h.elim
    |normal=>exact⟨by simp,fin h⟩
    |ret=>exact⟨by simp,fin h⟩
    |iP i =>
      refine⟨by simp, ?_⟩;simp only at h;generalize hd:s.d=d at h;cases d with
      |cons _ _=>exact h.elim
      |nil =>
        have he:a.defers=[]:=by rw [hC.jF,pP,hd];rfl
        rw [he];show LeavesIn (Fr none) m G.P fn a.tmps T [] (.panicking [{v:=(U.v i).1,recovered:=false}]) w;refine hP i s U β w h jR (ar.le_refl _) (Env.an _ _) (λ_ _=>rfl) ?_
        have:=hC.shut pP (w':=w) ⟨rfl,rfl,rfl,rfl,λ_ _=>rfl⟩
        exact this
  ·
    rename_i g aB;generalize hd:s.d=d at h;generalize tZ:G.P.funcs[g]? = gf at h;split at h;rotate_left
    · exact h.elim
    rename_i gn;generalize Ke:gn.body=gb at h;split at h;rotate_left
    · exact h.elim
    rename_i b;generalize jm:lY b=rb at h;split at h;rotate_left
    · exact h.elim
    rename_i dst rest;split at h;rotate_left
    · exact h.elim
    rename_i gy;obtain⟨Kg,Bg⟩:=gy;simp only at h
    have eu:((aB.map cV).map (SV.den U β)).toArray=(aB.map λc=>(.pointer (some ⟨β c.1,c.2,none⟩):Value)).toArray:=by
      congr 1;simp [cV,SV.den,CV.den,At.den,Function.comp_def]
    have Vw:(aB.map cV).all (SV.wf s.c)=true:=List.all_eq_true.2 λx hx=>by
      obtain⟨y,hy,rfl⟩:=List.mem_map.1 hx;exact decide_eq_true (hC.wf.df _ (by rw [pP];exact List.mem_cons_self ..) y hy)
    have vS:=Ra (n:=gn.ntmps) hC Vw;rw [hd]at vS;simp only [List.map_nil,List.append_nil]at vS;obtain⟨id,ops,o,fy,dL,pN,Vx,at',Hd⟩:=Vv jm
    have key:∀ (rv:SV) (u u':FrameMode),u ≠ .run->settle u'=.returning->rv.wf s.c=true->rv ≠ .any->(∀ (gC:Frame) (cs:List Frame),gC.mode=u->(recoverD (gC::cs)=some (rv.den U β,{gC with mode:=u'}::cs))∨(recoverD (gC::cs)=none/\rv.den U β=.nilIface/\u'=u)) ->
        (St.put (PA G.P W Q QM QP) {t:=(List.range (aB.map cV).length).zip (aB.map cV),n:=(aB.map cV).length+(gn.ntmps-(aB.map cV).length),m:=s.m,c:=s.c,o:=s.o,r:=s.r,d := [],k:=s.k} (some dst) rv s.c λs1 =>
          ex rest s1 λe2 s2=>match e2 with
            | .normal=>match s2.d,s2.df with
              | [],[]=>match di G.P {t:=s.t,n:=s.n,m:=s2.m,c:=s2.c,o:=s2.o,r:=s2.r,d := [],k:=s2.k} fn.results.toList with
                |some l=>KR (cq l) {t:=s.t,n:=s.n,m:=s2.m,c:=s2.c,o:=s2.o,r:=s2.r,d := [],k:=s2.k}
                |none => (PA G.P W Q QM QP).fail "leave: results"
              |_, _ => (PA G.P W Q QM QP).fail "leave: closure"
            | .ret=>match s2.d,s2.df with
              | [],[]=>match di G.P {t:=s.t,n:=s.n,m:=s2.m,c:=s2.c,o:=s2.o,r:=s2.r,d := [],k:=s2.k} fn.results.toList with
                |some l=>KR (cq l) {t:=s.t,n:=s.n,m:=s2.m,c:=s2.c,o:=s2.o,r:=s2.r,d := [],k:=s2.k}
                |none => (PA G.P W Q QM QP).fail "leave: results"
              |_, _ => (PA G.P W Q QM QP).fail "leave: closure"
            |_ => (PA G.P W Q QM QP).fail "leave: closure") U -> LeavesInM (Fr none) m G.P fn a.tmps T a.defers u w := by
      intro rv u u' hu Kh vM Zf yb h
      have he:a.defers=[{target := .fn (.func g) (aB.map λc=>(.pointer (some ⟨β c.1,c.2,none⟩):Value)).toArray,args := #[]}]:=by
        rw [hC.jF,pP,hd];rfl
      rw [he];refine⟨hu,.inr ⟨Ez,.func g,_,g,(aB.map λc=>(.pointer (some ⟨β c.1,c.2,none⟩):Value)).toArray,rfl, ?_,λg' _=>tW none g', ?_⟩⟩
      · simp only [invoke];rw [show (#[]:Array Value)++(aB.map λc=>(.pointer (some ⟨β c.1,c.2,none⟩):Value)).toArray=(aB.map λc=>(.pointer (some ⟨β c.1,c.2,none⟩):Value)).toArray from by simp];exact hG.inl g Bg _ w
      refine callsDIn_of_wpSIn tZ Ke (tW none g) λgC cs hm => ?_;rw [fy];refine wpSIn_seq (wpSIn_region ?_);have fW:ops.size=1:=by rw [<-Array.length_toList,dL];rfl
      have bh:ops=#[o]:=by apply Array.ext';rw [dL]
      subst bh;rw [show List.range (#[o]:Array Oper).size=[0] from rfl]
      have gS:∀ev:Operand->Value,(execOp ev o).run G.P w=.ok .recover w:=λev=>by
        simp [execOp,Hd,resolve,invoke,builtin]
      unfold wpOpsSIn;simp only [List.getElem?_toArray,List.getElem?_cons_zero];refine⟨λf _=>tW none f, ?_⟩;rw [if_pos (by simp [Region.wanted,Vx]),gS];simp only
      have go:∀ iK,iK = {gC with mode:=u'}::cs->wpOpsSIn (Fr none) (m - 1) G.P #[o] (Exit.thenS (rest.wpSIn (Fr none) (m - 1) G.P (bodyPostS G.P gn gC cs fun
          | .returned _,u',w'=>LeavesInM (Fr none) m G.P fn a.tmps T [] (settle u') w'
          | .panicked chain,u',w'=>LeavesInM (Fr none) m G.P fn a.tmps T [] (raised u' chain) w'
          | .outgrown,_,w'=>T .outgrown w')) (bodyPostS G.P gn gC cs fun
          | .returned _,u',w'=>LeavesInM (Fr none) m G.P fn a.tmps T [] (settle u') w'
          | .panicked chain,u',w'=>LeavesInM (Fr none) m G.P fn a.tmps T [] (raised u' chain) w'
          | .outgrown,_,w'=>T .outgrown w')) [] ((⟨(aB.map λc=>(.pointer (some ⟨β c.1,c.2,none⟩):Value)).toArray++Array.replicate (gn.ntmps-(aB.map λc=>(.pointer (some ⟨β c.1,c.2,none⟩):Value)).toArray.size) undef,[]⟩:Act).put o.dst (rv.den U β)) iK w:=by
        intro iK mJ;subst mJ;refine wpSIn_of_wpIn rfl ?_;rw [<-eu,pN];refine Be (st0:=s) (cP:=U) h vS (ar.le_refl _) (ar.le_refl _) (Env.an _ _) (λ_ _=>rfl) (λ_=>rfl) (next:=λa' w'=>rest.wpIn (Fr none) (m-1) G.P _ a' w') ?_;intro s1 aR eE a1 w1 si h1 h2 h3 oe;refine hE rest s1 _ aR si (ar.le_trans ij h1) (Env.ah ij fI h2) (m-1) eE a1 w1 (λk hk=>(h3 k (Nat.lt_of_lt_of_le hk ij.k)).trans (gW k hk)) oe _ ?_;intro e2 s2 aw bc a2 w2 jk _ g1 g2 g3 dE;have q1:s.c.le s2.c:=ar.le_trans h1 g1;have q2:Env.ay s.c U aw:=Env.ah h1 h2 g2;have q3:∀k,k<s.c.nk->bc k=β k:=λk hk=>(g3 k (Nat.lt_of_lt_of_le hk h1.k)).trans (h3 k hk)
        have back:(match s2.d,s2.df with
              | [],[]=>match di G.P {t:=s.t,n:=s.n,m:=s2.m,c:=s2.c,o:=s2.o,r:=s2.r,d := [],k:=s2.k} fn.results.toList with
                |some l=>KR (cq l) {t:=s.t,n:=s.n,m:=s2.m,c:=s2.c,o:=s2.o,r:=s2.r,d := [],k:=s2.k}
                |none => (PA G.P W Q QM QP).fail "leave: results"
              |_, _ => (PA G.P W Q QM QP).fail "leave: closure") aw -> a2.defers = [] /\ ∃ u2, { gC with mode := u' } :: cs = { gC with mode := u2 } :: cs /\ ∃ v, (results gn a2.tmps).run G.P w2 = .ok v w2 /\ LeavesInM (Fr none) m G.P fn a.tmps T [] (settle u2) w2 := by
          intro hk;generalize Bh:s2.d=d2 at hk;generalize Ey:s2.df=f2 at hk;split at hk
          · generalize hr:di G.P {t:=s.t,n:=s.n,m:=s2.m,c:=s2.c,o:=s2.o,r:=s2.r,d := [],k:=s2.k} fn.results.toList=ur at hk;cases ur with
            |none=>exact hk.elim
            |some l =>
              have Ki:a2.defers=[]:=by rw [dE.jF,Bh,Ey];rfl
              have hz:=(Ka (P:=G.P) (fn:=gn) dE (cs := []) (by rw [Kg];rfl)).1;refine⟨Ki,u',rfl,_,hz, ?_⟩;rw [Kh]
              have C5:Core W R (Z++s.d.map β) aw bc {s2 with d := []} a2 w2:=by
                rw [hd];simp only [List.map_nil,List.append_nil]
                have:({s2 with d := []}:St)=s2:=by rw [<-Bh]
                rw [this];exact dE
              have k_:=Hc hC C5 q1 q2 q3
              have nD:Core W R Z aw bc {t:=s.t,n:=s.n,m:=s2.m,c:=s2.c,o:=s2.o,r:=s2.r,d := [],k:=s2.k} {a with defers := []} w2:=by
                have gU:=k_;rw [hd]at gU;exact⟨gU.size,gU.tmps,rfl,gU.below,gU.mem,gU.inj,gU.ft,gU.jz,gU.gd,gU.dn,⟨gU.wf.t,gU.wf.m,gU.wf.o,gU.wf.ap,gU.wf.r,gU.wf.d,gU.wf.k,λx hx=>by cases hx⟩,gU.kn⟩
              obtain⟨r1,r2⟩:=Ka (fn:=fn) nD hr;exact⟨_,r1,hR (cq l) _ aw bc w2 hk r2 (CP l) q1 q2 q3 nD⟩
          · exact hk.elim
        cases e2 with
        |normal=>exact back jk
        |ret=>exact back jk
        |exit id=>exact jk.elim
        |iP i=>exact jk.elim
      rcases yb gC cs hm with h1|⟨h1,h2,h3⟩
      · rw [h1];exact go _ rfl
      · rw [h1];simp only;rw [<-h2];refine go _ ?_;subst h3;rw [<-hm]
    cases e with
    |exit id=>exact h.elim
    |normal =>
      refine⟨by simp, ?_⟩;exact key (.cv (.one .ov)) .returning .returning (by simp) rfl rfl (by simp) (λgC cs hm=>.inr ⟨by simp [recoverD,hm],rfl,rfl⟩) h
    |ret =>
      refine⟨by simp, ?_⟩;exact key (.cv (.one .ov)) .returning .returning (by simp) rfl rfl (by simp) (λgC cs hm=>.inr ⟨by simp [recoverD,hm],rfl,rfl⟩) h
    |iP i =>
      refine⟨by simp, ?_⟩;simp only at h;by_cases hi:(fA s.k i).isSome=true
      · rw [if_pos hi]at h;exact key (.cv (.one (.val i))) (.panicking [{v:=(U.v i).1,recovered:=false}]) (.panicking [{v:=(U.v i).1,recovered:=true}]) (by simp) rfl (decide_eq_true jR) (by simp) (λgC cs hm=>.inl (by simp [recoverD,hm];rfl)) h
      · rw [if_neg hi]at h;exact h.elim
  · exact h.elim
end Vc
set_option linter.unusedVariables false
namespace Vc
open Go Go.RowKit
variable {P:Program} {W:dR} {Q:Value->Prop} {QM QP:World->Value->Prop} {R:Nat->Loop} {Z:List Nat}
theorem Vy{o:ba}{a:At}{l:List At}{k:CK}{ks:List CK}(h:ee o (a::l)=some (k::ks)):kindOf o a=some k/\ee o l=some ks:=by
 simp only [ee]at h;split at h
 ·rename_i k' r h1 h2;simp only [Option.some.injEq,List.cons.injEq]at h;exact⟨h.1▸h1,h.2▸h2⟩
 ·cases h
theorem Kj(c:ar)(k:CK):c.nk<=(aV c k).nk:=(zr c k).k
theorem C6:∀(ks:List CK) (c:ar) {k:Nat} {x:CE × Nat × TypeId},aG (aZ c ks) k=some x->c.nk<=k/\k+3<(aP c ks).nk/\k∈aJ (au c ks)/\∃n,x.1=[.var n]/\n<(aP c ks).nl
  | [],c,k,x,h=>by cases h
  |kd::l,c,k,x,h=>by
    have plain:aG (aZ (aV c kd) l) k=some x->c.nk<=k/\k+3<(aP c (kd::l)).nk/\k∈aJ (au (aV c kd) l)/\∃n,x.1=[.var n]/\n<(aP c (kd::l)).nl:=λh=>by
      obtain⟨h1,h2,h3,h4⟩:=C6 l _ h;exact⟨Nat.le_trans (Kj c kd) h1,h2,h3,h4⟩
    cases kd<;>first
      | (obtain⟨h1,h2,h3,h4⟩:=plain h;exact⟨h1,h2,h3,h4⟩)
      |skip
    rename_i sz t;simp only [aZ,zy]at h;by_cases hk:c.nk=k
    · rw [if_pos hk]at h;cases h;subst hk
      have:=(xk l (aV c (.own sz t))).k
      have h2:=(xk l (aV c (.own sz t))).l;exact⟨Nat.le_refl _,by simp only [aP,aV]at this ⊢;omega,by simp [au,bo,aJ],c.nl,rfl,by simp only [aP,aV]at h2 ⊢;omega⟩
    · rw [if_neg hk]at h;obtain⟨h1,h2,h3,h4⟩:=plain h;exact⟨h1,h2,by simp only [au,bo,aJ];exact List.mem_cons_of_mem _ h3,h4⟩
def vT(fo oy:ba)(af aw:Env)(ak β:Nat->Nat)(k' k:Nat):Prop :=
 (ak k'=β k/\ak (k'+1)=β (k+1)/\ak (k'+2)=β (k+2)/\ak (k'+3)=β (k+3)) /\
  ∃n ce sz t,aG fo k'=some ([.var n],sz,t)/\aG oy k=some (ce,sz,t)/\aq af ak [.var n]=aq aw β ce
theorem ED(fo oy:ba)(aw:Env)(β:Nat->Nat):∀ (ks:List CK) (c:ar) {k:Env->Prop} {U:Env} (pH:Nat->Nat) (ys:List At),(∀ j x,aG (aZ c ks) j=some x->aG fo j=some x)->mE fo (au c ks) k U->ee oy ys=some ks ->
    ∃af ak,k af/\Env.ay c U af/\(∀j,j<c.nk->ak j=pH j)/\(au c ks).map (At.den af ak)=ys.map (At.den aw β)/\(au c ks).map (vl fo af)=ys.map (vl oy aw) /\
      (aJ (au c ks)).length=(aJ ys).length/\(∀p∈(aJ (au c ks)).zip (aJ ys),vT fo oy af aw ak β p.1 p.2)/\(∀j∈aJ (au c ks),c.nk<=j)/\(aJ (au c ks)).Nodup
  | [],c,k,U,pH,ys,_,h,hk=>by
    cases ys with
    |nil=>exact⟨U,pH,h,Env.an _ _,λ_ _=>rfl,rfl,rfl,rfl,λp hp=>(by cases hp),λj hj=>(by cases hj),by simp [aJ,au]⟩
    |cons y r =>
      simp only [ee]at hk;split at hk<;>simp at hk
  |kd::l,c,k,U,pH,ys,Kk,h,hk=>by
    cases ys with
    |nil=>simp [ee]at hk
    |cons y r =>
      obtain⟨h1,h2⟩:=Vy hk
      have fin:kd.plain=true->aJ (y::r)=aJ r->∀ {aR:Env},mE fo (au (aV c kd) l) k aR->Env.ay c U aR->(bo c kd).den aR b0=y.den aw β->vl fo aR (bo c kd)=vl oy aw y->(∀ af,Env.ay (aV c kd) aR af->vl fo af (bo c kd)=vl fo aR (bo c kd)) ->
          ∃af ak,k af/\Env.ay c U af/\(∀j,j<c.nk->ak j=pH j)/\(au c (kd::l)).map (At.den af ak)=(y::r).map (At.den aw β)/\(au c (kd::l)).map (vl fo af)=(y::r).map (vl oy aw) /\
            (aJ (au c (kd::l))).length=(aJ (y::r)).length/\(∀p∈(aJ (au c (kd::l))).zip (aJ (y::r)),vT fo oy af aw ak β p.1 p.2)/\(∀j∈aJ (au c (kd::l)),c.nk<=j)/\(aJ (au c (kd::l))).Nodup:=by
        intro mH iM aR ha hl he hv Bb;have Bi:∀j x,aG (aZ (aV c kd) l) j=some x->aG fo j=some x:=λj x hj=>Kk j x (by cases kd<;>first|exact hj|cases mH);have tU:(aV c kd).nk=c.nk:=by cases kd<;>first|rfl|cases mH
        obtain⟨af,ak,q1,q2,q3,q4,q5,q6,q7,q8,q9⟩:=ED fo oy aw β l _ pH r Bi ha h2;have ho:aJ (au c (kd::l))=aJ (au (aV c kd) l):=by cases kd<;>first|rfl|cases mH
        refine⟨af,ak,q1,Env.ah (zr c kd) hl q2,λj hj=>q3 j (by omega), ?_, ?_,by rw [ho,iM];exact q6,by rw [ho,iM];exact q7,by rw [ho];exact λj hj=>by have:=q8 j hj;omega,by rw [ho];exact q9⟩
        · simp only [au,List.map_cons,q4];rw [At.bg af ak b0 (GP c kd mH),At.aa q2 (β:=b0) (λ_ _=>rfl) (GO c kd),he]
        · simp only [au,List.map_cons,q5];rw [Bb af q2,hv]
      cases kd with
      |int kk =>
        cases y<;>simp only [kindOf,reduceCtorEq,Option.some.injEq,CK.int.injEq]at h1
        · rename_i k2 e;subst h1;refine fin rfl rfl (h (e.den aw)) (zB c U _) ?_ ?_ ?_
          · simp [bo,At.den,IE.den,Env.fQ]
          · simp [bo,vl,IE.den,Env.fQ]
          · intro af hl;show Vl.i (af.i c.ni)=Vl.i _;rw [hl.i c.ni (Nat.lt_succ_self _)];rfl
        · split at h1
          · split at h1<;>simp at h1
          · cases h1
      |bool =>
        cases y<;>simp only [kindOf,reduceCtorEq,Option.some.injEq]at h1
        · rename_i e;refine fin rfl rfl (h (e.den aw)) (PI c U _) ?_ ?_ ?_
          · simp [bo,At.den,BE.den,Env.lC]
          · simp [bo,vl,BE.den,Env.lC]
          · intro af hl;show Vl.b (af.b c.nb)=Vl.b _;rw [hl.b c.nb (Nat.lt_succ_self _)];rfl
        · split at h1
          · split at h1<;>simp at h1
          · cases h1
      |uA =>
        cases y<;>simp only [kindOf,reduceCtorEq,Option.some.injEq]at h1
        · rename_i e;refine fin rfl rfl (h (aw.v e)) (DQ c U _) ?_ ?_ ?_
          · simp [bo,At.den,Env.ny]
          · simp [bo,vl,At.den,Env.ny]
          · intro af hl;show Vl.v (af.v c.nv).1=Vl.v _;rw [hl.v c.nv (Nat.lt_succ_self _)];rfl
        · split at h1
          · split at h1<;>simp at h1
          · cases h1
      |str =>
        have two:∀af:Env,Env.ay (aV c .str) U af->True:=λ_ _=>trivial;cases y<;>simp only [kindOf,reduceCtorEq,Option.some.injEq]at h1
        · rename_i x;refine fin rfl rfl (h x) (DR c U _) ?_ ?_ ?_
          · simp [bo,At.den,Env.pU]
          · simp [bo,vl,Env.pU]
          · intro af hl;show Vl.s (af.s c.ns)=Vl.s _;rw [hl.s c.ns (Nat.lt_succ_self _)]
        · rename_i x;refine fin rfl rfl (h (aw.s x)) (DR c U _) ?_ ?_ ?_
          · simp [bo,At.den,Env.pU]
          · simp [bo,vl,Env.pU]
          · intro af hl;show Vl.s (af.s c.ns)=Vl.s _;rw [hl.s c.ns (Nat.lt_succ_self _)]
        · split at h1
          · split at h1<;>simp at h1
          · cases h1
      |sl sz =>
        cases y<;>simp only [kindOf,reduceCtorEq,Option.some.injEq,CK.sl.injEq]at h1
        · rename_i q p s len cap;subst h1
          have hd:∀af:Env,af.b c.nb=aw.b q->af.p c.np=aw.p p->af.i c.ni=len.den aw->af.i (c.ni+1)=cap.den aw->∀eE,(bo c (.sl s)).den af eE=(At.fG q p s len cap).den aw β:=λaf e1 e2 e3 e4 eE=>by
            simp only [bo,At.den,IE.den,e1,e2,e3,e4]
          have hs:=h (aw.b q) (aw.p p) (len.den aw) (cap.den aw);have g1:((((U.lC c.nb (aw.b q)).rl c.np (aw.p p)).fQ c.ni (len.den aw)).fQ (c.ni+1) (cap.den aw)).b c.nb=aw.b q:=if_pos rfl;have g2:((((U.lC c.nb (aw.b q)).rl c.np (aw.p p)).fQ c.ni (len.den aw)).fQ (c.ni+1) (cap.den aw)).p c.np=aw.p p:=if_pos rfl
          have g3:((((U.lC c.nb (aw.b q)).rl c.np (aw.p p)).fQ c.ni (len.den aw)).fQ (c.ni+1) (cap.den aw)).i c.ni=len.den aw:=by
            show (if c.ni=c.ni+1 then _ else if c.ni=c.ni then _ else _)=_;rw [if_neg (by omega),if_pos rfl]
          have g4:((((U.lC c.nb (aw.b q)).rl c.np (aw.p p)).fQ c.ni (len.den aw)).fQ (c.ni+1) (cap.den aw)).i (c.ni+1)=cap.den aw:=if_pos rfl;refine fin rfl rfl hs (PJ c U _ _ _ _) (hd _ g1 g2 g3 g4 b0) ?_ ?_
          · show Vl.v ((bo c (.sl s)).den _ b0)=Vl.v ((At.fG q p s len cap).den aw b0);rw [hd _ g1 g2 g3 g4 b0];rfl
          · intro af hl;show Vl.v ((bo c (.sl s)).den af b0)=Vl.v ((bo c (.sl s)).den _ b0);rw [hd af (by rw [hl.b c.nb (Nat.lt_succ_self _),g1]) (by rw [hl.p c.np (Nat.lt_succ_self _),g2]) (by rw [hl.i c.ni (by simp [aV]),g3]) (by rw [hl.i (c.ni+1) (by simp [aV]),g4]) b0,hd _ g1 g2 g3 g4 b0]
        · split at h1
          · split at h1<;>simp at h1
          · cases h1
      |own sz t =>
        cases y<;>simp only [kindOf,reduceCtorEq,Option.some.injEq]at h1;rename_i k0;split at h1
        · rename_i ce uB t' hg;split at h1
          · rename_i kT;simp only [Option.some.injEq,CK.own.injEq]at h1;obtain⟨rfl,rfl⟩:=h1;have hf:=Kk c.nk ([.var c.nl],uB,t') (by simp [aZ,zy])
            have hh:∀x:List OV,mE fo (au (aV c (.own uB t')) l) k (U.jU c.nl x):=by
              have:=h
              simp only [au,bo,mE,hf]at this;exact this
            have hL:=hh ((aq aw β ce).attach.map λx=>⟨x.1,uZ aw β ce x.1 x.2⟩)
            have nE:(((aq aw β ce).attach.map λx=>(⟨x.1,uZ aw β ce x.1 x.2⟩:OV)).map (·.1))=aq aw β ce:=by
              rw [List.map_map];exact List.attach_map_subtype_val _
            have Bi:∀j x,aG (aZ (aV c (.own uB t')) l) j=some x->aG fo j=some x:=λj x hj=>Kk j x (by
              simp only [aZ,zy]
              have:=(C6 l _ hj).1
              simp only [aV]at this;rw [if_neg (by omega)];exact hj)
            let eE:Nat->Nat:=λj=>if j=c.nk then β k0 else if j=c.nk+1 then β (k0+1)else if j=c.nk+2 then β (k0+2)else if j=c.nk+3 then β (k0+3)else pH j;obtain⟨af,ak,q1,q2,q3,q4,q5,q6,q7,q8,q9⟩:=ED fo oy aw β l (aV c (.own uB t')) eE r Bi hL h2;have nC:=sP c U ((aq aw β ce).attach.map λx=>⟨x.1,uZ aw β ce x.1 x.2⟩);have r0:ak c.nk=β k0:=by rw [q3 _ (by simp [aV])];exact if_pos rfl
            have r1:ak (c.nk+1)=β (k0+1):=by
              rw [q3 _ (by simp [aV])];show (if c.nk+1=c.nk then _ else if c.nk+1=c.nk+1 then _ else _)=_;rw [if_neg (by omega),if_pos rfl]
            have r2:ak (c.nk+2)=β (k0+2):=by
              rw [q3 _ (by simp [aV])];show (if c.nk+2=c.nk then _ else if c.nk+2=c.nk+1 then _ else if c.nk+2=c.nk+2 then _ else _)=_;rw [if_neg (by omega),if_neg (by omega),if_pos rfl]
            have r3:ak (c.nk+3)=β (k0+3):=by
              rw [q3 _ (by simp [aV])];show (if c.nk+3=c.nk then _ else if c.nk+3=c.nk+1 then _ else if c.nk+3=c.nk+2 then _ else if c.nk+3=c.nk+3 then _ else _)=_;rw [if_neg (by omega),if_neg (by omega),if_neg (by omega),if_pos rfl]
            have qv:af.l c.nl=((aq aw β ce).attach.map λx=>(⟨x.1,uZ aw β ce x.1 x.2⟩:OV)):=by
              rw [q2.l c.nl (by simp [aV])];exact if_pos rfl
            have qo:∀uu,aq af uu [.var c.nl]=aq aw β ce:=λuu=>by
              simp only [aq,Sg.den,List.append_nil,qv];exact nE
            refine⟨af,ak,q1,Env.ah (zr c (.own uB t')) nC q2,λj hj => ?_, ?_, ?_, ?_,λp hp => ?_,λj hj => ?_, ?_⟩
            · rw [q3 j (by simp only [aV];omega)];show (if j=c.nk then _ else if j=c.nk+1 then _ else if j=c.nk+2 then _ else if j=c.nk+3 then _ else pH j)=pH j;rw [if_neg (by omega),if_neg (by omega),if_neg (by omega),if_neg (by omega)]
            · simp only [au,bo,List.map_cons,q4,At.den,r0,r1,r2,r3]
            · simp only [au,bo,List.map_cons,q5,vl,hf,hg];rw [qo b0,AV aw β b0 kT]
            · simp only [au,bo,aJ,List.length_cons,q6]
            · simp only [au,bo,aJ,List.zip_cons_cons,List.mem_cons]at hp;rcases hp with rfl|hp
              · exact⟨⟨r0,r1,r2,r3⟩,c.nl,ce,uB,t',hf,hg,qo ak⟩
              · exact q7 p hp
            · simp only [au,bo,aJ,List.mem_cons]at hj;rcases hj with rfl|hj
              · exact Nat.le_refl _
              · have:=q8 j hj
                simp only [aV]at this;omega
            · simp only [au,bo,aJ,List.nodup_cons];refine⟨λhm => ?_,q9⟩
              have:=q8 _ hm
              simp only [aV]at this;omega
          · cases h1
        · cases h1
theorem EE{i:Nat}:∀(a_:List Nat) (vs:List CV) (l:List At) (t:List (Nat × SV)),i ∉ a_->av (cO t a_ vs l) i=av t i
  | [],vs,l,t,_=>by cases vs<;>rfl
  |s::r,[],l,t,_=>rfl
  |s::r,v::vs,l,t,h=>by
    simp only [List.mem_cons,not_or]at h;simp only [cO];rw [EE r vs _ _ h.2,zl,if_neg (λe=>h.1 e.symm)]
theorem He(t:List (Nat × SV))(i:Nat):∀kill:List Nat,av (ei t kill) i=.any∨av (ei t kill) i=av t i
  | []=>.inr rfl
  |s::r=>by
    simp only [ei,zl];by_cases h:s=i
    · rw [if_pos h];exact .inl rfl
    · rw [if_neg h];exact He t i r
theorem Rf{tS:List (Nat × SV)}{af aw:Env}{ak β:Nat->Nat}{i:Nat}:∀ (a_:List Nat) (vs jx:List CV) (l:List At) (t:List (Nat × SV)) (rest:List At),gR tS a_=some jx->jx.map CV.shape=vs.map CV.shape ->
    l.map (At.den af ak)=(jx.flatMap CV.cells++rest).map (At.den aw β)->i∈a_->∃u v',av (cO t a_ vs l) i=.cv u/\av tS i=.cv v'/\u.den af ak=v'.den aw β
  | [],_,_,_,_,_,_,_,_,h=>by cases h
  |s::r,vs,jx,l,t,rest,hr,hs,hl,hi=>by
    simp only [gR]at hr;split at hr
    · rename_i v' vr h1 h2;simp only [Option.some.injEq]at hr;subst hr;cases vs with
      |nil=>simp at hs
      |cons v vs =>
        simp only [List.map_cons,List.cons.injEq]at hs;simp only [cO]
        have hlen:v'.cells.length=v.cells.length:=by
          have h3:=hs.1;cases v<;>cases v'<;>simp_all [CV.shape,CV.cells]
        have fX:(l.drop v.cells.length).map (At.den af ak)=(vr.flatMap CV.cells++rest).map (At.den aw β):=by
          rw [List.map_drop,hl,<-List.map_drop];congr 1;simp only [List.flatMap_cons,List.append_assoc];rw [<-hlen,List.drop_left]
        by_cases qw:i∈r
        · exact Rf r vs vr _ _ rest h2 hs.2 fX qw
        · have:i=s:=by simpa [qw]using hi
          subst this;refine⟨mC v l,v', ?_,h1, ?_⟩
          · rw [EE r vs _ _ qw,zl,if_pos rfl]
          · have pJ:(l.take v.cells.length).map (At.den af ak)=v'.cells.map (At.den aw β):=by
              rw [List.map_take,hl,<-List.map_take];congr 1;simp only [List.flatMap_cons,List.append_assoc];rw [<-hlen,List.take_left]
            have h3:=hs.1;cases v with
            |one a=>cases v' with
              |agg x=>simp [CV.shape]at h3
              |one a' =>
                simp only [CV.cells,List.length_cons,List.length_nil,List.map_cons,List.map_nil]at pJ;cases l with
                |nil=>simp at pJ
                |cons b l=>simpa [mC,CV.den]using pJ
            |agg x=>cases v' with
              |one a=>simp [CV.shape]at h3
              |agg y =>
                simp only [CV.cells]at pJ;simp only [mC,CV.den,pJ]
    · cases hr
theorem xx:∀ (free:List (Nat × Nat)) (m:Mem) (l:List At) {k:Nat} {kX:List At} {t:TypeId},getM (bK m free l) k=some (kX,t) ->
    ∃oS,getM m k=some (oS,t)/\oS.length=kX.length/\∀o,(k,o) ∉ free->oS[o]? = kX[o]?
  | [],m,l,k,kX,t,h=>⟨kX,by cases l<;>exact h,rfl,λ_ _=>rfl⟩
  | (j,p)::r,m,[],k,kX,t,h=>⟨kX,h,rfl,λ_ _=>rfl⟩
  | (j,p)::r,m,a::l,k,kX,t,h=>by
    simp only [bK]at h;split at h
    · rename_i cs ty hg;obtain⟨oS,h1,h2,h3⟩:=xx r _ l h;rw [tT]at h1;by_cases hj:j=k
      · subst hj;rw [if_pos rfl,hg]at h1;simp only [Option.map_some,Option.some.injEq,Prod.mk.injEq]at h1;obtain⟨rfl,rfl⟩:=h1;refine⟨cs,hg,by simpa using h2,λo ho => ?_⟩;simp only [List.mem_cons,Prod.mk.injEq,not_or]at ho;rw [<-h3 o ho.2,List.getElem?_set_ne (λe=>ho.1 (by simp [e]))]
      · rw [if_neg hj]at h1;exact⟨oS,h1,h2,λo ho=>h3 o (λhm=>ho (List.mem_cons_of_mem _ hm))⟩
    · obtain⟨oS,h1,h2,h3⟩:=xx r _ l h;exact⟨oS,h1,h2,λo ho=>h3 o (λhm=>ho (List.mem_cons_of_mem _ hm))⟩
theorem Hf:∀(free:List (Nat × Nat)) (m:Mem) (l:List At) {k:Nat} {x:List At × TypeId},getM m k=some x->∃y,getM (bK m free l) k=some y
  | [],m,l,k,x,h=>⟨x,by cases l<;>exact h⟩
  | (j,p)::r,m,[],k,x,h=>⟨x,h⟩
  | (j,p)::r,m,a::l,k,x,h=>by
    simp only [bK];split
    · rename_i cs ty hg;by_cases hj:j=k
      · subst hj;exact Hf r _ l (x:=(cs.set p a,ty)) (by rw [tT,if_pos rfl,hg];rfl)
      · exact Hf r _ l (x:=x) (by rw [tT,if_neg hj];exact h)
    · exact Hf r _ l h
theorem Hg{sM:Mem}{sO:ba}{af aw:Env}{ak β:Nat->Nat}:∀ (free:List (Nat × Nat)) (m:Mem) (l ms:List At) {k o:Nat} {kX:List At} {t:TypeId},jv sM sO free=some ms->(∀ k x,getM m k=some x->getM sM k≠none)->l.map (At.den af ak)=ms.map (At.den aw β) ->
    getM (bK m free l) k=some (kX,t)->(k,o)∈free->o<kX.length->∃f cs y ty,kX[o]? = some f/\getM sM k=some (cs,ty)/\cs[o]? = some y/\f.den af ak=y.den aw β
  | [],_,_,_,_,_,_,_,_,_,_,_,h,_=>by cases h
  | (j,p)::r,m,l,ms,k,o,kX,t,hr,qW,hl,hw,hi,ho=>by
    simp only [jv]at hr;split at hr
    · rename_i cs ty ml hg C7;split at hr
      · rename_i y hy;simp only [Option.some.injEq]at hr;subst hr;cases l with
        |nil=>simp at hl
        |cons a l =>
          simp only [List.map_cons,List.cons.injEq]at hl;simp only [bK]at hw;by_cases qw:(k,o)∈r
          · split at hw
            · exact Hg r _ l ml C7 (fun k' x' zJ=>by
                rw [tT]at zJ;split at zJ
                · rename_i he;subst he;rw [hg];simp
                · exact qW _ _ zJ) hl.2 hw qw ho
            · exact Hg r _ l ml C7 qW hl.2 hw qw ho
          · have hh:k=j/\o=p:=by simpa [qw]using hi
            obtain⟨rfl,rfl⟩:=hh;split at hw
            · rename_i iK DP ep;obtain⟨oS,h1,h2,h3⟩:=xx r _ l hw;rw [tT,if_pos rfl,ep]at h1;simp only [Option.map_some,Option.some.injEq,Prod.mk.injEq]at h1;obtain⟨rfl,rfl⟩:=h1;refine⟨a,cs,y,ty, ?_,hg,hy,hl.1⟩;rw [<-h3 o qw]
              have:o<iK.length:=by simpa using (h2▸ho:o<(iK.set o a).length)
              rw [List.getElem?_set_self this]
            · rename_i ep;obtain⟨oS,h1,_,_⟩:=xx r _ l hw;rw [ep]at h1;cases h1
      · cases hr
    · rename_i ml hg C7;split at hr;rotate_left
      · cases hr
      simp only [Option.some.injEq]at hr;subst hr;cases l with
      |nil=>simp at hl
      |cons a l =>
        simp only [List.map_cons,List.cons.injEq]at hl;simp only [bK]at hw
        have sS:getM m j=none:=by
          cases hq:getM m j with
          |none=>rfl
          |some x=>exact absurd hg (qW j x hq)
        rw [sS]at hw;simp only at hw;obtain⟨oS,h1,_,_⟩:=xx r _ l hw
        have qw:(k,o)∈r:=by
          rcases List.mem_cons.1 hi with he|he
          · cases he;rw [sS]at h1;cases h1
          · exact he
        exact Hg r _ l ml C7 qW hl.2 hw qw ho
    · cases hr
theorem Rh{k:Nat}{free:List (Nat × Nat)}:∀(x y:List At) (o:Nat),fN k free o x y=true->y.length=x.length/\∀j,(k,o+j) ∉ free->y[j]? = x[j]?
  | [],[],o,_=>⟨rfl,λ_ _=>rfl⟩
  | [],_::_,o,h=>by simp [fN]at h
  |_::_,[],o,h=>by simp [fN]at h
  |a::x,b::y,o,h=>by
    simp only [fN,Bool.and_eq_true,Bool.or_eq_true,List.contains_iff_mem,decide_eq_true_eq]at h;obtain⟨h1,h2⟩:=Rh x y (o+1) h.2;refine⟨by simp [h1],λj hj => ?_⟩;cases j with
    |zero =>
      rcases h.1 with h3|h3
      · exact (hj h3).elim
      · simp [h3]
    |succ j =>
      have:=h2 j (by rw [show o+1+j=o+(j+1) by omega];exact hj)
      simpa using this
theorem Ri:∀{t:List (Nat × SV)} {i:Nat},av t i ≠ .any->∃v,(i,v)∈t
  | [],_,h=>(h rfl).elim
  | (j,v)::r,i,h=>by
    rw [zl]at h;by_cases hj:j=i
    · exact⟨v,by simp [hj]⟩
    · rw [if_neg hj]at h;obtain⟨u,hu⟩:=Ri h;exact⟨u,List.mem_cons_of_mem _ hu⟩
theorem Rj:∀{m:Mem} {k:Nat} {x:List At × TypeId},getM m k=some x->(k,x)∈m
  | [],_,_,h=>by cases h
  | (j,v)::r,k,x,h=>by
    rw [CT]at h;by_cases hj:j=k
    · rw [if_pos hj]at h;cases h;simp [hj]
    · rw [if_neg hj]at h;exact List.mem_cons_of_mem _ (Rj h)
theorem Hh:∀{m:ba} {k:Nat} {x:CE × Nat × TypeId},aG m k=some x->(k,x)∈m
  | [],_,_,h=>by cases h
  | (j,v)::r,k,x,h=>by
    rw [zy]at h;by_cases hj:j=k
    · rw [if_pos hj]at h;cases h;simp [hj]
    · rw [if_neg hj]at h;exact List.mem_cons_of_mem _ (Hh h)
theorem C8:∀(x y:ba) (k:Nat),aG (x++y) k=match aG x k with|some v=>some v|none=>aG y k
  | [],y,k=>rfl
  | (j,v)::r,y,k=>by
    simp only [List.cons_append,zy];by_cases hj:j=k
    · simp only [if_pos hj]
    · simp only [if_neg hj];exact C8 r y k
theorem Vz{a b:St}{a_:List Nat}{free:List (Nat × Nat)}{own:List Nat}(h:oM a b a_ free own=true) :
  (b.n=a.n/\b.r=a.r/\b.d=a.d/\b.df=a.df)/\(∀i,i ∉ a_->av a.t i=.any∨av b.t i=av a.t i) /\
  (∀k kX t,getM a.m k=some (kX,t)->∃cs,getM b.m k=some (cs,t)/\cs.length=kX.length/\∀o,(k,o) ∉ free->cs[o]? = kX[o]?) /\
  ∀k x,aG a.o k=some x->k ∉ own->aG b.o k=some x:=by
 simp only [oM,Bool.and_eq_true,decide_eq_true_eq,List.all_eq_true,Bool.or_eq_true,List.contains_iff_mem]at h;obtain⟨⟨⟨h0,h3⟩,h1⟩,h2⟩:=h;refine⟨h0,λi hi => ?_,λk kX t hg => ?_,λk x hg hk => ?_⟩
 ·by_cases ha:av a.t i=.any
  ·exact .inl ha
  ·obtain⟨v,hv⟩:=Ri ha;rcases h1 _ hv with (h3|h3)|h3
   ·exact (hi h3).elim
   ·exact .inl h3
   ·exact .inr h3
 ·have:=h2 _ (Rj hg)
  simp only at this;split at this
  ·rename_i cs t' hb;simp only [Bool.and_eq_true,decide_eq_true_eq]at this;obtain⟨rfl,h3⟩:=this;obtain⟨q1,q2⟩:=Rh _ _ 0 h3;exact⟨cs,hb,q1,λo ho=>q2 o (by simpa using ho)⟩
  ·cases this
 ·rcases h3 _ (Hh hg)with h4|h4
  ·exact (hk h4).elim
  ·rw [h4];exact hg
theorem Rk{st:St}(h:st.WF):∀(a_:List Nat) {vs:List CV},gR st.t a_=some vs->vs.all (CV.wf st.c)=true
  | [],vs,hr=>by simp only [gR,Option.some.injEq]at hr;subst hr;rfl
  |s::r,vs,hr=>by
    simp only [gR]at hr;split at hr
    · rename_i v l h1 h2;simp only [Option.some.injEq]at hr;subst hr
      have:=h.t s
      rw [h1]at this;simp only [List.all_cons,Rk h r h2,Bool.and_true];exact this
    · cases hr
theorem Rl{c:ar}:∀(a_:List Nat) (vs:List CV) (l:List At) (t:List (Nat × SV)),(∀i,(av t i).wf c=true)->vs.all (CV.wf c)=true->l.all (At.wf c)=true->∀i,(av (cO t a_ vs l) i).wf c=true
  | [],vs,l,t,h,_,_=>by cases vs<;>exact h
  |s::r,[],l,t,h,_,_=>h
  |s::r,v::vs,l,t,h,hv,hl=>by
    simp only [List.all_cons,Bool.and_eq_true]at hv;simp only [cO];refine Rl r vs _ _ (λi => ?_) hv.2 (zu hl _).2;rw [zl];by_cases hi:s=i
    · rw [if_pos hi];cases v with
      |one a =>
        simp only [mC,SV.wf,CV.wf];cases l with
        |nil=>exact hv.1
        |cons b l=>simp only [List.all_cons,Bool.and_eq_true]at hl;exact hl.1
      |agg x=>exact (zu hl _).1
    · rw [if_neg hi];exact h i
theorem Kl{c:ar}:∀ (free:List (Nat × Nat)) (m:Mem) (l:List At),(∀ k cs t,getM m k=some (cs,t)->k < c.nk/\cs.all (At.wf c)=true)->l.all (At.wf c)=true ->
    ∀k cs t,getM (bK m free l) k=some (cs,t)->k<c.nk/\cs.all (At.wf c)=true
  | [],m,l,h,_=>by cases l<;>exact h
  | (j,p)::r,m,[],h,_=>h
  | (j,p)::r,m,a::l,h,hl=>by
    simp only [List.all_cons,Bool.and_eq_true]at hl;simp only [bK];split
    · rename_i cs ty hg;refine Kl r _ l (λk iK t hk => ?_) hl.2;rw [tT]at hk;by_cases hj:j=k
      · subst hj;rw [if_pos rfl,hg]at hk;simp only [Option.map_some,Option.some.injEq,Prod.mk.injEq]at hk;obtain⟨rfl,rfl⟩:=hk;have h1:=h j cs ty hg;refine⟨h1.1,List.all_eq_true.2 λx hx => ?_⟩;rcases List.mem_or_eq_of_mem_set hx with hx|rfl
        · exact List.all_eq_true.1 h1.2 x hx
        · exact hl.1
      · rw [if_neg hj]at hk;exact h k iK t hk
    · exact Kl r m l h hl.2
theorem Km{α β:Type}:∀(x:List α) (y:List β),x.length=y.length->∀a∈x,∃b,(a,b)∈x.zip y
  | [],_,_,a,h=>by cases h
  |a0::x,[],h,_,_=>by simp at h
  |a0::x,b0::y,h,a,ha=>by
    rcases List.mem_cons.1 ha with rfl|ha
    · exact⟨b0,by simp⟩
    · obtain⟨b,hb⟩:=Km x y (by simpa using h) a ha;exact⟨b,by simp [hb]⟩
theorem Rm{α β:Type}:∀(x:List α) (y:List β),y.Nodup->∀{a a':α} {b:β},(a,b)∈x.zip y->(a',b)∈x.zip y->a=a'
  | [],_,_,_,_,_,h,_=>by simp at h
  |_::_,[],_,_,_,_,h,_=>by simp at h
  |a0::x,b0::y,hn,a,a',b,h,h'=>by
    simp only [List.nodup_cons]at hn;simp only [List.zip_cons_cons,List.mem_cons,Prod.mk.injEq]at h h';rcases h with ⟨rfl,rfl⟩|h
    · rcases h' with ⟨rfl,_⟩|h'
      · rfl
      · exact (hn.1 (List.of_mem_zip h').2).elim
    · rcases h' with ⟨rfl,rfl⟩|h'
      · exact (hn.1 (List.of_mem_zip h).2).elim
      · exact Rm x y hn.2 h h'
theorem Hi(kf k:Nat)(i:Nat):∀t:List (Nat × SV),av (ql kf k t) i=rI kf k (av t i)
  | []=>rfl
  | (j,v)::r=>by
    simp only [ql,zl,Hi kf k i r];split<;>rfl
theorem yc{kf k:Nat}(cW:kf≠k)(i:Nat):∀o:ba,aG o k=none->aG (oL kf k o) i=if i=k then aG o kf else if i=kf then none else aG o i
  | [],_=>by simp [oL,aG]
  | (j,v)::r,h=>by
    rw [zy]at h;split at h
    · cases h
    · rename_i hj;simp only [oL,zy,yc cW i r h];generalize aG r i=a;generalize aG r kf=b;by_cases h1:j=kf
      · simp only [h1,if_true];by_cases h2:i=k
        · rw [if_pos h2.symm,if_pos h2]
        · rw [if_neg (λe=>h2 e.symm),if_neg h2,if_neg h2];by_cases h3:i=kf
          · rw [if_pos h3,if_pos h3]
          · rw [if_neg h3,if_neg h3,if_neg (λe=>h3 e.symm)]
      · simp only [h1,if_false];by_cases h4:j=i
        · rw [if_pos h4,if_neg (λe=>hj (h4.trans e)),if_neg (λe=>h1 (h4.trans e)),if_pos h4]
        · rw [if_neg h4,if_neg h4]
theorem Ko{kf k:Nat}{U:Env}{β:Nat->Nat}(hb:β kf=β k/\β (kf+1)=β (k+1)/\β (kf+2)=β (k+2)/\β (kf+3)=β (k+3)):∀v:SV,(rI kf k v).den U β=v.den U β:=by
 intro v;unfold rI;split
 ·rename_i j;split
  ·rename_i h;subst h;simp only [SV.den,CV.den,At.den,hb.1,hb.2.1,hb.2.2.1,hb.2.2.2]
  ·rfl
 ·rfl
theorem Kp{kf k:Nat}{v:SV}(h:rI kf k v ≠ .any):v ≠ .any:=by
 intro e;subst e;exact h rfl
theorem Kq{U:Env}{β:Nat->Nat}{st:St}{a:Act}{w:World}{kf k:Nat}(hC:Core W R Z U β st a w)(cW:kf≠k)(hb:β kf=β k/\β (kf + 1)=β (k + 1)/\β (kf + 2)=β (k + 2)/\β (kf + 3)=β (k + 3))
    (hm:getM st.m k=none) (ho:aG st.o k=none) (hk:k+3<st.c.nk):Core W R Z U β {st with t:=ql kf k st.t,o:=oL kf k st.o} a w:=by
  have obj:∀{j e},aE st.m (oL kf k st.o) j=some e->∃j',aE st.m st.o j'=some e/\((j=k/\j'=kf)∨(j≠k/\j≠kf/\j'=j)∨(j'=j/\∃x,getM st.m j=some x))/\(Holds W U β j' e w->Holds W U β j e w)/\bD β j e=bD β j' e:=by
    intro j e hg;unfold aE at hg;cases Hj:getM st.m j with
    |some x =>
      rw [Hj]at hg;exact⟨j,by unfold aE;rw [Hj];exact hg,.inr (.inr ⟨rfl,x,rfl⟩),λh=>h,rfl⟩
    |none =>
      rw [Hj]at hg;simp only [yc cW j st.o ho]at hg;by_cases h1:j=k
      · subst h1;rw [if_pos rfl]at hg;cases hx:aG st.o kf with
        |none=>rw [hx]at hg;cases hg
        |some x =>
          rw [hx]at hg;simp only [Option.some.injEq]at hg;subst hg;refine⟨kf,kt (hC.wf.ap kf x hx) hx,.inl ⟨rfl,rfl⟩,λh => ?_,by simp only [bD,hb.1,hb.2.1]⟩;simp only [Holds]at h ⊢;rw [<-hb.1,<-hb.2.1,<-hb.2.2.1,<-hb.2.2.2];exact h
      · rw [if_neg h1]at hg;by_cases h2:j=kf
        · rw [if_pos h2]at hg;cases hg
        · rw [if_neg h2]at hg;cases hx:aG st.o j with
          |none=>rw [hx]at hg;cases hg
          |some x =>
            rw [hx]at hg;simp only [Option.some.injEq]at hg;subst hg;exact⟨j,kt Hj hx,.inr (.inl ⟨h1,h2,rfl⟩),λh=>h,rfl⟩
  have Rn:∀{x},getM st.m kf=some x->aG st.o kf=none:=λ{x} h=>by
    cases hx:aG st.o kf with
    |none=>rfl
    |some y=>have:=hC.wf.ap kf y hx;rw [this]at h;cases h
  refine⟨hC.size,λi hn => ?_,hC.jF,hC.below,λj e hg => ?_,λj j' e e' b hx hy ky lh => ?_,hC.ft,hC.jz,hC.gd,hC.dn,⟨λi => ?_,hC.wf.m,λj ce sz t hg => ?_,λj x hg => ?_,hC.wf.r,hC.wf.d,hC.wf.k,hC.wf.df⟩,hC.kn⟩
  · simp only [Hi]at hn ⊢;rw [hC.tmps i (Kp hn),Ko hb]
  · obtain⟨j',h1,_,h3,_⟩:=obj hg;exact h3 (hC.mem j' e h1)
  · obtain⟨i,h1,h2,_,h4⟩:=obj hx;obtain⟨i',g1,g2,_,g4⟩:=obj hy;rw [h4]at ky;rw [g4]at lh
    have:=hC.inj i i' e e' b h1 g1 ky lh
    subst this;rcases h2 with ⟨a1,a2⟩|⟨a1,a2,a3⟩|⟨a1,x,a2⟩<;>rcases g2 with ⟨b1,b2⟩|⟨b1,b2,b3⟩|⟨b1,y,G7⟩
    · exact a1.trans b1.symm
    · exact (b2 (b3.symm.trans a2)).elim
    · exfalso;have e1:j'=kf:=b1.symm.trans a2;subst e1;unfold aE at hx;subst a1;rw [hm]at hx;simp only [yc cW j st.o ho,if_true]at hx;rw [Rn G7]at hx;cases hx
    · exact (a2 (a3.symm.trans b2)).elim
    · exact a3.symm.trans b3
    · exact a3.symm.trans b1
    · exfalso;have e1:j=kf:=a1.symm.trans b2;subst e1;unfold aE at hy;subst b1;rw [hm]at hy;simp only [yc cW j' st.o ho,if_true]at hy;rw [Rn a2]at hy;cases hy
    · exact a1.symm.trans b3
    · exact a1.symm.trans b1
  · simp only [Hi];have h1:=hC.wf.t i;unfold rI;split
    · rename_i j hj;split
      · show (decide (k+3<st.c.nk))=true;simpa using hk
      · rw [hj]at h1;exact h1
    · exact h1
  · simp only [yc cW j st.o ho]at hg;split at hg
    · rename_i h1;subst h1;exact⟨hk,(hC.wf.o kf ce sz t hg).2⟩
    · split at hg
      · cases hg
      · exact hC.wf.o j ce sz t hg
  · simp only [yc cW j st.o ho]at hg;split at hg
    · rename_i h1;subst h1;exact hm
    · split at hg
      · cases hg
      · exact hC.wf.ap j x hg
theorem Ro:∀(ib:List (Nat × Nat)) (st:St),(iH ib st).m=st.m/\(iH ib st).c=st.c/\(iH ib st).n=st.n/\(iH ib st).r=st.r/\(iH ib st).d=st.d/\(iH ib st).k=st.k/\(iH ib st).df=st.df
 | [],st=>⟨rfl,rfl,rfl,rfl,rfl,rfl,rfl⟩
 | (kf,k)::r,st=>Ro r _
theorem Rp{U:Env}{β:Nat->Nat}{a:Act}{w:World}:∀ (ib:List (Nat × Nat)) {st:St},Core W R Z U β st a w ->
    (∀p∈ib,p.1≠p.2/\(β p.1=β p.2/\β (p.1+1)=β (p.2+1)/\β (p.1+2)=β (p.2+2)/\β (p.1+3)=β (p.2+3))/\getM st.m p.2=none/\aG st.o p.2=none/\p.2+3<st.c.nk)->(ib.map (·.2)).Nodup->Core W R Z U β (iH ib st) a w
  | [],st,hC,_,_=>hC
  | (kf,k)::r,st,hC,h,hn=>by
    obtain⟨h1,h2,h3,h4,h5⟩:=h (kf,k) (List.mem_cons_self ..);simp only [List.map_cons,List.nodup_cons]at hn;refine Rp r (Kq hC h1 h2 h3 h4 h5) (λp hp => ?_) hn.2;obtain⟨g1,g2,g3,g4,g5⟩:=h p (List.mem_cons_of_mem _ hp);refine⟨g1,g2,g3, ?_,g5⟩;simp only [yc h1 p.2 st.o h4];rw [if_neg λe=>hn.1 (List.mem_map.2 ⟨p,hp,e⟩)];split
    · rfl
    · exact g4
theorem Rq{i:Nat}:∀(ib:List (Nat × Nat)) (st:St),(∀p∈ib,av st.t i ≠ .cv (.one (.own p.1)))->av (iH ib st).t i=av st.t i
  | [],st,_=>rfl
  | (kf,k)::r,st,h=>by
    have e:av (ql kf k st.t) i=av st.t i:=by
      rw [Hi];have h1:=h (kf,k) (List.mem_cons_self ..);unfold rI;split
      · rename_i j hj;rw [hj]at h1;rw [if_neg (λe=>h1 (by rw [e]))];exact hj.symm
      · rfl
    show av (iH r _).t i=_;rw [Rq r _ (λp hp=>by rw [show av ({st with t:=ql kf k st.t,o:=oL kf k st.o}:St).t i=av (ql kf k st.t) i from rfl,e];exact h p (List.mem_cons_of_mem _ hp))];exact e
theorem Rr{j:Nat}:∀(ib:List (Nat × Nat)) (st:St),(∀p∈ib,p.1≠p.2/\aG st.o p.2=none/\j≠p.1/\j≠p.2)->(ib.map (·.2)).Nodup->aG (iH ib st).o j=aG st.o j
  | [],st,_,_=>rfl
  | (kf,k)::r,st,h,hn=>by
    obtain⟨h1,h2,h3,h4⟩:=h (kf,k) (List.mem_cons_self ..);simp only [List.map_cons,List.nodup_cons]at hn;have e:∀i,i≠k->i≠kf->aG (oL kf k st.o) i=aG st.o i:=λi a b=>by rw [yc h1 i st.o h2,if_neg a,if_neg b]
    show aG (iH r _).o j=_;rw [Rr r _ (λp hp => ?_) hn.2]
    · exact e j h4 h3
    · obtain⟨g1,g2,g3,g4⟩:=h p (List.mem_cons_of_mem _ hp);refine⟨g1, ?_,g3,g4⟩;simp only [yc h1 p.2 st.o h2];rw [if_neg λe=>hn.1 (List.mem_map.2 ⟨p,hp,e⟩)];split
      · rfl
      · exact g2
theorem Rs{st s:St}{U aw af:Env}{β ak:Nat->Nat}{a:Act}{w:World}{a_ kill:List Nat}{free:List (Nat × Nat)}{vs jx:List CV}{lJ:List At}{ks:List CK}{rR:List Nat}(ic:st.WF)(t_:bV.den st.k U)(hC:Core W R Z aw β s a w)(fX:Env.ay st.c U aw)(rK:Env.ay st.c U af)
    (Kr:∀j,j<st.c.nk->ak j=β j)
    (EF:gR st.t a_=some vs) (hr:gR s.t a_=some jx) (fM:jx.map CV.shape=vs.map CV.shape) (VA:jv s.m s.o free=some lJ)
    (lK:(au st.c ks).map (At.den af ak)=(jx.flatMap CV.cells++lJ).map (At.den aw β)) (hn:s.n=st.n/\s.r=st.r/\s.d=st.d/\s.df=st.df)
    (hs:∀i,i ∉ a_->av (cO (ei st.t kill) a_ vs (au st.c ks)) i=.any∨av s.t i=av (cO (ei st.t kill) a_ vs (au st.c ks)) i)
    (hm:∀k kX t,getM (bK st.m free ((au st.c ks).drop (vs.flatMap CV.cells).length)) k=some (kX,t)->∃cs,getM s.m k=some (cs,t)/\cs.length=kX.length/\∀o,(k,o) ∉ free->cs[o]? = kX[o]?)
    (hlen:(aJ (au st.c ks)).length=(aJ (jx.flatMap CV.cells++lJ)).length)
    (vU:∀p∈(aJ (au st.c ks)).zip (aJ (jx.flatMap CV.cells++lJ)),vT (aZ st.c ks) s.o af aw ak β p.1 p.2) (xw:(aJ (jx.flatMap CV.cells++lJ)).Nodup)
    (Ks:∀k x,aG (bL st.o rR) k=some x->aG s.o k=some x) (EG:∀k∈aJ (jx.flatMap CV.cells++lJ),aG (bL st.o rR) k=none) :
    Core W R Z af ak {t:=cO (ei st.t kill) a_ vs (au st.c ks),n:=st.n,m:=bK st.m free ((au st.c ks).drop (vs.flatMap CV.cells).length),c:=aP st.c ks,o:=aZ st.c ks++bL st.o rR,r:=st.r,d:=st.d,k:=st.k,df:=st.df} a w:=by
  have hle:=xk ks st.c
  have vE:∀i,(av (ei st.t kill) i).wf st.c=true:=λi=>by
    rcases He st.t i kill with h|h<;>rw [h]
    · rfl
    · exact ic.t i
  have gZ:∀j,j<st.c.nk->ak j=β j:=Kr;have Kt:∀{x:SV},x.wf st.c=true->x.den af ak=x.den aw β:=λhx=>(SV.aa rK gZ hx).trans (SV.aa fX (λ_ _=>rfl) hx).symm;have Ku:∀{x:At},x.wf st.c=true->x.den af ak=x.den aw β:=λhx=>(At.aa rK gZ hx).trans (At.aa fX (λ_ _=>rfl) hx).symm
  have s_:(jx.flatMap CV.cells).length=(vs.flatMap CV.cells).length:=by
    have:∀(x y:List CV),x.map CV.shape=y.map CV.shape->(x.flatMap CV.cells).length=(y.flatMap CV.cells).length:=by
      intro x
      induction x with
      |nil=>intro y h;cases y with
        |nil=>rfl
        |cons b y=>simp at h
      |cons c x ih=>intro y h;cases y with
        |nil=>simp at h
        |cons b y =>
          simp only [List.map_cons,List.cons.injEq]at h;simp only [List.flatMap_cons,List.length_append,ih y h.2]
          have:c.cells.length=b.cells.length:=by
            have h3:=h.1;cases c<;>cases b<;>simp_all [CV.shape,CV.cells]
          rw [this]
    exact this _ _ fM
  have EH:((au st.c ks).drop (vs.flatMap CV.cells).length).map (At.den af ak)=lJ.map (At.den aw β):=by
    rw [List.map_drop,lK,<-List.map_drop,<-s_,List.drop_left]
  have rS:∀{k x},aG (bL st.o rR) k=some x->k+3<st.c.nk/\bW st.c x.1=true/\getM st.m k=none:=λ{k x} hg=>by
    rw [xu]at hg;split at hg
    · cases hg
    · exact⟨(ic.o k x.1 x.2.1 x.2.2 hg).1,(ic.o k x.1 x.2.1 x.2.2 hg).2,ic.ap k x hg⟩
  have VC:∀k cs t,getM (bK st.m free ((au st.c ks).drop (vs.flatMap CV.cells).length)) k=some (cs,t)->k<(aP st.c ks).nk/\cs.all (At.wf (aP st.c ks))=true:=by
    refine Kl free st.m _ (λk cs t hk => ?_) (zu (AS ks st.c) _).2
    have:=ic.m k cs t hk
    exact⟨Nat.lt_of_lt_of_le this.1 hle.k,AB hle this.2⟩
  have mlt:∀{k cs t},getM (bK st.m free ((au st.c ks).drop (vs.flatMap CV.cells).length)) k=some (cs,t)->k<st.c.nk:=λ{k cs t} hg=>by
    obtain⟨oS,h1,_,_⟩:=xx free st.m _ hg;exact (ic.m k oS t h1).1
  have vV:∀{k},getM st.m k=none->getM (bK st.m free ((au st.c ks).drop (vs.flatMap CV.cells).length)) k=none:=λ{k} hk=>by
    cases hg:getM (bK st.m free ((au st.c ks).drop (vs.flatMap CV.cells).length)) k with
    |none=>rfl
    |some x =>
      obtain⟨oS,h1,_,_⟩:=xx free st.m _ (show _=some (x.1,x.2) from hg);rw [hk]at h1;cases h1
  have Kv:∀{k},st.c.nk<=k->getM (bK st.m free ((au st.c ks).drop (vs.flatMap CV.cells).length)) k=none:=λ{k} hk=>by
    cases hg:getM (bK st.m free ((au st.c ks).drop (vs.flatMap CV.cells).length)) k with
    |none=>rfl
    |some x=>have:=mlt (show _=some (x.1,x.2) from hg);omega
  have obj:∀ k e,aE (bK st.m free ((au st.c ks).drop (vs.flatMap CV.cells).length)) (aZ st.c ks++bL st.o rR) k=some e ->
      ∃j e0,aE s.m s.o j=some e0/\Holds W af ak k e w/\bD ak k e=bD β j e0 /\
        ((j=k/\k<st.c.nk/\((∃cs t,getM s.m k=some (cs,t))∨∃x,aG (bL st.o rR) k=some x))∨(st.c.nk<=k/\(k,j)∈(aJ (au st.c ks)).zip (aJ (jx.flatMap CV.cells++lJ)))):=by
    intro k e hg;unfold aE at hg;cases sS:getM (bK st.m free ((au st.c ks).drop (vs.flatMap CV.cells).length)) k with
    |some x =>
      obtain⟨kX,t⟩:=x;rw [sS]at hg;simp only [Option.some.injEq]at hg;subst hg;obtain⟨cs,q1,q2,q3⟩:=hm k kX t sS;have hk:=mlt sS;obtain⟨m1,m2⟩:=hC.fix q1;refine⟨k,.fix cs t,n_ q1,⟨by rw [gZ k hk];exact m1, ?_⟩,by simp only [bD,gZ k hk],.inl ⟨rfl,hk,.inl ⟨cs,t,q1⟩⟩⟩;rw [gZ k hk,m2];congr 3;apply List.ext_getElem?;intro o;simp only [List.getElem?_map];by_cases ho:o<kX.length
      · by_cases hf:(k,o)∈free
        · obtain⟨f,iK,y,ty,r1,r2,r3,r4⟩:=Hg (af:=af) (aw:=aw) (ak:=ak) (β:=β) free st.m _ lJ VA (fun k x hx=>by
            obtain⟨y,hy⟩:=Hf free st.m ((au st.c ks).drop (vs.flatMap CV.cells).length) hx;obtain⟨cs,mJ,_⟩:=hm k y.1 y.2 hy;rw [mJ];simp) EH sS hf ho
          rw [q1]at r2;simp only [Option.some.injEq,Prod.mk.injEq]at r2;obtain⟨rfl,rfl⟩:=r2;rw [r1,r3,Option.map_some,Option.map_some,r4]
        · rw [q3 o hf];obtain⟨oS,p1,p2,p3⟩:=xx free st.m _ sS;cases hx:kX[o]? with
          |none=>rfl
          |some x =>
            have yd:oS[o]? = some x:=by rw [p3 o hf,hx]
            simp only [Option.map_some];exact congrArg some (Ku (List.all_eq_true.1 (ic.m k oS t p1).2 x (List.mem_of_getElem? yd))).symm
      · rw [List.getElem?_eq_none (by omega),List.getElem?_eq_none (by omega)];rfl
    |none =>
      rw [sS]at hg;simp only [C8]at hg;cases tZ:aG (aZ st.c ks) k with
      |some x =>
        rw [tZ]at hg;simp only [Option.some.injEq]at hg;obtain⟨h1,h2,h3,n0,h4,h5⟩:=C6 ks st.c tZ;obtain⟨j,hj⟩:=Km _ _ hlen k h3;obtain⟨⟨e0,e1,e2,e3⟩,n,ce,sz,t,p1,p2,p3⟩:=vU (k,j) hj;simp only at e0 e1 e2 e3 p1 p2;rw [tZ]at p1;simp only [Option.some.injEq]at p1;subst p1;subst hg;have hE:=kt (hC.wf.ap j _ p2) p2;have hH:=hC.mem j _ hE;refine⟨j,_,hE, ?_,by simp only [bD,e0,e1],.inr ⟨h1,hj⟩⟩;simp only [Holds]at hH ⊢;rw [e0,e1,e2,e3,p3];exact hH
      |none =>
        rw [tZ]at hg;simp only at hg;cases pQ:aG (bL st.o rR) k with
        |none=>rw [pQ]at hg;cases hg
        |some x =>
          rw [pQ]at hg;simp only [Option.some.injEq]at hg;subst hg;obtain⟨h1,h2,h3⟩:=rS pQ;have h4:=Ks k x pQ;have hE:=kt (hC.wf.ap k _ h4) h4;have hH:=hC.mem k _ hE;refine⟨k,_,hE, ?_, ?_,.inl ⟨rfl,by omega,.inr ⟨x,rfl⟩⟩⟩
          · simp only [Holds]at hH ⊢;rw [gZ k (by omega),gZ (k+1) (by omega),gZ (k+2) (by omega),gZ (k+3) (by omega),(uz rK gZ h2).trans (uz fX (β:=β) (λ_ _=>rfl) h2).symm];exact hH
          · simp only [bD,gZ k (by omega:k<st.c.nk),gZ (k+1) (by omega)]
  have vW:st.d.map ak=st.d.map β:=List.map_congr_left λk hk=>gZ k (ic.d k hk);refine⟨by rw [hC.size];exact hn.1,λi vF => ?_, ?_,hC.below,λk e hg => ?_,λk k' e e' b hx hy ky lh => ?_,λk e hg => ?_,λk k' e e' hx hy he => ?_, ?_, ?_,⟨?_,VC,λk ce sz t hg => ?_,λk x hg => ?_, ?_, ?_,bV.aL hle ic.k,λx hx y hy=>Nat.lt_of_lt_of_le (ic.df x hx y hy) hle.k⟩,bV.aa rK ic.k t_⟩
  · by_cases hi:i∈a_
    · obtain⟨u,v',h1,h2,h3⟩:=Rf (af:=af) (aw:=aw) (ak:=ak) (β:=β) a_ vs jx (au st.c ks) (ei st.t kill) lJ hr fM lK hi
      have:=hC.tmps i (by rw [h2];simp)
      rw [this];simp only;rw [h1,h2];exact congrArg some h3.symm
    · rcases hs i hi with h|h
      · exact (vF h).elim
      · have:=hC.tmps i (by rw [h];exact vF)
        rw [this,h];refine congrArg some (Kt ?_).symm;rw [EE _ _ _ _ hi];exact vE i
  · rw [hC.jF,hn.2.2.1,hn.2.2.2,G3 ic.df gZ];simp only [marksOf];exact congrArg _ (List.map_congr_left λk hk=>by rw [gZ k (ic.d k hk)])
  · obtain⟨j,e0,_,h2,_⟩:=obj k e hg;exact h2
  · obtain⟨j,e0,q1,q2,q3,q4⟩:=obj k e hx;obtain⟨j',VD,p1,p2,p3,p4⟩:=obj k' e' hy;rw [q3]at ky;rw [p3]at lh
    have hj:j=j':=hC.inj j j' e0 VD b q1 p1 ky lh
    subst hj;rcases q4 with ⟨r1,r2,r3⟩|⟨r1,r2⟩<;>rcases p4 with ⟨t1,t2,t3⟩|⟨t1,t2⟩
    · exact r1.symm.trans t1
    · exfalso;have fY:=(List.of_mem_zip t2).2;rcases r3 with ⟨cs,t,r3⟩|⟨x,r3⟩
      · obtain⟨_,n,ce,sz,t,u1,u2,u3⟩:=vU _ t2;simp only at u2
        have:=hC.wf.ap j _ u2
        rw [r1]at this;rw [this]at r3;cases r3
      · have:=EG j fY
        rw [r1,r3]at this;cases this
    · exfalso;have fY:=(List.of_mem_zip r2).2;rcases t3 with ⟨cs,t,t3⟩|⟨x,t3⟩
      · obtain⟨_,n,ce,sz,t,u1,u2,u3⟩:=vU _ r2;simp only at u2
        have:=hC.wf.ap j _ u2
        rw [t1]at this;rw [this]at t3;cases t3
      · have:=EG j fY
        rw [t1,t3]at this;cases this
    · exact Rm _ _ xw r2 t2
  · rw [gZ k (ic.r k e hg)];exact hC.ft k e (by rw [hn.2.1];exact hg)
  · rw [gZ k (ic.r k e hx),gZ k' (ic.r k' e' hy)]at he;exact hC.jz k k' e e' (by rw [hn.2.1];exact hx) (by rw [hn.2.1];exact hy) he
  · have:=hC.gd
    rw [hn.2.2.1]at this;rw [vW];exact this
  · have:=hC.dn
    rw [hn.2.2.1]at this;rw [vW];exact this
  · exact Rl a_ vs _ _ (λi=>SV.aL hle (vE i)) (List.all_eq_true.2 λx hx=>CV.aL hle (List.all_eq_true.1 (Rk ic a_ EF) x hx)) (AS ks st.c)
  · simp only [C8]at hg;cases tZ:aG (aZ st.c ks) k with
    |some x =>
      rw [tZ]at hg;simp only [Option.some.injEq]at hg;obtain⟨h1,h2,h3,n0,h4,h5⟩:=C6 ks st.c tZ;subst hg;simp only at h4;subst h4;exact⟨h2,by simp [bW,Sg.wf,h5]⟩
    |none =>
      rw [tZ]at hg;obtain⟨h1,h2,h3⟩:=rS hg;exact⟨Nat.lt_of_lt_of_le h1 hle.k,AE hle h2⟩
  · simp only [C8]at hg;cases tZ:aG (aZ st.c ks) k with
    |some y=>exact Kv (C6 ks st.c tZ).1
    |none =>
      rw [tZ]at hg;exact vV (rS hg).2.2
  · exact λk e hg=>Nat.lt_of_lt_of_le (ic.r k e hg) hle.k
  · exact λk hk=>Nat.lt_of_lt_of_le (ic.d k hk) hle.k
end Vc
