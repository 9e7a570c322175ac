import Derived.Test.YtdjgnbkclcjiiaaGreatDoorVcY
import Derived.CallsIn
import Derived.TacticsIn
import Derived.RecoverIn
import Derived.RangeFuncLeaves
import Derived.RangeFuncNested
set_option linter.unusedVariables false
set_option linter.unusedSimpArgs false
namespace Vc
open Go Go.RowKit
variable {P:Program} {W:Wld} {Q:Value→Prop} {QM QP:World→Value→Prop} {R:Nat→Loop} {Z:List Nat}
def Fr(r:Option Nat):Fence := {Fence.wide with round:=r}
theorem zvj(r:Option Nat)(f:FuncId):(Fr r).fn f:=trivial
theorem zsi{r:Option Nat}{n:Nat}:(Fr r).depth.isSome=true→1≤n:=fun h=>by cases h
theorem zhs{r:Option Nat}{n:Nat}{f:FuncId}{args:Array Value}{w:World}{T:Ending→World→Prop}:CallsIn (Fr r) n P f args w T↔Calls P f args w T:=callsIn_wide (n:=n)
theorem zada{r:Option Nat}{n:Nat}{row:String}{args:Array Value}{w:World}{T:Value→World→Prop}(h:Rows P row args w T):RowsIn (Fr r) n P row args w T:=by
 intro c cs _;obtain⟨v,w',h1,h2⟩:=h c cs;exact⟨v,w',h1,(StepsIn.of_steps h2).mono fun m _=>fenced_wide P m⟩
theorem zta{o:Oper}{a:Act}{w:World}{next:Act→World→Prop}{Q':Exit→Act→World→Prop}(r:Option Nat)(n:Nat)(hd:∀ c,o.op ≠ .defer c)(h:o.wp P a w next Q'):o.wpIn (Fr r) n P a w next Q':=by
  refine⟨fun f _=>zvj r f, ?_⟩;rw [Oper.semAt_eq _ _ _ hd];unfold Oper.wp at h;generalize (execOp a.eval o).run P w=x at h ⊢;cases x with
  | ok nx w' =>
    cases nx <;> simp only [Oper.upon]at h <;> first
      | exact h
      | exact⟨zsi,zhs.2 h⟩
      | exact⟨zsi,zada h⟩
      | exact h.elim
  | halt x w'=>cases x <;> simp only [Oper.upon]at h <;> first | exact h | exact h.elim
def Nxt(W:Wld)(R:Nat→Loop)(Z:List Nat)(st:St)(ρ:Env)(β:Nat→Nat)(K:St→Env→Prop)(next:Act→World→Prop):Prop :=
 ∀ st' ρ' β' a' w',K st' ρ'→st.c.le st'.c→Env.like st.c ρ ρ'→(∀ k,k < st.c.nk→β' k=β k)→Core W R Z ρ' β' st' a' w'→next a' w'
theorem Nxt.far{st st':St}{ρ ρ':Env}{β β':Nat→Nat}{K:St→Env→Prop}{next:Act→World→Prop}(h:Nxt W R Z st ρ β K next)(hc:st.c.le st'.c)(hl:Env.like st.c ρ ρ')(hb:∀ k,k < st.c.nk→β' k=β k):Nxt W R Z st' ρ' β' K next :=
 fun s ρ2 β2 a w hk h1 h2 h3 hC=>h s ρ2 β2 a w hk (Ctr.le_trans hc h1) (Env.like_trans hc hl h2) (fun k hk=>(h3 k (Nat.lt_of_lt_of_le hk hc.k)).trans (hb k hk)) hC
theorem zsk{st:St}{o:Oper}{K:St→Env→Prop}{ρ:Env}(h:Rsv P W st o K ρ){β:Nat→Nat}{a:Act}{w:World}(hC:Core W R Z ρ β st a w){next:Act→World→Prop}(hn:Nxt W R Z st ρ β K next)(Q':Exit→Act→World→Prop):o.wp P a w next Q':=by
 obtain⟨s',ρ',sv,C,h1,h2,h3,h4⟩:=h;exact zfw (hC.like h3) (h4 ρ' (Env.like_refl _ _)) Q' fun β' a' w' hb hC'=>hn s' ρ' β' a' w' h1 h2 h3 hb hC'
theorem zld{st st0:St}{dst:Option Tmp}{v:SV}{c:Ctr}{K:St→Env→Prop}{ρ ρ0:Env}{next:Act→World→Prop}(h:St.put (PA P W Q QM QP) st dst v c K ρ){β:Nat→Nat}{a:Act}{w:World}{val:Value}
  (hC:Core W R Z ρ β st a w) (hsc:st.c.le c) {β0:Nat→Nat} (h0:st0.c.le c) (hl:Env.like st0.c ρ0 ρ) (hβ:∀ k,k < st0.c.nk→β k=β0 k) (hv:v ≠ .any→val=v.den ρ β) (hn:Nxt W R Z st0 ρ0 β0 K next):next (a.put dst val) w:=by
 obtain⟨h1,h2⟩:=zj h;obtain⟨q1,q2,q3,q4,q5,q6⟩:=zfa st dst v c;refine hn _ ρ β _ w h1 (by rw [q1];exact h0) hl hβ ⟨by rw [zmo,hC.size,q3],fun i hi => ?_,by rw [zds,hC.dfr,q6,(zr _ _ _ _).2],hC.below,by rw [q2,q4];exact hC.mem,by rw [q2,q4];exact hC.inj,by rw [q5];exact hC.lps,by rw [q5];exact hC.rin,by rw [q6];exact hC.ded,by rw [q6];exact hC.dn,ztl hC.wf hsc h2,by rw [(zr _ _ _ _).1];exact hC.kn⟩;rw [zt]at hi ⊢;by_cases hd:dst=some i
 ·rw [if_pos hd]at hi ⊢;rw [hd,getElem?_put i (by rw [hC.size];exact (h2 i hd).1),if_pos rfl,hv hi]
 ·rw [if_neg hd]at hi ⊢
  have h3:(a.put dst val).tmps[i]? = a.tmps[i]? := by
   cases hdd:dst with
   | none=>rfl
   | some d=>rw [getElem?_put i (by rw [hC.size];exact (h2 d hdd).1),if_neg (fun e=>hd (by rw [hdd,e]))]
  rw [h3];exact hC.tmps i hi
theorem Core.know{ρ:Env}{β:Nat→Nat}{st:St}{a:Act}{w:World}{d:Nat}{e:BE}{b:Bool}(h:Core W R Z ρ β st a w)(hg:getS st.t d=.cv (.one (.bool e)))(hb:e.den ρ=b):Core W R Z ρ β (st.know d b) a w where
 size:=h.size
 tmps i hn:=by
  simp only [St.know,zq]at hn ⊢;by_cases hi:d=i
  ·rw [if_pos hi,← hi,h.tmps d (by rw [hg];simp),hg];simp only [SV.den,CV.den,At.den,BE.den,hb]
  ·rw [if_neg hi]at hn ⊢;exact h.tmps i hn
 dfr:=h.dfr
 below:=h.below
 mem:=h.mem
 inj:=h.inj
 lps:=h.lps
 rin:=h.rin
 ded:=h.ded
 dn:=h.dn
 kn:=h.kn
 wf:=⟨fun i=>by
  simp only [St.know,zq];by_cases hi:d=i
  ·rw [if_pos hi];rfl
  ·rw [if_neg hi];exact h.wf.t i,h.wf.m,h.wf.o,h.wf.ap,h.wf.r,h.wf.d,h.wf.k,h.wf.df⟩
theorem zxf{ops:Array Oper}{tmps:Array Value}{j d:Nat}{b:Bool}(hd:(ops[j]?).bind (·.dst)=some d)(ht:tmps[d]? = some (.bool b)):yielded ops tmps j=some b:=by
 simp [yielded,hd,ht]
theorem zyf{ops:Array Oper}{tmps:Array Value}{j d:Nat}(hd:(ops[j]?).bind (·.dst)=some d)(ht:tmps[d]? = some undef):yielded ops tmps j=none:=by
 simp [yielded,hd,ht,undef]
def StepOk(P:Program)(W:Wld)(R:Nat→Loop)(Z:List Nat)(r:Option Nat)(n:Nat)(c0:Ctr)(ρ0:Env)(β0:Nat→Nat)(Q':Exit→Act→World→Prop)(step:St→Oper→(St→Env→Prop)→Env→Prop):Prop :=
 ∀ st o K ρ,step st o K ρ→c0.le st.c→Env.like c0 ρ0 ρ→∀ β a w,(∀ k,k < c0.nk→β k=β0 k)→Core W R Z ρ β st a w→∀ (next:Act→World→Prop),Nxt W R Z st ρ β K next→o.wpIn (Fr r) n P a w next Q'
theorem zqh{r:Option Nat}{n:Nat}{c0:Ctr}{ρ0:Env}{β0:Nat→Nat}{step:St→Oper→(St→Env→Prop)→Env→Prop}{Q':Exit→Act→World→Prop}(hs:StepOk P W R Z r n c0 ρ0 β0 Q' step){ops:Array Oper}{K:St→Env→Prop} :
    ∀ (l:List Oper) (st:St) (ρ:Env),execL (PA P W Q QM QP) step ops l st K ρ→c0.le st.c→Env.like c0 ρ0 ρ→∀ β a w,(∀ k,k < c0.nk→β k=β0 k)→Core W R Z ρ β st a w →
      ∀ (next:Act→World→Prop),(∀ a w,next a w→Q' .normal a w)→Nxt W R Z st ρ β K next→wpListIn (Fr r) n P ops Q' l a w
  | [],st,ρ,h,_,_,β,a,w,_,hC,next,hq,hn=>hq _ _ (hn st ρ β a w h (Ctr.le_refl _) (Env.like_refl _ _) (fun _ _=>rfl) hC)
  | o::l,st,ρ,h,hc0,hl0,β,a,w,hb0,hC,next,hq,hn=>by
    have IH:∀ st':St,st'.c=st.c→Nxt W R Z st' ρ β (fun s=>execL (PA P W Q QM QP) step ops l s K) (wpListIn (Fr r) n P ops Q' l):=by
      intro st' he s ρ2 β2 a2 w2 hk h1 h2 h3 hC2;rw [he]at h1 h2 h3;exact zqh hs l s ρ2 hk (Ctr.le_trans hc0 h1) (Env.like_trans hc0 hl0 h2) β2 a2 w2 (fun k hk=>(h3 k (Nat.lt_of_lt_of_le hk hc0.k)).trans (hb0 k hk)) hC2 next hq (hn.far h1 h2 h3)
    have abt:∀ f,o.about P w a.eval=some f→(Fr r).fn f:=fun f _=>zvj r f;simp only [wpListIn];unfold execL at h;cases hgd:o.guard with
    | none =>
      simp only [hgd]at h;rw [if_pos (by simp [Region.wanted,hgd])];exact hs st o _ ρ h hc0 hl0 β a w hb0 hC _ (IH st rfl)
    | some jw =>
      obtain⟨j,want⟩:=jw;simp only [hgd]at h;unfold execG at h;generalize hd:(ops[j]?).bind (·.dst)=u at h;cases u with
      | none=>exact h.elim
      | some d =>
        simp only at h;split at h
        · rename_i hlt;generalize hg:getS st.t d=sv at h;split at h
          · rename_i e
            have ht:a.tmps[d]? = some (.bool (e.den ρ)):=by
              have:=hC.tmps d (by rw [hg];simp)
              rw [hg]at this;exact this
            have hy:=zxf (b:=e.den ρ) hd ht
            have put:∀ (b:Bool),e.den ρ=b→(St.put (PA P W Q QM QP) (st.know d b) o.dst .und st.c fun s=>execL (PA P W Q QM QP) step ops l s K) ρ→wpListIn (Fr r) n P ops Q' l (a.put o.dst undef) w:=fun b hb hp =>
              zld (st:=st.know d b) (st0:=st) (ρ0:=ρ) hp (hC.know hg hb) (Ctr.le_refl _) (Ctr.le_refl _) (Env.like_refl _ _) (fun _ _=>rfl) (fun _=>rfl) (IH st rfl)
            have go:∀ (b:Bool),e.den ρ=b→step (st.know d b) o (fun s=>execL (PA P W Q QM QP) step ops l s K) ρ→o.wpIn (Fr r) n P a w (wpListIn (Fr r) n P ops Q' l) Q':=fun b hb hp =>
              hs (st.know d b) o _ ρ hp hc0 hl0 β a w hb0 (hC.know hg hb) _ (IH (st.know d b) rfl)
            rcases zaa h with ⟨hb,h⟩ | ⟨hb,h⟩
            · cases want with
              | true =>
                simp only [if_true,St.norm_eq]at h;rw [if_pos (by simp [Region.wanted,hgd,hy,hb])];exact go true hb h
              | false =>
                simp only [Bool.false_eq_true,if_false,St.norm_eq]at h;rw [if_neg (by simp [Region.wanted,hgd,hy,hb])];exact⟨abt,put true hb h⟩
            · cases want with
              | true =>
                simp only [if_true,St.norm_eq]at h;rw [if_neg (by simp [Region.wanted,hgd,hy,hb])];exact⟨abt,put false hb h⟩
              | false =>
                simp only [Bool.false_eq_true,if_false,St.norm_eq]at h;rw [if_pos (by simp [Region.wanted,hgd,hy,hb])];exact go false hb h
          · have ht:a.tmps[d]? = some undef:=by
              have:=hC.tmps d (by rw [hg];simp)
              rw [hg]at this;exact this
            have hy:=zyf hd ht;rw [if_neg (by simp [Region.wanted,hgd,hy])];exact⟨abt,zld (st0:=st) (ρ0:=ρ) h hC (Ctr.le_refl _) (Ctr.le_refl _) (Env.like_refl _ _) (fun _ _=>rfl) (fun _=>rfl) (IH st rfl)⟩
          · exact h.elim
        · exact h.elim
def InlOk(G:Cfg)(W:Wld)(R:Nat→Loop)(Z:List Nat)(c0:Ctr)(ρ0:Env)(β0:Nat→Nat)(Q':Exit→Act→World→Prop)(inl:Inl (Env→Prop)):Prop :=
  ∀ f args s (K':SV→St→Env→Prop) ρ,inl f args s K' ρ→args.all (SV.wf s.c)=true→c0.le s.c→Env.like c0 ρ0 ρ→∀ β a w,(∀ k,k < c0.nk→β k=β0 k)→Core W R Z ρ β s a w→∀ next':Value→World→Prop,
    (∀ v s' ρ' β' w',K' v s' ρ'→v.wf s'.c=true→v ≠ .any→s.c.le s'.c→Env.like s.c ρ ρ'→(∀ k,k < s.c.nk→β' k=β k)→Core W R Z ρ' β' s' a w'→next' (v.den ρ' β') w') →
    Calls G.P f (args.map (SV.den ρ β)).toArray w fun e w'=>match e with
      | .returned v=>next' v w'
      | .panicked ch=>Q' (.panic ch) a w'
      | .outgrown=>False
def YlOk(P:Program)(W:Wld)(R:Nat→Loop)(c0:Ctr)(ρ0:Env)(β0:Nat→Nat)(yl:Yl (Env→Prop)):Prop :=
  ∀ k args s (K':SV→St→Env→Prop) ρ,yl k args s K' ρ→args.all (SV.wf s.c)=true→c0.le s.c→Env.like c0 ρ0 ρ→∀ R':Nat→Loop,(∀ k,k < c0.nk→R' k=R k)→∀ Z β a w,(∀ k,k < c0.nk→β k=β0 k)→Core W R' Z ρ β s a w →
    ∀ (r:Option Nat) (n:Nat) (next':Value→World→Prop),
    (∀ v s' ρ' β' w',K' v s' ρ'→v.wf s'.c=true→v ≠ .any→s.c.le s'.c→Env.like s.c ρ ρ'→(∀ k,k < s.c.nk→β' k=β k)→Core W R' Z ρ' β' s' a w'→next' (v.den ρ' β') w') →
    ∃ l fn tmps assign body,(Instr.yield (β k) (args.map (SV.den ρ β)).toArray).run P w=.ok (.round l fn tmps assign body) w∧RoundIn (Fr r) n P l fn tmps assign body w fun e w'=>∃ v,e=.returned v∧next' v w'
theorem YlOk.far{c0 c1:Ctr}{ρ0 ρ1:Env}{β0 β1:Nat→Nat}{R1:Nat→Loop}{yl:Yl (Env→Prop)}(h:YlOk P W R c0 ρ0 β0 yl)(hc:c0.le c1)(hl:Env.like c0 ρ0 ρ1)(hb:∀ k,k < c0.nk→β1 k=β0 k)(hR:∀ k,k < c0.nk→R1 k=R k):YlOk P W R1 c1 ρ1 β1 yl :=
 fun k args s K' ρ hy hw h1 h2 R' h3 Z β a w h4=>h k args s K' ρ hy hw (Ctr.le_trans hc h1) (Env.like_trans hc hl h2) R' (fun k hk=>(h3 k (Nat.lt_of_lt_of_le hk hc.k)).trans (hR k hk)) Z β a w (fun k hk=>(h4 k (Nat.lt_of_lt_of_le hk hc.k)).trans (hb k hk))
theorem zhq{G:Cfg}{st:St}{o:Oper}{K:St→Env→Prop}{ρ:Env}(h:opm (PA G.P W Q QM QP) G st o K ρ):∀ c,o.op ≠ .defer c:=by
 intro c he;unfold opm at h;have hn:effOf G st o=none:=by unfold effOf;rw [he]
 have hn2:effROf G st o=none:=by unfold effROf;rw [he]
 rw [hn]at h;simp only at h;rw [hn2]at h;simp only at h;unfold opm0 at h;simp only [he]at h;unfold opv at h;simp only [he]at h;exact h
theorem ziq{G:Cfg}{st:St}{o:Oper}{K:St→Env→Prop}{ρ:Env}(h:opa (PA G.P W Q QM QP) G st o K ρ):∀ c,o.op ≠ .defer c:=by
 intro c he;unfold opa at h;simp only [he]at h;exact h
theorem zjq{G:Cfg}{st:St}{o:Oper}{K:St→Env→Prop}{ρ:Env}(h:opw (PA G.P W Q QM QP) G st o K ρ):∀ c,o.op ≠ .defer c:=by
 intro c he;unfold opw at h;simp only [he]at h;exact h
def PanOk(W:Wld)(R:Nat→Loop)(Z:List Nat)(c0:Ctr)(ρ0:Env)(β0:Nat→Nat)(Q':Exit→Act→World→Prop)(KP:Nat→St→Env→Prop):Prop :=
 ∀ i st ρ,KP i st ρ→i < st.c.nv→c0.le st.c→Env.like c0 ρ0 ρ→∀ β a w,(∀ k,k < c0.nk→β k=β0 k)→Core W R Z ρ β st a w→Q' (.panic [{v:=(ρ.v i).1,recovered:=false}]) a w
theorem zlb(p:Nat→Bool):∀ (m:Mem) (k:Nat),getM (m.filter fun x=>p x.1) k=if p k=true then getM m k else none
  | [],k=>by simp [getM]
  | (j,v)::r,k=>by
    simp only [List.filter_cons];by_cases hj:p j=true
    · simp only [hj,if_true,getM,zlb p r k];by_cases hjk:j=k
      · subst hjk;simp [hj]
      · simp [hjk]
    · rw [if_neg (by simpa using hj),zlb p r k];simp only [getM];by_cases hjk:j=k
      · subst hjk;simp [hj]
      · simp [hjk]
theorem zaf(p:Nat→Bool):∀ (m:OMem) (k:Nat),getO (m.filter fun x=>p x.1) k=if p k=true then getO m k else none
  | [],k=>by simp [getO]
  | (j,v)::r,k=>by
    simp only [List.filter_cons];by_cases hj:p j=true
    · simp only [hj,if_true,getO,zaf p r k];by_cases hjk:j=k
      · subst hjk;simp [hj]
      · simp [hjk]
    · rw [if_neg (by simpa using hj),zaf p r k];simp only [getO];by_cases hjk:j=k
      · subst hjk;simp [hj]
      · simp [hjk]
theorem Core.less{ρ:Env}{β:Nat→Nat}{st:St}{a:Act}{w:World}(hC:Core W R Z ρ β st a w)(p:Nat→Bool):Core W R Z ρ β {st with m:=st.m.filter fun x=>p x.1,o:=st.o.filter fun x=>p x.1} a w:=by
 have hM:∀ {k x},getM (st.m.filter fun x=>p x.1) k=some x→getM st.m k=some x:=fun {k x} h=>by
  rw [zlb]at h;split at h <;> simp_all
 have hO:∀ {k x},getO (st.o.filter fun x=>p x.1) k=some x→getO st.o k=some x:=fun {k x} h=>by
  rw [zaf]at h;split at h <;> simp_all
 have hE:∀ {k e},getE (st.m.filter fun x=>p x.1) (st.o.filter fun x=>p x.1) k=some e→getE st.m st.o k=some e:=fun {k e} h=>by
  unfold getE at h ⊢;rw [zlb,zaf]at h;by_cases hp:p k=true
  ·simpa [hp]using h
  ·simp [hp]at h
 exact⟨hC.size,hC.tmps,hC.dfr,hC.below,fun k e h=>hC.mem k e (hE h),fun k k' e e' b h h'=>hC.inj k k' e e' b (hE h) (hE h'),hC.lps,hC.rin,hC.ded,hC.dn,
  ⟨hC.wf.t,fun k cs t h=>hC.wf.m k cs t (hM h),fun k ce sz t h=>hC.wf.o k ce sz t (hO h),fun k x h=>by
   have:=hC.wf.ap k x (hO h)
   show getM (st.m.filter fun x=>p x.1) k=none;rw [zlb,this];simp,hC.wf.r,hC.wf.d,hC.wf.k,hC.wf.df⟩,hC.kn⟩
theorem Core.drop_blks{ρ:Env}{β:Nat→Nat}{st:St}{a:Act}{w w':World}{bs:List Nat}(hC:Core W R Z ρ β st a w)(hbs:bs.all (fun b=>(getM st.m b).isSome)=true)(hb:BelL (bs.map β) w w'):Core W R Z ρ β {st with m:=delMs st.m bs} a w':=by
 have own:∀ b∈bs,∃ cs t,getM st.m b=some (cs,t)∧getE st.m st.o b=some (.fix cs t):=fun b hb=>by
  have:=List.all_eq_true.1 hbs b hb
  obtain⟨⟨cs,t⟩,h⟩:=Option.isSome_iff_exists.1 this;exact⟨cs,t,h,zwb h⟩
 have kept:∀ {k:Nat} {e:Ent},getE (delMs st.m bs) st.o k=some e→getE st.m st.o k=some e∧k ∉ bs:=fun {k e} h=>by
  unfold getE delMs at h;have hf:=zlb (fun b => !bs.contains b) st.m k;rw [hf]at h;by_cases hp:k∈bs
  ·obtain⟨cs,t,h1,_⟩:=own k hp
   have hn:getO st.o k=none:=by
    cases ho:getO st.o k with
    | none=>rfl
    | some x=>have:=hC.wf.ap k x ho;rw [h1]at this;cases this
   simp [hp,hn]at h
  ·refine⟨?_,hp⟩;unfold getE;simpa [hp]using h
 have same:∀ {k:Nat} {e:Ent},getE st.m st.o k=some e→k ∉ bs→∀ b,blkE β k e=some b→w'.heap[b]? = w.heap[b]? := fun {k e} hg hk b hbk=>by
  refine hb.block b ((hC.mem k e hg).blk b hbk).2.1 fun hm => ?_;obtain⟨j,hj,rfl⟩:=List.mem_map.1 hm;obtain⟨cs,t,_,h2⟩:=own j hj;exact hk (hC.inj k j e _ _ hg h2 hbk rfl▸hj)
 have other:∀ {b:Nat} {o:Obj},w.heap[b]? = some o→¬ Datum o→w'.heap[b]? = some o:=fun {b o} h ho=>by
  rw [hb.block b (heap_lt h) fun hm => ?_,h];obtain⟨j,hj,rfl⟩:=List.mem_map.1 hm;obtain⟨cs,t,h1,_⟩:=own j hj
  have:=(hC.fix h1).2
  rw [h]at this;cases this;exact ho trivial
 refine⟨hC.size,hC.tmps,hC.dfr,Bel.mk (hb.os.trans hC.below.os) (hb.tape.trans hC.below.tape) (hb.output.trans hC.below.output) (Nat.le_trans hC.below.size hb.size) (fun k hk hl => ?_),fun k e h => ?_,fun k k' e e' b h h'=>hC.inj k k' e e' b (kept h).1 (kept h').1,
  fun k e h=>⟨(hC.lps k e h).1,other (hC.lps k e h).2 (fun h=>h)⟩,hC.rin,fun b h=>⟨(hC.ded b h).1,other (hC.ded b h).2 (fun h=>h)⟩,hC.dn,
  ⟨hC.wf.t,fun k cs t h => ?_,hC.wf.o,fun k x h => ?_,hC.wf.r,hC.wf.d,hC.wf.k,hC.wf.df⟩,hC.kn⟩
 ·rw [hb.block k (Nat.lt_of_lt_of_le hk hC.below.size) fun hm => ?_]
  ·exact hC.below.block k hk hl
  ·obtain⟨j,hj,rfl⟩:=List.mem_map.1 hm;obtain⟨cs,t,h1,_⟩:=own j hj;rcases (hC.fix h1).1.out with h2 | h2
   ·exact hl h2
   ·omega
 ·obtain⟨h1,h2⟩:=kept h;exact (hC.mem k e h1).keep (hC.wf.ent h1) (Env.like_refl _ _) (fun _ _=>rfl) (same h1 h2)
 ·have hf:=zlb (fun b => !bs.contains b) st.m k;have h:getM (st.m.filter fun x => !bs.contains x.1) k=some (cs,t):=h;rw [hf]at h;split at h
  ·exact hC.wf.m k cs t h
  ·cases h
 ·show getM (st.m.filter fun x => !bs.contains x.1) k=none;have hf:=zlb (fun b => !bs.contains b) st.m k;rw [hf,hC.wf.ap k x h];simp
theorem Core.more{ρ ρ':Env}{β:Nat→Nat}{st:St}{a:Act}{w:World}(hC:Core W R Z ρ β st a w){c:Ctr}(hc:st.c.le c)(hl:Env.like st.c ρ ρ'){kn:KnL}(hw:KnL.wf kn c)(hk:KnL.den kn ρ'):Core W R Z ρ' β {st with c:=c,k:=kn} a w:=by
 have h1:=hC.like hl;have g:=hC.wf.grow hc;exact⟨h1.size,h1.tmps,h1.dfr,h1.below,h1.mem,h1.inj,h1.lps,h1.rin,h1.ded,h1.dn,⟨g.t,g.m,g.o,g.ap,g.r,g.d,hw,g.df⟩,hk⟩
theorem zun(g:Bool)(l:List At):(cvOf g l).flat=l.all At.flat∧∀ c,(cvOf g l).wf c=l.all (At.wf c):=by
 unfold cvOf;split
 ·exact⟨by simp [CV.flat],fun c=>by simp [CV.wf]⟩
 ·exact⟨rfl,fun c=>rfl⟩
theorem zis{G:Cfg}(hG:G.Ok){c0:Ctr}{ρ0:Env}{β0:Nat→Nat}{Q':Exit→Act→World→Prop}{KP:Nat→St→Env→Prop}(hP:PanOk W R Z c0 ρ0 β0 Q' KP){st:St}{f:FuncId}{args:List SV}{t:TypeId}{js:List Nat}{ρ:Env}
    (h:doPan (PA G.P W Q QM QP) G KP st f args t js ρ) (hc0:c0.le st.c) (hl0:Env.like c0 ρ0 ρ) {β:Nat→Nat} {a:Act} {w:World} (hb0:∀ k,k < c0.nk→β k=β0 k) (hC:Core W R Z ρ β st a w) :
    args.any svAny≠true∧(callFunc f (args.map (SV.den ρ β)).toArray).run G.P w=.ok (.enter f (args.map (SV.den ρ β)).toArray) w∧Calls G.P f (args.map (SV.den ρ β)).toArray w fun e w'=>∃ ch,e=.panicked ch∧Q' (.panic ch) a w':=by
  unfold doPan at h;generalize hz:szAgg G.P t=u1 at h;generalize hks:cks G.P 30 t=u2 at h;generalize hbs:locsAt args js=u3 at h;split at h
  · rename_i g n ks bs;split at h
    · exact h.elim
    · rename_i ha;simp only [not_or,Decidable.not_not]at ha;split at h
      · rename_i hcond;obtain⟨hpl,hcl,hnd,hall⟩:=hcond;obtain⟨ρ1,l1,h1,h2⟩:=zbb ks st.c h;have hle:=zeb ks st.c;have h2:=h2 ⟨.iface t ((cvOf g (freshL st.c ks)).den ρ1 b0),rfl⟩ rfl;have hlt:(freshLC st.c ks).le {freshLC st.c ks with nv:=(freshLC st.c ks).nv + 1}:=zx _ .oth;have l2:=zpf (freshLC st.c ks) ρ1 ⟨.iface t ((cvOf g (freshL st.c ks)).den ρ1 b0),rfl⟩;have l12:Env.like st.c ρ (ρ1.setV (freshLC st.c ks).nv ⟨.iface t ((cvOf g (freshL st.c ks)).den ρ1 b0),rfl⟩):=Env.like_trans hle l1 l2;refine⟨ha.1,hG.calls f hcl _ w, ?_⟩;have h1:=h1 β w hC.below (zkb hC.wf.ap (Env.like_refl st.c ρ) (fun k cs t hm=>(hC.wf.m k cs t hm).2) (fun k ce sz t hm=>(hC.wf.o k ce sz t hm).2) _ (fun k hk e hg=>hC.mem k e hg))
        have hnb:(bs.map β).Nodup:=by
          have key:∀ l:List Nat,(∀ x∈l,x∈bs)→l.Nodup→(l.map β).Nodup:=by
            intro l
            induction l with
            | nil=>intro _ _;exact List.nodup_nil
            | cons x l ih =>
              intro hin hn;simp only [List.nodup_cons,List.map_cons]at hn ⊢;refine⟨fun hm => ?_,ih (fun y hy=>hin y (List.mem_cons_of_mem _ hy)) hn.2⟩;obtain⟨y,hy,he⟩:=List.mem_map.1 hm;obtain⟨⟨cs,t1⟩,g1⟩:=Option.isSome_iff_exists.1 (List.all_eq_true.1 hall x (hin x (List.mem_cons_self ..)));obtain⟨⟨cs',t2⟩,g2⟩:=Option.isSome_iff_exists.1 (List.all_eq_true.1 hall y (hin y (List.mem_cons_of_mem _ hy)))
              have:=hC.inj x y _ _ (β x) (zwb g1) (zwb g2) rfl (by simp [blkE,he])
              exact hn.1 (this▸hy)
          exact key bs (fun _ h=>h) hnd
        refine (apartP.out h1 hnb).mono fun e w' he => ?_;obtain⟨rfl,hbel⟩:=he;refine⟨_,rfl, ?_⟩;have hC1:=hC.drop_blks hall hbel;have e0:((ρ1.setV (freshLC st.c ks).nv ⟨.iface t ((cvOf g (freshL st.c ks)).den ρ1 b0),rfl⟩).v (freshLC st.c ks).nv).1=.iface t ((cvOf g (freshL st.c ks)).den ρ1 b0):=congrArg (fun y:OV=>y.1) (if_pos rfl);have hwcv:(cvOf g (freshL st.c ks)).wf (freshLC st.c ks)=true:=by rw [(zun _ _).2];exact zgd ks st.c
        have hC2:=hC1.more (c := {freshLC st.c ks with nv:=(freshLC st.c ks).nv + 1}) (Ctr.le_trans hle hlt) l12 (kn := .ifc (freshLC st.c ks).nv t (cvOf g (freshL st.c ks))::st.k) (fun z hz => ?_) (fun z hz => ?_)
        · have:=hP _ _ _ h2 (Nat.lt_succ_self _) (Ctr.le_trans hc0 (Ctr.le_trans hle hlt)) (Env.like_trans hc0 hl0 l12) β a w' hb0 hC2
          rw [e0]at this;exact this
        · rcases List.mem_cons.1 hz with rfl | hz
          · simp only [Kn.wf,Bool.and_eq_true,decide_eq_true_eq];exact⟨Nat.lt_succ_self _,CV.wf_le hlt hwcv,by rw [(zun _ _).1];exact zhd ks st.c hpl⟩
          · exact Kn.wf_le (Ctr.le_trans hle hlt) (hC.wf.k z hz)
        · rcases List.mem_cons.1 hz with rfl | hz
          · simp only [Kn.den];rw [e0,CV.den_like l2 (fun _ _=>rfl) hwcv];rfl
          · exact Kn.den_like l12 (hC.wf.k z hz) (hC.kn z hz)
      · exact h.elim
  · exact h.elim
theorem zrh{G:Cfg}(hG:G.Ok){r:Option Nat}{n:Nat}{c0:Ctr}{ρ0:Env}{β0:Nat→Nat}{Q':Exit→Act→World→Prop}{inl:Inl (Env→Prop)}{yl:Yl (Env→Prop)}{dok:Bool}{KP:Nat→St→Env→Prop}(hI:InlOk G W R Z c0 ρ0 β0 Q' inl)(hY:YlOk G.P W R c0 ρ0 β0 yl)(hdok:dok=true→r=none)(hP:PanOk W R Z c0 ρ0 β0 Q' KP) :
    StepOk G.P W R Z r n c0 ρ0 β0 Q' (stepO (PA G.P W Q QM QP) G inl yl dok KP):=by
  intro st o K ρ h hc0 hl0 β a w hb0 hC next hn
  have memo:opm (PA G.P W Q QM QP) G st o K ρ→o.wpIn (Fr r) n G.P a w next Q':=fun h=>zta r n (zhq h) (zsk (zzl hG hC.wf hC.kn h) hC hn Q')
  have rowo:opw (PA G.P W Q QM QP) G st o K ρ→o.wpIn (Fr r) n G.P a w next Q':=fun h=>zta r n (zjq h) (zsk (zdm hC.wf h) hC hn Q')
  have appo:opa (PA G.P W Q QM QP) G st o K ρ→o.wpIn (Fr r) n G.P a w next Q':=fun h=>zta r n (ziq h) (zsk (zbm hC.wf h) hC hn Q')
  obtain⟨dst,op,type,pos,after,guard⟩:=o;unfold stepO at h;cases op <;> first | exact memo h | skip
  case makeSlice t l cp=>exact rowo h
  case makeMap t rs=>exact rowo h
  case mapUpdate t m k v=>exact rowo h
  case insert t m k v=>exact rowo h
  case panic x =>
    simp only at h;generalize hx:st.ev x=sx at h;split at h
    · rename_i i;split at h
      · rename_i hi;obtain⟨⟨t,v⟩,hf⟩:=Option.isSome_iff_exists.1 hi;have hm:=zfd hf;have hd:=hC.kn _ hm;have hw:=hC.wf.k _ hm;simp only [Kn.wf,Bool.and_eq_true,decide_eq_true_eq]at hw;simp only [Kn.den]at hd;have e1:=hC.eval x (by rw [hx];simp);rw [hx]at e1;have e2:a.eval x=.iface t (v.den ρ fun _=>0):=e1.trans hd
        have:=hP i st ρ h hw.1 hc0 hl0 β a w hb0 hC
        rw [hd]at this;refine zta r n (by simp) ?_;unfold Oper.wp
        have hr:(execOp a.eval ⟨dst,.panic x,type,pos,after,guard⟩).run G.P w=.halt (.panic (.iface t (v.den ρ fun _=>0))) w:=by
          simp [execOp,e2,Instr.panic,goPanic]
        rw [hr,Oper.upon_panic];exact this
      · exact h.elim
    · exact h.elim
  case defer c =>
    obtain⟨callee,args,argTypes⟩:=c;simp only at h;generalize ha:args.toList=al at h;split at h
    · rename_i g;generalize hg:st.ev g=sg at h;split at h
      · rename_i f caps;split at h
        · rename_i hd;have hrn:r=none:=hdok rfl;subst hrn;have eg:=hC.eval g (by rw [hg];simp);rw [hg]at eg;have hwg:=hC.wf.ev g;rw [hg]at hwg;have ea:args=#[]:=by apply Array.ext';rw [ha]
          subst ea;refine⟨fun f _=>zvj none f, ?_⟩
          have hr:((⟨none,.defer ⟨.value g,#[],argTypes⟩,type,pos,after,guard⟩:Oper).semAt (Fr none).round a.eval).run G.P w=.ok (.defer {target := .fn (.func f) (caps.map fun c=>(.pointer (some ⟨β c.1,c.2,none⟩):Value)).toArray,args := #[]}) w:=by
            rw [show (Fr none).round=none from rfl,Oper.semAt_none];simp only [execOp,resolve,eg,SV.den,CV.den,At.den,Deferred.ofValue,Sem.run_bind,Sem.run_pure,Result.andThen_ok];simp
          rw [hr,Oper.uponIn_defer];refine hn _ ρ β _ w h (Ctr.le_refl _) (Env.like_refl _ _) (fun _ _=>rfl) ⟨hC.size,hC.tmps, ?_,hC.below,hC.mem,hC.inj,hC.lps,hC.rin,hC.ded,hC.dn,⟨hC.wf.t,hC.wf.m,hC.wf.o,hC.wf.ap,hC.wf.r,hC.wf.d,hC.wf.k,fun x hx => ?_⟩,hC.kn⟩
          · show _::a.defers=_;rw [hC.dfr];simp [closOf]
          · rcases List.mem_cons.1 hx with rfl | hx
            · exact fun y hy=>by simpa using List.all_eq_true.1 hwg y hy
            · exact hC.wf.df x hx
        · exact h.elim
      · exact h.elim
    · exact h.elim
  case assign x =>
    simp only at h;split at h
    · exact rowo h
    · exact memo h
  case convert s d x =>
    simp only at h;split at h
    · exact rowo h
    · exact memo h
  case buildSlice t len parts =>
    simp only at h;split at h
    · exact rowo h
    · exact memo h
  case slice t x lo hi mx =>
    cases mx with
    | none=>exact memo h
    | some m=>exact rowo h
  case store t x y =>
    simp only at h;generalize hx:st.ev x=sx at h;split at h
    · exact rowo h
    · exact memo h
  case call cl =>
    obtain⟨callee,args,argTypes⟩:=cl;cases callee <;> first | exact memo h | skip
    case builtin b =>
      cases b <;> first | exact memo h | skip
      exact appo h
    case invoke rcv m =>
      simp only at h;generalize hr0:st.ev rcv=sr at h;split at h
      · rename_i i;generalize hf:findI st.k i=u1 at h;cases u1 with
        | none=>exact h.elim
        | some z =>
        obtain⟨t,v⟩:=z;simp only at h;generalize hm:methodOf G.P t m=u2 at h;cases u2 with
        | none=>exact h.elim
        | some f =>
        simp only at h;split at h;rotate_left
        · exact memo h
        rename_i hinl;split at h
        · exact h.elim
        · rename_i hany;have hmem:=zfd hf;have hwv:=hC.wf.k _ hmem;simp only [Kn.wf,Bool.and_eq_true]at hwv;have er:=hC.eval rcv (by rw [hr0];simp);rw [hr0]at er;have hd:(Kn.ifc i t v).den ρ:=hC.kn _ hmem;simp only [Kn.den]at hd
          have er:a.eval rcv=.iface t (v.den ρ β):=by
            rw [er];show (ρ.v i).1=_;rw [hd,CV.den_flat ρ (fun _=>0) β hwv.2.2]
          have ea:(args.map a.eval).toList=(args.toList.map st.ev).map (SV.den ρ β):=by
            rw [Array.toList_map]
            exact zca _ fun x hx=>hC.eval x (by
              intro he;exact hany (List.any_eq_true.2 ⟨_,List.mem_map.2 ⟨x,hx,rfl⟩,by rw [he];rfl⟩))
          have ec:#[v.den ρ β]++args.map a.eval=(((SV.cv v)::args.toList.map st.ev).map (SV.den ρ β)).toArray:=by
            apply Array.ext';rw [Array.toList_append,ea];simp [SV.den]
          have hw:((SV.cv v)::args.toList.map st.ev).all (SV.wf st.c)=true:=List.all_eq_true.2 fun x hx=>by
            rcases List.mem_cons.1 hx with rfl | hx
            · exact hwv.2.1
            · obtain⟨y,_,rfl⟩:=List.mem_map.1 hx;exact hC.wf.ev y
          refine zta r n (by simp) ?_;unfold Oper.wp;rw [zpn hm er ec w,hG.inl f hinl,Oper.upon_enter]
          refine (hI f _ st _ ρ h hw hc0 hl0 β a w hb0 hC (fun v w'=>next (a.put dst v) w') ?_).mono fun e w' he=>by
            cases e <;> first | exact he | exact he.elim
          intro v s' ρ' β' w' hk hwv hva hle hl hb hC';exact zld (st:=s') (st0:=st) (ρ0:=ρ) hk hC' (Ctr.le_refl _) hle hl hb (fun _=>rfl) hn
      · exact h.elim
    case value g =>
      have inlined:∀ (f:FuncId) (first caps:List (Nat × Nat)) (all:List SV),all=first.map locSV++(args.toList.map st.ev++caps.map locSV)→st.ev g ≠ .any→(st.ev g).wf st.c=true →
          (∀ x∈first,x.1 < st.c.nk)→(∀ x∈caps,x.1 < st.c.nk) →
          ((st.ev g).den ρ β=.func (.func f) (first.map fun c=>.pointer (some ⟨β c.1,c.2,none⟩)).toArray (caps.map fun c=>.pointer (some ⟨β c.1,c.2,none⟩)).toArray) →
          G.inl.contains f=true→¬ (args.toList.map st.ev).any svAny=true→inl f all st (fun v s=>St.put (PA G.P W Q QM QP) s dst v s.c K) ρ→(⟨dst,.call ⟨.value g,args,argTypes⟩,type,pos,after,guard⟩:Oper).wpIn (Fr r) n G.P a w next Q':=by
        intro f first caps all hall hgany _ hfw hcw hgden hf hany h
        have eg:=hC.eval g hgany;rw [hgden]at eg
        have ea:(args.map a.eval).toList=(args.toList.map st.ev).map (SV.den ρ β):=by
          rw [Array.toList_map]
          exact zca _ fun x hx=>hC.eval x (by
            intro he;exact hany (List.any_eq_true.2 ⟨_,List.mem_map.2 ⟨x,hx,rfl⟩,by rw [he];rfl⟩))
        have ec:(first.map fun c=>(.pointer (some ⟨β c.1,c.2,none⟩):Value)).toArray++args.map a.eval++(caps.map fun c=>(.pointer (some ⟨β c.1,c.2,none⟩):Value)).toArray=(all.map (SV.den ρ β)).toArray:=by
          apply Array.ext';rw [Array.toList_append,Array.toList_append,ea,hall];simp [SV.den,CV.den,At.den,locSV,Function.comp_def]
        have hx:(execOp a.eval ⟨dst,.call ⟨.value g,args,argTypes⟩,type,pos,after,guard⟩).run G.P w=(callFunc f (all.map (SV.den ρ β)).toArray).run G.P w:=by
          simp only [execOp,resolve,eg,Deferred.ofValue,Sem.run_bind,Sem.run_pure,Result.andThen_ok,invoke];rw [← ec]
        have locw:∀ {l:List (Nat × Nat)},(∀ x∈l,x.1 < st.c.nk)→∀ x∈l.map locSV,x.wf st.c=true:=fun hl x hx=>by
          obtain⟨y,hy,rfl⟩:=List.mem_map.1 hx;exact decide_eq_true (hl y hy)
        have hw:all.all (SV.wf st.c)=true:=by
          rw [hall];refine List.all_eq_true.2 fun x hx => ?_;rcases List.mem_append.1 hx with hx | hx
          · exact locw hfw x hx
          · rcases List.mem_append.1 hx with hx | hx
            · obtain⟨y,_,rfl⟩:=List.mem_map.1 hx;exact hC.wf.ev y
            · exact locw hcw x hx
        refine zta r n (by simp) ?_;unfold Oper.wp;rw [hx,hG.inl f hf,Oper.upon_enter]
        refine (hI f _ st _ ρ h hw hc0 hl0 β a w hb0 hC (fun v w'=>next (a.put dst v) w') ?_).mono fun e w' he=>by
          cases e <;> first | exact he | exact he.elim
        intro v s' ρ' β' w' hk hwv hva hle hl hb hC';exact zld (st:=s') (st0:=st) (ρ0:=ρ) hk hC' (Ctr.le_refl _) hle hl hb (fun _=>rfl) hn
      simp only at h;have hwg:=hC.wf.ev g;generalize hg:st.ev g=sg at h;split at h
      · rename_i f caps;split at h
        · rename_i hgv;obtain⟨_,rfl⟩:=hgv;exact zta r n (by simp) (zsk (zgq hG hC.wf (o:=⟨dst,.call ⟨.value g,args,argTypes⟩,type,pos,after,guard⟩) rfl hg h) hC hn Q')
        split at h
        · rename_i hf;split at h
          · exact h.elim
          · rename_i hany;rw [hg]at hwg;exact inlined f [] caps _ (by simp) (by rw [hg];simp) (by rw [hg];exact hwg) (by simp) (fun x hx=>by simpa using List.all_eq_true.1 hwg x hx) (by rw [hg];rfl) hf hany h
        · unfold opp at h;generalize hph:panHint G f=ph at h;cases ph with
          | none=>exact memo h
          | some tj =>
            obtain⟨t,js⟩:=tj;rcases h with h | h
            · exact memo h
            · obtain⟨hany,hrun,hcl⟩:=zis hG hP h hc0 hl0 hb0 hC;have eg:=hC.eval g (by rw [hg];simp);rw [hg]at eg
              have ea:(args.map a.eval).toList=(args.toList.map st.ev).map (SV.den ρ β):=by
                rw [Array.toList_map]
                exact zca _ fun x hx=>hC.eval x (by
                  intro he;exact hany (List.any_eq_true.2 ⟨_,List.mem_append.2 (.inl (List.mem_map.2 ⟨x,hx,rfl⟩)),by rw [he];rfl⟩))
              have hx:(execOp a.eval ⟨dst,.call ⟨.value g,args,argTypes⟩,type,pos,after,guard⟩).run G.P w=(callFunc f ((args.toList.map st.ev++caps.map locSV).map (SV.den ρ β)).toArray).run G.P w:=by
                simp only [execOp,resolve,eg,SV.den,CV.den,At.den,Deferred.ofValue,Sem.run_bind,Sem.run_pure,Result.andThen_ok,invoke];congr 2;apply Array.ext';rw [Array.toList_append,Array.toList_append,ea];simp [SV.den,CV.den,At.den,locSV,Function.comp_def]
              refine zta r n (by simp) ?_;unfold Oper.wp;rw [hx,hrun,Oper.upon_enter];refine hcl.mono fun e w' he => ?_;obtain⟨ch,rfl,hq⟩:=he;exact hq
      · rename_i f first caps
        split at h
        · rename_i hf;split at h
          · exact h.elim
          · rename_i hany;rw [hg]at hwg;have hwg2:((first.all fun x=>decide (x.1 < st.c.nk)) && caps.all fun x=>decide (x.1 < st.c.nk))=true:=hwg;simp only [Bool.and_eq_true]at hwg2;exact inlined f first caps _ rfl (by rw [hg];simp) (by rw [hg];exact hwg) (fun x hx=>by simpa using List.all_eq_true.1 hwg2.1 x hx) (fun x hx=>by simpa using List.all_eq_true.1 hwg2.2 x hx) (by rw [hg];rfl) hf hany h
        · exact memo h
      · rename_i f first caps
        split at h
        · rename_i hf;split at h
          · exact h.elim
          · rename_i hany;rw [hg]at hwg;have hwg2:((first.all fun x=>x.wf st.c) && caps.all fun x=>decide (x.1 < st.c.nk))=true:=hwg;simp only [Bool.and_eq_true]at hwg2;have eg:=hC.eval g (by rw [hg];simp);rw [hg]at eg
            have ea:(args.map a.eval).toList=(args.toList.map st.ev).map (SV.den ρ β):=by
              rw [Array.toList_map]
              exact zca _ fun x hx=>hC.eval x (by
                intro he;exact hany (List.any_eq_true.2 ⟨_,List.mem_map.2 ⟨x,hx,rfl⟩,by rw [he];rfl⟩))
            have ef:(first.map Cell0.at).map (At.den ρ β)=first.map (Cell0.den ρ β):=by
              rw [List.map_map];exact List.map_congr_left fun x _=>Cell0.den_at ρ β x
            have hx:(execOp a.eval ⟨dst,.call ⟨.value g,args,argTypes⟩,type,pos,after,guard⟩).run G.P w=(callFunc f ((SV.cv (.agg (first.map Cell0.at))::(args.toList.map st.ev++caps.map locSV)).map (SV.den ρ β)).toArray).run G.P w:=by
              have eg':a.eval g=.func (.func f) #[.agg (first.map (Cell0.den ρ β)).toArray] (caps.map fun c=>(.pointer (some ⟨β c.1,c.2,none⟩):Value)).toArray:=eg;simp only [execOp,resolve,eg',Deferred.ofValue,Sem.run_bind,Sem.run_pure,Result.andThen_ok,invoke];congr 2;apply Array.ext';rw [Array.toList_append,Array.toList_append,ea]
              have e1:(SV.cv (.agg (first.map Cell0.at))).den ρ β=.agg (first.map (Cell0.den ρ β)).toArray:=by
                show Value.agg ((first.map Cell0.at).map (At.den ρ β)).toArray=_;rw [ef]
              rw [List.map_cons,e1,List.map_append];simp [SV.den,CV.den,At.den,locSV,Function.comp_def]
            have hw:(SV.cv (.agg (first.map Cell0.at))::(args.toList.map st.ev++caps.map locSV)).all (SV.wf st.c)=true:=by
              refine List.all_eq_true.2 fun x hx => ?_;rcases List.mem_cons.1 hx with rfl | hx
              · simp only [SV.wf,CV.wf,List.all_map]
                exact List.all_eq_true.2 fun y hy=>by
                  show (y.at).wf st.c=true;rw [Cell0.wf_at];exact List.all_eq_true.1 hwg2.1 y hy
              · rcases List.mem_append.1 hx with hx | hx
                · obtain⟨y,_,rfl⟩:=List.mem_map.1 hx;exact hC.wf.ev y
                · obtain⟨y,hy,rfl⟩:=List.mem_map.1 hx;exact List.all_eq_true.1 hwg2.2 y hy
            refine zta r n (by simp) ?_;unfold Oper.wp;rw [hx,hG.inl f hf,Oper.upon_enter]
            refine (hI f _ st _ ρ h hw hc0 hl0 β a w hb0 hC (fun v w'=>next (a.put dst v) w') ?_).mono fun e w' he=>by
              cases e <;> first | exact he | exact he.elim
            intro v s' ρ' β' w' hk hwv hva hle hl hb hC';exact zld (st:=s') (st0:=st) (ρ0:=ρ) hk hC' (Ctr.le_refl _) hle hl hb (fun _=>rfl) hn
        · exact h.elim
      · rename_i k;split at h
        · exact h.elim
        · rename_i hany;have eg:=hC.eval g (by rw [hg];simp);rw [hg]at eg
          have ea:args.map a.eval=((args.toList.map st.ev).map (SV.den ρ β)).toArray:=by
            apply Array.ext';rw [Array.toList_map]
            exact zca _ fun x hx=>hC.eval x (by
              intro he;exact hany (List.any_eq_true.2 ⟨_,List.mem_map.2 ⟨x,hx,rfl⟩,by rw [he];rfl⟩))
          have hw:(args.toList.map st.ev).all (SV.wf st.c)=true:=List.all_eq_true.2 fun x hx=>by
            obtain⟨y,_,rfl⟩:=List.mem_map.1 hx;exact hC.wf.ev y
          obtain⟨l,fn,tmps,assign,body,hy,hR⟩:=hY k _ st _ ρ h hw hc0 hl0 R (fun _ _=>rfl) Z β a w hb0 hC r (n - 1) (fun v w'=>next (a.put dst v) w') (fun v s' ρ' β' w' hk hwv hva hle hl hb hC' =>
            zld (st:=s') (st0:=st) (ρ0:=ρ) hk hC' (Ctr.le_refl _) hle hl hb (fun _=>rfl) hn)
          refine⟨fun f _=>zvj r f, ?_⟩;rw [Oper.semAt_eq _ _ _ (by simp)]
          have hx:(execOp a.eval ⟨dst,.call ⟨.value g,args,argTypes⟩,type,pos,after,guard⟩).run G.P w=.ok (.round l fn tmps assign body) w:=by
            simp only [execOp,resolve,eg,SV.den,CV.den,At.den,Deferred.ofValue,Sem.run_bind,Sem.run_pure,Result.andThen_ok,invoke,ea];simpa using hy
          rw [hx,Oper.uponIn_round];refine⟨zsi,hR.mono fun e w' he => ?_⟩;obtain⟨v,rfl,hv⟩:=he;exact hv
      · exact h.elim
end Vc
set_option linter.unusedVariables false
namespace Vc
open Go Go.RowKit
variable {P:Program} {W:Wld} {Q:Value→Prop} {QM QP:World→Value→Prop} {R:Nat→Loop} {Z:List Nat}
theorem zen{t:TypeId}{cs:List At}{off:Nat}{v:CV}(h:partOf P t cs off=some v)(ρ:Env)(β:Nat→Nat)(w:World)(b:Nat)(ty:TypeId)(hb:w.heap[b]? = some (.cells (cs.map (At.den ρ β)).toArray ty)) :
  (loadVar t ⟨b,off,none⟩).run P w=.ok (v.den ρ β) w:=by
 unfold partOf at h;generalize hz:szAgg P t=u at h;split at h
 ·rename_i n;split at h
  ·rename_i hl;simp only [Option.some.injEq]at h;subst h
   have:=zyb hz w b off (((cs.drop off).take n).map (At.den ρ β)) (by simp;omega) (fun j v hj=>by
    rw [zma hb];simp only [List.getElem?_map,Option.map_eq_some_iff]at hj;obtain⟨a,ha,rfl⟩:=hj
    have hj2:j < n:=by
     rcases Nat.lt_or_ge j n with h' | h'
     ·exact h'
     ·rw [List.getElem?_eq_none (by simp;omega)]at ha;cases ha
    rw [List.getElem?_take_of_lt hj2,List.getElem?_drop]at ha;simp [ha])
   exact this
  ·cases h
 ·rename_i n;simp only [Option.map_eq_some_iff]at h;obtain⟨a,ha,rfl⟩:=h
  have:=zzb hz w b off (a.den ρ β) (by rw [zma hb];simp [ha])
  exact this
 ·cases h
theorem zjw{t:TypeId}{cs:List At}{off:Nat}{v:CV}{c:Ctr}(h:partOf P t cs off=some v)(hw:cs.all (At.wf c)=true):v.wf c=true:=by
 unfold partOf at h;generalize szAgg P t=u at h;split at h
 ·split at h
  ·simp only [Option.some.injEq]at h;subst h;exact (zy (zy hw off).2 _).1
  ·cases h
 ·simp only [Option.map_eq_some_iff]at h;obtain⟨a,ha,rfl⟩:=h;exact List.all_eq_true.1 hw a (List.mem_of_getElem? ha)
 ·cases h
def resOne(tmps:Array Value):ResultVar→Sem Value
 | .tmp t=>pure (tmps.getD t undef)
 | .cell a t=>do loadVar t (← asAddr (tmps.getD a undef))
theorem zsh{ρ:Env}{β:Nat→Nat}{st:St}{a:Act}{w:World}(hC:Core W R Z ρ β st a w):∀ (l:List ResultVar) {cs:List CV},resOf P st l=some cs →
    (l.mapM (resOne a.tmps)).run P w=.ok (cs.map (CV.den ρ β)) w∧cs.all (CV.wf st.c)=true
  | [],cs,h=>by simp only [resOf,Option.some.injEq]at h;subst h;simp
  | .tmp t::r,cs,h=>by
    simp only [resOf]at h;split at h
    · rename_i v l h1 h2;simp only [Option.some.injEq]at h;subst h;obtain⟨q1,q2⟩:=zsh hC r h2;have e:=hC.tmps t (by rw [h1];simp);have wv:=hC.wf.t t;rw [h1]at e wv;simp only [List.mapM_cons,resOne,Sem.run_bind,Sem.run_pure,Result.andThen_ok,q1,Array.getD_eq_getD_getElem?,e,Option.getD_some,SV.den,List.map_cons,true_and];simp only [List.all_cons,q2,Bool.and_true];exact wv
    · cases h
  | .cell x t::r,cs,h=>by
    simp only [resOf]at h;split at h
    · rename_i k off l h1 h2;split at h
      · rename_i c ty h3;split at h
        · rename_i v h4;simp only [Option.some.injEq]at h;subst h;obtain⟨q1,q2⟩:=zsh hC r h2;have e:=hC.tmps x (by rw [h1];simp);rw [h1]at e;obtain⟨m1,m2⟩:=hC.fix h3;have hl:=zen h4 ρ β w (β k) ty m2
          have e2:a.tmps.getD x undef=.pointer (some ⟨β k,off,none⟩):=by
            simp only [Array.getD_eq_getD_getElem?,e,Option.getD_some,SV.den,CV.den,At.den]
          simp only [List.mapM_cons,resOne,Sem.run_bind,Sem.run_pure,Result.andThen_ok,e2,asAddr,hl,q1,List.map_cons,true_and];simp only [List.all_cons,q2,Bool.and_true];exact zjw h4 (hC.wf.m k c ty h3).2
        · cases h
      · cases h
    · cases h
theorem zbf{fn:Func}{ρ:Env}{β:Nat→Nat}{st:St}{a:Act}{w:World}(hC:Core W R Z ρ β st a w){cs:List CV}(h:resOf P st fn.results.toList=some cs) :
  (results fn a.tmps).run P w=.ok ((resV cs).den ρ β) w∧(resV cs).wf st.c=true:=by
 obtain⟨q1,q2⟩:=zsh hC _ h;refine⟨?_,ztj q2⟩
 have hf:(results fn a.tmps)=(do let vs ← fn.results.mapM (resOne a.tmps);pure (if h:vs.size=1 then vs[0]else .tuple vs)):=by
  unfold results;congr 1
 rw [hf,Array.mapM_eq_mapM_toList];simp only [Sem.run_bind,Sem.run_map,q1,Result.andThen_ok,Sem.run_pure];unfold resV
 match cs with
 | []=>simp [SV.den]
 | [c]=>simp [SV.den]
 | c::d::r=>simp [SV.den]
theorem zlt:∀ (args:List SV) (n i:Nat),getS ((List.range' n args.length).zip args) i=if n≤i then (args[i - n]?).getD .any else .any
  | [],n,i=>by simp [getS]
  | v::r,n,i=>by
    simp only [List.length_cons,List.range'_succ,List.zip_cons_cons,zq];by_cases h:n=i
    · subst h;simp
    · rw [if_neg h,zlt r (n + 1) i];by_cases h2:n≤i
      · rw [if_pos (by omega),if_pos h2];rw [show i - n=(i - (n + 1)) + 1 by omega];simp
      · rw [if_neg (by omega),if_neg h2]
theorem zvc(args:List SV)(i:Nat):getS ((List.range args.length).zip args) i=(args[i]?).getD .any:=by
 have:=zlt args 0 i
 rw [List.range_eq_range'];simpa using this
theorem zvn{ρ:Env}{β:Nat→Nat}{args:List SV}{n:Nat}{st:St}{a:Act}{w:World}(hC:Core W R Z ρ β st a w)(hw:args.all (SV.wf st.c)=true) :
    Core W R (Z++st.d.map β) ρ β {t:=(List.range args.length).zip args,n:=args.length + (n - args.length),m:=st.m,c:=st.c,o:=st.o,r:=st.r,d := [],k:=st.k}
      {tmps:=(args.map (SV.den ρ β)).toArray++Array.replicate (n - (args.map (SV.den ρ β)).toArray.size) undef,defers := []} w where
  size:=by simp
  tmps i hn:=by
    simp only [zvc]at hn ⊢;cases hi:args[i]? with
    | none=>rw [hi]at hn;exact (hn rfl).elim
    | some v =>
      have hlt:i < args.length:=(List.getElem?_eq_some_iff.1 hi).1;rw [Array.getElem?_append_left (by simpa using hlt)];simp [hi]
  dfr:=rfl
  below:=hC.below
  mem:=hC.mem
  inj:=hC.inj
  lps:=hC.lps
  rin:=hC.rin
  ded b hb:=hC.ded b (by simpa using hb)
  dn:=by simpa using hC.dn
  wf:=⟨fun i=>by
    simp only [zvc];cases hi:args[i]? with
    | none=>rfl
    | some v=>exact List.all_eq_true.1 hw v (List.mem_of_getElem? hi),hC.wf.m,hC.wf.o,hC.wf.ap,hC.wf.r,fun k hk=>(by cases hk),hC.wf.k,fun x hx=>(by cases hx)⟩
  kn:=hC.kn
theorem zgv{ρ:Env}{β:Nat→Nat}{args:List SV}{n:Nat}{c:Ctr}{w:World}{kn:KnL}(hkw:KnL.wf kn c)(hkn:KnL.den kn ρ)(hw:args.all (SV.wf c)=true)(hB:Bel W w) :
    Core W R [] ρ β {t:=(List.range args.length).zip args,n:=args.length + (n - args.length),m := [],c:=c,k:=kn}
      {tmps:=(args.map (SV.den ρ β)).toArray++Array.replicate (n - (args.map (SV.den ρ β)).toArray.size) undef,defers := []} w where
  size:=by simp
  tmps i hn:=by
    simp only [zvc]at hn ⊢;cases hi:args[i]? with
    | none=>rw [hi]at hn;exact (hn rfl).elim
    | some v =>
      have hlt:i < args.length:=(List.getElem?_eq_some_iff.1 hi).1;rw [Array.getElem?_append_left (by simpa using hlt)];simp [hi]
  dfr:=rfl
  below:=hB
  mem k e h:=by cases h
  inj k k' e e' b h:=by cases h
  lps k e h:=by cases h
  rin k k' e e' h:=by cases h
  ded b hb:=by cases hb
  dn:=by simp
  wf:=⟨fun i=>by
    simp only [zvc];cases hi:args[i]? with
    | none=>rfl
    | some v=>exact List.all_eq_true.1 hw v (List.mem_of_getElem? hi),fun k cs t h=>(by cases h),fun k ce sz t h=>(by cases h),fun k x h=>(by cases h),fun k e h=>(by cases h),fun k hk=>(by cases hk),hkw,fun x hx=>(by cases hx)⟩
  kn:=hkn
theorem zmt:∀ (bs:List (List At × TypeId)) (n k:Nat),getM ((List.range' n bs.length).zip bs) k=if n≤k then bs[k - n]? else none
  | [],n,k=>by simp [getM]
  | b::bs,n,k=>by
    rw [List.length_cons,List.range'_succ,List.zip_cons_cons,zuc,zmt bs (n + 1) k];by_cases h:n=k
    · subst h;simp
    · rw [if_neg h];by_cases h2:n + 1≤k
      · rw [if_pos h2,if_pos (by omega),show k - n=(k - (n + 1)) + 1 by omega,List.getElem?_cons_succ]
      · rw [if_neg h2,if_neg (by omega)]
theorem zem(bs:List (List At × TypeId))(k:Nat):getM ((List.range bs.length).zip bs) k=bs[k]? := by
 rw [List.range_eq_range',zmt];simp
def LentAt(ρ:Env)(xs:List Nat)(bs:List (List At × TypeId))(w:World):Prop:=∀ k cs t,bs[k]? = some (cs,t)→w.heap[lentB xs k]? = some (.cells (cs.map (At.den ρ (lentB xs))).toArray t)
theorem zjs{ρ:Env}{xs:List Nat}{args:List SV}{n:Nat}{c:Ctr}{w:World}{bs:List (List At × TypeId)}{kn:KnL}(hkw:KnL.wf kn c)(hkn:KnL.den kn ρ)(hw:args.all (SV.wf c)=true)(hc:bs.all (fun b=>b.1.all (At.wf c))=true)(h0:bs.length≤c.nk)(hlen:xs.length=bs.length)(hnd:xs.Nodup)
    (hl:W.lent=xs) (hB:Bel W w) (hx:LentAt ρ xs bs w) :
    Core W R [] ρ (lentB xs) {t:=(List.range args.length).zip args,n:=args.length + (n - args.length),m:=(List.range bs.length).zip bs,c:=c,k:=kn}
      {tmps:=(args.map (SV.den ρ (lentB xs))).toArray++Array.replicate (n - (args.map (SV.den ρ (lentB xs))).toArray.size) undef,defers := []} w where
  size:=by simp
  tmps i hn:=by
    simp only [zvc]at hn ⊢;cases hi:args[i]? with
    | none=>rw [hi]at hn;exact (hn rfl).elim
    | some v =>
      have hlt:i < args.length:=(List.getElem?_eq_some_iff.1 hi).1;rw [Array.getElem?_append_left (by simpa using hlt)];simp [hi]
  dfr:=rfl
  below:=hB
  mem k e h:=by
    unfold getE at h;rw [zem]at h;cases hb:bs[k]? with
    | none=>rw [hb]at h;simp [getO]at h
    | some x =>
      rw [hb]at h;simp only [Option.some.injEq]at h;subst h;have hk:=(List.getElem?_eq_some_iff.1 hb).1;refine⟨OwnB.mk (.inl ?_),hx k x.1 x.2 hb⟩;rw [hl,lentB,List.getD_eq_getElem?_getD,List.getElem?_eq_getElem (by omega)];exact List.getElem_mem _
  inj k k' e e' b h h' hb hb':=by
    have key:∀ {k e b},getE ((List.range bs.length).zip bs) [] k=some e→blkE (lentB xs) k e=some b→k < xs.length∧xs[k]? = some b:=fun {k e b} h hb=>by
      unfold getE at h;rw [zem]at h;cases hbk:bs[k]? with
      | none=>rw [hbk]at h;simp [getO]at h
      | some x =>
        rw [hbk]at h;simp only [Option.some.injEq]at h;subst h;have hk:=(List.getElem?_eq_some_iff.1 hbk).1;simp only [blkE,Option.some.injEq]at hb;refine⟨by omega, ?_⟩;rw [← hb,lentB,List.getD_eq_getElem?_getD,List.getElem?_eq_getElem (by omega)];rfl
    obtain⟨h1,h2⟩:=key h hb;obtain⟨h3,h4⟩:=key h' hb';exact (List.getElem?_inj h1 hnd).1 (h2.trans h4.symm)
  lps k e h:=by cases h
  rin k k' e e' h:=by cases h
  ded b hb:=by cases hb
  dn:=by simp
  wf:=⟨fun i=>by
    simp only [zvc];cases hi:args[i]? with
    | none=>rfl
    | some v=>exact List.all_eq_true.1 hw v (List.mem_of_getElem? hi),fun k cs' t' h=>by
      simp only [zem]at h;have hk:=(List.getElem?_eq_some_iff.1 h).1;exact⟨by show k < c.nk;omega,List.all_eq_true.1 hc _ (List.mem_of_getElem? h)⟩,fun k ce sz t h=>(by cases h),fun k x h=>(by cases h),fun k e h=>(by cases h),fun k hk=>(by cases hk),hkw,fun x hx=>(by cases hx)⟩
  kn:=hkn
def Ex.to(ρ:Env):Ex→Exit
 | .normal=>.normal
 | .exit id=>.exit id
 | .ret=>.ret
 | .pan i=>.panic [{v:=(ρ.v i).1,recovered:=false}]
def Ex.ok(c:Ctr):Ex→Prop
 | .pan i=>i < c.nv
 | _=>True
def NxtE(W:Wld)(R:Nat→Loop)(Z:List Nat)(st:St)(ρ:Env)(β:Nat→Nat)(K:Ex→St→Env→Prop)(Q':Exit→Act→World→Prop):Prop :=
 ∀ e st' ρ' β' a' w',K e st' ρ'→e.ok st'.c→st.c.le st'.c→Env.like st.c ρ ρ'→(∀ k,k < st.c.nk→β' k=β k)→Core W R Z ρ' β' st' a' w'→Q' (e.to ρ') a' w'
theorem NxtE.far{st st':St}{ρ ρ':Env}{β β':Nat→Nat}{K:Ex→St→Env→Prop}{Q':Exit→Act→World→Prop}(h:NxtE W R Z st ρ β K Q')(hc:st.c.le st'.c)(hl:Env.like st.c ρ ρ')(hb:∀ k,k < st.c.nk→β' k=β k):NxtE W R Z st' ρ' β' K Q' :=
 fun e s ρ2 β2 a w hk h0 h1 h2 h3 hC=>h e s ρ2 β2 a w hk h0 (Ctr.le_trans hc h1) (Env.like_trans hc hl h2) (fun k hk=>(h3 k (Nat.lt_of_lt_of_le hk hc.k)).trans (hb k hk)) hC
theorem NxtE.st{st st':St}{ρ:Env}{β:Nat→Nat}{K:Ex→St→Env→Prop}{Q':Exit→Act→World→Prop}(h:NxtE W R Z st ρ β K Q')(he:st'.c=st.c):NxtE W R Z st' ρ β K Q' :=
 h.far (by rw [he];exact Ctr.le_refl _) (Env.like_refl _ _) (fun _ _=>rfl)
structure Shut(D:List Nat)(w w':World):Prop where
 os:w'.os=w.os
 tape:w'.tape=w.tape
 output:w'.output=w.output
 size:w'.heap.size=w.heap.size
 block:∀ k,k ∉ D→w'.heap[k]? = w.heap[k]?
theorem znk{r:Option Nat}{n:Nat}{fn:Func}{tmps:Array Value}{T:Ending→World→Prop}:∀ (D:List Nat) (w:World),(∀ b∈D,w.heap[b]? = some (.deferred (some [])))→D.Nodup →
    (∀ w',Shut D w w'→∃ v,(results fn tmps).run P w'=.ok v w'∧T (.returned v) w')→LeavesInM (Fr r) n P fn tmps T (D.map fun b => {target := .collected b,args := #[]}) .returning w
  | [],w,_,_,h=>h w ⟨rfl,rfl,rfl,rfl,fun _ _=>rfl⟩
  | b::D,w,hd,hn,h=>by
    have hb:=hd b (by simp);simp only [List.nodup_cons]at hn;refine⟨by simp,.inl ⟨b,_,rfl,run_takeDeferred hb,znk D _ (fun b' hb' => ?_) hn.2 fun w' hs=>h w' ?_⟩⟩
    · rw [World.putObj_heap_other (fun e=>hn.1 (by rw [← e];exact hb'))];exact hd b' (by simp [hb'])
    · refine⟨hs.os,hs.tape,hs.output,by rw [hs.size];simp,fun k hk => ?_⟩;simp only [List.mem_cons,not_or]at hk;rw [hs.block k hk.2,World.putObj_heap_other hk.1]
theorem Holds.shut{ρ:Env}{β:Nat→Nat}{k:Nat}{w w':World}{D:List Nat}{e:Ent}{c:Ctr}(h:Holds W ρ β k e w)(hw:entWf c k e)(hD:∀ b∈D,w.heap[b]? = some (.deferred (some [])))(hs:Shut D w w'):Holds W ρ β k e w':=by
 refine h.keep hw (Env.like_refl _ _) (fun _ _=>rfl) fun b hb=>hs.block b fun hm => ?_;obtain⟨_,_,o,hc,hd⟩:=h.blk b hb;rw [hD b hm]at hc;cases hc;exact hd
theorem Core.shut{ρ:Env}{β:Nat→Nat}{st:St}{a:Act}{w w':World}(hC:Core W R Z ρ β st a w)(hdf:st.df=[])(hs:Shut (st.d.map β) w w'):Core W R Z ρ β {st with d := []} {a with defers := []} w':=by
 have hD:∀ b∈st.d.map β,w.heap[b]? = some (.deferred (some [])):=fun b hb=>(hC.ded b (List.mem_append.2 (.inr hb))).2;have hdn:=List.nodup_append.1 hC.dn
 refine⟨hC.size,hC.tmps,by simp [closOf,hdf,marksOf],Bel.mk (hs.os.trans hC.below.os) (hs.tape.trans hC.below.tape) (hs.output.trans hC.below.output) (by rw [hs.size];exact hC.below.size) (fun k hk hl => ?_),fun k e hg=>(hC.mem k e hg).shut (hC.wf.ent hg) hD hs,hC.inj,fun k e hg=>⟨(hC.lps k e hg).1, ?_⟩,hC.rin,fun b hb => ?_, ?_,
  ⟨hC.wf.t,hC.wf.m,hC.wf.o,hC.wf.ap,hC.wf.r,fun k hk=>(by cases hk),hC.wf.k,hC.wf.df⟩,hC.kn⟩
 ·rw [hs.block k fun hm => ?_]
  ·exact hC.below.block k hk hl
  ·have:=(hC.ded k (List.mem_append.2 (.inr hm))).1
   omega
 ·rw [hs.block _ fun hm => ?_]
  ·exact (hC.lps k e hg).2
  ·have h1:=hD _ hm;rw [(hC.lps k e hg).2]at h1;cases h1
 ·simp only [List.map_nil,List.append_nil]at hb;refine⟨(hC.ded b (List.mem_append.2 (.inl hb))).1, ?_⟩;rw [hs.block b fun hm=>hdn.2.2 b hb b hm rfl];exact (hC.ded b (List.mem_append.2 (.inl hb))).2
 ·simpa using hdn.1
theorem zti{ρ ρ':Env}{β β':Nat→Nat}{st s':St}{a a':Act}{w w':World}(hC:Core W R Z ρ β st a w)(hC':Core W R (Z++st.d.map β) ρ' β' {s' with d := []} a' w')(hle:st.c.le s'.c)(hl:Env.like st.c ρ ρ')(hb:∀ k,k < st.c.nk→β' k=β k) :
  Core W R Z ρ' β' {t:=st.t,n:=st.n,m:=s'.m,c:=s'.c,o:=s'.o,r:=s'.r,d:=st.d,k:=s'.k,df:=st.df} a w':=by
 have hmap:st.d.map β'=st.d.map β:=List.map_congr_left fun k hk=>hb k (hC.wf.d k hk);refine⟨hC.size,fun i hi => ?_, ?_,hC'.below,hC'.mem,hC'.inj,hC'.lps,hC'.rin,fun b hbm => ?_, ?_,⟨fun i=>SV.wf_le hle (hC.wf.t i),hC'.wf.m,hC'.wf.o,hC'.wf.ap,hC'.wf.r,fun k hk=>Nat.lt_of_lt_of_le (hC.wf.d k hk) hle.k,hC'.wf.k,fun x hx y hy=>Nat.lt_of_lt_of_le (hC.wf.df x hx y hy) hle.k⟩,hC'.kn⟩
 ·rw [hC.tmps i hi];exact congrArg some (SV.den_like hl hb (hC.wf.t i)).symm
 ·rw [hC.dfr,zze hC.wf.df hb];simp only [marksOf];exact congrArg _ (List.map_congr_left fun k hk=>by rw [hb k (hC.wf.d k hk)])
 ·rw [hmap]at hbm;exact hC'.ded b (by simpa using hbm)
 ·rw [hmap];simpa using hC'.dn
theorem zpg{f:FuncId}{fn:Func}{b:Code}{args:Array Value}{w:World}{T:Ending→World→Prop}{n:Nat}(hf:P.funcs[f]? = some fn)(hb:fn.body=some b)
  (h:b.wpIn (Fr none) n P (bodyPostM (Fr none) n P fn T) {tmps:=args++Array.replicate (fn.ntmps - args.size) undef,defers := []} w):Calls P f args w T :=
 zhs.1 (callsIn_of_wp_marks (F:=Fr none) hf hb (zvj none f) h rfl)
theorem znt{r:Option Nat}{n:Nat}{fn:Func}{ρ:Env}{β:Nat→Nat}{s:St}{a:Act}{w:World}{T:Ending→World→Prop}(hC:Core W R Z ρ β s a w)(hdf:s.df=[]){l:List CV}(hr:resOf P s fn.results.toList=some l)
  (h:∀ w',Core W R Z ρ β {s with d := []} {a with defers := []} w'→(resV l).wf s.c=true→T (.returned ((resV l).den ρ β)) w'):LeavesInM (Fr r) n P fn a.tmps T a.defers .returning w:=by
 rw [hC.dfr,hdf];have hd:closOf β []++marksOf β s.d=(s.d.map β).map fun b => {target := .collected b,args := #[]}:=by simp [marksOf,closOf]
 rw [hd];refine znk _ w (fun b hb=>(hC.ded b (List.mem_append.2 (.inr hb))).2) (List.nodup_append.1 hC.dn).2.1 fun w' hs => ?_;have hC':=hC.shut hdf hs
 have hr':resOf P {s with d := []} fn.results.toList=some l:=by
  rw [← hr]
  have:∀ (x:List ResultVar),resOf P {s with d := []} x=resOf P s x:=by
   intro x
   induction x with
   | nil=>rfl
   | cons y x ih=>cases y <;> simp only [resOf,ih]
  exact this _
 obtain⟨q1,q2⟩:=zbf hC' hr';exact⟨_,q1,h w' hC' q2⟩
theorem St.prune_c(n0:Nat)(v:SV)(st:St):(St.prune n0 v st).c=st.c:=by
 unfold St.prune;split <;> rfl
theorem Core.prune{ρ:Env}{β:Nat→Nat}{st:St}{a:Act}{w:World}(hC:Core W R Z ρ β st a w)(n0:Nat)(v:SV):Core W R Z ρ β (St.prune n0 v st) a w:=by
 unfold St.prune;split
 ·exact hC
 ·exact hC.less fun k=>decide (k < n0) || (liveIds st.m st.o 3000 (svIds v++((st.m.filter fun x=>decide (x.1 < n0)).flatMap (fun x=>(idsOf x.2.1).filter fun k=>decide (n0≤k))++(st.o.filter fun x=>decide (x.1 < n0)).flatMap (fun x=>(idsOf (ceCells x.2.1)).filter fun k=>decide (n0≤k)))) []).contains k
theorem Core.slim{ρ:Env}{β:Nat→Nat}{st:St}{a:Act}{w:World}(hC:Core W R Z ρ β st a w):Core W R Z ρ β {st with t:=slimL 0 st.t} a w :=
 ⟨hC.size,fun i h=>by
   have h:getS (slimL 0 st.t) i ≠ .any:=h;show a.tmps[i]? = some ((getS (slimL 0 st.t) i).den ρ β);rw [zgn]at h ⊢;exact hC.tmps i h,hC.dfr,hC.below,hC.mem,hC.inj,hC.lps,hC.rin,hC.ded,hC.dn,
  ⟨fun i=>by
   show (getS (slimL 0 st.t) i).wf st.c=true;rw [zgn];exact hC.wf.t i,hC.wf.m,hC.wf.o,hC.wf.ap,hC.wf.r,hC.wf.d,hC.wf.k,hC.wf.df⟩,hC.kn⟩
def Ex.mode(ρ:Env):Ex→FrameMode
 | .pan i=>.panicking [{v:=(ρ.v i).1,recovered:=false}]
 | _=>.returning
theorem zso{b rest:Code}{d:Tmp}(h:recBody b=some (d,rest)):∃ id ops o,b=.seq (.region id ops false) rest∧ops.toList=[o]∧o.dst=some d∧o.guard=none∧∃ at',o.op=.call ⟨.builtin .recover,#[],at'⟩:=by
 unfold recBody at h;split at h
 ·rename_i id ops rest';generalize hl:ops.toList=l at h;split at h
  ·rename_i d' args at' ty pos aft;split at h
   ·rename_i ha;cases h
    have:args=#[]:=by apply Array.ext';simpa using ha
    subst this;exact⟨_,_,_,rfl,hl,rfl,rfl,_,rfl⟩
   ·cases h
  ·cases h
 ·cases h
theorem zth{G:Cfg}(hG:G.Ok){ex:Code→St→(Ex→St→Env→Prop)→Env→Prop}{c0:Ctr}{ρ0:Env}{β0:Nat→Nat}
    (hE:∀ (c:Code) (st:St) (K:Ex→St→Env→Prop) (ρ:Env),ex c st K ρ→c0.le st.c→Env.like c0 ρ0 ρ→∀ (m:Nat) (β:Nat→Nat) (a:Act) (w:World),(∀ k,k < c0.nk→β k=β0 k)→Core W R Z ρ β st a w→∀ Q':Exit→Act→World→Prop,NxtE W R Z st ρ β K Q'→c.wpIn (Fr none) m G.P Q' a w)
    {fn:Func} {e:Ex} {s:St} {KR:SV→St→Env→Prop} {KP:Nat→St→Env→Prop} {ρ:Env} (h:leave (PA G.P W Q QM QP) G ex fn e s KR KP ρ) (hc0:c0.le s.c) (hl0:Env.like c0 ρ0 ρ) {β:Nat→Nat} {a:Act} {w:World} (hb0:∀ k,k < c0.nk→β k=β0 k) (hC:Core W R Z ρ β s a w) (hok:e.ok s.c) (m:Nat)
    {T:Ending→World→Prop}
    (hR:∀ v s2 ρ2 β2 w2,KR v s2 ρ2→v.wf s2.c=true→v ≠ .any→s.c.le s2.c→Env.like s.c ρ ρ2→(∀ k,k < s.c.nk→β2 k=β k)→Core W R Z ρ2 β2 {s2 with d := []} {a with defers := []} w2→T (.returned (v.den ρ2 β2)) w2)
    (hP:∀ i s2 ρ2 β2 w2,KP i s2 ρ2→i < s2.c.nv→s.c.le s2.c→Env.like s.c ρ ρ2→(∀ k,k < s.c.nk→β2 k=β k)→Core W R Z ρ2 β2 {s2 with d := []} {a with defers := []} w2→T (.panicked [{v:=(ρ2.v i).1,recovered:=false}]) w2) :
    (∀ id,e ≠ .exit id)∧LeavesInM (Fr none) m G.P fn a.tmps T a.defers (e.mode ρ) w:=by
  unfold leave at h;generalize hdf:s.df=df at h;split at h
  ·
    have fin:(match resOf G.P s fn.results.toList with
        | some l=>KR (resV l) s
        | none => (PA G.P W Q QM QP).fail "leave: results") ρ → LeavesInM (Fr none) m G.P fn a.tmps T a.defers .returning w := fun hk => by
      generalize hr:resOf G.P s fn.results.toList=u at hk;cases u with
      | none=>exact hk.elim
      | some l=>exact znt hC hdf hr fun w3 hC4 hwl=>hR (resV l) s ρ β w3 hk hwl (zng l) (Ctr.le_refl _) (Env.like_refl _ _) (fun _ _=>rfl) hC4
    cases e with
    | exit id=>exact h.elim
    | normal=>exact⟨by simp,fin h⟩
    | ret=>exact⟨by simp,fin h⟩
    | pan i =>
      refine⟨by simp, ?_⟩;simp only at h;generalize hd:s.d=d at h;cases d with
      | cons _ _=>exact h.elim
      | nil =>
        have he:a.defers=[]:=by rw [hC.dfr,hdf,hd];rfl
        rw [he];show LeavesIn (Fr none) m G.P fn a.tmps T [] (.panicking [{v:=(ρ.v i).1,recovered:=false}]) w;refine hP i s ρ β w h hok (Ctr.le_refl _) (Env.like_refl _ _) (fun _ _=>rfl) ?_
        have:=hC.shut hdf (w':=w) ⟨rfl,rfl,rfl,rfl,fun _ _=>rfl⟩
        exact this
  ·
    rename_i g caps;generalize hd:s.d=d at h;generalize hgf:G.P.funcs[g]? = gf at h;split at h;rotate_left
    · exact h.elim
    rename_i gn;generalize hgb:gn.body=gb at h;split at h;rotate_left
    · exact h.elim
    rename_i b;generalize hrb:recBody b=rb at h;split at h;rotate_left
    · exact h.elim
    rename_i dst rest;split at h;rotate_left
    · exact h.elim
    rename_i hcond;obtain⟨hres,hinl⟩:=hcond;simp only at h
    have hargs:((caps.map locSV).map (SV.den ρ β)).toArray=(caps.map fun c=>(.pointer (some ⟨β c.1,c.2,none⟩):Value)).toArray:=by
      congr 1;simp [locSV,SV.den,CV.den,At.den,Function.comp_def]
    have hwa:(caps.map locSV).all (SV.wf s.c)=true:=List.all_eq_true.2 fun x hx=>by
      obtain⟨y,hy,rfl⟩:=List.mem_map.1 hx;exact decide_eq_true (hC.wf.df _ (by rw [hdf];exact List.mem_cons_self ..) y hy)
    have hent:=zvn (n:=gn.ntmps) hC hwa;rw [hd]at hent;simp only [List.map_nil,List.append_nil]at hent;obtain⟨id,ops,o,hb1,hb2,hb3,hb4,at',hb5⟩:=zso hrb
    have key:∀ (rv:SV) (u u':FrameMode),u ≠ .run→settle u'=.returning→rv.wf s.c=true→rv ≠ .any→(∀ (c₀:Frame) (cs:List Frame),c₀.mode=u→(recoverD (c₀::cs)=some (rv.den ρ β,{c₀ with mode:=u'}::cs))∨(recoverD (c₀::cs)=none∧rv.den ρ β=.nilIface∧u'=u)) →
        (St.put (PA G.P W Q QM QP) {t:=(List.range (caps.map locSV).length).zip (caps.map locSV),n:=(caps.map locSV).length + (gn.ntmps - (caps.map locSV).length),m:=s.m,c:=s.c,o:=s.o,r:=s.r,d := [],k:=s.k} (some dst) rv s.c fun s1 =>
          ex rest s1 fun e2 s2=>match e2 with
            | .normal=>match s2.d,s2.df with
              | [],[]=>match resOf G.P {t:=s.t,n:=s.n,m:=s2.m,c:=s2.c,o:=s2.o,r:=s2.r,d := [],k:=s2.k} fn.results.toList with
                | some l=>KR (resV l) {t:=s.t,n:=s.n,m:=s2.m,c:=s2.c,o:=s2.o,r:=s2.r,d := [],k:=s2.k}
                | none => (PA G.P W Q QM QP).fail "leave: results"
              | _, _ => (PA G.P W Q QM QP).fail "leave: closure"
            | .ret=>match s2.d,s2.df with
              | [],[]=>match resOf G.P {t:=s.t,n:=s.n,m:=s2.m,c:=s2.c,o:=s2.o,r:=s2.r,d := [],k:=s2.k} fn.results.toList with
                | some l=>KR (resV l) {t:=s.t,n:=s.n,m:=s2.m,c:=s2.c,o:=s2.o,r:=s2.r,d := [],k:=s2.k}
                | none => (PA G.P W Q QM QP).fail "leave: results"
              | _, _ => (PA G.P W Q QM QP).fail "leave: closure"
            | _ => (PA G.P W Q QM QP).fail "leave: closure") ρ → LeavesInM (Fr none) m G.P fn a.tmps T a.defers u w := by
      intro rv u u' hu hset hrw hra hrec h
      have he:a.defers=[{target := .fn (.func g) (caps.map fun c=>(.pointer (some ⟨β c.1,c.2,none⟩):Value)).toArray,args := #[]}]:=by
        rw [hC.dfr,hdf,hd];rfl
      rw [he];refine⟨hu,.inr ⟨zsi,.func g,_,g,(caps.map fun c=>(.pointer (some ⟨β c.1,c.2,none⟩):Value)).toArray,rfl, ?_,fun g' _=>zvj none g', ?_⟩⟩
      · simp only [invoke];rw [show (#[]:Array Value)++(caps.map fun c=>(.pointer (some ⟨β c.1,c.2,none⟩):Value)).toArray=(caps.map fun c=>(.pointer (some ⟨β c.1,c.2,none⟩):Value)).toArray from by simp];exact hG.inl g hinl _ w
      refine callsDIn_of_wpSIn hgf hgb (zvj none g) fun c₀ cs hm => ?_;rw [hb1];refine wpSIn_seq (wpSIn_region ?_);have hsz:ops.size=1:=by rw [← Array.length_toList,hb2];rfl
      have hops:ops=#[o]:=by apply Array.ext';rw [hb2]
      subst hops;rw [show List.range (#[o]:Array Oper).size=[0] from rfl]
      have hrun:∀ ev:Operand→Value,(execOp ev o).run G.P w=.ok .recover w:=fun ev=>by
        simp [execOp,hb5,resolve,invoke,builtin]
      unfold wpOpsSIn;simp only [List.getElem?_toArray,List.getElem?_cons_zero];refine⟨fun f _=>zvj none f, ?_⟩;rw [if_pos (by simp [Region.wanted,hb4]),hrun];simp only
      have go:∀ cs',cs' = {c₀ with mode:=u'}::cs→wpOpsSIn (Fr none) (m - 1) G.P #[o] (Exit.thenS (rest.wpSIn (Fr none) (m - 1) G.P (bodyPostS G.P gn c₀ cs fun
          | .returned _,u',w'=>LeavesInM (Fr none) m G.P fn a.tmps T [] (settle u') w'
          | .panicked chain,u',w'=>LeavesInM (Fr none) m G.P fn a.tmps T [] (raised u' chain) w'
          | .outgrown,_,w'=>T .outgrown w')) (bodyPostS G.P gn c₀ cs fun
          | .returned _,u',w'=>LeavesInM (Fr none) m G.P fn a.tmps T [] (settle u') w'
          | .panicked chain,u',w'=>LeavesInM (Fr none) m G.P fn a.tmps T [] (raised u' chain) w'
          | .outgrown,_,w'=>T .outgrown w')) [] ((⟨(caps.map fun c=>(.pointer (some ⟨β c.1,c.2,none⟩):Value)).toArray++Array.replicate (gn.ntmps - (caps.map fun c=>(.pointer (some ⟨β c.1,c.2,none⟩):Value)).toArray.size) undef,[]⟩:Act).put o.dst (rv.den ρ β)) cs' w:=by
        intro cs' hcs;subst hcs;refine wpSIn_of_wpIn rfl ?_;rw [← hargs,hb3];refine zld (st0:=s) (ρ0:=ρ) h hent (Ctr.le_refl _) (Ctr.le_refl _) (Env.like_refl _ _) (fun _ _=>rfl) (fun _=>rfl) (next:=fun a' w'=>rest.wpIn (Fr none) (m - 1) G.P _ a' w') ?_;intro s1 ρ1 β1 a1 w1 hk1 h1 h2 h3 hC1;refine hE rest s1 _ ρ1 hk1 (Ctr.le_trans hc0 h1) (Env.like_trans hc0 hl0 h2) (m - 1) β1 a1 w1 (fun k hk=>(h3 k (Nat.lt_of_lt_of_le hk hc0.k)).trans (hb0 k hk)) hC1 _ ?_;intro e2 s2 ρ2 β2 a2 w2 hk2 _ g1 g2 g3 hC2;have q1:s.c.le s2.c:=Ctr.le_trans h1 g1;have q2:Env.like s.c ρ ρ2:=Env.like_trans h1 h2 g2;have q3:∀ k,k < s.c.nk→β2 k=β k:=fun k hk=>(g3 k (Nat.lt_of_lt_of_le hk h1.k)).trans (h3 k hk)
        have back:(match s2.d,s2.df with
              | [],[]=>match resOf G.P {t:=s.t,n:=s.n,m:=s2.m,c:=s2.c,o:=s2.o,r:=s2.r,d := [],k:=s2.k} fn.results.toList with
                | some l=>KR (resV l) {t:=s.t,n:=s.n,m:=s2.m,c:=s2.c,o:=s2.o,r:=s2.r,d := [],k:=s2.k}
                | none => (PA G.P W Q QM QP).fail "leave: results"
              | _, _ => (PA G.P W Q QM QP).fail "leave: closure") ρ2 → a2.defers = [] ∧ ∃ u2, { c₀ with mode := u' } :: cs = { c₀ with mode := u2 } :: cs ∧ ∃ v, (results gn a2.tmps).run G.P w2 = .ok v w2 ∧ LeavesInM (Fr none) m G.P fn a.tmps T [] (settle u2) w2 := by
          intro hk;generalize hd2:s2.d=d2 at hk;generalize hf2:s2.df=f2 at hk;split at hk
          · generalize hr:resOf G.P {t:=s.t,n:=s.n,m:=s2.m,c:=s2.c,o:=s2.o,r:=s2.r,d := [],k:=s2.k} fn.results.toList=ur at hk;cases ur with
            | none=>exact hk.elim
            | some l =>
              have hdf2:a2.defers=[]:=by rw [hC2.dfr,hd2,hf2];rfl
              have hz:=(zbf (P:=G.P) (fn:=gn) hC2 (cs := []) (by rw [hres];rfl)).1;refine⟨hdf2,u',rfl,_,hz, ?_⟩;rw [hset]
              have hs2:Core W R (Z++s.d.map β) ρ2 β2 {s2 with d := []} a2 w2:=by
                rw [hd];simp only [List.map_nil,List.append_nil]
                have:({s2 with d := []}:St)=s2:=by rw [← hd2]
                rw [this];exact hC2
              have hbk:=zti hC hs2 q1 q2 q3
              have hfin:Core W R Z ρ2 β2 {t:=s.t,n:=s.n,m:=s2.m,c:=s2.c,o:=s2.o,r:=s2.r,d := [],k:=s2.k} {a with defers := []} w2:=by
                have hbk':=hbk;rw [hd]at hbk';exact⟨hbk'.size,hbk'.tmps,rfl,hbk'.below,hbk'.mem,hbk'.inj,hbk'.lps,hbk'.rin,hbk'.ded,hbk'.dn,⟨hbk'.wf.t,hbk'.wf.m,hbk'.wf.o,hbk'.wf.ap,hbk'.wf.r,hbk'.wf.d,hbk'.wf.k,fun x hx=>by cases hx⟩,hbk'.kn⟩
              obtain⟨r1,r2⟩:=zbf (fn:=fn) hfin hr;exact⟨_,r1,hR (resV l) _ ρ2 β2 w2 hk r2 (zng l) q1 q2 q3 hfin⟩
          · exact hk.elim
        cases e2 with
        | normal=>exact back hk2
        | ret=>exact back hk2
        | exit id=>exact hk2.elim
        | pan i=>exact hk2.elim
      rcases hrec c₀ cs hm with h1 | ⟨h1,h2,h3⟩
      · rw [h1];exact go _ rfl
      · rw [h1];simp only;rw [← h2];refine go _ ?_;subst h3;rw [← hm]
    cases e with
    | exit id=>exact h.elim
    | normal =>
      refine⟨by simp, ?_⟩;exact key (.cv (.one .nili)) .returning .returning (by simp) rfl rfl (by simp) (fun c₀ cs hm=>.inr ⟨by simp [recoverD,hm],rfl,rfl⟩) h
    | ret =>
      refine⟨by simp, ?_⟩;exact key (.cv (.one .nili)) .returning .returning (by simp) rfl rfl (by simp) (fun c₀ cs hm=>.inr ⟨by simp [recoverD,hm],rfl,rfl⟩) h
    | pan i =>
      refine⟨by simp, ?_⟩;simp only at h;by_cases hi:(findI s.k i).isSome=true
      · rw [if_pos hi]at h;exact key (.cv (.one (.val i))) (.panicking [{v:=(ρ.v i).1,recovered:=false}]) (.panicking [{v:=(ρ.v i).1,recovered:=true}]) (by simp) rfl (decide_eq_true hok) (by simp) (fun c₀ cs hm=>.inl (by simp [recoverD,hm];rfl)) h
      · rw [if_neg hi]at h;exact h.elim
  · exact h.elim
end Vc
set_option linter.unusedVariables false
namespace Vc
open Go Go.RowKit
variable {P:Program} {W:Wld} {Q:Value→Prop} {QM QP:World→Value→Prop} {R:Nat→Loop} {Z:List Nat}
theorem zkq{o:OMem}{a:At}{l:List At}{k:CK}{ks:List CK}(h:kindsOf o (a::l)=some (k::ks)):kindOf o a=some k∧kindsOf o l=some ks:=by
 simp only [kindsOf]at h;split at h
 ·rename_i k' r h1 h2;simp only [Option.some.injEq,List.cons.injEq]at h;exact⟨h.1▸h1,h.2▸h2⟩
 ·cases h
theorem zfm(c:Ctr)(k:CK):c.nk≤(freshC c k).nk:=(zx c k).k
theorem zdd:∀ (ks:List CK) (c:Ctr) {k:Nat} {x:CE × Nat × TypeId},getO (freshO c ks) k=some x→c.nk≤k∧k + 3 < (freshLC c ks).nk∧k∈ownIds (freshL c ks)∧∃ n,x.1=[.var n]∧n < (freshLC c ks).nl
  | [],c,k,x,h=>by cases h
  | kd::l,c,k,x,h=>by
    have plain:getO (freshO (freshC c kd) l) k=some x→c.nk≤k∧k + 3 < (freshLC c (kd::l)).nk∧k∈ownIds (freshL (freshC c kd) l)∧∃ n,x.1=[.var n]∧n < (freshLC c (kd::l)).nl:=fun h=>by
      obtain⟨h1,h2,h3,h4⟩:=zdd l _ h;exact⟨Nat.le_trans (zfm c kd) h1,h2,h3,h4⟩
    cases kd <;> first
      | (obtain⟨h1,h2,h3,h4⟩:=plain h;exact⟨h1,h2,h3,h4⟩)
      | skip
    rename_i sz t;simp only [freshO,zda]at h;by_cases hk:c.nk=k
    · rw [if_pos hk]at h;cases h;subst hk
      have:=(zeb l (freshC c (.own sz t))).k
      have h2:=(zeb l (freshC c (.own sz t))).l;exact⟨Nat.le_refl _,by simp only [freshLC,freshC]at this ⊢;omega,by simp [freshL,fresh1,ownIds],c.nl,rfl,by simp only [freshLC,freshC]at h2 ⊢;omega⟩
    · rw [if_neg hk]at h;obtain⟨h1,h2,h3,h4⟩:=plain h;exact⟨h1,h2,by simp only [freshL,fresh1,ownIds];exact List.mem_cons_of_mem _ h3,h4⟩
def RowEq(fo oy:OMem)(ρ' ρ2:Env)(β' β:Nat→Nat)(k' k:Nat):Prop :=
 (β' k'=β k∧β' (k' + 1)=β (k + 1)∧β' (k' + 2)=β (k + 2)∧β' (k' + 3)=β (k + 3)) ∧
  ∃ n ce sz t,getO fo k'=some ([.var n],sz,t)∧getO oy k=some (ce,sz,t)∧ceDen ρ' β' [.var n]=ceDen ρ2 β ce
theorem zzf(fo oy:OMem)(ρ2:Env)(β:Nat→Nat):∀ (ks:List CK) (c:Ctr) {k:Env→Prop} {ρ:Env} (βc:Nat→Nat) (ys:List At),(∀ j x,getO (freshO c ks) j=some x→getO fo j=some x)→allA fo (freshL c ks) k ρ→kindsOf oy ys=some ks →
    ∃ ρ' β',k ρ'∧Env.like c ρ ρ'∧(∀ j,j < c.nk→β' j=βc j)∧(freshL c ks).map (At.den ρ' β')=ys.map (At.den ρ2 β)∧(freshL c ks).map (vl fo ρ')=ys.map (vl oy ρ2) ∧
      (ownIds (freshL c ks)).length=(ownIds ys).length∧(∀ p∈(ownIds (freshL c ks)).zip (ownIds ys),RowEq fo oy ρ' ρ2 β' β p.1 p.2)∧(∀ j∈ownIds (freshL c ks),c.nk≤j)∧(ownIds (freshL c ks)).Nodup
  | [],c,k,ρ,βc,ys,_,h,hk=>by
    cases ys with
    | nil=>exact⟨ρ,βc,h,Env.like_refl _ _,fun _ _=>rfl,rfl,rfl,rfl,fun p hp=>(by cases hp),fun j hj=>(by cases hj),by simp [ownIds,freshL]⟩
    | cons y r =>
      simp only [kindsOf]at hk;split at hk <;> simp at hk
  | kd::l,c,k,ρ,βc,ys,hfo,h,hk=>by
    cases ys with
    | nil=>simp [kindsOf]at hk
    | cons y r =>
      obtain⟨h1,h2⟩:=zkq hk
      have fin:kd.plain=true→ownIds (y::r)=ownIds r→∀ {ρ1:Env},allA fo (freshL (freshC c kd) l) k ρ1→Env.like c ρ ρ1→(fresh1 c kd).den ρ1 b0=y.den ρ2 β→vl fo ρ1 (fresh1 c kd)=vl oy ρ2 y→(∀ ρ',Env.like (freshC c kd) ρ1 ρ'→vl fo ρ' (fresh1 c kd)=vl fo ρ1 (fresh1 c kd)) →
          ∃ ρ' β',k ρ'∧Env.like c ρ ρ'∧(∀ j,j < c.nk→β' j=βc j)∧(freshL c (kd::l)).map (At.den ρ' β')=(y::r).map (At.den ρ2 β)∧(freshL c (kd::l)).map (vl fo ρ')=(y::r).map (vl oy ρ2) ∧
            (ownIds (freshL c (kd::l))).length=(ownIds (y::r)).length∧(∀ p∈(ownIds (freshL c (kd::l))).zip (ownIds (y::r)),RowEq fo oy ρ' ρ2 β' β p.1 p.2)∧(∀ j∈ownIds (freshL c (kd::l)),c.nk≤j)∧(ownIds (freshL c (kd::l))).Nodup:=by
        intro hpl hown ρ1 ha hl he hv hvl;have hfo':∀ j x,getO (freshO (freshC c kd) l) j=some x→getO fo j=some x:=fun j x hj=>hfo j x (by cases kd <;> first | exact hj | cases hpl);have hnk:(freshC c kd).nk=c.nk:=by cases kd <;> first | rfl | cases hpl
        obtain⟨ρ',β',q1,q2,q3,q4,q5,q6,q7,q8,q9⟩:=zzf fo oy ρ2 β l _ βc r hfo' ha h2;have ho:ownIds (freshL c (kd::l))=ownIds (freshL (freshC c kd) l):=by cases kd <;> first | rfl | cases hpl
        refine⟨ρ',β',q1,Env.like_trans (zx c kd) hl q2,fun j hj=>q3 j (by omega), ?_, ?_,by rw [ho,hown];exact q6,by rw [ho,hown];exact q7,by rw [ho];exact fun j hj=>by have:=q8 j hj;omega,by rw [ho];exact q9⟩
        · simp only [freshL,List.map_cons,q4];rw [At.den_flat ρ' β' b0 (zve c kd hpl),At.den_like q2 (β:=b0) (fun _ _=>rfl) (zli c kd),he]
        · simp only [freshL,List.map_cons,q5];rw [hvl ρ' q2,hv]
      cases kd with
      | int kk =>
        cases y <;> simp only [kindOf,reduceCtorEq,Option.some.injEq,CK.int.injEq]at h1
        · rename_i k2 e;subst h1;refine fin rfl rfl (h (e.den ρ2)) (zsc c ρ _) ?_ ?_ ?_
          · simp [fresh1,At.den,IE.den,Env.setI]
          · simp [fresh1,vl,IE.den,Env.setI]
          · intro ρ' hl;show Vl.i (ρ'.i c.ni)=Vl.i _;rw [hl.i c.ni (Nat.lt_succ_self _)];rfl
        · split at h1
          · split at h1 <;> simp at h1
          · cases h1
      | bool =>
        cases y <;> simp only [kindOf,reduceCtorEq,Option.some.injEq]at h1
        · rename_i e;refine fin rfl rfl (h (e.den ρ2)) (zjp c ρ _) ?_ ?_ ?_
          · simp [fresh1,At.den,BE.den,Env.setB]
          · simp [fresh1,vl,BE.den,Env.setB]
          · intro ρ' hl;show Vl.b (ρ'.b c.nb)=Vl.b _;rw [hl.b c.nb (Nat.lt_succ_self _)];rfl
        · split at h1
          · split at h1 <;> simp at h1
          · cases h1
      | oth =>
        cases y <;> simp only [kindOf,reduceCtorEq,Option.some.injEq]at h1
        · rename_i e;refine fin rfl rfl (h (ρ2.v e)) (zpf c ρ _) ?_ ?_ ?_
          · simp [fresh1,At.den,Env.setV]
          · simp [fresh1,vl,At.den,Env.setV]
          · intro ρ' hl;show Vl.v (ρ'.v c.nv).1=Vl.v _;rw [hl.v c.nv (Nat.lt_succ_self _)];rfl
        · split at h1
          · split at h1 <;> simp at h1
          · cases h1
      | str =>
        have two:∀ ρ':Env,Env.like (freshC c .str) ρ ρ'→True:=fun _ _=>trivial;cases y <;> simp only [kindOf,reduceCtorEq,Option.some.injEq]at h1
        · rename_i x;refine fin rfl rfl (h x) (zqf c ρ _) ?_ ?_ ?_
          · simp [fresh1,At.den,Env.setS]
          · simp [fresh1,vl,Env.setS]
          · intro ρ' hl;show Vl.s (ρ'.s c.ns)=Vl.s _;rw [hl.s c.ns (Nat.lt_succ_self _)]
        · rename_i x;refine fin rfl rfl (h (ρ2.s x)) (zqf c ρ _) ?_ ?_ ?_
          · simp [fresh1,At.den,Env.setS]
          · simp [fresh1,vl,Env.setS]
          · intro ρ' hl;show Vl.s (ρ'.s c.ns)=Vl.s _;rw [hl.s c.ns (Nat.lt_succ_self _)]
        · split at h1
          · split at h1 <;> simp at h1
          · cases h1
      | sl sz =>
        cases y <;> simp only [kindOf,reduceCtorEq,Option.some.injEq,CK.sl.injEq]at h1
        · rename_i q p s len cap;subst h1
          have hd:∀ ρ':Env,ρ'.b c.nb=ρ2.b q→ρ'.p c.np=ρ2.p p→ρ'.i c.ni=len.den ρ2→ρ'.i (c.ni + 1)=cap.den ρ2→∀ β1,(fresh1 c (.sl s)).den ρ' β1=(At.qsl q p s len cap).den ρ2 β:=fun ρ' e1 e2 e3 e4 β1=>by
            simp only [fresh1,At.den,IE.den,e1,e2,e3,e4]
          have hs:=h (ρ2.b q) (ρ2.p p) (len.den ρ2) (cap.den ρ2);have g1:((((ρ.setB c.nb (ρ2.b q)).setP c.np (ρ2.p p)).setI c.ni (len.den ρ2)).setI (c.ni + 1) (cap.den ρ2)).b c.nb=ρ2.b q:=if_pos rfl;have g2:((((ρ.setB c.nb (ρ2.b q)).setP c.np (ρ2.p p)).setI c.ni (len.den ρ2)).setI (c.ni + 1) (cap.den ρ2)).p c.np=ρ2.p p:=if_pos rfl
          have g3:((((ρ.setB c.nb (ρ2.b q)).setP c.np (ρ2.p p)).setI c.ni (len.den ρ2)).setI (c.ni + 1) (cap.den ρ2)).i c.ni=len.den ρ2:=by
            show (if c.ni=c.ni + 1 then _ else if c.ni=c.ni then _ else _)=_;rw [if_neg (by omega),if_pos rfl]
          have g4:((((ρ.setB c.nb (ρ2.b q)).setP c.np (ρ2.p p)).setI c.ni (len.den ρ2)).setI (c.ni + 1) (cap.den ρ2)).i (c.ni + 1)=cap.den ρ2:=if_pos rfl;refine fin rfl rfl hs (zkp c ρ _ _ _ _) (hd _ g1 g2 g3 g4 b0) ?_ ?_
          · show Vl.v ((fresh1 c (.sl s)).den _ b0)=Vl.v ((At.qsl q p s len cap).den ρ2 b0);rw [hd _ g1 g2 g3 g4 b0];rfl
          · intro ρ' hl;show Vl.v ((fresh1 c (.sl s)).den ρ' b0)=Vl.v ((fresh1 c (.sl s)).den _ b0);rw [hd ρ' (by rw [hl.b c.nb (Nat.lt_succ_self _),g1]) (by rw [hl.p c.np (Nat.lt_succ_self _),g2]) (by rw [hl.i c.ni (by simp [freshC]),g3]) (by rw [hl.i (c.ni + 1) (by simp [freshC]),g4]) b0,hd _ g1 g2 g3 g4 b0]
        · split at h1
          · split at h1 <;> simp at h1
          · cases h1
      | own sz t =>
        cases y <;> simp only [kindOf,reduceCtorEq,Option.some.injEq]at h1;rename_i k0;split at h1
        · rename_i ce sz' t' hg;split at h1
          · rename_i hfl;simp only [Option.some.injEq,CK.own.injEq]at h1;obtain⟨rfl,rfl⟩:=h1;have hf:=hfo c.nk ([.var c.nl],sz',t') (by simp [freshO,zda])
            have hh:∀ x:List OV,allA fo (freshL (freshC c (.own sz' t')) l) k (ρ.setL c.nl x):=by
              have:=h
              simp only [freshL,fresh1,allA,hf]at this;exact this
            have hL:=hh ((ceDen ρ2 β ce).attach.map fun x=>⟨x.1,zib ρ2 β ce x.1 x.2⟩)
            have hmap:(((ceDen ρ2 β ce).attach.map fun x=>(⟨x.1,zib ρ2 β ce x.1 x.2⟩:OV)).map (·.1))=ceDen ρ2 β ce:=by
              rw [List.map_map];exact List.attach_map_subtype_val _
            have hfo':∀ j x,getO (freshO (freshC c (.own sz' t')) l) j=some x→getO fo j=some x:=fun j x hj=>hfo j x (by
              simp only [freshO,zda]
              have:=(zdd l _ hj).1
              simp only [freshC]at this;rw [if_neg (by omega)];exact hj)
            let β1:Nat→Nat:=fun j=>if j=c.nk then β k0 else if j=c.nk + 1 then β (k0 + 1)else if j=c.nk + 2 then β (k0 + 2)else if j=c.nk + 3 then β (k0 + 3)else βc j;obtain⟨ρ',β',q1,q2,q3,q4,q5,q6,q7,q8,q9⟩:=zzf fo oy ρ2 β l (freshC c (.own sz' t')) β1 r hfo' hL h2;have hl1:=zia c ρ ((ceDen ρ2 β ce).attach.map fun x=>⟨x.1,zib ρ2 β ce x.1 x.2⟩);have r0:β' c.nk=β k0:=by rw [q3 _ (by simp [freshC])];exact if_pos rfl
            have r1:β' (c.nk + 1)=β (k0 + 1):=by
              rw [q3 _ (by simp [freshC])];show (if c.nk + 1=c.nk then _ else if c.nk + 1=c.nk + 1 then _ else _)=_;rw [if_neg (by omega),if_pos rfl]
            have r2:β' (c.nk + 2)=β (k0 + 2):=by
              rw [q3 _ (by simp [freshC])];show (if c.nk + 2=c.nk then _ else if c.nk + 2=c.nk + 1 then _ else if c.nk + 2=c.nk + 2 then _ else _)=_;rw [if_neg (by omega),if_neg (by omega),if_pos rfl]
            have r3:β' (c.nk + 3)=β (k0 + 3):=by
              rw [q3 _ (by simp [freshC])];show (if c.nk + 3=c.nk then _ else if c.nk + 3=c.nk + 1 then _ else if c.nk + 3=c.nk + 2 then _ else if c.nk + 3=c.nk + 3 then _ else _)=_;rw [if_neg (by omega),if_neg (by omega),if_neg (by omega),if_pos rfl]
            have hvar:ρ'.l c.nl=((ceDen ρ2 β ce).attach.map fun x=>(⟨x.1,zib ρ2 β ce x.1 x.2⟩:OV)):=by
              rw [q2.l c.nl (by simp [freshC])];exact if_pos rfl
            have hce:∀ βx,ceDen ρ' βx [.var c.nl]=ceDen ρ2 β ce:=fun βx=>by
              simp only [ceDen,Sg.den,List.append_nil,hvar];exact hmap
            refine⟨ρ',β',q1,Env.like_trans (zx c (.own sz' t')) hl1 q2,fun j hj => ?_, ?_, ?_, ?_,fun p hp => ?_,fun j hj => ?_, ?_⟩
            · rw [q3 j (by simp only [freshC];omega)];show (if j=c.nk then _ else if j=c.nk + 1 then _ else if j=c.nk + 2 then _ else if j=c.nk + 3 then _ else βc j)=βc j;rw [if_neg (by omega),if_neg (by omega),if_neg (by omega),if_neg (by omega)]
            · simp only [freshL,fresh1,List.map_cons,q4,At.den,r0,r1,r2,r3]
            · simp only [freshL,fresh1,List.map_cons,q5,vl,hf,hg];rw [hce b0,zlc ρ2 β b0 hfl]
            · simp only [freshL,fresh1,ownIds,List.length_cons,q6]
            · simp only [freshL,fresh1,ownIds,List.zip_cons_cons,List.mem_cons]at hp;rcases hp with rfl | hp
              · exact⟨⟨r0,r1,r2,r3⟩,c.nl,ce,sz',t',hf,hg,hce β'⟩
              · exact q7 p hp
            · simp only [freshL,fresh1,ownIds,List.mem_cons]at hj;rcases hj with rfl | hj
              · exact Nat.le_refl _
              · have:=q8 j hj
                simp only [freshC]at this;omega
            · simp only [freshL,fresh1,ownIds,List.nodup_cons];refine⟨fun hm => ?_,q9⟩
              have:=q8 _ hm
              simp only [freshC]at this;omega
          · cases h1
        · cases h1
theorem zwc{i:Nat}:∀ (slots:List Nat) (vs:List CV) (l:List At) (t:List (Nat × SV)),i ∉ slots→getS (writeS t slots vs l) i=getS t i
  | [],vs,l,t,_=>by cases vs <;> rfl
  | s::r,[],l,t,_=>rfl
  | s::r,v::vs,l,t,h=>by
    simp only [List.mem_cons,not_or]at h;simp only [writeS];rw [zwc r vs _ _ h.2,zq,if_neg (fun e=>h.1 e.symm)]
theorem zui(t:List (Nat × SV))(i:Nat):∀ kill:List Nat,getS (killS t kill) i=.any∨getS (killS t kill) i=getS t i
  | []=>.inr rfl
  | s::r=>by
    simp only [killS,zq];by_cases h:s=i
    · rw [if_pos h];exact .inl rfl
    · rw [if_neg h];exact zui t i r
theorem zlq{tS:List (Nat × SV)}{ρ' ρ2:Env}{β' β:Nat→Nat}{i:Nat}:∀ (slots:List Nat) (vs vs':List CV) (l:List At) (t:List (Nat × SV)) (rest:List At),readS tS slots=some vs'→vs'.map CV.shape=vs.map CV.shape →
    l.map (At.den ρ' β')=(vs'.flatMap CV.cells++rest).map (At.den ρ2 β)→i∈slots→∃ u v',getS (writeS t slots vs l) i=.cv u∧getS tS i=.cv v'∧u.den ρ' β'=v'.den ρ2 β
  | [],_,_,_,_,_,_,_,_,h=>by cases h
  | s::r,vs,vs',l,t,rest,hr,hs,hl,hi=>by
    simp only [readS]at hr;split at hr
    · rename_i v' vr h1 h2;simp only [Option.some.injEq]at hr;subst hr;cases vs with
      | nil=>simp at hs
      | cons v vs =>
        simp only [List.map_cons,List.cons.injEq]at hs;simp only [writeS]
        have hlen:v'.cells.length=v.cells.length:=by
          have h3:=hs.1;cases v <;> cases v' <;> simp_all [CV.shape,CV.cells]
        have hl2:(l.drop v.cells.length).map (At.den ρ' β')=(vr.flatMap CV.cells++rest).map (At.den ρ2 β):=by
          rw [List.map_drop,hl,← List.map_drop];congr 1;simp only [List.flatMap_cons,List.append_assoc];rw [← hlen,List.drop_left]
        by_cases hir:i∈r
        · exact zlq r vs vr _ _ rest h2 hs.2 hl2 hir
        · have:i=s:=by simpa [hir]using hi
          subst this;refine⟨cvLike v l,v', ?_,h1, ?_⟩
          · rw [zwc r vs _ _ hir,zq,if_pos rfl]
          · have hl3:(l.take v.cells.length).map (At.den ρ' β')=v'.cells.map (At.den ρ2 β):=by
              rw [List.map_take,hl,← List.map_take];congr 1;simp only [List.flatMap_cons,List.append_assoc];rw [← hlen,List.take_left]
            have h3:=hs.1;cases v with
            | one a=>cases v' with
              | agg x=>simp [CV.shape]at h3
              | one a' =>
                simp only [CV.cells,List.length_cons,List.length_nil,List.map_cons,List.map_nil]at hl3;cases l with
                | nil=>simp at hl3
                | cons b l=>simpa [cvLike,CV.den]using hl3
            | agg x=>cases v' with
              | one a=>simp [CV.shape]at h3
              | agg y =>
                simp only [CV.cells]at hl3;simp only [cvLike,CV.den,hl3]
    · cases hr
theorem zqa:∀ (free:List (Nat × Nat)) (m:Mem) (l:List At) {k:Nat} {cs1:List At} {t:TypeId},getM (writeM m free l) k=some (cs1,t) →
    ∃ cs0,getM m k=some (cs0,t)∧cs0.length=cs1.length∧∀ o,(k,o) ∉ free→cs0[o]? = cs1[o]?
  | [],m,l,k,cs1,t,h=>⟨cs1,by cases l <;> exact h,rfl,fun _ _=>rfl⟩
  | (j,p)::r,m,[],k,cs1,t,h=>⟨cs1,h,rfl,fun _ _=>rfl⟩
  | (j,p)::r,m,a::l,k,cs1,t,h=>by
    simp only [writeM]at h;split at h
    · rename_i cs ty hg;obtain⟨cs0,h1,h2,h3⟩:=zqa r _ l h;rw [zsa]at h1;by_cases hj:j=k
      · subst hj;rw [if_pos rfl,hg]at h1;simp only [Option.map_some,Option.some.injEq,Prod.mk.injEq]at h1;obtain⟨rfl,rfl⟩:=h1;refine⟨cs,hg,by simpa using h2,fun o ho => ?_⟩;simp only [List.mem_cons,Prod.mk.injEq,not_or]at ho;rw [← h3 o ho.2,List.getElem?_set_ne (fun e=>ho.1 (by simp [e]))]
      · rw [if_neg hj]at h1;exact⟨cs0,h1,h2,fun o ho=>h3 o (fun hm=>ho (List.mem_cons_of_mem _ hm))⟩
    · obtain⟨cs0,h1,h2,h3⟩:=zqa r _ l h;exact⟨cs0,h1,h2,fun o ho=>h3 o (fun hm=>ho (List.mem_cons_of_mem _ hm))⟩
theorem zqg:∀ (free:List (Nat × Nat)) (m:Mem) (l:List At) {k:Nat} {x:List At × TypeId},getM m k=some x→∃ y,getM (writeM m free l) k=some y
  | [],m,l,k,x,h=>⟨x,by cases l <;> exact h⟩
  | (j,p)::r,m,[],k,x,h=>⟨x,h⟩
  | (j,p)::r,m,a::l,k,x,h=>by
    simp only [writeM];split
    · rename_i cs ty hg;by_cases hj:j=k
      · subst hj;exact zqg r _ l (x:=(cs.set p a,ty)) (by rw [zsa,if_pos rfl,hg];rfl)
      · exact zqg r _ l (x:=x) (by rw [zsa,if_neg hj];exact h)
    · exact zqg r _ l h
theorem zvi{sM:Mem}{sO:OMem}{ρ' ρ2:Env}{β' β:Nat→Nat}:∀ (free:List (Nat × Nat)) (m:Mem) (l ms:List At) {k o:Nat} {cs1:List At} {t:TypeId},readM sM sO free=some ms→(∀ k x,getM m k=some x→getM sM k≠none)→l.map (At.den ρ' β')=ms.map (At.den ρ2 β) →
    getM (writeM m free l) k=some (cs1,t)→(k,o)∈free→o < cs1.length→∃ f cs y ty,cs1[o]? = some f∧getM sM k=some (cs,ty)∧cs[o]? = some y∧f.den ρ' β'=y.den ρ2 β
  | [],_,_,_,_,_,_,_,_,_,_,_,h,_=>by cases h
  | (j,p)::r,m,l,ms,k,o,cs1,t,hr,hmm,hl,hw,hi,ho=>by
    simp only [readM]at hr;split at hr
    · rename_i cs ty ml hg hr2;split at hr
      · rename_i y hy;simp only [Option.some.injEq]at hr;subst hr;cases l with
        | nil=>simp at hl
        | cons a l =>
          simp only [List.map_cons,List.cons.injEq]at hl;simp only [writeM]at hw;by_cases hir:(k,o)∈r
          · split at hw
            · exact zvi r _ l ml hr2 (fun k' x' hx'=>by
                rw [zsa]at hx';split at hx'
                · rename_i he;subst he;rw [hg];simp
                · exact hmm _ _ hx') hl.2 hw hir ho
            · exact zvi r _ l ml hr2 hmm hl.2 hw hir ho
          · have hh:k=j∧o=p:=by simpa [hir]using hi
            obtain⟨rfl,rfl⟩:=hh;split at hw
            · rename_i cs' ty' hg';obtain⟨cs0,h1,h2,h3⟩:=zqa r _ l hw;rw [zsa,if_pos rfl,hg']at h1;simp only [Option.map_some,Option.some.injEq,Prod.mk.injEq]at h1;obtain⟨rfl,rfl⟩:=h1;refine⟨a,cs,y,ty, ?_,hg,hy,hl.1⟩;rw [← h3 o hir]
              have:o < cs'.length:=by simpa using (h2▸ho:o < (cs'.set o a).length)
              rw [List.getElem?_set_self this]
            · rename_i hg';obtain⟨cs0,h1,_,_⟩:=zqa r _ l hw;rw [hg']at h1;cases h1
      · cases hr
    · rename_i ml hg hr2;split at hr;rotate_left
      · cases hr
      simp only [Option.some.injEq]at hr;subst hr;cases l with
      | nil=>simp at hl
      | cons a l =>
        simp only [List.map_cons,List.cons.injEq]at hl;simp only [writeM]at hw
        have hgm:getM m j=none:=by
          cases hq:getM m j with
          | none=>rfl
          | some x=>exact absurd hg (hmm j x hq)
        rw [hgm]at hw;simp only at hw;obtain⟨cs0,h1,_,_⟩:=zqa r _ l hw
        have hir:(k,o)∈r:=by
          rcases List.mem_cons.1 hi with he | he
          · cases he;rw [hgm]at h1;cases h1
          · exact he
        exact zvi r _ l ml hr2 hmm hl.2 hw hir ho
    · cases hr
theorem zwi{k:Nat}{free:List (Nat × Nat)}:∀ (x y:List At) (o:Nat),cellsSame k free o x y=true→y.length=x.length∧∀ j,(k,o + j) ∉ free→y[j]? = x[j]?
  | [],[],o,_=>⟨rfl,fun _ _=>rfl⟩
  | [],_::_,o,h=>by simp [cellsSame]at h
  | _::_,[],o,h=>by simp [cellsSame]at h
  | a::x,b::y,o,h=>by
    simp only [cellsSame,Bool.and_eq_true,Bool.or_eq_true,List.contains_iff_mem,decide_eq_true_eq]at h;obtain⟨h1,h2⟩:=zwi x y (o + 1) h.2;refine⟨by simp [h1],fun j hj => ?_⟩;cases j with
    | zero =>
      rcases h.1 with h3 | h3
      · exact (hj h3).elim
      · simp [h3]
    | succ j =>
      have:=h2 j (by rw [show o + 1 + j=o + (j + 1) by omega];exact hj)
      simpa using this
theorem zot:∀ {t:List (Nat × SV)} {i:Nat},getS t i ≠ .any→∃ v,(i,v)∈t
  | [],_,h=>(h rfl).elim
  | (j,v)::r,i,h=>by
    rw [zq]at h;by_cases hj:j=i
    · exact⟨v,by simp [hj]⟩
    · rw [if_neg hj]at h;obtain⟨u,hu⟩:=zot h;exact⟨u,List.mem_cons_of_mem _ hu⟩
theorem zpt:∀ {m:Mem} {k:Nat} {x:List At × TypeId},getM m k=some x→(k,x)∈m
  | [],_,_,h=>by cases h
  | (j,v)::r,k,x,h=>by
    rw [zuc]at h;by_cases hj:j=k
    · rw [if_pos hj]at h;cases h;simp [hj]
    · rw [if_neg hj]at h;exact List.mem_cons_of_mem _ (zpt h)
theorem ztk:∀ {m:OMem} {k:Nat} {x:CE × Nat × TypeId},getO m k=some x→(k,x)∈m
  | [],_,_,h=>by cases h
  | (j,v)::r,k,x,h=>by
    rw [zda]at h;by_cases hj:j=k
    · rw [if_pos hj]at h;cases h;simp [hj]
    · rw [if_neg hj]at h;exact List.mem_cons_of_mem _ (ztk h)
theorem zrg:∀ (x y:OMem) (k:Nat),getO (x++y) k=match getO x k with | some v=>some v | none=>getO y k
  | [],y,k=>rfl
  | (j,v)::r,y,k=>by
    simp only [List.cons_append,zda];by_cases hj:j=k
    · simp only [if_pos hj]
    · simp only [if_neg hj];exact zrg r y k
theorem zmq{a b:St}{slots:List Nat}{free:List (Nat × Nat)}{own:List Nat}(h:sameSt a b slots free own=true) :
  (b.n=a.n∧b.r=a.r∧b.d=a.d∧b.df=a.df)∧(∀ i,i ∉ slots→getS a.t i=.any∨getS b.t i=getS a.t i) ∧
  (∀ k cs1 t,getM a.m k=some (cs1,t)→∃ cs,getM b.m k=some (cs,t)∧cs.length=cs1.length∧∀ o,(k,o) ∉ free→cs[o]? = cs1[o]?) ∧
  ∀ k x,getO a.o k=some x→k ∉ own→getO b.o k=some x:=by
 simp only [sameSt,Bool.and_eq_true,decide_eq_true_eq,List.all_eq_true,Bool.or_eq_true,List.contains_iff_mem]at h;obtain⟨⟨⟨h0,h3⟩,h1⟩,h2⟩:=h;refine⟨h0,fun i hi => ?_,fun k cs1 t hg => ?_,fun k x hg hk => ?_⟩
 ·by_cases ha:getS a.t i=.any
  ·exact .inl ha
  ·obtain⟨v,hv⟩:=zot ha;rcases h1 _ hv with (h3 | h3) | h3
   ·exact (hi h3).elim
   ·exact .inl h3
   ·exact .inr h3
 ·have:=h2 _ (zpt hg)
  simp only at this;split at this
  ·rename_i cs t' hb;simp only [Bool.and_eq_true,decide_eq_true_eq]at this;obtain⟨rfl,h3⟩:=this;obtain⟨q1,q2⟩:=zwi _ _ 0 h3;exact⟨cs,hb,q1,fun o ho=>q2 o (by simpa using ho)⟩
  ·cases this
 ·rcases h3 _ (ztk hg)with h4 | h4
  ·exact (hk h4).elim
  ·rw [h4];exact hg
theorem zqt{st:St}(h:st.WF):∀ (slots:List Nat) {vs:List CV},readS st.t slots=some vs→vs.all (CV.wf st.c)=true
  | [],vs,hr=>by simp only [readS,Option.some.injEq]at hr;subst hr;rfl
  | s::r,vs,hr=>by
    simp only [readS]at hr;split at hr
    · rename_i v l h1 h2;simp only [Option.some.injEq]at hr;subst hr
      have:=h.t s
      rw [h1]at this;simp only [List.all_cons,zqt h r h2,Bool.and_true];exact this
    · cases hr
theorem znq{c:Ctr}:∀ (slots:List Nat) (vs:List CV) (l:List At) (t:List (Nat × SV)),(∀ i,(getS t i).wf c=true)→vs.all (CV.wf c)=true→l.all (At.wf c)=true→∀ i,(getS (writeS t slots vs l) i).wf c=true
  | [],vs,l,t,h,_,_=>by cases vs <;> exact h
  | s::r,[],l,t,h,_,_=>h
  | s::r,v::vs,l,t,h,hv,hl=>by
    simp only [List.all_cons,Bool.and_eq_true]at hv;simp only [writeS];refine znq r vs _ _ (fun i => ?_) hv.2 (zy hl _).2;rw [zq];by_cases hi:s=i
    · rw [if_pos hi];cases v with
      | one a =>
        simp only [cvLike,SV.wf,CV.wf];cases l with
        | nil=>exact hv.1
        | cons b l=>simp only [List.all_cons,Bool.and_eq_true]at hl;exact hl.1
      | agg x=>exact (zy hl _).1
    · rw [if_neg hi];exact h i
theorem zgm{c:Ctr}:∀ (free:List (Nat × Nat)) (m:Mem) (l:List At),(∀ k cs t,getM m k=some (cs,t)→k < c.nk∧cs.all (At.wf c)=true)→l.all (At.wf c)=true →
    ∀ k cs t,getM (writeM m free l) k=some (cs,t)→k < c.nk∧cs.all (At.wf c)=true
  | [],m,l,h,_=>by cases l <;> exact h
  | (j,p)::r,m,[],h,_=>h
  | (j,p)::r,m,a::l,h,hl=>by
    simp only [List.all_cons,Bool.and_eq_true]at hl;simp only [writeM];split
    · rename_i cs ty hg;refine zgm r _ l (fun k cs' t hk => ?_) hl.2;rw [zsa]at hk;by_cases hj:j=k
      · subst hj;rw [if_pos rfl,hg]at hk;simp only [Option.map_some,Option.some.injEq,Prod.mk.injEq]at hk;obtain⟨rfl,rfl⟩:=hk;have h1:=h j cs ty hg;refine⟨h1.1,List.all_eq_true.2 fun x hx => ?_⟩;rcases List.mem_or_eq_of_mem_set hx with hx | rfl
        · exact List.all_eq_true.1 h1.2 x hx
        · exact hl.1
      · rw [if_neg hj]at hk;exact h k cs' t hk
    · exact zgm r m l h hl.2
theorem zks{α β:Type}:∀ (x:List α) (y:List β),x.length=y.length→∀ a∈x,∃ b,(a,b)∈x.zip y
  | [],_,_,a,h=>by cases h
  | a0::x,[],h,_,_=>by simp at h
  | a0::x,b0::y,h,a,ha=>by
    rcases List.mem_cons.1 ha with rfl | ha
    · exact⟨b0,by simp⟩
    · obtain⟨b,hb⟩:=zks x y (by simpa using h) a ha;exact⟨b,by simp [hb]⟩
theorem zkw{α β:Type}:∀ (x:List α) (y:List β),y.Nodup→∀ {a a':α} {b:β},(a,b)∈x.zip y→(a',b)∈x.zip y→a=a'
  | [],_,_,_,_,_,h,_=>by simp at h
  | _::_,[],_,_,_,_,h,_=>by simp at h
  | a0::x,b0::y,hn,a,a',b,h,h'=>by
    simp only [List.nodup_cons]at hn;simp only [List.zip_cons_cons,List.mem_cons,Prod.mk.injEq]at h h';rcases h with ⟨rfl,rfl⟩ | h
    · rcases h' with ⟨rfl,_⟩ | h'
      · rfl
      · exact (hn.1 (List.of_mem_zip h').2).elim
    · rcases h' with ⟨rfl,rfl⟩ | h'
      · exact (hn.1 (List.of_mem_zip h).2).elim
      · exact zkw x y hn.2 h h'
theorem zxi(kf k:Nat)(i:Nat):∀ t:List (Nat × SV),getS (renT kf k t) i=renV kf k (getS t i)
  | []=>rfl
  | (j,v)::r=>by
    simp only [renT,zq,zxi kf k i r];split <;> rfl
theorem zdc{kf k:Nat}(hne:kf≠k)(i:Nat):∀ o:OMem,getO o k=none→getO (renO kf k o) i=if i=k then getO o kf else if i=kf then none else getO o i
  | [],_=>by simp [renO,getO]
  | (j,v)::r,h=>by
    rw [zda]at h;split at h
    · cases h
    · rename_i hj;simp only [renO,zda,zdc hne i r h];generalize getO r i=a;generalize getO r kf=b;by_cases h1:j=kf
      · simp only [h1,if_true];by_cases h2:i=k
        · rw [if_pos h2.symm,if_pos h2]
        · rw [if_neg (fun e=>h2 e.symm),if_neg h2,if_neg h2];by_cases h3:i=kf
          · rw [if_pos h3,if_pos h3]
          · rw [if_neg h3,if_neg h3,if_neg (fun e=>h3 e.symm)]
      · simp only [h1,if_false];by_cases h4:j=i
        · rw [if_pos h4,if_neg (fun e=>hj (h4.trans e)),if_neg (fun e=>h1 (h4.trans e)),if_pos h4]
        · rw [if_neg h4,if_neg h4]
theorem zxy{kf k:Nat}{ρ:Env}{β:Nat→Nat}(hb:β kf=β k∧β (kf + 1)=β (k + 1)∧β (kf + 2)=β (k + 2)∧β (kf + 3)=β (k + 3)):∀ v:SV,(renV kf k v).den ρ β=v.den ρ β:=by
 intro v;unfold renV;split
 ·rename_i j;split
  ·rename_i h;subst h;simp only [SV.den,CV.den,At.den,hb.1,hb.2.1,hb.2.2.1,hb.2.2.2]
  ·rfl
 ·rfl
theorem zyy{kf k:Nat}{v:SV}(h:renV kf k v ≠ .any):v ≠ .any:=by
 intro e;subst e;exact h rfl
theorem zzy{ρ:Env}{β:Nat→Nat}{st:St}{a:Act}{w:World}{kf k:Nat}(hC:Core W R Z ρ β st a w)(hne:kf≠k)(hb:β kf=β k∧β (kf + 1)=β (k + 1)∧β (kf + 2)=β (k + 2)∧β (kf + 3)=β (k + 3))
    (hm:getM st.m k=none) (ho:getO st.o k=none) (hk:k + 3 < st.c.nk):Core W R Z ρ β {st with t:=renT kf k st.t,o:=renO kf k st.o} a w:=by
  have obj:∀ {j e},getE st.m (renO kf k st.o) j=some e→∃ j',getE st.m st.o j'=some e∧((j=k∧j'=kf)∨(j≠k∧j≠kf∧j'=j)∨(j'=j∧∃ x,getM st.m j=some x))∧(Holds W ρ β j' e w→Holds W ρ β j e w)∧blkE β j e=blkE β j' e:=by
    intro j e hg;unfold getE at hg;cases hmj:getM st.m j with
    | some x =>
      rw [hmj]at hg;exact⟨j,by unfold getE;rw [hmj];exact hg,.inr (.inr ⟨rfl,x,rfl⟩),fun h=>h,rfl⟩
    | none =>
      rw [hmj]at hg;simp only [zdc hne j st.o ho]at hg;by_cases h1:j=k
      · subst h1;rw [if_pos rfl]at hg;cases hx:getO st.o kf with
        | none=>rw [hx]at hg;cases hg
        | some x =>
          rw [hx]at hg;simp only [Option.some.injEq]at hg;subst hg;refine⟨kf,zla (hC.wf.ap kf x hx) hx,.inl ⟨rfl,rfl⟩,fun h => ?_,by simp only [blkE,hb.1,hb.2.1]⟩;simp only [Holds]at h ⊢;rw [← hb.1,← hb.2.1,← hb.2.2.1,← hb.2.2.2];exact h
      · rw [if_neg h1]at hg;by_cases h2:j=kf
        · rw [if_pos h2]at hg;cases hg
        · rw [if_neg h2]at hg;cases hx:getO st.o j with
          | none=>rw [hx]at hg;cases hg
          | some x =>
            rw [hx]at hg;simp only [Option.some.injEq]at hg;subst hg;exact⟨j,zla hmj hx,.inr (.inl ⟨h1,h2,rfl⟩),fun h=>h,rfl⟩
  have kfm:∀ {x},getM st.m kf=some x→getO st.o kf=none:=fun {x} h=>by
    cases hx:getO st.o kf with
    | none=>rfl
    | some y=>have:=hC.wf.ap kf y hx;rw [this]at h;cases h
  refine⟨hC.size,fun i hn => ?_,hC.dfr,hC.below,fun j e hg => ?_,fun j j' e e' b hx hy hbx hby => ?_,hC.lps,hC.rin,hC.ded,hC.dn,⟨fun i => ?_,hC.wf.m,fun j ce sz t hg => ?_,fun j x hg => ?_,hC.wf.r,hC.wf.d,hC.wf.k,hC.wf.df⟩,hC.kn⟩
  · simp only [zxi]at hn ⊢;rw [hC.tmps i (zyy hn),zxy hb]
  · obtain⟨j',h1,_,h3,_⟩:=obj hg;exact h3 (hC.mem j' e h1)
  · obtain⟨i,h1,h2,_,h4⟩:=obj hx;obtain⟨i',g1,g2,_,g4⟩:=obj hy;rw [h4]at hbx;rw [g4]at hby
    have:=hC.inj i i' e e' b h1 g1 hbx hby
    subst this;rcases h2 with ⟨a1,a2⟩ | ⟨a1,a2,a3⟩ | ⟨a1,x,a2⟩ <;> rcases g2 with ⟨b1,b2⟩ | ⟨b1,b2,b3⟩ | ⟨b1,y,b2'⟩
    · exact a1.trans b1.symm
    · exact (b2 (b3.symm.trans a2)).elim
    · exfalso;have e1:j'=kf:=b1.symm.trans a2;subst e1;unfold getE at hx;subst a1;rw [hm]at hx;simp only [zdc hne j st.o ho,if_true]at hx;rw [kfm b2']at hx;cases hx
    · exact (a2 (a3.symm.trans b2)).elim
    · exact a3.symm.trans b3
    · exact a3.symm.trans b1
    · exfalso;have e1:j=kf:=a1.symm.trans b2;subst e1;unfold getE at hy;subst b1;rw [hm]at hy;simp only [zdc hne j' st.o ho,if_true]at hy;rw [kfm a2]at hy;cases hy
    · exact a1.symm.trans b3
    · exact a1.symm.trans b1
  · simp only [zxi];have h1:=hC.wf.t i;unfold renV;split
    · rename_i j hj;split
      · show (decide (k + 3 < st.c.nk))=true;simpa using hk
      · rw [hj]at h1;exact h1
    · exact h1
  · simp only [zdc hne j st.o ho]at hg;split at hg
    · rename_i h1;subst h1;exact⟨hk,(hC.wf.o kf ce sz t hg).2⟩
    · split at hg
      · cases hg
      · exact hC.wf.o j ce sz t hg
  · simp only [zdc hne j st.o ho]at hg;split at hg
    · rename_i h1;subst h1;exact hm
    · split at hg
      · cases hg
      · exact hC.wf.ap j x hg
theorem zhm:∀ (prs:List (Nat × Nat)) (st:St),(renS prs st).m=st.m∧(renS prs st).c=st.c∧(renS prs st).n=st.n∧(renS prs st).r=st.r∧(renS prs st).d=st.d∧(renS prs st).k=st.k∧(renS prs st).df=st.df
 | [],st=>⟨rfl,rfl,rfl,rfl,rfl,rfl,rfl⟩
 | (kf,k)::r,st=>zhm r _
theorem zoq{ρ:Env}{β:Nat→Nat}{a:Act}{w:World}:∀ (prs:List (Nat × Nat)) {st:St},Core W R Z ρ β st a w →
    (∀ p∈prs,p.1≠p.2∧(β p.1=β p.2∧β (p.1 + 1)=β (p.2 + 1)∧β (p.1 + 2)=β (p.2 + 2)∧β (p.1 + 3)=β (p.2 + 3))∧getM st.m p.2=none∧getO st.o p.2=none∧p.2 + 3 < st.c.nk)→(prs.map (·.2)).Nodup→Core W R Z ρ β (renS prs st) a w
  | [],st,hC,_,_=>hC
  | (kf,k)::r,st,hC,h,hn=>by
    obtain⟨h1,h2,h3,h4,h5⟩:=h (kf,k) (List.mem_cons_self ..);simp only [List.map_cons,List.nodup_cons]at hn;refine zoq r (zzy hC h1 h2 h3 h4 h5) (fun p hp => ?_) hn.2;obtain⟨g1,g2,g3,g4,g5⟩:=h p (List.mem_cons_of_mem _ hp);refine⟨g1,g2,g3, ?_,g5⟩;simp only [zdc h1 p.2 st.o h4];rw [if_neg fun e=>hn.1 (List.mem_map.2 ⟨p,hp,e⟩)];split
    · rfl
    · exact g4
theorem zpq{i:Nat}:∀ (prs:List (Nat × Nat)) (st:St),(∀ p∈prs,getS st.t i ≠ .cv (.one (.own p.1)))→getS (renS prs st).t i=getS st.t i
  | [],st,_=>rfl
  | (kf,k)::r,st,h=>by
    have e:getS (renT kf k st.t) i=getS st.t i:=by
      rw [zxi];have h1:=h (kf,k) (List.mem_cons_self ..);unfold renV;split
      · rename_i j hj;rw [hj]at h1;rw [if_neg (fun e=>h1 (by rw [e]))];exact hj.symm
      · rfl
    show getS (renS r _).t i=_;rw [zpq r _ (fun p hp=>by rw [show getS ({st with t:=renT kf k st.t,o:=renO kf k st.o}:St).t i=getS (renT kf k st.t) i from rfl,e];exact h p (List.mem_cons_of_mem _ hp))];exact e
theorem zqq{j:Nat}:∀ (prs:List (Nat × Nat)) (st:St),(∀ p∈prs,p.1≠p.2∧getO st.o p.2=none∧j≠p.1∧j≠p.2)→(prs.map (·.2)).Nodup→getO (renS prs st).o j=getO st.o j
  | [],st,_,_=>rfl
  | (kf,k)::r,st,h,hn=>by
    obtain⟨h1,h2,h3,h4⟩:=h (kf,k) (List.mem_cons_self ..);simp only [List.map_cons,List.nodup_cons]at hn;have e:∀ i,i≠k→i≠kf→getO (renO kf k st.o) i=getO st.o i:=fun i a b=>by rw [zdc h1 i st.o h2,if_neg a,if_neg b]
    show getO (renS r _).o j=_;rw [zqq r _ (fun p hp => ?_) hn.2]
    · exact e j h4 h3
    · obtain⟨g1,g2,g3,g4⟩:=h p (List.mem_cons_of_mem _ hp);refine⟨g1, ?_,g3,g4⟩;simp only [zdc h1 p.2 st.o h2];rw [if_neg fun e=>hn.1 (List.mem_map.2 ⟨p,hp,e⟩)];split
      · rfl
      · exact g2
theorem zlw{st s:St}{ρ ρ2 ρ':Env}{β β':Nat→Nat}{a:Act}{w:World}{slots kill:List Nat}{free:List (Nat × Nat)}{vs vs':List CV}{ms':List At}{ks:List CK}{own0:List Nat}(hwf:st.WF)(hkn0:KnL.den st.k ρ)(hC:Core W R Z ρ2 β s a w)(hl2:Env.like st.c ρ ρ2)(hl':Env.like st.c ρ ρ')
    (hbb:∀ j,j < st.c.nk→β' j=β j)
    (hvs:readS st.t slots=some vs) (hr:readS s.t slots=some vs') (hsh:vs'.map CV.shape=vs.map CV.shape) (hrm:readM s.m s.o free=some ms')
    (hden:(freshL st.c ks).map (At.den ρ' β')=(vs'.flatMap CV.cells++ms').map (At.den ρ2 β)) (hn:s.n=st.n∧s.r=st.r∧s.d=st.d∧s.df=st.df)
    (hs:∀ i,i ∉ slots→getS (writeS (killS st.t kill) slots vs (freshL st.c ks)) i=.any∨getS s.t i=getS (writeS (killS st.t kill) slots vs (freshL st.c ks)) i)
    (hm:∀ k cs1 t,getM (writeM st.m free ((freshL st.c ks).drop (vs.flatMap CV.cells).length)) k=some (cs1,t)→∃ cs,getM s.m k=some (cs,t)∧cs.length=cs1.length∧∀ o,(k,o) ∉ free→cs[o]? = cs1[o]?)
    (hlen:(ownIds (freshL st.c ks)).length=(ownIds (vs'.flatMap CV.cells++ms')).length)
    (hrows:∀ p∈(ownIds (freshL st.c ks)).zip (ownIds (vs'.flatMap CV.cells++ms')),RowEq (freshO st.c ks) s.o ρ' ρ2 β' β p.1 p.2) (hnd:(ownIds (vs'.flatMap CV.cells++ms')).Nodup)
    (hret:∀ k x,getO (delOs st.o own0) k=some x→getO s.o k=some x) (hsep:∀ k∈ownIds (vs'.flatMap CV.cells++ms'),getO (delOs st.o own0) k=none) :
    Core W R Z ρ' β' {t:=writeS (killS st.t kill) slots vs (freshL st.c ks),n:=st.n,m:=writeM st.m free ((freshL st.c ks).drop (vs.flatMap CV.cells).length),c:=freshLC st.c ks,o:=freshO st.c ks++delOs st.o own0,r:=st.r,d:=st.d,k:=st.k,df:=st.df} a w:=by
  have hle:=zeb ks st.c
  have hkw:∀ i,(getS (killS st.t kill) i).wf st.c=true:=fun i=>by
    rcases zui st.t i kill with h | h <;> rw [h]
    · rfl
    · exact hwf.t i
  have hβ:∀ j,j < st.c.nk→β' j=β j:=hbb;have hd12:∀ {x:SV},x.wf st.c=true→x.den ρ' β'=x.den ρ2 β:=fun hx=>(SV.den_like hl' hβ hx).trans (SV.den_like hl2 (fun _ _=>rfl) hx).symm;have ha12:∀ {x:At},x.wf st.c=true→x.den ρ' β'=x.den ρ2 β:=fun hx=>(At.den_like hl' hβ hx).trans (At.den_like hl2 (fun _ _=>rfl) hx).symm
  have hlen2:(vs'.flatMap CV.cells).length=(vs.flatMap CV.cells).length:=by
    have:∀ (x y:List CV),x.map CV.shape=y.map CV.shape→(x.flatMap CV.cells).length=(y.flatMap CV.cells).length:=by
      intro x
      induction x with
      | nil=>intro y h;cases y with
        | nil=>rfl
        | cons b y=>simp at h
      | cons c x ih=>intro y h;cases y with
        | nil=>simp at h
        | cons b y =>
          simp only [List.map_cons,List.cons.injEq]at h;simp only [List.flatMap_cons,List.length_append,ih y h.2]
          have:c.cells.length=b.cells.length:=by
            have h3:=h.1;cases c <;> cases b <;> simp_all [CV.shape,CV.cells]
          rw [this]
    exact this _ _ hsh
  have hden2:((freshL st.c ks).drop (vs.flatMap CV.cells).length).map (At.den ρ' β')=ms'.map (At.den ρ2 β):=by
    rw [List.map_drop,hden,← List.map_drop,← hlen2,List.drop_left]
  have hretlt:∀ {k x},getO (delOs st.o own0) k=some x→k + 3 < st.c.nk∧ceWf st.c x.1=true∧getM st.m k=none:=fun {k x} hg=>by
    rw [zqb]at hg;split at hg
    · cases hg
    · exact⟨(hwf.o k x.1 x.2.1 x.2.2 hg).1,(hwf.o k x.1 x.2.1 x.2.2 hg).2,hwf.ap k x hg⟩
  have wfm:∀ k cs t,getM (writeM st.m free ((freshL st.c ks).drop (vs.flatMap CV.cells).length)) k=some (cs,t)→k < (freshLC st.c ks).nk∧cs.all (At.wf (freshLC st.c ks))=true:=by
    refine zgm free st.m _ (fun k cs t hk => ?_) (zy (zgd ks st.c) _).2
    have:=hwf.m k cs t hk
    exact⟨Nat.lt_of_lt_of_le this.1 hle.k,zed hle this.2⟩
  have mlt:∀ {k cs t},getM (writeM st.m free ((freshL st.c ks).drop (vs.flatMap CV.cells).length)) k=some (cs,t)→k < st.c.nk:=fun {k cs t} hg=>by
    obtain⟨cs0,h1,_,_⟩:=zqa free st.m _ hg;exact (hwf.m k cs0 t h1).1
  have mnone:∀ {k},getM st.m k=none→getM (writeM st.m free ((freshL st.c ks).drop (vs.flatMap CV.cells).length)) k=none:=fun {k} hk=>by
    cases hg:getM (writeM st.m free ((freshL st.c ks).drop (vs.flatMap CV.cells).length)) k with
    | none=>rfl
    | some x =>
      obtain⟨cs0,h1,_,_⟩:=zqa free st.m _ (show _=some (x.1,x.2) from hg);rw [hk]at h1;cases h1
  have mnew:∀ {k},st.c.nk≤k→getM (writeM st.m free ((freshL st.c ks).drop (vs.flatMap CV.cells).length)) k=none:=fun {k} hk=>by
    cases hg:getM (writeM st.m free ((freshL st.c ks).drop (vs.flatMap CV.cells).length)) k with
    | none=>rfl
    | some x=>have:=mlt (show _=some (x.1,x.2) from hg);omega
  have obj:∀ k e,getE (writeM st.m free ((freshL st.c ks).drop (vs.flatMap CV.cells).length)) (freshO st.c ks++delOs st.o own0) k=some e →
      ∃ j e0,getE s.m s.o j=some e0∧Holds W ρ' β' k e w∧blkE β' k e=blkE β j e0 ∧
        ((j=k∧k < st.c.nk∧((∃ cs t,getM s.m k=some (cs,t))∨∃ x,getO (delOs st.o own0) k=some x))∨(st.c.nk≤k∧(k,j)∈(ownIds (freshL st.c ks)).zip (ownIds (vs'.flatMap CV.cells++ms')))):=by
    intro k e hg;unfold getE at hg;cases hgm:getM (writeM st.m free ((freshL st.c ks).drop (vs.flatMap CV.cells).length)) k with
    | some x =>
      obtain⟨cs1,t⟩:=x;rw [hgm]at hg;simp only [Option.some.injEq]at hg;subst hg;obtain⟨cs,q1,q2,q3⟩:=hm k cs1 t hgm;have hk:=mlt hgm;obtain⟨m1,m2⟩:=hC.fix q1;refine⟨k,.fix cs t,zwb q1,⟨by rw [hβ k hk];exact m1, ?_⟩,by simp only [blkE,hβ k hk],.inl ⟨rfl,hk,.inl ⟨cs,t,q1⟩⟩⟩;rw [hβ k hk,m2];congr 3;apply List.ext_getElem?;intro o;simp only [List.getElem?_map];by_cases ho:o < cs1.length
      · by_cases hf:(k,o)∈free
        · obtain⟨f,cs',y,ty,r1,r2,r3,r4⟩:=zvi (ρ':=ρ') (ρ2:=ρ2) (β':=β') (β:=β) free st.m _ ms' hrm (fun k x hx=>by
            obtain⟨y,hy⟩:=zqg free st.m ((freshL st.c ks).drop (vs.flatMap CV.cells).length) hx;obtain⟨cs,hcs,_⟩:=hm k y.1 y.2 hy;rw [hcs];simp) hden2 hgm hf ho
          rw [q1]at r2;simp only [Option.some.injEq,Prod.mk.injEq]at r2;obtain⟨rfl,rfl⟩:=r2;rw [r1,r3,Option.map_some,Option.map_some,r4]
        · rw [q3 o hf];obtain⟨cs0,p1,p2,p3⟩:=zqa free st.m _ hgm;cases hx:cs1[o]? with
          | none=>rfl
          | some x =>
            have hx0:cs0[o]? = some x:=by rw [p3 o hf,hx]
            simp only [Option.map_some];exact congrArg some (ha12 (List.all_eq_true.1 (hwf.m k cs0 t p1).2 x (List.mem_of_getElem? hx0))).symm
      · rw [List.getElem?_eq_none (by omega),List.getElem?_eq_none (by omega)];rfl
    | none =>
      rw [hgm]at hg;simp only [zrg]at hg;cases hgf:getO (freshO st.c ks) k with
      | some x =>
        rw [hgf]at hg;simp only [Option.some.injEq]at hg;obtain⟨h1,h2,h3,n0,h4,h5⟩:=zdd ks st.c hgf;obtain⟨j,hj⟩:=zks _ _ hlen k h3;obtain⟨⟨e0,e1,e2,e3⟩,n,ce,sz,t,p1,p2,p3⟩:=hrows (k,j) hj;simp only at e0 e1 e2 e3 p1 p2;rw [hgf]at p1;simp only [Option.some.injEq]at p1;subst p1;subst hg;have hE:=zla (hC.wf.ap j _ p2) p2;have hH:=hC.mem j _ hE;refine⟨j,_,hE, ?_,by simp only [blkE,e0,e1],.inr ⟨h1,hj⟩⟩;simp only [Holds]at hH ⊢;rw [e0,e1,e2,e3,p3];exact hH
      | none =>
        rw [hgf]at hg;simp only at hg;cases hgr:getO (delOs st.o own0) k with
        | none=>rw [hgr]at hg;cases hg
        | some x =>
          rw [hgr]at hg;simp only [Option.some.injEq]at hg;subst hg;obtain⟨h1,h2,h3⟩:=hretlt hgr;have h4:=hret k x hgr;have hE:=zla (hC.wf.ap k _ h4) h4;have hH:=hC.mem k _ hE;refine⟨k,_,hE, ?_, ?_,.inl ⟨rfl,by omega,.inr ⟨x,rfl⟩⟩⟩
          · simp only [Holds]at hH ⊢;rw [hβ k (by omega),hβ (k + 1) (by omega),hβ (k + 2) (by omega),hβ (k + 3) (by omega),(zga hl' hβ h2).trans (zga hl2 (β:=β) (fun _ _=>rfl) h2).symm];exact hH
          · simp only [blkE,hβ k (by omega:k < st.c.nk),hβ (k + 1) (by omega)]
  have hmapd:st.d.map β'=st.d.map β:=List.map_congr_left fun k hk=>hβ k (hwf.d k hk);refine⟨by rw [hC.size];exact hn.1,fun i hni => ?_, ?_,hC.below,fun k e hg => ?_,fun k k' e e' b hx hy hbx hby => ?_,fun k e hg => ?_,fun k k' e e' hx hy he => ?_, ?_, ?_,⟨?_,wfm,fun k ce sz t hg => ?_,fun k x hg => ?_, ?_, ?_,KnL.wf_le hle hwf.k,fun x hx y hy=>Nat.lt_of_lt_of_le (hwf.df x hx y hy) hle.k⟩,KnL.den_like hl' hwf.k hkn0⟩
  · by_cases hi:i∈slots
    · obtain⟨u,v',h1,h2,h3⟩:=zlq (ρ':=ρ') (ρ2:=ρ2) (β':=β') (β:=β) slots vs vs' (freshL st.c ks) (killS st.t kill) ms' hr hsh hden hi
      have:=hC.tmps i (by rw [h2];simp)
      rw [this];simp only;rw [h1,h2];exact congrArg some h3.symm
    · rcases hs i hi with h | h
      · exact (hni h).elim
      · have:=hC.tmps i (by rw [h];exact hni)
        rw [this,h];refine congrArg some (hd12 ?_).symm;rw [zwc _ _ _ _ hi];exact hkw i
  · rw [hC.dfr,hn.2.2.1,hn.2.2.2,zze hwf.df hβ];simp only [marksOf];exact congrArg _ (List.map_congr_left fun k hk=>by rw [hβ k (hwf.d k hk)])
  · obtain⟨j,e0,_,h2,_⟩:=obj k e hg;exact h2
  · obtain⟨j,e0,q1,q2,q3,q4⟩:=obj k e hx;obtain⟨j',e0',p1,p2,p3,p4⟩:=obj k' e' hy;rw [q3]at hbx;rw [p3]at hby
    have hj:j=j':=hC.inj j j' e0 e0' b q1 p1 hbx hby
    subst hj;rcases q4 with ⟨r1,r2,r3⟩ | ⟨r1,r2⟩ <;> rcases p4 with ⟨t1,t2,t3⟩ | ⟨t1,t2⟩
    · exact r1.symm.trans t1
    · exfalso;have hmem:=(List.of_mem_zip t2).2;rcases r3 with ⟨cs,t,r3⟩ | ⟨x,r3⟩
      · obtain⟨_,n,ce,sz,t,u1,u2,u3⟩:=hrows _ t2;simp only at u2
        have:=hC.wf.ap j _ u2
        rw [r1]at this;rw [this]at r3;cases r3
      · have:=hsep j hmem
        rw [r1,r3]at this;cases this
    · exfalso;have hmem:=(List.of_mem_zip r2).2;rcases t3 with ⟨cs,t,t3⟩ | ⟨x,t3⟩
      · obtain⟨_,n,ce,sz,t,u1,u2,u3⟩:=hrows _ r2;simp only at u2
        have:=hC.wf.ap j _ u2
        rw [t1]at this;rw [this]at t3;cases t3
      · have:=hsep j hmem
        rw [t1,t3]at this;cases this
    · exact zkw _ _ hnd r2 t2
  · rw [hβ k (hwf.r k e hg)];exact hC.lps k e (by rw [hn.2.1];exact hg)
  · rw [hβ k (hwf.r k e hx),hβ k' (hwf.r k' e' hy)]at he;exact hC.rin k k' e e' (by rw [hn.2.1];exact hx) (by rw [hn.2.1];exact hy) he
  · have:=hC.ded
    rw [hn.2.2.1]at this;rw [hmapd];exact this
  · have:=hC.dn
    rw [hn.2.2.1]at this;rw [hmapd];exact this
  · exact znq slots vs _ _ (fun i=>SV.wf_le hle (hkw i)) (List.all_eq_true.2 fun x hx=>CV.wf_le hle (List.all_eq_true.1 (zqt hwf slots hvs) x hx)) (zgd ks st.c)
  · simp only [zrg]at hg;cases hgf:getO (freshO st.c ks) k with
    | some x =>
      rw [hgf]at hg;simp only [Option.some.injEq]at hg;obtain⟨h1,h2,h3,n0,h4,h5⟩:=zdd ks st.c hgf;subst hg;simp only at h4;subst h4;exact⟨h2,by simp [ceWf,Sg.wf,h5]⟩
    | none =>
      rw [hgf]at hg;obtain⟨h1,h2,h3⟩:=hretlt hg;exact⟨Nat.lt_of_lt_of_le h1 hle.k,zmh hle h2⟩
  · simp only [zrg]at hg;cases hgf:getO (freshO st.c ks) k with
    | some y=>exact mnew (zdd ks st.c hgf).1
    | none =>
      rw [hgf]at hg;exact mnone (hretlt hg).2.2
  · exact fun k e hg=>Nat.lt_of_lt_of_le (hwf.r k e hg) hle.k
  · exact fun k hk=>Nat.lt_of_lt_of_le (hwf.d k hk) hle.k
end Vc
