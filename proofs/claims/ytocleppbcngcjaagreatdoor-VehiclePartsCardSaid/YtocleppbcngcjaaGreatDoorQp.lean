import Derived.Test.YtocleppbcngcjaaGreatDoorG0
import Derived.Test.YtocleppbcngcjaaGreatDoorFvA
section
set_option linter.unusedVariables false
set_option maxRecDepth 100000
namespace Go.Proofs.YtocleppbcngcjaaGreatDoor
open Go Go.RowKit
theorem X2(x0 x1:Int)(w:World)(v:Value)(h :
 ∃(wW:List Vc.Vl->Prop) (Ah:List Vc.Vl->Nat),wW [.i x0,.i x1]/\∀(x2:Int) (x3:Int),wW [.i x2,.i x3]->(
 ((x3=0)->(
 ∀x4:Int,x4=IntKind.i64.wrap (0-x2) ->
 ∀x5:Int,x5=(if x4 > x2 then x4 else x2) ->
 (.int .i64 x5:Value)=v))/\(¬(x3=0)->(
 (x3≠0) /\
 ∀x4:Int,x4=Int.tmod x2 x3 ->
 wW [.i x3,.i x4]/\Ah [.i x3,.i x4]<Ah [.i x2,.i x3])))):Calls Tryz.prog 69 #[.int .i64 x0,.int .i64 x1] w (Vc.Ret v w) :=
 Vc.zb base [(2000000000001,.inv [] [0,1] [5,6,7,8,9,10])] [] 200 Tryz.func69 (b:=(Tryz.f69.body).getD .skip) (by kernel_rfl) [.cv (.one (.int .i64 (.var 0))),.cv (.one (.int .i64 (.var 1)))] ⟨2,0,0,0,0,0,0⟩ [] (Vc.aI [x0,x1] [] [] []) (by kernel_rfl) Vc.zc (by kernel_rfl) (by kernel_rfl) h
theorem X3(x0 x1 x2 x3 x4:Int)(w:World)(v:Value)(h :
 (((-9)<=x2)->(
 ((x2<=9)->(
 (((-9)<=x3)->(
 ((x3<=9)->(
 (((-9)<=x4)->(
 ((x4<=9)->(
 (((-4611686018427387904)<=x0)->(
 ((x0<=4611686018427387904)->(
 ((1<=x1)->(
 ((x1<=4611686018427387904)->(
 ∃(x5:Int),(Vq w 69 #[.int .i64 x0,.int .i64 x1] (.int .i64 x5)) /\
 (.bool (x5 == 1):Value)=v))/\(¬(x1<=4611686018427387904)->(
 (.bool false:Value)=v))))/\(¬(1<=x1)->(
 (.bool false:Value)=v))))/\(¬(x0<=4611686018427387904)->(
 (.bool false:Value)=v))))/\(¬((-4611686018427387904)<=x0)->(
 (.bool false:Value)=v))))/\(¬(x4<=9)->(
 (.bool false:Value)=v))))/\(¬((-9)<=x4)->(
 (.bool false:Value)=v))))/\(¬(x3<=9)->(
 (.bool false:Value)=v))))/\(¬((-9)<=x3)->(
 (.bool false:Value)=v))))/\(¬(x2<=9)->(
 (.bool false:Value)=v))))/\(¬((-9)<=x2)->(
 (.bool false:Value)=v))):Calls Tryz.prog 36 #[.agg #[.int .i64 x0,.int .i64 x1,.int .i64 x2,.int .i64 x3,.int .i64 x4]] w (Vc.Ret v w) :=
 Vc.zb (ze [44,18] (by kernel_rfl)) [] [] 200 Tryz.func36 (b:=(Tryz.f36.body).getD .skip) (by kernel_rfl) [.cv (.agg [.int .i64 (.var 0),.int .i64 (.var 1),.int .i64 (.var 2),.int .i64 (.var 3),.int .i64 (.var 4)])] ⟨5,0,0,0,0,0,0⟩ [] (Vc.aI [x0,x1,x2,x3,x4] [] [] []) (by kernel_rfl) Vc.zc (by kernel_rfl) (by kernel_rfl) h
theorem X4(x0 x1:Int)(w:World)(v:Value)(h :
 ∃(wW:List Vc.Vl->Prop) (Ah:List Vc.Vl->Nat),wW [.i x0,.i x1]/\∀(x2:Int) (x3:Int),wW [.i x2,.i x3]->(
 ((x3=0)->(
 ∀x4:Int,x4=IntKind.i64.wrap (0-x2) ->
 ∀x5:Int,x5=(if x4 > x2 then x4 else x2) ->
 (.int .i64 x5:Value)=v))/\(¬(x3=0)->(
 (x3≠0) /\
 ∀x4:Int,x4=Int.tmod x2 x3 ->
 wW [.i x3,.i x4]/\Ah [.i x3,.i x4]<Ah [.i x2,.i x3])))):Calls Tryz.prog 181 #[.int .i64 x0,.int .i64 x1] w (Vc.Ret v w) :=
 Vc.zb base [(2000000000001,.inv [] [0,1] [6,7,8,9,10,5,11,12])] [] 200 Tryz.func181 (b:=(Tryz.f181.body).getD .skip) (by kernel_rfl) [.cv (.one (.int .i64 (.var 0))),.cv (.one (.int .i64 (.var 1)))] ⟨2,0,0,0,0,0,0⟩ [] (Vc.aI [x0,x1] [] [] []) (by kernel_rfl) Vc.zc (by kernel_rfl) (by kernel_rfl) h
theorem X5(x0 x1 x2 x3 x4:Int)(w:World)(v:Value)(h :
 (((-4611686018427387904)<=x0)->(
 ((x0<=4611686018427387904)->(
 ((1<=x1)->(
 ((x1<=4611686018427387904)->(
 ∃(x5:Int),(Vq w 181 #[.int .i64 x0,.int .i64 x1] (.int .i64 x5)) /\
 ((x5=1)->(
 (((-9)<=x2)->(
 ((x2<=9)->(
 (((-9)<=x3)->(
 ((x3<=9)->(
 (((-9)<=x4)->(
 (.bool (decide (x4<=9)):Value)=v))/\(¬((-9)<=x4)->(
 (.bool false:Value)=v))))/\(¬(x3<=9)->(
 (.bool false:Value)=v))))/\(¬((-9)<=x3)->(
 (.bool false:Value)=v))))/\(¬(x2<=9)->(
 (.bool false:Value)=v))))/\(¬((-9)<=x2)->(
 (.bool false:Value)=v))))/\(¬(x5=1)->(
 (.bool false:Value)=v))))/\(¬(x1<=4611686018427387904)->(
 (.bool false:Value)=v))))/\(¬(1<=x1)->(
 (.bool false:Value)=v))))/\(¬(x0<=4611686018427387904)->(
 (.bool false:Value)=v))))/\(¬((-4611686018427387904)<=x0)->(
 (.bool false:Value)=v))):Calls Tryz.prog 182 #[.agg #[.int .i64 x0,.int .i64 x1,.int .i64 x2,.int .i64 x3,.int .i64 x4]] w (Vc.Ret v w) :=
 Vc.zb (ze [23] (by kernel_rfl)) [] [] 200 Tryz.func182 (b:=(Tryz.f182.body).getD .skip) (by kernel_rfl) [.cv (.agg [.int .i64 (.var 0),.int .i64 (.var 1),.int .i64 (.var 2),.int .i64 (.var 3),.int .i64 (.var 4)])] ⟨5,0,0,0,0,0,0⟩ [] (Vc.aI [x0,x1,x2,x3,x4] [] [] []) (by kernel_rfl) Vc.zc (by kernel_rfl) (by kernel_rfl) h
theorem X6(x0 x1 x2 x3 x4:Int)(w:World)(v:Value)(h :
 ∃(x5:Int),(Vq w 69 #[.int .i64 x0,.int .i64 x1] (.int .i64 x5)) /\
 (x5≠0) /\
 ∀x6:Int,x6=IntKind.i64.wrap (Int.tdiv x0 x5) ->
 (x5≠0) /\
 ∀x7:Int,x7=IntKind.i64.wrap (Int.tdiv x1 x5) ->
 ∃(b0:Bool),(Vq w 36 #[.agg #[.int .i64 x6,.int .i64 x7,.int .i64 x2,.int .i64 x3,.int .i64 x4]] (.bool b0)) /\
 ((b0=true)->(
 (.tuple #[.agg #[.int .i64 x6,.int .i64 x7,.int .i64 x2,.int .i64 x3,.int .i64 x4],.int .i64 0]:Value)=v))/\(¬(b0=true)->(
 (.tuple #[.agg #[.int .i64 0,.int .i64 0,.int .i64 0,.int .i64 0,.int .i64 0],.int .i64 4]:Value)=v))):Calls Tryz.prog 105 #[.int .i64 x0,.int .i64 x1,.agg #[.int .i64 x2,.int .i64 x3,.int .i64 x4]] w (Vc.Ret v w) :=
 Vc.zb base [] [] 200 Tryz.func105 (b:=(Tryz.f105.body).getD .skip) (by kernel_rfl) [.cv (.one (.int .i64 (.var 0))),.cv (.one (.int .i64 (.var 1))),.cv (.agg [.int .i64 (.var 2),.int .i64 (.var 3),.int .i64 (.var 4)])] ⟨5,0,0,0,0,0,0⟩ [] (Vc.aI [x0,x1,x2,x3,x4] [] [] []) (by kernel_rfl) Vc.zc (by kernel_rfl) (by kernel_rfl) h
theorem X7(x0 x1 x2 x3 x4:Int)(w:World)(v:Value)(h :
 ∃(x5:Int),(Vq w 181 #[.int .i64 x0,.int .i64 x1] (.int .i64 x5)) /\
 (x5≠0) /\
 ∀x6:Int,x6=IntKind.i64.wrap (Int.tdiv x0 x5) ->
 (x5≠0) /\
 ∀x7:Int,x7=IntKind.i64.wrap (Int.tdiv x1 x5) ->
 ∃(b0:Bool),(Vq w 182 #[.agg #[.int .i64 x6,.int .i64 x7,.int .i64 x2,.int .i64 x3,.int .i64 x4]] (.bool b0)) /\
 ((b0=true)->(
 (.tuple #[.agg #[.int .i64 x6,.int .i64 x7,.int .i64 x2,.int .i64 x3,.int .i64 x4],.int .i64 0]:Value)=v))/\(¬(b0=true)->(
 (.tuple #[.agg #[.int .i64 0,.int .i64 0,.int .i64 0,.int .i64 0,.int .i64 0],.int .i64 4]:Value)=v))):Calls Tryz.prog 170 #[.int .i64 x0,.int .i64 x1,.int .i64 x2,.int .i64 x3,.int .i64 x4] w (Vc.Ret v w) :=
 Vc.zb base [] [] 200 Tryz.func170 (b:=(Tryz.f170.body).getD .skip) (by kernel_rfl) [.cv (.one (.int .i64 (.var 0))),.cv (.one (.int .i64 (.var 1))),.cv (.one (.int .i64 (.var 2))),.cv (.one (.int .i64 (.var 3))),.cv (.one (.int .i64 (.var 4)))] ⟨5,0,0,0,0,0,0⟩ [] (Vc.aI [x0,x1,x2,x3,x4] [] [] []) (by kernel_rfl) Vc.zc (by kernel_rfl) (by kernel_rfl) h
end Go.Proofs.YtocleppbcngcjaaGreatDoor
end
section
set_option linter.unusedVariables false
set_option linter.unusedSimpArgs false
namespace Go.Proofs.YtocleppbcngcjaaGreatDoor
open Go Go.RowKit Vc
abbrev Bd(a:Int):Prop := -4611686018427387904<=a/\a<=4611686018427387904
def yI(n d k s t:Int):Bool :=
 decide (-4611686018427387904<=n) && decide (n<=4611686018427387904) && decide (1<=d) && decide (d<=4611686018427387904) && decide ((Int.gcd n d:Nat)=1) &&
 (decide (-9<=k) && decide (k<=9) && decide (-9<=s) && decide (s<=9) && decide (-9<=t) && decide (t<=9))
theorem SS(a b:Int):Int.gcd b (a.tmod b)=Int.gcd a b:=by
 simp only [Int.gcd,Int.natAbs_tmod];rw [Nat.gcd_comm a.natAbs,Nat.gcd_rec b.natAbs a.natAbs,Nat.gcd_comm]
theorem SU{a b:Int}(ha:Bd a)(hb:Bd b):Bd (a.tmod b)/\(b≠0->(a.tmod b).natAbs<b.natAbs):=by
 have h1:(a.tmod b).natAbs=a.natAbs % b.natAbs:=Int.natAbs_tmod a b;have h2:a.natAbs % b.natAbs<=a.natAbs:=Nat.mod_le _ _;refine⟨⟨by omega,by omega⟩,λh => ?_⟩;rw [h1];exact Nat.mod_lt _ (by omega)
theorem SW{a:Int}(ha:Bd a):(if IntKind.i64.wrap (0-a) > a then IntKind.i64.wrap (0-a)else a)=((Int.gcd a 0:Nat):Int):=by
 have hw:IntKind.i64.wrap (0-a) = -a:=by rw [zj (by omega)];omega
 rw [hw,Int.gcd_zero_right];split<;>omega
def FL(g:Nat)(l:List Vc.Vl):Prop:=∃x y:Int,l=[.i x,.i y]/\Bd x/\Bd y/\Int.gcd x y=g
def SX(l:List Vc.Vl):Nat:=match l with
 | [.i _,.i y]=>y.natAbs
 |_=>0
theorem SY(a b:Int)(w:World)(ha:Bd a)(hb:Bd b):Calls Tryz.prog 69 #[.int .i64 a,.int .i64 b] w (Vc.Ret (.int .i64 (Int.gcd a b:Nat)) w):=by
 refine X2 a b w _ ⟨FL (Int.gcd a b),SX,⟨a,b,rfl,ha,hb,rfl⟩, ?_⟩;rintro x2 x3 ⟨x,y,FM,hx,hy,hg⟩;simp only [List.cons.injEq,Vc.Vl.i.injEq,and_true]at FM;obtain⟨rfl,rfl⟩:=FM;refine aj (λh => ?_) (λh => ?_)
 ·subst h;rintro x4 rfl x5 rfl;rw [SW hx,hg]
 ·refine⟨h, ?_⟩;rintro x4 rfl;obtain⟨h1,h2⟩:=SU hx hy;exact⟨⟨x3,_,rfl,hy,h1,(SS x2 x3).trans hg⟩,h2 h⟩
theorem SZ(a b:Int)(w:World)(ha:Bd a)(hb:Bd b):Calls Tryz.prog 181 #[.int .i64 a,.int .i64 b] w (Vc.Ret (.int .i64 (Int.gcd a b:Nat)) w):=by
 refine X4 a b w _ ⟨FL (Int.gcd a b),SX,⟨a,b,rfl,ha,hb,rfl⟩, ?_⟩;rintro x2 x3 ⟨x,y,FM,hx,hy,hg⟩;simp only [List.cons.injEq,Vc.Vl.i.injEq,and_true]at FM;obtain⟨rfl,rfl⟩:=FM;refine aj (λh => ?_) (λh => ?_)
 ·subst h;rintro x4 rfl x5 rfl;rw [SW hx,hg]
 ·refine⟨h, ?_⟩;rintro x4 rfl;obtain⟨h1,h2⟩:=SU hx hy;exact⟨⟨x3,_,rfl,hy,h1,(SS x2 x3).trans hg⟩,h2 h⟩
theorem MM(g:Nat):(((g:Nat):Int) == 1)=decide (g=1):=by
 by_cases h:g=1
 ·subst h;rfl
 ·rw [decide_eq_false h];exact beq_eq_false_iff_ne.2 (by omega)
theorem MN(n d k s t:Int)(w:World):Calls Tryz.prog 36 #[.agg #[.int .i64 n,.int .i64 d,.int .i64 k,.int .i64 s,.int .i64 t]] w (Vc.Ret (.bool (yI n d k s t)) w):=by
 refine X3 n d k s t w _ ?_;refine aj (λh1=>aj (λh2=>aj (λh3=>aj (λh4=>aj (λh5=>aj (λh6=>aj (λh7=>aj (λh8=>aj (λh9=>aj (λDq => ?_) λh => ?_) λh => ?_) λh => ?_) λh => ?_) λh => ?_) λh => ?_) λh => ?_) λh => ?_) λh => ?_) λh => ?_
 ·refine⟨_,λw' _=>SY n d w' ⟨h7,h8⟩ ⟨by omega,Dq⟩, ?_⟩;rw [MM];simp [yI,h1,h2,h3,h4,h5,h6,h7,h8,h9,Dq]
 all_goals simp [yI,h]
theorem MO(n d k s t:Int)(w:World):Calls Tryz.prog 182 #[.agg #[.int .i64 n,.int .i64 d,.int .i64 k,.int .i64 s,.int .i64 t]] w (Vc.Ret (.bool (yI n d k s t)) w):=by
  refine X5 n d k s t w _ ?_;refine aj (λh1=>aj (λh2=>aj (λh3=>aj (λh4 => ?_) λh => ?_) λh => ?_) λh => ?_) λh => ?_
  · refine⟨_,λw' _=>SZ n d w' ⟨h1,h2⟩ ⟨by omega,h4⟩, ?_⟩;refine aj (λh5=>aj (λh6=>aj (λh7=>aj (λh8=>aj (λh9=>aj (λDq => ?_) λh => ?_) λh => ?_) λh => ?_) λh => ?_) λh => ?_) λh => ?_
    · have MP:Int.gcd n d=1:=by omega
      simp [yI,h1,h2,h3,h4,MP,h6,h7,h8,h9,Dq]
    all_goals first
      | (simp [yI,h];done)
      | (have MP:¬Int.gcd n d=1:=by omega
         simp [yI,MP])
  all_goals simp [yI,h]
abbrev QV(n d k s t:Int):Value := .agg #[.int .i64 n,.int .i64 d,.int .i64 k,.int .i64 s,.int .i64 t]
end Go.Proofs.YtocleppbcngcjaaGreatDoor
end
section
set_option linter.unusedVariables false
set_option linter.unusedSimpArgs false
namespace Go.Proofs.YtocleppbcngcjaaGreatDoor
open Go Go.RowKit Vc
attribute [local irreducible] Go.Calls
structure Qr where
 (n d k s t e:Int)
abbrev QE(r:Qr):Value := .tuple #[QV r.n r.d r.k r.s r.t,.int .i64 r.e]
def MQ(e:Int):Qr:=⟨0,0,0,0,0,e⟩
theorem MR{a b:Int}(ha:Bd a):Bd (a.tdiv b):=by
 have h1:(a.tdiv b).natAbs=a.natAbs / b.natAbs:=Int.natAbs_tdiv a b;have h2:a.natAbs / b.natAbs<=a.natAbs:=Nat.div_le_self _ _;exact⟨by omega,by omega⟩
theorem HT{a b:Int}(ha:Bd a):IntKind.i64.wrap (a.tdiv b)=a.tdiv b:=by
 have:=MR (b:=b) ha
 exact zj (by omega)
def kG(n d k s t:Int):Qr:=if yI (n.tdiv (Int.gcd n d:Nat)) (d.tdiv (Int.gcd n d:Nat)) k s t=true then ⟨n.tdiv (Int.gcd n d:Nat),d.tdiv (Int.gcd n d:Nat),k,s,t,0⟩else MQ 4
theorem HU{n d:Int}(h:d≠0):((Int.gcd n d:Nat):Int)≠0:=by
 intro h1;have h2:Int.gcd n d=0:=by omega
 exact h (Int.gcd_eq_zero_iff.1 h2).2
theorem X8(n d k s t:Int)(w:World)(hn:Bd n)(hd:Bd d)(h0:d≠0):Calls Tryz.prog 105 #[.int .i64 n,.int .i64 d,.agg #[.int .i64 k,.int .i64 s,.int .i64 t]] w (Vc.Ret (QE (kG n d k s t)) w):=by
 refine X6 n d k s t w _ ⟨_,λw' _=>SY n d w' hn hd,HU h0, ?_⟩;rintro x6 Dn;rw [HT hn]at Dn;refine⟨HU h0, ?_⟩;rintro x7 Dp;rw [HT hd]at Dp;subst Dn Dp;refine⟨_,λw' _=>MN _ _ k s t w', ?_⟩;unfold kG;exact aj (λh=>by rw [if_pos h]) λh=>by rw [if_neg h];rfl
theorem X9(n d k s t:Int)(w:World)(hn:Bd n)(hd:Bd d)(h0:d≠0):Calls Tryz.prog 170 #[.int .i64 n,.int .i64 d,.int .i64 k,.int .i64 s,.int .i64 t] w (Vc.Ret (QE (kG n d k s t)) w):=by
 refine X7 n d k s t w _ ⟨_,λw' _=>SZ n d w' hn hd,HU h0, ?_⟩;rintro x6 Dn;rw [HT hn]at Dn;refine⟨HU h0, ?_⟩;rintro x7 Dp;rw [HT hd]at Dp;subst Dn Dp;refine⟨_,λw' _=>MO _ _ k s t w', ?_⟩;unfold kG;exact aj (λh=>by rw [if_pos h]) λh=>by rw [if_neg h];rfl
section
variable {n1 d1 k1 s1 t1 n2 d2 k2 s2 t2:Int}
end
section
variable {n1 d1 k1 s1 t1 n2 d2 k2 s2 t2:Int}
end
end Go.Proofs.YtocleppbcngcjaaGreatDoor
end
