import Derived.Test.YtnjpiipdgapakaaGreatDoorGt
import Derived.Test.YtnjpiipdgapakaaGreatDoorBg
import Derived.Test.YtnjpiipdgapakaaGreatDoorFvB
import Derived.Test.YtnjpiipdgapakaaGreatDoorOt
import Derived.Test.YtnjpiipdgapakaaGreatDoorBa
set_option linter.unusedVariables false
set_option linter.unusedSimpArgs false
set_option linter.unusedSimpArgs false
set_option maxRecDepth 100000
namespace Go.Proofs.YtnjpiipdgapakaaGreatDoor
open Go Go.RowKit Go.Proofs Vc Ul
attribute [local irreducible] Go.Calls
def jr(s:pY):Prop := -9223372036854775807<=s.t/\jW s.p0.1 s.p0.2=0/\jW s.p1.1 s.p1.2=0/\jW s.p2.1 s.p2.2=0/\jW s.v0.1 s.v0.2=0/\jW s.v1.1 s.v1.2=0/\jW s.v2.1 s.v2.2=0/\jW s.m.1 s.m.2=0/\0<s.m.1
instance (s:pY):Decidable (jr s):=by unfold jr;infer_instance
def kK(s:pY):Int:=if jr s then 0 else 2
theorem xg{s:pY}(h:¬jr s):(.int .i64 2:Value)=.int .i64 (kK s):=by unfold kK;rw [if_neg h]
theorem MB{s:pY}(h:jr s):(.int .i64 0:Value)=.int .i64 (kK s):=by unfold kK;rw [if_pos h]
abbrev xh(T tl th fl fh:Int):Array Value := #[.int .i64 T,.int .i64 T,.int .i64 tl,.int .i64 th,.int .i64 fl,.int .i64 fh,.int .i64 0,.int .i64 0,.int .i64 0,.int .i64 0,.int .i64 0,.int .i64 0,.slice none 0 0,.int .i64 0,.int .i64 0,.int .i64 0,.int .i64 0,.int .i64 0,.int .i64 4294967296]
abbrev MC(s:pY)(b:Nat):Value := .agg #[.int .i64 0,.int .i64 0,.int .i64 0,.int .i64 0,.int .i64 0,.int .i64 0,.int .i64 0,.int .i64 0,.int .i64 0,.int .i64 0,.int .i64 0,.int .i64 0,.int .i64 0,.int .i64 0,.int .i64 s.t,.int .i64 s.p0.1,.int .i64 s.p0.2,.int .i64 s.p1.1,.int .i64 s.p1.2,.int .i64 s.p2.1,.int .i64 s.p2.2,.int .i64 s.v0.1,.int .i64 s.v0.2,.int .i64 s.v1.1,.int .i64 s.v1.2,.int .i64 s.v2.1,.int .i64 s.v2.2,.int .i64 s.m.1,.int .i64 s.m.2,.int .i64 0,.int .i64 0,.int .i64 0,.int .i64 0,.int .i64 0,.int .i64 0,.int .i64 0,.int .i64 0,.int .i64 0,.int .i64 0,.int .i64 0,.int .i64 0,.slice (some ⟨b,0,none⟩) 1 1,.slice none 0 0,.int .i64 0,.int .i64 0,.int .i64 0,.int .i64 0,.int .i64 0,.int .i64 0,.int .i64 0,.int .i64 0,.int .i64 0]
theorem AQ{b:Nat}{cs:Array Value}{t:TypeId}{w:World}(h:w.heap[b]? = some (.cells cs t)){k:Nat}{u:Value}(hk:cs[k]? = some u):w.cell? ⟨b,k,none⟩=some u:=by
 simp only [World.cell?,h];simpa using hk
theorem vO(w:World):Calls Tryz.prog 31 #[.agg #[.int .i64 0,.int .i64 0]] w (Vc.aw (.int .i64 0) w):=jq w (by kernel_rfl) (by kernel_rfl)
theorem oC(w:World):Calls Tryz.prog 25 #[.agg #[.int .i64 0,.int .i64 0],.agg #[.int .i64 (-4294967296),.int .i64 4294967296]] w (Vc.aw (.bool true) w):=gL w (by kernel_rfl) (by kernel_rfl)
structure vi(T tl th fl fh:Int):Prop where
 t:0<T
 a:jW tl th=0/\0<=tl
 f:jW fl fh=0/\0<=fl
set_option maxHeartbeats 2000000 in
theorem MD{w:World}{b:Nat}{T tl th fl fh:Int}{s:pY}(he:vi T tl th fl fh)(hb:w.heap[b]? = some (.cells (xh T tl th fl fh) 41)):Calls Tryz.prog 8 #[MC s b] w (Vc.aw (.int .i64 (kK s)) w):=by
 have A:∀{k:Nat} {u:Value},(xh T tl th fl fh)[k]? = some u->w.cell? ⟨b,k,none⟩=some u:=λhk=>AQ hb hk;refine TW (b,0) (0,0) 0 0 0 0 0 0 0 0 0 0 0 0 0 0 s.t s.p0.1 s.p0.2 s.p1.1 s.p1.2 s.p2.1 s.p2.2 s.v0.1 s.v0.2 s.v1.1 s.v1.2 s.v2.1 s.v2.2 s.m.1 s.m.2 0 0 0 0 0 0 0 0 0 0 0 0 1 1 0 0 0 0 0 0 0 0 0 0 0 true true w _ ?_;refine⟨λw' _=>vO w',λw' _=>vO w',λw' _=>vO w',λw' _=>vO w',λw' _=>vO w',λw' _=>vO w',λw' _=>vO w',af (λh0 => ?_) (λh=>xg λk=>h k.1)⟩;refine⟨_,λw' _=>zj _ _ w',af (λh1 => ?_) (λh=>xg λk=>h k.2.1)⟩;refine⟨_,λw' _=>zj _ _ w',af (λh2 => ?_) (λh=>xg λk=>h k.2.2.1)⟩;refine⟨_,λw' _=>zj _ _ w',af (λh3 => ?_) (λh=>xg λk=>h k.2.2.2.1)⟩;refine⟨_,λw' _=>zj _ _ w',af (λh4 => ?_) (λh=>xg λk=>h k.2.2.2.2.1)⟩;refine⟨_,λw' _=>zj _ _ w',af (λh5 => ?_) (λh=>xg λk=>h k.2.2.2.2.2.1)⟩;refine⟨_,λw' _=>zj _ _ w',af (λh6 => ?_) (λh=>xg λk=>h k.2.2.2.2.2.2.1)⟩;refine⟨_,λw' _=>zj _ _ w',af (λh7 => ?_) (λh=>xg λk=>h k.2.2.2.2.2.2.2.1)⟩;refine af (λh=>xg λk=>by have:=k.2.2.2.2.2.2.2.2;omega) (λh8 => ?_);have E:=MB (s:=s) ⟨h0,h1,h2,h3,h4,h5,h6,h7,by omega⟩;refine⟨λβ w' _ _=>Kh _ _ w',λw' _=>oC w',λw' _=>oC w',λw' _=>oC w',λw' _=>oC w',λw' _=>oC w',λw' _=>oC w', ?_⟩;refine⟨T,A rfl,T,A rfl,tl,A rfl,th,A rfl,fl,A rfl,fh,A rfl,0,A rfl,0,A rfl,0,A rfl,0,A rfl,0,A rfl,0,A rfl,true,(0,0),0,0,A rfl,0,A rfl,0,A rfl,0,A rfl,0,A rfl,0,A rfl,4294967296,A rfl, ?_⟩;refine⟨_,λw' _=>gL w' (by kernel_rfl) rfl,af (λ_ => ?_) (λh=>absurd (by kernel_rfl) h)⟩;refine⟨_,λw' _=>gL w' (by kernel_rfl) rfl,af (λ_ => ?_) (λh=>absurd (by kernel_rfl) h)⟩;refine⟨λw' _=>oC w',λw' _=>oC w',λw' _=>oC w', ?_⟩;refine⟨_,λw' _=>zj _ _ w',af (λ_ => ?_) (λh=>absurd he.a.1 h)⟩;refine af (λh=>absurd he.a.2 (by omega)) (λ_ => ?_);refine⟨_,λw' _=>zj _ _ w',af (λ_ => ?_) (λh=>absurd he.f.1 h)⟩;refine af (λh=>absurd he.f.2 (by omega)) (λ_ => ?_);refine⟨_,λw' _=>zj _ _ w',af (λ_ => ?_) (λh=>absurd (by kernel_rfl) h)⟩;refine af (λh=>absurd h (by decide)) (λ_ => ?_);refine af (λh=>absurd he.t (by omega)) (λ_ => ?_);refine af (λh=>absurd he.t (by omega)) (λ_ => ?_);refine⟨by decide,.inr rfl,af (λh=>absurd h (by decide)) (λ_=>⟨λw' _=>vO w',λw' _=>vO w',λw' _=>vO w',E⟩)⟩
set_option maxHeartbeats 2000000 in
theorem EP{w:World}{b q m:Nat}{T tl th fl fh p r c d:Int}{s:pY}(he:vi T tl th fl fh)(hs:jr s)(hb:w.heap[b]? = some (.cells (xh T tl th fl fh) 41))
  (hq:∀k u,([.int .i64 p,.int .i64 r,.int .i64 c,.int .i64 d]:List Value)[k]? = some u->w.cell? ⟨q,k,none⟩=some u) (h1:within p r 0 0=true) (h2:within c d 0 4294967296=true) :
  Calls Tryz.prog 33 #[MC s b,.slice (some ⟨q,0,none⟩) 1 m] w (Vc.aw (.int .i64 0) w):=by
 have A:∀{k:Nat} {u:Value},(xh T tl th fl fh)[k]? = some u->w.cell? ⟨b,k,none⟩=some u:=λhk=>AQ hb hk;have hp:kK s=0:=by unfold kK;rw [if_pos hs]
 refine T3 (b,0) (0,0) (q,0) 0 0 0 0 0 0 0 0 0 0 0 0 0 0 s.t s.p0.1 s.p0.2 s.p1.1 s.p1.2 s.p2.1 s.p2.2 s.v0.1 s.v0.2 s.v1.1 s.v1.2 s.v2.1 s.v2.2 s.m.1 s.m.2 0 0 0 0 0 0 0 0 0 0 0 0 1 1 0 0 0 0 0 0 0 0 0 0 0 (m:Int) true true w _ ?_;refine⟨_,λw' hw=>MD he (by rw [hw.block _ (World.block_lt_of_cell? _ _ (A (k:=0) rfl))];exact hb),af (λ_ => ?_) (λh=>absurd hp h)⟩;refine⟨p,hq 0 _ rfl,r,hq 1 _ rfl,c,hq 2 _ rfl,d,hq 3 _ rfl,0,A rfl,0,A rfl,_,λw' _=>Gq _ _ _ _ w',af (λ_ => ?_) (λh=>absurd h1 h)⟩;refine⟨0,A rfl,4294967296,A rfl,_,λw' _=>Gq _ _ _ _ w',af (λ_=>rfl) (λh=>absurd h2 h)⟩
theorem ER{x n:Nat}{cs:Array Value}{t:TypeId}{l:List Sp}{w:World}(hx:w.heap[x]? = some (.cells cs t))(hc:cs.toList=l.flatMap sc)(hn:l.length=n):xe w (.slice (some ⟨x,0,none⟩) n n) l:=by
 subst hn;refine .inr (.inr ⟨x,0,_,_,rfl,vN Ep l,λj u hj => ?_⟩);rw [<-hc]at hj;simp only [World.cell?,hx];simpa using hj
theorem AR{x y:Nat}{t u:TypeId}(w:World)(h1:w.heap[x]? = some (.cells #[.int .i64 4294967296,.int .i64 4294967296,.int .i64 0,.int .i64 0] t))(h2:w.heap[y]? = some (.cells #[.int .i64 0,.int .i64 0,.int .i64 0,.int .i64 0] u)) :
  Calls Tryz.prog 89 #[.slice (some ⟨x,0,none⟩) 2 2,.slice (some ⟨y,0,none⟩) 2 2] w (Vc.aw (.tuple #[.agg #[.int .i64 0,.int .i64 0],.int .i64 0]) w):=by
 have h:=Lv (ER (l := [(4294967296,4294967296),(0,0)]) h1 rfl rfl) (ER (l := [(0,0),(0,0)]) h2 rfl rfl) (λp hp=>by simp at hp;rcases hp with rfl|rfl<;>exact⟨⟨by decide,by decide⟩,⟨by decide,by decide⟩⟩) (λp hp=>by simp at hp;subst hp;exact⟨⟨by decide,by decide⟩,⟨by decide,by decide⟩⟩);exact aw.as h (by kernel_rfl)
theorem AS(w:World):Calls Tryz.prog 90 #[.agg #[.int .i64 0,.int .i64 0],.agg #[.int .i64 (-4294967296),.int .i64 4294967296]] w (Vc.aw (.tuple #[.agg #[.int .i64 0,.int .i64 0],.int .i64 0]) w):=aw.as (KG 0 0 (-4294967296) 4294967296 w) (by kernel_rfl)
theorem ME(w:World):Calls Tryz.prog 88 #[.agg #[.int .i64 0,.int .i64 0]] w (Vc.aw (.tuple #[.agg #[.int .i64 4294967296,.int .i64 4294967296],.agg #[.int .i64 0,.int .i64 0],.int .i64 0]) w):=aw.as (K8 0 0 w ⟨by decide,by decide⟩ ⟨by decide,by decide⟩) (by kernel_rfl)
set_option maxHeartbeats 2000000 in
theorem Ws{b:Nat}(s:pY)(w:World):Calls Tryz.prog 58 #[MC s b,.agg #[.int .i64 0,.int .i64 0]] w (Vc.aw (.tuple #[.agg #[.int .i64 0,.int .i64 0,.int .i64 0,.int .i64 0,.int .i64 0,.int .i64 0],.int .i64 0]) w):=by
 refine T4 (b,0) (0,0) 0 0 0 0 0 0 0 0 0 0 0 0 0 0 s.t s.p0.1 s.p0.2 s.p1.1 s.p1.2 s.p2.1 s.p2.2 s.v0.1 s.v0.2 s.v1.1 s.v1.2 s.v2.1 s.v2.2 s.m.1 s.m.2 0 0 0 0 0 0 0 0 0 0 0 0 1 1 0 0 0 0 0 0 0 0 0 0 0 true true w _ ?_;exact⟨λw' _=>ME w',λβ w' _ hm=>AR w' hm.1.2 hm.2.1.2,λw' _=>AS w',λβ w' _ hm=>AR w' hm.1.2 hm.2.1.2,λw' _=>AS w',λβ w' _ hm=>AR w' hm.1.2 hm.2.1.2,λw' _=>AS w',rfl⟩
end Go.Proofs.YtnjpiipdgapakaaGreatDoor
