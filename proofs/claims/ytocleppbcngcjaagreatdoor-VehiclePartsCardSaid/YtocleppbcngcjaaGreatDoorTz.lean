import Derived.Test.YtocleppbcngcjaaGreatDoorGx
import Derived.Test.YtocleppbcngcjaaGreatDoorGc
import Derived.Test.YtocleppbcngcjaaGreatDoorVal
import Derived.Test.YtocleppbcngcjaaGreatDoorFvA
import Derived.Lib.Bytealg
import Derived.Test.YtocleppbcngcjaaGreatDoorGa
import Derived.Test.YtocleppbcngcjaaGreatDoorShI
import Derived.Lib.ItoaLen
import Derived.Lib.AppendIntMem
import Derived.Shelf.Spec.TrailingZeros
section
set_option linter.unusedVariables false
set_option linter.unusedSimpArgs false
namespace Go.Proofs.YtocleppbcngcjaaGreatDoor
open Go Go.RowKit
theorem uR(l:List UInt8)(w:World):(callFunc 184 #[.string ⟨l.toArray⟩,.int .u8 46]).run Tryz.prog w=.ok (.value (.int .i64 (Lib.indexByte l 46))) w:=by
 rw [run_callFunc_extern Tryz.func184 (by kernel_rfl) (by kernel_rfl) (by kernel_rfl) (e:=Extern.BytealgIndexByte.indexByte) (by kernel_rfl),Lib.run_indexByteString];rfl
theorem zp{w w':World}{g:Nat}{cs:Array Value}(h:∃ty mk,w.heap[g]? = some (.cells cs ty mk))(hb:Below w.heap.size w w'):∃ty mk,w'.heap[g]? = some (.cells cs ty mk):=by
 obtain⟨ty,mk,h⟩:=h;have h4:g<w.heap.size:=(Array.getElem?_eq_some_iff.1 h).1;exact⟨ty,mk,by rw [hb.block g h4];exact h⟩
theorem Mm{w w':World}(h:k7 w)(hb:Below w.heap.size w w'):Calls Tryz.prog 58 #[.string ⟨(([49,46,53]:List UInt8)).toArray⟩] w' (Vc.Ret (.tuple #[.agg #[.int .i64 3,.int .i64 2,.int .i64 0,.int .i64 0,.int .i64 0],.int .i64 0]) w') :=
 wQ [49,46,53] [49] [53] true w' _ 0 (λw2=>Wu w2 _ ⟨⟨rfl,λw3=>uR [49,46,53] w3⟩,rfl⟩) (by decide) (by decide) (zp h hb)
  (λw2=>WE 0 0 0 w2 _ (by simp)) ⟨_,_,_,_,_,rfl⟩
theorem Mn{w w':World}(h:k7 w)(hb:Below w.heap.size w w'):Calls Tryz.prog 58 #[.string ⟨(([50]:List UInt8)).toArray⟩] w' (Vc.Ret (.tuple #[.agg #[.int .i64 2,.int .i64 1,.int .i64 0,.int .i64 0,.int .i64 0],.int .i64 0]) w') :=
 wQ [50] [50] [] false w' _ 0 (λw2=>Wv w2 _ ⟨⟨rfl,λw3=>uR [50] w3⟩,rfl⟩) (by decide) (by decide) (zp h hb)
  (λw2=>WG 0 0 0 w2 _ (by simp)) ⟨_,_,_,_,_,rfl⟩
theorem Mo{w w':World}(h:k7 w)(hb:Below w.heap.size w w'):Calls Tryz.prog 58 #[.string ⟨(([51]:List UInt8)).toArray⟩] w' (Vc.Ret (.tuple #[.agg #[.int .i64 3,.int .i64 1,.int .i64 0,.int .i64 0,.int .i64 0],.int .i64 0]) w') :=
 wQ [51] [51] [] false w' _ 0 (λw2=>Ww w2 _ ⟨⟨rfl,λw3=>uR [51] w3⟩,rfl⟩) (by decide) (by decide) (zp h hb)
  (λw2=>WH 0 0 0 w2 _ (by simp)) ⟨_,_,_,_,_,rfl⟩
theorem Mp{w w':World}(h:k7 w)(hb:Below w.heap.size w w'):Calls Tryz.prog 58 #[.string ⟨(([49,48]:List UInt8)).toArray⟩] w' (Vc.Ret (.tuple #[.agg #[.int .i64 10,.int .i64 1,.int .i64 0,.int .i64 0,.int .i64 0],.int .i64 0]) w') :=
 wQ [49,48] [49,48] [] false w' _ 0 (λw2=>Wx w2 _ ⟨⟨rfl,λw3=>uR [49,48] w3⟩,rfl⟩) (by decide) (by decide) (zp h hb)
  (λw2=>WI 0 0 0 w2 _ (by simp)) ⟨_,_,_,_,_,rfl⟩
theorem Mq{w w':World}(h:k7 w)(hb:Below w.heap.size w w'):Calls Tryz.prog 58 #[.string ⟨(([50,48,48,48]:List UInt8)).toArray⟩] w' (Vc.Ret (.tuple #[.agg #[.int .i64 2000,.int .i64 1,.int .i64 0,.int .i64 0,.int .i64 0],.int .i64 0]) w') :=
 wQ [50,48,48,48] [50,48,48,48] [] false w' _ 0 (λw2=>Wy w2 _ ⟨⟨rfl,λw3=>uR [50,48,48,48] w3⟩,rfl⟩) (by decide) (by decide) (zp h hb)
  (λw2=>WJ 0 0 0 w2 _ (by simp)) ⟨_,_,_,_,_,rfl⟩
theorem Mr{w w':World}(h:k7 w)(hb:Below w.heap.size w w'):Calls Tryz.prog 58 #[.string ⟨(([49]:List UInt8)).toArray⟩] w' (Vc.Ret (.tuple #[.agg #[.int .i64 1,.int .i64 1,.int .i64 0,.int .i64 0,.int .i64 0],.int .i64 0]) w') :=
 wQ [49] [49] [] false w' _ 0 (λw2=>Wz w2 _ ⟨⟨rfl,λw3=>uR [49] w3⟩,rfl⟩) (by decide) (by decide) (zp h hb)
  (λw2=>WK 0 0 0 w2 _ (by simp)) ⟨_,_,_,_,_,rfl⟩
theorem Ms{w w':World}(h:k7 w)(hb:Below w.heap.size w w'):Calls Tryz.prog 58 #[.string ⟨(([48,46,53]:List UInt8)).toArray⟩] w' (Vc.Ret (.tuple #[.agg #[.int .i64 1,.int .i64 2,.int .i64 0,.int .i64 0,.int .i64 0],.int .i64 0]) w') :=
 wQ [48,46,53] [48] [53] true w' _ 0 (λw2=>WA w2 _ ⟨⟨rfl,λw3=>uR [48,46,53] w3⟩,rfl⟩) (by decide) (by decide) (zp h hb)
  (λw2=>WL 0 0 0 w2 _ (by simp)) ⟨_,_,_,_,_,rfl⟩
theorem Mt{w w':World}(h:k7 w)(hb:Below w.heap.size w w'):Calls Tryz.prog 58 #[.string ⟨(([48]:List UInt8)).toArray⟩] w' (Vc.Ret (.tuple #[.agg #[.int .i64 0,.int .i64 1,.int .i64 0,.int .i64 0,.int .i64 0],.int .i64 0]) w') :=
 wQ [48] [48] [] false w' _ 0 (λw2=>WB w2 _ ⟨⟨rfl,λw3=>uR [48] w3⟩,rfl⟩) (by decide) (by decide) (zp h hb)
  (λw2=>WM 0 0 0 w2 _ (by simp)) ⟨_,_,_,_,_,rfl⟩
theorem Mu{w w':World}(h:k7 w)(hb:Below w.heap.size w w'):Calls Tryz.prog 58 #[.string ⟨(([53,48]:List UInt8)).toArray⟩] w' (Vc.Ret (.tuple #[.agg #[.int .i64 50,.int .i64 1,.int .i64 0,.int .i64 0,.int .i64 0],.int .i64 0]) w') :=
 wQ [53,48] [53,48] [] false w' _ 0 (λw2=>WC w2 _ ⟨⟨rfl,λw3=>uR [53,48] w3⟩,rfl⟩) (by decide) (by decide) (zp h hb)
  (λw2=>WN 0 0 0 w2 _ (by simp)) ⟨_,_,_,_,_,rfl⟩
theorem Mv{w w':World}(h:k7 w)(hb:Below w.heap.size w w'):Calls Tryz.prog 58 #[.string ⟨(([51,53]:List UInt8)).toArray⟩] w' (Vc.Ret (.tuple #[.agg #[.int .i64 35,.int .i64 1,.int .i64 0,.int .i64 0,.int .i64 0],.int .i64 0]) w') :=
 wQ [51,53] [51,53] [] false w' _ 0 (λw2=>WD w2 _ ⟨⟨rfl,λw3=>uR [51,53] w3⟩,rfl⟩) (by decide) (by decide) (zp h hb)
  (λw2=>WO 0 0 0 w2 _ (by simp)) ⟨_,_,_,_,_,rfl⟩
set_option maxHeartbeats 4000000 in
set_option maxRecDepth 100000 in
theorem Mw(w:World)(h0:cB w)(uj:I w):Calls Tryz.prog 112 #[.string ⟨(([111,110,101]:List UInt8)).toArray⟩] w (Vc.Ret (.bool false) w):=by
 refine WR w _ ?_
 repeat first
  |exact rfl
  |refine⟨h0, ?_⟩
  |refine⟨uj, ?_⟩
  |intro _ _
set_option maxHeartbeats 4000000 in
set_option maxRecDepth 100000 in
theorem Mx(w:World)(h0:cB w)(uj:I w):Calls Tryz.prog 112 #[.string ⟨(([116,97,110,107]:List UInt8)).toArray⟩] w (Vc.Ret (.bool false) w):=by
 refine WS w _ ?_
 repeat first
  |exact rfl
  |refine⟨h0, ?_⟩
  |refine⟨uj, ?_⟩
  |intro _ _
set_option maxHeartbeats 4000000 in
set_option maxRecDepth 100000 in
theorem My(w:World)(h0:cB w)(uj:I w):Calls Tryz.prog 112 #[.string ⟨(([108,111,119]:List UInt8)).toArray⟩] w (Vc.Ret (.bool false) w):=by
 refine WT w _ ?_
 repeat first
  |exact rfl
  |refine⟨h0, ?_⟩
  |refine⟨uj, ?_⟩
  |intro _ _
set_option maxHeartbeats 4000000 in
set_option maxRecDepth 100000 in
theorem Mz(w:World)(h0:cB w)(uj:I w):Calls Tryz.prog 112 #[.string ⟨(([101]:List UInt8)).toArray⟩] w (Vc.Ret (.bool false) w):=by
 refine WU w _ ?_
 repeat first
  |exact rfl
  |refine⟨h0, ?_⟩
  |refine⟨uj, ?_⟩
  |intro _ _
structure nu(w:World):Prop where
 g0:cB w
 g3:ae w
 g4:k7 w
 g5:yq w
 g6:Fh w
 g7:Fi w
 g8:BB w
 g9:wJ w
 g10:wK w
 g11:zU w
 g12:zV w
 g14:I w
 g15:tu w
theorem nu.cA{w w':World}(h:nu w)(hb:Below w.heap.size w w'):nu w':=⟨zp h.g0 hb,zp h.g3 hb,zp h.g4 hb,zp h.g5 hb,zp h.g6 hb,zp h.g7 hb,zp h.g8 hb,zp h.g9 hb,zp h.g10 hb,zp h.g11 hb,zp h.g12 hb,zp h.g14 hb,zp h.g15 hb⟩
set_option maxHeartbeats 4000000 in
set_option maxRecDepth 100000 in
theorem Xw(w:World)(hG:nu w):Calls Tryz.prog 5 #[] w (Vc.Ret (.bool true) w):=by
 obtain⟨h0,h3,h4,h5,h6,h7,h8,h9,Dq,Xx,BP,uj,Xy⟩:=hG;refine Ws w _ ?_
 have hdiv:∀w':World,Calls Tryz.prog 39 #[.agg #[.int .i64 42949672960,.int .i64 51539607552],.agg #[.int .i64 8589934592,.int .i64 17179869184]] w' (Vc.Ret (.tuple #[.agg #[.int .i64 10737418240,.int .i64 25769803776],.int .i64 0]) w'):=λw' =>
  Vc.Ret.mono (Ml 42949672960 51539607552 8589934592 17179869184 w' ⟨by decide,by decide⟩ ⟨by decide,by decide⟩ ⟨by decide,by decide⟩ ⟨by decide,by decide⟩) (by kernel_rfl)
 have r1:=λ(w':World) (hb:Below w.heap.size w w')=>Mw w' (zp h0 hb) (zp uj hb);have r2:=λ(w':World) (hb:Below w.heap.size w w')=>Mx w' (zp h0 hb) (zp uj hb);have r3:=λ(w':World) (hb:Below w.heap.size w w')=>My w' (zp h0 hb) (zp uj hb);have r4:=λ(w':World) (hb:Below w.heap.size w w')=>Mz w' (zp h0 hb) (zp uj hb);have v0:=λ(w':World) (hb:Below w.heap.size w w')=>Mm h4 hb;have v1:=λ(w':World) (hb:Below w.heap.size w w')=>Mn h4 hb;have v2:=λ(w':World) (hb:Below w.heap.size w w')=>Mo h4 hb;have v3:=λ(w':World) (hb:Below w.heap.size w w')=>Mp h4 hb;have v4:=λ(w':World) (hb:Below w.heap.size w w')=>Mq h4 hb;have v5:=λ(w':World) (hb:Below w.heap.size w w')=>Mr h4 hb;have v6:=λ(w':World) (hb:Below w.heap.size w w')=>Ms h4 hb;have v7:=λ(w':World) (hb:Below w.heap.size w w')=>Mt h4 hb;have v8:=λ(w':World) (hb:Below w.heap.size w w')=>Mu h4 hb;have v9:=λ(w':World) (hb:Below w.heap.size w w')=>Mv h4 hb
 repeat first
  |with_reducible refine⟨h0, ?_⟩
  |with_reducible refine⟨h3, ?_⟩
  |with_reducible refine⟨h4, ?_⟩
  |with_reducible refine⟨h5, ?_⟩
  |with_reducible refine⟨h6, ?_⟩
  |with_reducible refine⟨h7, ?_⟩
  |with_reducible refine⟨h8, ?_⟩
  |with_reducible refine⟨h9, ?_⟩
  |with_reducible refine⟨Dq, ?_⟩
  |with_reducible refine⟨Xx, ?_⟩
  |with_reducible refine⟨BP, ?_⟩
  |with_reducible refine⟨uj, ?_⟩
  |with_reducible refine⟨Xy, ?_⟩
  |with_reducible refine⟨r1, ?_⟩
  |with_reducible refine⟨r2, ?_⟩
  |with_reducible refine⟨r3, ?_⟩
  |with_reducible refine⟨r4, ?_⟩
  |with_reducible refine⟨v0, ?_⟩
  |with_reducible refine⟨v1, ?_⟩
  |with_reducible refine⟨v2, ?_⟩
  |with_reducible refine⟨v3, ?_⟩
  |with_reducible refine⟨v4, ?_⟩
  |with_reducible refine⟨v5, ?_⟩
  |with_reducible refine⟨v6, ?_⟩
  |with_reducible refine⟨v7, ?_⟩
  |with_reducible refine⟨v8, ?_⟩
  |with_reducible refine⟨v9, ?_⟩
  |intro _ _
  |refine⟨λw' _=>hdiv w', ?_⟩
  |refine⟨λw' _=>WQ _ _ _ _ _ _ _ _ _ _ _ w' _ rfl, ?_⟩
  |exact rfl
end Go.Proofs.YtocleppbcngcjaaGreatDoor
end
section
set_option linter.unusedVariables false
set_option linter.unusedSimpArgs false
set_option linter.unusedSimpArgs false
namespace Go.Proofs.YtocleppbcngcjaaGreatDoor
open Go Go.RowKit Vc
theorem FE {w : World} (h : tu w) : Lib.TabIs Tryz.prog w "internal/strconv.uint64pow10" .u64 Lib.pow10Tab := by
  obtain⟨ty,mk,hh⟩:=h;have hg : Tryz.prog.globalNamed "internal/strconv.uint64pow10" = some 14 := by kernel_rfl
  unfold Lib.TabIs World.var?;rw [hg];simp only [Option.bind_some];rw [hh];exact congrArg some (by kernel_rfl)
structure uS(w:World):Prop where
 g:nu w
 d:Li w
theorem uS.cA{w w':World}(h:uS w)(hb:Below w.heap.size w w'):uS w':=⟨h.g.cA hb,zp h.d hb⟩
theorem SK{w:World}(hV:uS w){n:Int}(h0:-9223372036854775808<=n)(h1:n<=9223372036854775807):∀w':World,Below w.heap.size w w'->Calls Tryz.prog 28 #[.int .i64 n] w' (Vc.Ret (.string ⟨(Lib.itoa n).toArray⟩) w'):=by
 intro w' hb;refine (Tryz.strconv_Itoa n h0 h1 w' (FE (zp hV.g.g15 hb))).mono ?_;rintro e w2 ⟨rfl,k,os,rfl⟩;exact⟨rfl,Lib.below_grow _ w' (Nat.le_refl _) k os⟩
theorem MA{w:World}(hV:uS w){n:Int}(h0:-9223372036854775808<=n)(h1:n<=9223372036854775807):∀w':World,Below w.heap.size w w'->Calls Tryz.prog 50 #[.int .i64 n,.int .i64 10] w' (Vc.Ret (.string ⟨(Lib.itoa n).toArray⟩) w'):=by
 intro w' hb;refine (Tryz.strconv_FormatInt_10 n h0 h1 w' (FE (zp hV.g.g15 hb))).mono ?_;rintro e w2 ⟨rfl,k,os,rfl⟩;exact⟨rfl,Lib.below_grow _ w' (Nat.le_refl _) k os⟩
set_option maxHeartbeats 1000000 in
theorem MB(x k idx:Nat)(w:World)(yd:((x:Int) == 0)=false)
  (key:IntKind.u64.wrap (bits BinOp.and IntKind.u64 (x:Int) (IntKind.u64.wrap (-(x:Int)))*285870213051353865) / 288230376151711744=(idx:Int))
  (hi:idx<64) (hk:k<64) (bY:w.cell? ⟨4,idx,none⟩=some (.int .u8 k)) :
  Calls Tryz.prog 49 #[.int .u64 x] w λe w'=>e=.returned (.int .i64 k)/\w'=w:=by
 go_enter Tryz.func49,Tryz.ntmps49
 go_wp2_with (simp only [key])
 go_ret
 exact⟨rfl,rfl⟩
theorem MC(w:World):Calls Tryz.prog 49 #[.int .u64 0] w λe w'=>e=.returned (.int .i64 64)/\w'=w:=by
 go_enter Tryz.func49,Tryz.ntmps49
 go_wp2
 go_ret
 exact⟨rfl,rfl⟩
theorem MD{w:World}(hV:uS w)(x:Nat)(hx:x<18446744073709551616):∀w':World,Below w.heap.size w w'->Calls Tryz.prog 49 #[.int .u64 x] w' (Vc.Ret (.int .i64 (Lib.ctz 64 x)) w'):=by
 intro w' hb;by_cases yd:x=0
 ·subst yd;refine (MC w').mono ?_;rintro e w2 ⟨rfl,rfl⟩;exact⟨rfl,Below.refl _ _⟩
 ·obtain⟨ME,hk⟩:=Lib.lowest_bit 64 x yd hx;obtain⟨hi,wM⟩:=Lib.deBruijn64_at _ hk;obtain⟨ty,mk,hh⟩:=zp hV.d hb;have MF:(#[.int .u8 0,.int .u8 1,.int .u8 56,.int .u8 2,.int .u8 57,.int .u8 49,.int .u8 28,.int .u8 3,.int .u8 61,.int .u8 58,.int .u8 42,.int .u8 50,.int .u8 38,.int .u8 29,.int .u8 17,.int .u8 4,.int .u8 62,.int .u8 47,.int .u8 59,.int .u8 36,.int .u8 45,.int .u8 43,.int .u8 51,.int .u8 22,.int .u8 53,.int .u8 39,.int .u8 33,.int .u8 30,.int .u8 24,.int .u8 18,.int .u8 12,.int .u8 5,.int .u8 63,.int .u8 55,.int .u8 48,.int .u8 27,.int .u8 60,.int .u8 41,.int .u8 37,.int .u8 16,.int .u8 46,.int .u8 35,.int .u8 44,.int .u8 21,.int .u8 52,.int .u8 32,.int .u8 23,.int .u8 11,.int .u8 54,.int .u8 26,.int .u8 40,.int .u8 15,.int .u8 34,.int .u8 20,.int .u8 31,.int .u8 10,.int .u8 25,.int .u8 14,.int .u8 19,.int .u8 9,.int .u8 13,.int .u8 8,.int .u8 7,.int .u8 6]:Array Value)=(Lib.deBruijn64tab.map λk:Nat=>Value.int .u8 (k:Int)).toArray:=by kernel_rfl
  rw [MF]at hh
  have bY:∀j,j<Lib.deBruijn64tab.length->w'.cell? ⟨4,j,none⟩=some (.int .u8 (Lib.deBruijn64tab.getD j 0)):=λj hj=>by
   simp only [World.cell?,hh];simp [List.getD,hj]
  have bY:=bY _ hi;rw [wM]at bY;refine (MB x _ _ w' (by simp;omega) (tz64_key x _ hx yd ME) hi hk bY).mono ?_;rintro e w2 ⟨rfl,rfl⟩;exact⟨rfl,Below.refl _ _⟩
def bz(n:Int):Nat:=min (Lib.ctz 64 (n % 18446744073709551616).toNat) 32
def i_(n:Int)(u:List UInt8):List UInt8 :=
 Lib.itoa (n / 2 ^ bz n)++(if u=[]then []else [32]++u)++(if bz n<32 then [32,47,32]++Lib.itoa (2 ^ (32-bz n))else [])
def ja(a b:Int)(u:List UInt8):List UInt8:=i_ a u ++ [32,46,46,32]++i_ b u
theorem FF{n:Int}(h0:-9223372036854775808<=n)(h1:n<=9223372036854775807):(Lib.itoa n).length<=21:=Lib.itoa_length_le n h0 h1
theorem MG{n:Int}(h0:-9223372036854775808<=n)(h1:n<=9223372036854775807)(k:Nat):-9223372036854775808<=n / 2 ^ k/\n / 2 ^ k<=9223372036854775807:=by
 have hd:(1:Int)<=2 ^ k:=by have:(0:Int)<2 ^ k:=Int.pow_pos (by decide);omega
 constructor
 ·refine Int.le_ediv_of_mul_le (by omega) ?_
  have:(9223372036854775808:Int)*1<=9223372036854775808*2 ^ k:=Int.mul_le_mul_of_nonneg_left hd (by decide)
  rw [Int.neg_mul];omega
 ·have:n / 2 ^ k<9223372036854775808:=Int.ediv_lt_of_lt_mul (by omega) (by
   have:(9223372036854775808:Int)*1<=9223372036854775808*2 ^ k:=Int.mul_le_mul_of_nonneg_left hd (by decide)
   omega)
  omega
theorem MH{k:Nat}(h:k<=32):(1:Int)<=2 ^ k/\(2:Int) ^ k<=4294967296:=by
 have h1:(0:Int)<2 ^ k:=Int.pow_pos (by decide);have h2:(2:Nat) ^ k<=2 ^ 32:=Nat.pow_le_pow_right (by decide) h;have h3:((2 ^ k:Nat):Int)=(2:Int) ^ k:=by simp
 refine⟨by omega, ?_⟩;rw [<-h3];omega
theorem Ag{n:Int}(h0:-9223372036854775808<=n)(h1:n<=9223372036854775807)(u:List UInt8):(i_ n u).length<=50+u.length:=by
 have a:=FF (MG h0 h1 (bz n)).1 (MG h0 h1 (bz n)).2;have b:∀k:Nat,k<=32->(Lib.itoa ((2:Int) ^ k)).length<=21:=λk hk=>FF (by have:=MH hk;omega) (by have:=MH hk;omega);have b':=b (32-bz n) (by omega);unfold i_;simp only [List.length_append];split<;>split<;>simp<;>omega
theorem FG{w:World}(hV:uS w){n:Int}(h0:-9223372036854775808<=n)(h1:n<=9223372036854775807)(u:List UInt8)(hu:u.length<=100):∀w':World,Below w.heap.size w w'->Calls Tryz.prog 29 #[.int .i64 n,.string ⟨u.toArray⟩] w' (Vc.Ret (.string ⟨(i_ n u).toArray⟩) w'):=by
  intro w' hb;have Dr:=hV.cA hb;have Xz:bz n<=32:=Nat.min_le_right _ _;have pM:=MG h0 h1 (bz n);have l1:=FF pM.1 pM.2;have hp:=MH (k:=32-bz n) (by omega);have l2:(Lib.itoa ((2:Int) ^ (32-bz n))).length<=21:=FF (by omega) (by omega);refine Wo n u w' _ ?_;rintro x1 rfl;have e1:IntKind.u64.wrap n=(((n % 18446744073709551616).toNat:Nat):Int):=by rw [IntKind.wrap_u64];omega
  rw [e1];refine⟨_,MD Dr _ (by omega), ?_⟩;rintro x3 rfl
  have e3:(if (32:Int)<((Lib.ctz 64 (n % 18446744073709551616).toNat:Nat):Int)then (32:Int)else ((Lib.ctz 64 (n % 18446744073709551616).toNat:Nat):Int))=((bz n:Nat):Int):=by
    unfold bz;split<;>omega
  rw [e3];refine⟨by omega, ?_⟩;rintro x4 rfl
  have e4:Int.fdiv n (2 ^ (Nat.min (Int.toNat ((bz n:Nat):Int)) 64))=n / 2 ^ bz n:=by
    have:Nat.min (Int.toNat ((bz n:Nat):Int)) 64=bz n:=by
      rw [Int.toNat_natCast];exact Nat.min_eq_left (by omega)
    rw [this,Int.fdiv_eq_ediv_of_nonneg _ (by have:(0:Int)<2 ^ bz n:=Int.pow_pos (by decide);omega)]
  rw [e4];refine⟨_,MA Dr pM.1 pM.2, ?_⟩
  have tail:∀ (s1:List UInt8) (v:Value),s1.length<=1000->v=.string ⟨(s1++(if bz n < 32 then [32,47,32]++Lib.itoa (2 ^ (32 - bz n))else [])).toArray⟩ ->
      (((((bz n:Nat):Int)<32)->(∀x5:Int,x5=IntKind.i64.wrap (32-((bz n:Nat):Int))->(0<=x5)/\∀x6:Int,x6=IntKind.i64.wrap (1*2 ^ (Nat.min x5.toNat 64)) ->
        ∃(s2:List UInt8),(∀w2:World,Below w'.heap.size w' w2->Calls Tryz.prog 28 #[.int .i64 x6] w2 (Vc.Ret (.string ⟨s2.toArray⟩) w2)) /\
        (List.length ([32,47,32]:List UInt8)+List.length s2<=9223372036854775807)/\∀s3:List UInt8,s3=([32,47,32]:List UInt8)++s2 ->
        (List.length s1+List.length s3<=9223372036854775807)/\∀s4:List UInt8,s4=s1++s3->(.string ⟨s4.toArray⟩:Value)=v))/\(¬(((bz n:Nat):Int)<32)->((.string ⟨s1.toArray⟩:Value)=v))):=by
    intro s1 v hs hv;refine aj (λcn => ?_) (λkU => ?_)
    · rintro x5 rfl;have e5:IntKind.i64.wrap (32-((bz n:Nat):Int))=((32-bz n:Nat):Int):=by rw [zj (by omega)];omega
      rw [e5];refine⟨by omega, ?_⟩;rintro x6 rfl
      have e6:IntKind.i64.wrap (1*2 ^ (Nat.min (Int.toNat ((32-bz n:Nat):Int)) 64))=2 ^ (32-bz n):=by
        have:Nat.min (Int.toNat ((32-bz n:Nat):Int)) 64=32-bz n:=by
          rw [Int.toNat_natCast];exact Nat.min_eq_left (by omega)
        rw [this,Int.one_mul,zj (by omega)]
      rw [e6];refine⟨_,SK Dr (by omega) (by omega),by simp;omega, ?_⟩;rintro s3 rfl;refine⟨by simp;omega, ?_⟩;rintro s4 rfl;rw [hv,if_pos (by omega)]
    · rw [hv,if_neg (by omega),List.append_nil]
  refine aj (λBO => ?_) (λBO => ?_)
  · refine tail _ _ (by omega) ?_;unfold i_;rw [if_pos BO,List.append_nil]
  · refine⟨by simp;omega, ?_⟩;rintro s2 rfl;refine⟨by simp;omega, ?_⟩;rintro s3 rfl;refine tail _ _ (by simp;omega) ?_;unfold i_;rw [if_neg BO]
theorem FH{w:World}(hV:uS w){a b:Int}(ha:-9223372036854775808<=a/\a<=9223372036854775807)(hb:-9223372036854775808<=b/\b<=9223372036854775807)(u:List UInt8)(hu:u.length<=100):∀w':World,Below w.heap.size w w'->Calls Tryz.prog 27 #[.agg #[.int .i64 a,.int .i64 b],.string ⟨u.toArray⟩] w' (Vc.Ret (.string ⟨(ja a b u).toArray⟩) w'):=by
 intro w' hw;have Dr:=hV.cA hw;have l1:=Ag ha.1 ha.2 u;have l2:=Ag hb.1 hb.2 u;refine Wp a b u w' _ ⟨_,FG Dr ha.1 ha.2 u hu,by simp;omega, ?_⟩;rintro s2 rfl;refine⟨_,FG Dr hb.1 hb.2 u hu,by simp;omega, ?_⟩;rintro s4 rfl;rfl
end Go.Proofs.YtocleppbcngcjaaGreatDoor
end
