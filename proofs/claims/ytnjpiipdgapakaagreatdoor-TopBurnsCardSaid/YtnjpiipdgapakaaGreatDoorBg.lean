import Derived.Test.YtnjpiipdgapakaaGreatDoorLz
import Derived.Test.YtnjpiipdgapakaaGreatDoorVcU
import Derived.Lib.AppendZeros
import Derived.Below
set_option linter.unusedVariables false
set_option linter.unusedSimpArgs false
set_option linter.unusedSimpArgs false
namespace Go.Proofs.YtnjpiipdgapakaaGreatDoor
open Go Go.RowKit Go.Proofs
theorem Af:Tryz.prog.underlying 30=some (.array 3 25):=by kernel_rfl
theorem DZ:Tryz.prog.underlying 141=some (.array 6 25):=by kernel_rfl
theorem D0(a:Addr)(n:Nat)(w:World):(Instr.arrayAt 30 (.slice (some a) 3 n)).run Tryz.prog w=.ok (.pointer (some a)) w:=by
 simp [Instr.arrayAt,run_underlying Af]
set_option maxHeartbeats 4000000 in
set_option maxRecDepth 100000 in
theorem BK(a b c d e f g h i j k l:Int)(w:World):Calls Tryz.prog 81 #[.agg #[.int .i64 a,.int .i64 b,.int .i64 c,.int .i64 d,.int .i64 e,.int .i64 f,.int .i64 g,.int .i64 h,.int .i64 i,.int .i64 j,.int .i64 k,.int .i64 l]] w (Vc.aw (.agg #[.int .i64 a,.int .i64 b,.int .i64 c,.int .i64 d,.int .i64 e,.int .i64 f]) w):=by
 have u1:=run_underlying (P:=Tryz.prog) Af;have u2:=run_underlying (P:=Tryz.prog) DZ
 go_enter Tryz.func81,Tryz.ntmps81
 go_wp2_with (simp only [D0])
 refine bodyPost_ret (by simp [results,Tryz.results81,go_sem];try rfl) rfl ⟨rfl, ?_⟩
 go_grown
set_option maxHeartbeats 4000000 in
set_option maxRecDepth 100000 in
theorem xZ(a b c d e f g h i j k l:Int)(w:World):Calls Tryz.prog 82 #[.agg #[.int .i64 a,.int .i64 b,.int .i64 c,.int .i64 d,.int .i64 e,.int .i64 f,.int .i64 g,.int .i64 h,.int .i64 i,.int .i64 j,.int .i64 k,.int .i64 l]] w (Vc.aw (.agg #[.int .i64 g,.int .i64 h,.int .i64 i,.int .i64 j,.int .i64 k,.int .i64 l]) w):=by
 have u1:=run_underlying (P:=Tryz.prog) Af;have u2:=run_underlying (P:=Tryz.prog) DZ
 go_enter Tryz.func82,Tryz.ntmps82
 go_wp2_with (simp only [D0])
 refine bodyPost_ret (by simp [results,Tryz.results82,go_sem];try rfl) rfl ⟨rfl, ?_⟩
 go_grown
theorem Qh:Tryz.prog.underlying 76=some (.slice 25):=by kernel_rfl
theorem Ke:(Tryz.prog.info? 25).map (·.zero)=some (some (.agg #[.int .i64 0,.int .i64 0])):=by kernel_rfl
theorem Kg:(Tryz.prog.info? 25).map (λi=>(i.size,i.bytes))=some (2,16):=by kernel_rfl
theorem Qi(z:Value)(hz:z.cells.size=2)(n:Nat):(Builtin.zeroCells z.cells n).size=n*2:=by simp [Builtin.zeroCells,hz]
set_option maxHeartbeats 4000000 in
set_option maxRecDepth 100000 in
theorem Kh(bk ck:Nat)(w:World):Calls Tryz.prog 52 #[.slice none 0 0,.int .i64 6] w (Vc.yT bk ck [] 2 25 w):=by
 obtain⟨i0,Ki,sL⟩:=Option.map_eq_some_iff.1 Kg;have Bo:i0.size=2:=by injection sL
 have T9:i0.bytes=16:=by injection sL
 have IM:i0.zero=some (.agg #[.int .i64 0,.int .i64 0]):=by
  have:=Ke
  rw [Ki]at this;simpa using this
 have mixed:Tryz.prog.follows Departure.mixedOrders=true:=by kernel_rfl
 have Xe:=run_underlying (P:=Tryz.prog) Qh;have u3:Tryz.prog.underlying 3=some (.int .i64):=by kernel_rfl
 have w6:IntKind.i64.wrap 6=6:=by decide
 have w0:IntKind.i64.wrap 0=0:=by decide
 obtain⟨G,hG⟩:∃G,G=grownCap w 6 0 25:=⟨_,rfl⟩;have Xf:6<=G:=by rw [hG];exact grownCap_ge w _ _ _
 have T_:G<=maxLen:=by rw [hG];exact grownCap_le_maxLen w 6 0 _ (by decide)
 obtain⟨Ag,Ah⟩:∃Ag:Array Value,Ag=Builtin.zeroCells (Value.agg #[.int .i64 0,.int .i64 0]).cells 6++Builtin.zeroCells (Value.agg #[.int .i64 0,.int .i64 0]).cells (G-6):=⟨_,rfl⟩
 have Qj:Ag.size=G*2:=by
  rw [Ah,Array.size_append,Qi _ rfl,Qi _ rfl];omega
 have T':∀ty,(Builtin.append_ #[76,3] ty #[.slice none 0 0,.int .i64 6]).run Tryz.prog w =
   .ok (.slice (some ⟨w.heap.size,0,none⟩) 6 G) (w.drew.alloc (.cells Ag 25)):=λty=>by
  have h:=Lib.run_append_nil_zeros w 76 3 ty 25 i0 _ .i64 .i64 Qh u3 Ki IM 6 (by omega) (by omega) (by decide) (by rw [T9];decide);rw [hG,Ah,hG];simpa using h
 have Gk:¬(G=0):=by omega
 have Ua:G<=9223372036854775807:=by unfold maxLen at T_;omega
 have main:Calls Tryz.prog 52 #[.slice none 0 0,.int .i64 6] w λe w'=>e=.returned (.slice (some ⟨w.heap.size,0,none⟩) 0 G)/\w'=w.drew.alloc (.cells Ag 25):=by
  clear Ah hG Qj
  go_enter Tryz.func52,Tryz.ntmps52
  go_wp2_with (at_builtin;refine Lib.wpList_append_run _ rfl _ _ _ _ rfl _ _ rfl rfl _ _ (T' _) ?_)
  go_ret
  exact⟨rfl,rfl⟩
 refine main.mono λe w' ⟨he,hw⟩ => ?_;have Ai:w'.heap=w.heap.push (.cells Ag 25 (0,0)):=by rw [hw];rfl
 have Kj:w'.os=w.os/\w'.tape=w.tape/\w'.output=w.output:=by rw [hw];exact⟨rfl,rfl,rfl⟩
 refine⟨w.heap.size,G+1,0,0,by rw [he];unfold Vc.cj;rw [if_neg (by omega)];rfl,.inl ⟨rfl,by decide,.inr ⟨by omega,rfl,trivial,by omega,by omega,Ag,by rw [Ai,Array.getElem?_push_size],by rw [Qj];rfl,rfl⟩⟩,⟨Kj.1,Kj.2.1,Kj.2.2,by rw [Ai,Array.size_push];omega⟩,λx hx _=>by rw [Ai,Array.getElem?_push,if_neg (Nat.ne_of_lt hx)],λ_=>.inl (Nat.le_refl _)⟩
end Go.Proofs.YtnjpiipdgapakaaGreatDoor
