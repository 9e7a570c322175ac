/- TopBurns: for every input the law returns true, and each argument reads afterwards as it read before. No condition. -/
import Derived.Test.YtnjpiipdgapakaaGreatDoorBl
import Derived.Test.YtnjpiipdgapakaaGreatDoorOv
import Derived.Test.YtnjpiipdgapakaaGreatDoorGl
import Derived.Test.YtnjpiipdgapakaaGreatDoorJfB
import Derived.WalkKit
import Derived.ProofKit
import Derived.OpenShut
import Derived.Lib.SmallJoins
import Derived.LaidMore
import Derived.Stop.Joined
import Derived.SevenTiedAt
import Derived.Lay
import Derived.MakeChecks
import Derived.ChangeMaps5
import Derived.Test.YtnjpiipdgapakaaGreatDoorCards
import Derived.Test.YtnjpiipdgapakaaGreatDoorTie
set_option linter.unusedVariables false
set_option linter.unusedSimpArgs false
namespace Go.Proofs.YtnjpiipdgapakaaGreatDoor.topBurns
open Go.ChangeShapes Go.WideShapes Go.ChangeAt Go.RowKit Go.Joins Ul
theorem own:ownKnob Tryz.prog.godebug=none:=by kernel_rfl
theorem G6:laidOutB Tryz.prog=true:=by kernel_rfl
set_option maxRecDepth 100000 in
theorem lifted(os:Os)(started:os.Started)(H:Type)(enc:TypeId × Value->H) :
  ReturnsInHanded {} Tryz.checked os 3 .any (λw args=>(Rows.topBurnsSpec.pre enc Tryz.prog Tryz.f3 [] false w args/\laidMetH Tryz.prog Rows.topBurnsRow.laid w)/\sizedMet enc Tryz.prog Tryz.f3 (OpenSpec.ofChange Rows.topBurnsSpec) false w args) (Rows.topBurnsSpec.post enc Tryz.prog Tryz.f3 false true false false):=by
 refine returnsInHanded_of_change_and (C:=Tryz.checked) (X:=λw _=>laidMetH Tryz.prog Rows.topBurnsRow.laid w) (λ_ _ _ hh h=>h.of_heap hh) own started (by kernel_rfl) Tryz.func3
  (ChangeSpec.witness_shaped (enc:=enc) (C:=Tryz.checked) (os:=os) (X:=λw _=>laidMetH Tryz.prog Rows.topBurnsRow.laid w) false (World.laidAll Tryz.prog os Rows.topBurnsRow.laid) #[.agg #[.string ⟨#[]⟩,.slice none 0 0,.int .i64 0,.int .i64 0,.slice none 0 0,.int .i64 0,.int .i64 0],.int .i64 0,.int .i64 0,.agg #[.int .i64 0,.int .i64 0,.int .i64 0,.int .i64 0,.int .i64 0,.int .i64 0,.int .i64 0,.int .i64 0,.int .i64 0,.int .i64 0,.int .i64 0,.int .i64 0,.int .i64 0,.int .i64 0,.int .i64 0]] 8 (World.laidAll_os _ _ _) (World.shaped_of_ZipB (by kernel_rfl) (by kernel_rfl)) (by kernel_rfl) (by kernel_rfl) (by kernel_rfl) (by rw [MakeChecks.laidMetH_plain _ _ _ (by kernel_rfl)];exact laidMet_laidAll _ (by kernel_rfl) (by kernel_rfl))) ?_
 intro W base args ds gs before yC hW _ DT hL _;have gR:∀(j:Nat) t v,Tryz.f3.params[j]? = some t->args[j]? = some v->Value.okWide Tryz.prog W .any base t v:=yC;have Nq:=hW;obtain⟨p,q,RC,hV,rfl,XH,rj⟩:=hW;have hA:DataW.TrodAll enc Tryz.prog W 0 (λ_=>true) true Tryz.f3.params.toList args.toList ds p:=RC;rw [Tryz.params3]at hA gR;obtain⟨v0,XI,d0,XJ,p0,q0,d_,rfl,rfl,h0,r0⟩:=trodAll_cons hA;obtain⟨v1,XK,d1,XL,p1,q1,rfl,rfl,rfl,h1,r1⟩:=trodAll_cons r0;obtain⟨v2,XM,d2,XN,p2,q2,rfl,rfl,rfl,h2,r2⟩:=trodAll_cons r1;obtain⟨v3,XO,d3,XP,p3,q3,rfl,rfl,rfl,h3,r3⟩:=trodAll_cons r2;obtain⟨rfl,rfl,rfl⟩:=trodAll_nil r3;obtain rfl:args=#[v0,v1,v2,v3]:=by cases args;simp_all
 obtain⟨rfl,rfl⟩:=trodVars_none hV;have cw:=λx hx=>Nq.lt x hx;have k0:=h0
 have WU:Wt Tryz.prog 28 d0:=λn hn=>by
  have:=List.all_eq_true.1 DT n (DataW.weights_mem_each (j:=0) (t:=28) (d:=d0) (by kernel_rfl) rfl n hn)
  simpa using this
 obtain⟨XQ,rfl,t0,z0⟩:=Mu (λ_=>rfl) rfl (gR 0 28 v0 rfl rfl) h0 WU;have k1:=h1;obtain⟨a1,zF,_,_,w1⟩:=open_int Tryz.underlying3 (gR 1 3 v1 rfl rfl) h1;subst zF;have k2:=h2;obtain⟨a2,wo,_,_,w2⟩:=open_int Tryz.underlying23 (gR 2 23 v2 rfl rfl) h2;subst wo;have k3:=h3;obtain⟨s3,rfl,t3⟩:=Mx rfl (gR 3 32 v3 rfl rfl) h3;clear RC yC;simp only [List.append_nil]at Nq;refine (WL (w:=W) z0.sz t0 a1 a2 s3 (Nf λn d h=>Lib.laidMet.reads (show laidMet Tryz.prog Rows.topBurnsRow.laid W from hL) h)).mono λe W' ⟨he,hg⟩ => ?_;subst he;exact⟨_,rfl,_,_,_,[],(p0++(p1++(p2++(p3 ++ [])))),[],Nq,trodAll_cons_mk (shut_bool Tryz.underlying4 _) trodAll_mk0,trodAll_cons_mk (Below.trod G6 (by kernel_rfl) (of_decide_eq_true (by kernel_rfl)) k0 hg (λx hx=>cw x (by simp [hx]))) (trodAll_cons_mk (Below.trod G6 (by kernel_rfl) (of_decide_eq_true (by kernel_rfl)) k1 hg (λx hx=>cw x (by simp [hx]))) (trodAll_cons_mk (Below.trod G6 (by kernel_rfl) (of_decide_eq_true (by kernel_rfl)) k2 hg (λx hx=>cw x (by simp [hx]))) (trodAll_cons_mk (Below.trod G6 (by kernel_rfl) (of_decide_eq_true (by kernel_rfl)) k3 hg (λx hx=>cw x (by simp [hx]))) (trodAll_mk0)))),rfl,hg.frame _,λh=>by cases h⟩
theorem closed:joinedFacts Tryz.pinned.checked.prog 3 Tryz.f3 Rows.topBurnsSpec Rows.topBurnsRow=true:=by
 unfold joinedFacts;simp only [WO,WQ,WR,WS,WT,Ng,Nh,Ni,Nj,Nk,Nn,No,Np,Bool.and_true,Bool.true_and];kernel_rfl
theorem over:Rows.topBurnsRow.holds Tryz.pinned (OpenSpec.ofChange Rows.topBurnsSpec) :=
 OpenClaim.holds_of_wide 3 Tryz.f3 rfl rfl rfl rfl rfl rfl rfl ⟨rfl,rfl,rfl,rfl,rfl⟩ rfl rfl rfl rfl rfl (by kernel_rfl) Tryz.func3 closed
  (of_decide_eq_true (by kernel_rfl)) (by unfold Func.isWrapper;first | (rw [if_pos (by decide +kernel)];kernel_rfl) | (rw [if_neg (by decide +kernel)];exact⟨rfl,rfl⟩))
  (λos started H enc _=>lifted os started H enc)
theorem Nr:Rows.topBurnsRow.wfByText (OpenSpec.ofChange Rows.topBurnsSpec)=true:=by kernel_rfl
theorem Ns : Tryz.pinned.checked.prog.mainIs = some (true, "6cd66a9522d2ca84c12172d71a28e7c590d20f289c11cc86e9f42267d4450d51".toList) := by kernel_rfl
theorem Nt:false=Tryz.pinned.checked.prog.looks []:=by kernel_rfl
theorem Nu:false=Rows.topBurnsRow.goesBy Tryz.pinned.checked.prog:=by kernel_rfl
theorem WV : Tryz.prog.funcNamed "ullage/ullagetop.TopBurns" = some 3 := by kernel_rfl
theorem Nv:([28,3,23,32].all λu => !Tryz.prog.wantsStandIn u)=true:=by kernel_rfl
theorem proved:Rows.TopBurnsCardSaid :=
  Claim7.holds_tied_plain_at .later [] [.data, .listed, .data, .widerDeep, .widerDeep, .data, .pinned] true (true, "6cd66a9522d2ca84c12172d71a28e7c590d20f289c11cc86e9f42267d4450d51") false
    over (λ_ h=>by cases h) Nr (λ_ h=>by cases h) topBurns_row_tie rfl ⟨rfl,rfl⟩ Ns rfl
    (λf fn hf Jv=>by
      obtain rfl:f=3:=Option.some.inj (WV.symm.trans hf) |>.symm;obtain rfl:fn=Tryz.f3:=(Option.some.inj (Tryz.func3.symm.trans Jv)).symm
      exact⟨Nt,λj t ht=>by
        rw [Tryz.params3]at ht;have hm:t ∈ [28,3,23,32]:=by simpa using Array.mem_of_getElem? ht
        have bQ:=Nv;exact (show Tryz.prog.wantsStandIn t=false by simpa using List.all_eq_true.1 bQ t hm)⟩)
    Nu
#print axioms proved
end Go.Proofs.YtnjpiipdgapakaaGreatDoor.topBurns
