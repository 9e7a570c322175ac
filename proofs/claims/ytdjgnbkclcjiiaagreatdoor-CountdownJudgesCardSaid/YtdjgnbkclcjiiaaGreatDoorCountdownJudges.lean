/- CountdownJudges: for every input the law returns true, and each argument reads afterwards as it read before. No condition. -/
import Derived.Test.YtdjgnbkclcjiiaaGreatDoorSj
import Derived.Test.YtdjgnbkclcjiiaaGreatDoorOp
import Derived.Test.YtdjgnbkclcjiiaaGreatDoorGm
import Derived.Test.YtdjgnbkclcjiiaaGreatDoorJfCountdownJudges
import Derived.LaidHandle
import Derived.WalkKit
import Derived.ProofKit
import Derived.OpenShut
import Derived.Lib.SmallJoins
import Derived.LaidMore
import Derived.Stop.Joined
import Derived.SevenTiedAt
import Derived.Test.YtdjgnbkclcjiiaaGreatDoorCards
import Derived.Test.YtdjgnbkclcjiiaaGreatDoorTie
set_option linter.unusedVariables false
set_option linter.unusedSimpArgs false
namespace Go.Proofs.YtdjgnbkclcjiiaaGreatDoor.countdownJudges
open Go.ChangeShapes Go.WideShapes Go.ChangeAt Go.RowKit Go.Joins Vc
theorem own:ownKnob Tryz.prog.godebug=none:=by kernel_rfl
theorem zjr:laidOutB Tryz.prog=true:=by kernel_rfl
theorem zux(os:Os)(args:Array Value):laidMetH Tryz.prog Rows.countdownJudgesRow.laid ((World.doorLaid Tryz.prog 400 os).forCall (fun _ _=>0) ⟨#[],args,[]⟩).memory :=
 laidMetH_of_parts3 (fuel:=8) (laidMet_of_run' 8 (by kernel_rfl) (by kernel_rfl)) (by kernel_rfl) (by kernel_rfl)
set_option maxRecDepth 100000 in
theorem lifted(os:Os)(started:os.Started)(H:Type)(enc:TypeId × Value→H) :
  ReturnsInHanded {} Tryz.checked os 6 .any (fun w args=>(Rows.countdownJudgesSpec.pre enc Tryz.prog Tryz.f6 [] false w args∧laidMetH Tryz.prog Rows.countdownJudgesRow.laid w)∧sizedMet enc Tryz.prog Tryz.f6 (OpenSpec.ofChange Rows.countdownJudgesSpec) false w args) (Rows.countdownJudgesSpec.post enc Tryz.prog Tryz.f6 false true false false):=by
 refine returnsInHanded_of_change_and (C:=Tryz.checked) (X:=fun w _=>laidMetH Tryz.prog Rows.countdownJudgesRow.laid w) (fun _ _ _ hh h=>h.of_heap hh) own started (by kernel_rfl) Tryz.func6
  (ChangeSpec.witness_shaped (enc:=enc) (C:=Tryz.checked) (os:=os) (X:=fun w _=>laidMetH Tryz.prog Rows.countdownJudgesRow.laid w) false (World.doorLaid Tryz.prog 400 os) #[.agg #[.int .i64 0,.int .i64 0,.string ⟨#[]⟩,.int .i64 0,.int .i64 0,.int .i64 0,.slice none 0 0],.slice none 0 0,.agg #[.int .i64 0,.int .i64 0]] 8 rfl (World.shaped_of_RefB (by kernel_rfl) (by kernel_rfl)) (by kernel_rfl) (by kernel_rfl) (by kernel_rfl) (zux os _)) ?_
 intro W base args ds gs before hval0 hW _ hwt hL _;have hval:∀ (j:Nat) t v,Tryz.f6.params[j]? = some t→args[j]? = some v→Value.okWide Tryz.prog W .any base t v:=hval0;have hW':=hW;obtain⟨p,q,hA0,hV,rfl,hfz,hnd⟩:=hW;have hA:DataW.TrodAll enc Tryz.prog W 0 (fun _=>true) true Tryz.f6.params.toList args.toList ds p:=hA0;rw [Tryz.params6]at hA hval;obtain⟨v0,vs0,d0,ds0,p0,q0,hargs,rfl,rfl,h0,r0⟩:=trodAll_cons hA;obtain⟨v1,vs1,d1,ds1,p1,q1,rfl,rfl,rfl,h1,r1⟩:=trodAll_cons r0;obtain⟨v2,vs2,d2,ds2,p2,q2,rfl,rfl,rfl,h2,r2⟩:=trodAll_cons r1;obtain⟨rfl,rfl,rfl⟩:=trodAll_nil r2;obtain rfl:args=#[v0,v1,v2]:=by cases args;simp_all
 obtain⟨rfl,rfl⟩:=trodVars_none hV;have hlt:=fun x hx=>hW'.lt x hx;have k0:=h0
 have w0':Wt Tryz.prog 30 d0:=fun n hn=>by
  have:=List.all_eq_true.1 hwt n (DataW.weights_mem_each (j:=0) (t:=30) (d:=d0) (by kernel_rfl) rfl n hn)
  simpa using this
 obtain⟨r0',rfl,t0,z0⟩:=zst (fun _=>rfl) rfl (hval 0 30 v0 rfl rfl) h0 w0';have k1:=h1
 have w1':Wt Tryz.prog 52 d1:=fun n hn=>by
  have:=List.all_eq_true.1 hwt n (DataW.weights_mem_each (j:=1) (t:=52) (d:=d1) (by kernel_rfl) rfl n hn)
  simpa using this
 obtain⟨l1',t1,z1⟩:=zut (fun _=>rfl) rfl (hval 1 52 v1 rfl rfl) h1 w1';have k2:=h2;obtain⟨qa2,qb2,rfl⟩:=znx rfl (hval 2 53 v2 rfl rfl) h2;clear hA0 hval0;simp only [List.append_nil]at hW';refine (zhh (w:=W) t0 z0 t1 z1 qa2 qb2 (zcca hL)).mono fun e W' ⟨he,hg⟩ => ?_;subst he;exact⟨_,rfl,_,_,_,[],(p0++(p1++(p2 ++ []))),[],hW',trodAll_cons_mk (shut_bool Tryz.underlying4 _) trodAll_mk0,trodAll_cons_mk (Below.trod zjr (by kernel_rfl) (of_decide_eq_true (by kernel_rfl)) k0 hg (fun x hx=>hlt x (by simp [hx]))) (trodAll_cons_mk (Below.trod zjr (by kernel_rfl) (of_decide_eq_true (by kernel_rfl)) k1 hg (fun x hx=>hlt x (by simp [hx]))) (trodAll_cons_mk (Below.trod zjr (by kernel_rfl) (of_decide_eq_true (by kernel_rfl)) k2 hg (fun x hx=>hlt x (by simp [hx]))) (trodAll_mk0))),rfl,hg.frame _,fun h=>by cases h⟩
theorem closed:joinedFacts Tryz.pinned.checked.prog 6 Tryz.f6 Rows.countdownJudgesSpec Rows.countdownJudgesRow=true:=by
 unfold joinedFacts;simp only [zvt,zbq,zwt,zun,zir,zox,zpx,zqx,zrx,zsx,zaw,zbaa,ztx,Bool.and_true,Bool.true_and];kernel_rfl
theorem over:Rows.countdownJudgesRow.holds Tryz.pinned (OpenSpec.ofChange Rows.countdownJudgesSpec) :=
 OpenClaim.holds_of_wide 6 Tryz.f6 rfl rfl rfl rfl rfl rfl rfl ⟨rfl,rfl,rfl,rfl,rfl⟩ rfl rfl rfl rfl rfl (by kernel_rfl) Tryz.func6 closed
  (of_decide_eq_true (by kernel_rfl)) (by unfold Func.isWrapper;first | (rw [if_pos (by decide +kernel)];kernel_rfl) | (rw [if_neg (by decide +kernel)];exact⟨rfl,rfl⟩))
  (fun os started H enc _=>lifted os started H enc)
theorem zpca:Rows.countdownJudgesRow.wfByText (OpenSpec.ofChange Rows.countdownJudgesSpec)=true:=by kernel_rfl
theorem zcaa : Tryz.pinned.checked.prog.mainIs = some (true, "ef96ca74f71b0ee8ce9853d0d866aaeea865ad5ede2820f0fe13a0ac09cf6ca3".toList) := by kernel_rfl
theorem zvx:true=Tryz.pinned.checked.prog.looks []:=by kernel_rfl
theorem zdaa:false=Rows.countdownJudgesRow.goesBy Tryz.pinned.checked.prog:=by kernel_rfl
theorem zcq : Tryz.prog.funcNamed "ullage/ullagelaw10.CountdownJudges" = some 6 := by kernel_rfl
theorem zwx:([30,52,53].all fun u => !Tryz.prog.wantsStandIn u)=true:=by kernel_rfl
theorem proved:Rows.CountdownJudgesCardSaid :=
  Claim7.holds_tied_plain_at .later [] [.data, .data, .data, .sentinel, .sentinel, .data, .widerDeep, .funcs, .widerDeep] true (true, "ef96ca74f71b0ee8ce9853d0d866aaeea865ad5ede2820f0fe13a0ac09cf6ca3") true
    over (fun _ h=>by cases h) zpca (fun _ h=>by cases h) countdownJudges_row_tie rfl ⟨rfl,rfl⟩ zcaa rfl
    (fun f fn hf hfn=>by
      obtain rfl:f=6:=Option.some.inj (zcq.symm.trans hf) |>.symm;obtain rfl:fn=Tryz.f6:=(Option.some.inj (Tryz.func6.symm.trans hfn)).symm
      exact⟨zvx,fun j t ht=>by
        rw [Tryz.params6]at ht;have hm:t ∈ [30,52,53]:=by simpa using Array.mem_of_getElem? ht
        have hall:=zwx;exact (show Tryz.prog.wantsStandIn t=false by simpa using List.all_eq_true.1 hall t hm)⟩)
    zdaa
#print axioms proved
end Go.Proofs.YtdjgnbkclcjiiaaGreatDoor.countdownJudges
