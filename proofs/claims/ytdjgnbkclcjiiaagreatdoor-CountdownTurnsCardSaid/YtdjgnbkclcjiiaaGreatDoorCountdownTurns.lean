/- CountdownTurns: for every input the law returns true, and each argument reads afterwards as it read before. No condition. -/
import Derived.Test.YtdjgnbkclcjiiaaGreatDoorSm
import Derived.Test.YtdjgnbkclcjiiaaGreatDoorOp
import Derived.Test.YtdjgnbkclcjiiaaGreatDoorGm
import Derived.Test.YtdjgnbkclcjiiaaGreatDoorJfCountdownTurns
import Derived.LaidHandle
import Derived.WalkKit
import Derived.ProofKit
import Derived.OpenShut
import Derived.Lib.SmallJoins
import Derived.LaidMore
import Derived.Stop.Joined
import Derived.SevenTiedAt
import Derived.Test.YtdjgnbkclcjiiaaGreatDoorCards
import Derived.Test.YtdjgnbkclcjiiaaGreatDoorTie
set_option linter.unusedVariables false
set_option linter.unusedSimpArgs false
namespace Go.Proofs.YtdjgnbkclcjiiaaGreatDoor.countdownTurns
open Go.ChangeShapes Go.WideShapes Go.ChangeAt Go.RowKit Go.Joins Vc
theorem own:ownKnob Tryz.prog.godebug=none:=by kernel_rfl
theorem zwq:laidOutB Tryz.prog=true:=by kernel_rfl
theorem zdx(os:Os)(args:Array Value):laidMetH Tryz.prog Rows.countdownTurnsRow.laid ((World.doorLaid Tryz.prog 400 os).forCall (fun _ _=>0) ⟨#[],args,[]⟩).memory :=
 laidMetH_of_parts3 (fuel:=8) (laidMet_of_run' 8 (by kernel_rfl) (by kernel_rfl)) (by kernel_rfl) (by kernel_rfl)
set_option maxRecDepth 100000 in
theorem lifted(os:Os)(started:os.Started)(H:Type)(enc:TypeId × Value→H) :
  ReturnsInHanded {} Tryz.checked os 7 .any (fun w args=>(Rows.countdownTurnsSpec.pre enc Tryz.prog Tryz.f7 [] false w args∧laidMetH Tryz.prog Rows.countdownTurnsRow.laid w)∧sizedMet enc Tryz.prog Tryz.f7 (OpenSpec.ofChange Rows.countdownTurnsSpec) false w args) (Rows.countdownTurnsSpec.post enc Tryz.prog Tryz.f7 false true false false):=by
 refine returnsInHanded_of_change_and (C:=Tryz.checked) (X:=fun w _=>laidMetH Tryz.prog Rows.countdownTurnsRow.laid w) (fun _ _ _ hh h=>h.of_heap hh) own started (by kernel_rfl) Tryz.func7
  (ChangeSpec.witness_shaped (enc:=enc) (C:=Tryz.checked) (os:=os) (X:=fun w _=>laidMetH Tryz.prog Rows.countdownTurnsRow.laid w) false (World.doorLaid Tryz.prog 400 os) #[.agg #[.int .i64 0,.int .i64 0,.string ⟨#[]⟩,.int .i64 0,.int .i64 0,.int .i64 0,.slice none 0 0],.agg #[.int .i64 0,.int .i64 0,.string ⟨#[]⟩,.int .i64 0,.int .i64 0,.int .i64 0,.slice none 0 0],.agg #[.slice none 0 0,.int .i64 0,.int .i64 0]] 8 rfl (World.shaped_of_RefB (by kernel_rfl) (by kernel_rfl)) (by kernel_rfl) (by kernel_rfl) (by kernel_rfl) (zdx os _)) ?_
 intro W base args ds gs before hval0 hW _ hwt hL _;have hval:∀ (j:Nat) t v,Tryz.f7.params[j]? = some t→args[j]? = some v→Value.okWide Tryz.prog W .any base t v:=hval0;have hW':=hW;obtain⟨p,q,hA0,hV,rfl,hfz,hnd⟩:=hW;have hA:DataW.TrodAll enc Tryz.prog W 0 (fun _=>true) true Tryz.f7.params.toList args.toList ds p:=hA0;rw [Tryz.params7]at hA hval;obtain⟨v0,vs0,d0,ds0,p0,q0,hargs,rfl,rfl,h0,r0⟩:=trodAll_cons hA;obtain⟨v1,vs1,d1,ds1,p1,q1,rfl,rfl,rfl,h1,r1⟩:=trodAll_cons r0;obtain⟨v2,vs2,d2,ds2,p2,q2,rfl,rfl,rfl,h2,r2⟩:=trodAll_cons r1;obtain⟨rfl,rfl,rfl⟩:=trodAll_nil r2;obtain rfl:args=#[v0,v1,v2]:=by cases args;simp_all
 obtain⟨rfl,rfl⟩:=trodVars_none hV;have hlt:=fun x hx=>hW'.lt x hx;have k0:=h0
 have w0':Wt Tryz.prog 30 d0:=fun n hn=>by
  have:=List.all_eq_true.1 hwt n (DataW.weights_mem_each (j:=0) (t:=30) (d:=d0) (by kernel_rfl) rfl n hn)
  simpa using this
 obtain⟨r0',rfl,t0,z0⟩:=zyl (fun _=>rfl) rfl (hval 0 30 v0 rfl rfl) h0 w0';have k1:=h1
 have w1':Wt Tryz.prog 30 d1:=fun n hn=>by
  have:=List.all_eq_true.1 hwt n (DataW.weights_mem_each (j:=1) (t:=30) (d:=d1) (by kernel_rfl) rfl n hn)
  simpa using this
 obtain⟨r1',rfl,t1,z1⟩:=zyl (fun _=>rfl) rfl (hval 1 30 v1 rfl rfl) h1 w1';have k2:=h2
 have w2':Wt Tryz.prog 58 d2:=fun n hn=>by
  have:=List.all_eq_true.1 hwt n (DataW.weights_mem_each (j:=2) (t:=58) (d:=d2) (by kernel_rfl) rfl n hn)
  simpa using this
 obtain⟨u2,qa2,qb2,l2',rfl,t2,z2⟩:=zuq (fun _=>rfl) rfl (hval 2 58 v2 rfl rfl) h2 w2';clear hA0 hval0;simp only [List.append_nil]at hW';refine (zoh (w:=W) t0 z0 t1 z1 t2 z2 qa2 qb2 (zcba hL)).mono fun e W' ⟨he,hg⟩ => ?_;subst he;exact⟨_,rfl,_,_,_,[],(p0++(p1++(p2 ++ []))),[],hW',trodAll_cons_mk (shut_bool Tryz.underlying4 _) trodAll_mk0,trodAll_cons_mk (Below.trod zwq (by kernel_rfl) (of_decide_eq_true (by kernel_rfl)) k0 hg (fun x hx=>hlt x (by simp [hx]))) (trodAll_cons_mk (Below.trod zwq (by kernel_rfl) (of_decide_eq_true (by kernel_rfl)) k1 hg (fun x hx=>hlt x (by simp [hx]))) (trodAll_cons_mk (Below.trod zwq (by kernel_rfl) (of_decide_eq_true (by kernel_rfl)) k2 hg (fun x hx=>hlt x (by simp [hx]))) (trodAll_mk0))),rfl,hg.frame _,fun h=>by cases h⟩
theorem closed:joinedFacts Tryz.pinned.checked.prog 7 Tryz.f7 Rows.countdownTurnsSpec Rows.countdownTurnsRow=true:=by
 unfold joinedFacts;simp only [zdt,zmp,zet,zgn,zvq,zxw,zyw,zzw,zax,zbx,zhv,zfz,zcx,Bool.and_true,Bool.true_and];kernel_rfl
theorem over:Rows.countdownTurnsRow.holds Tryz.pinned (OpenSpec.ofChange Rows.countdownTurnsSpec) :=
 OpenClaim.holds_of_wide 7 Tryz.f7 rfl rfl rfl rfl rfl rfl rfl ⟨rfl,rfl,rfl,rfl,rfl⟩ rfl rfl rfl rfl rfl (by kernel_rfl) Tryz.func7 closed
  (of_decide_eq_true (by kernel_rfl)) (by unfold Func.isWrapper;first | (rw [if_pos (by decide +kernel)];kernel_rfl) | (rw [if_neg (by decide +kernel)];exact⟨rfl,rfl⟩))
  (fun os started H enc _=>lifted os started H enc)
theorem zlba:Rows.countdownTurnsRow.wfByText (OpenSpec.ofChange Rows.countdownTurnsSpec)=true:=by kernel_rfl
theorem zgz : Tryz.pinned.checked.prog.mainIs = some (true, "ef96ca74f71b0ee8ce9853d0d866aaeea865ad5ede2820f0fe13a0ac09cf6ca3".toList) := by kernel_rfl
theorem zex:true=Tryz.pinned.checked.prog.looks []:=by kernel_rfl
theorem zhz:false=Rows.countdownTurnsRow.goesBy Tryz.pinned.checked.prog:=by kernel_rfl
theorem znp : Tryz.prog.funcNamed "ullage/ullagelaw10.CountdownTurns" = some 7 := by kernel_rfl
theorem zfx:([30,58].all fun u => !Tryz.prog.wantsStandIn u)=true:=by kernel_rfl
theorem proved:Rows.CountdownTurnsCardSaid :=
  Claim7.holds_tied_plain_at .later [] [.data, .data, .data, .sentinel, .sentinel, .data, .widerDeep, .funcs, .widerDeep] true (true, "ef96ca74f71b0ee8ce9853d0d866aaeea865ad5ede2820f0fe13a0ac09cf6ca3") true
    over (fun _ h=>by cases h) zlba (fun _ h=>by cases h) countdownTurns_row_tie rfl ⟨rfl,rfl⟩ zgz rfl
    (fun f fn hf hfn=>by
      obtain rfl:f=7:=Option.some.inj (znp.symm.trans hf) |>.symm;obtain rfl:fn=Tryz.f7:=(Option.some.inj (Tryz.func7.symm.trans hfn)).symm
      exact⟨zex,fun j t ht=>by
        rw [Tryz.params7]at ht;have hm:t ∈ [30,58]:=by simpa using Array.mem_of_getElem? ht
        have hall:=zfx;exact (show Tryz.prog.wantsStandIn t=false by simpa using List.all_eq_true.1 hall t hm)⟩)
    zhz
#print axioms proved
end Go.Proofs.YtdjgnbkclcjiiaaGreatDoor.countdownTurns
