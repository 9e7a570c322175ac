import Derived.Test.YtdjgnbkclcjiiaaGreatDoorHd
import Derived.Test.YtdjgnbkclcjiiaaGreatDoorOl
import Derived.Test.YtdjgnbkclcjiiaaGreatDoorGm
import Derived.Test.YtdjgnbkclcjiiaaGreatDoorJf
import Derived.LaidHandle
import Derived.WalkKit
import Derived.ProofKit
import Derived.OpenShut
import Derived.Lib.SmallJoins
import Derived.LaidMore
import Derived.Stop.Joined
import Derived.SevenTiedAt
import Derived.Test.YtdjgnbkclcjiiaaGreatDoorCards
import Derived.Test.YtdjgnbkclcjiiaaGreatDoorTie
set_option linter.unusedVariables false
set_option linter.unusedSimpArgs false
namespace Go.Proofs.YtdjgnbkclcjiiaaGreatDoor.countdownHolds
open Go.ChangeShapes Go.WideShapes Go.ChangeAt Go.RowKit Go.Joins Vc
theorem own:ownKnob Tryz.prog.godebug=none:=by kernel_rfl
theorem zlt:laidOutB Tryz.prog=true:=by kernel_rfl
theorem zav(os:Os)(args:Array Value):laidMetH Tryz.prog Rows.countdownHoldsRow.laid ((World.doorLaid Tryz.prog 400 os).forCall (fun _ _=>0) ⟨#[],args,[]⟩).memory :=
 laidMetH_of_parts3 (fuel:=8) (laidMet_of_run' 8 (by kernel_rfl) (by kernel_rfl)) (by kernel_rfl) (by kernel_rfl)
set_option maxRecDepth 100000 in
theorem lifted(os:Os)(started:os.Started)(H:Type)(enc:TypeId × Value→H) :
  ReturnsInHanded {} Tryz.checked os 10 .any (fun w args=>(Rows.countdownHoldsSpec.pre enc Tryz.prog Tryz.f10 [] false w args∧laidMetH Tryz.prog Rows.countdownHoldsRow.laid w)∧sizedMet enc Tryz.prog Tryz.f10 (OpenSpec.ofChange Rows.countdownHoldsSpec) false w args) (Rows.countdownHoldsSpec.post enc Tryz.prog Tryz.f10 false true false false):=by
 refine returnsInHanded_of_change_and (C:=Tryz.checked) (X:=fun w _=>laidMetH Tryz.prog Rows.countdownHoldsRow.laid w) (fun _ _ _ hh h=>h.of_heap hh) own started (by kernel_rfl) Tryz.func10
  (ChangeSpec.witness_shaped (enc:=enc) (C:=Tryz.checked) (os:=os) (X:=fun w _=>laidMetH Tryz.prog Rows.countdownHoldsRow.laid w) false (World.doorLaid Tryz.prog 400 os) #[.agg #[.int .i64 0,.int .i64 0,.string ⟨#[]⟩,.int .i64 0,.int .i64 0,.int .i64 0,.slice none 0 0],.slice none 0 0] 8 rfl (World.shaped_of_RefB (by kernel_rfl) (by kernel_rfl)) (by kernel_rfl) (by kernel_rfl) (by kernel_rfl) (zav os _)) ?_
 intro W base args ds gs before hval0 hW _ hwt hL _;have hval:∀ (j:Nat) t v,Tryz.f10.params[j]? = some t→args[j]? = some v→Value.okWide Tryz.prog W .any base t v:=hval0;have hW':=hW;obtain⟨p,q,hA0,hV,rfl,hfz,hnd⟩:=hW;have hA:DataW.TrodAll enc Tryz.prog W 0 (fun _=>true) true Tryz.f10.params.toList args.toList ds p:=hA0;rw [Tryz.params10]at hA hval;obtain⟨v0,vs0,d0,ds0,p0,q0,hargs,rfl,rfl,h0,r0⟩:=trodAll_cons hA;obtain⟨v1,vs1,d1,ds1,p1,q1,rfl,rfl,rfl,h1,r1⟩:=trodAll_cons r0;obtain⟨rfl,rfl,rfl⟩:=trodAll_nil r1;obtain rfl:args=#[v0,v1]:=by cases args;simp_all
 obtain⟨rfl,rfl⟩:=trodVars_none hV;have hlt:=fun x hx=>hW'.lt x hx;have k0:=h0
 have w0':Wt Tryz.prog 30 d0:=fun n hn=>by
  have:=List.all_eq_true.1 hwt n (DataW.weights_mem_each (j:=0) (t:=30) (d:=d0) (by kernel_rfl) rfl n hn)
  simpa using this
 obtain⟨r0',rfl,t0,z0⟩:=znr (fun _=>rfl) rfl (hval 0 30 v0 rfl rfl) h0 w0';have k1:=h1
 have w1':Wt Tryz.prog 22 d1:=fun n hn=>by
  have:=List.all_eq_true.1 hwt n (DataW.weights_mem_each (j:=1) (t:=22) (d:=d1) (by kernel_rfl) rfl n hn)
  simpa using this
 obtain⟨l1',t1,z1⟩:=zor (fun _=>rfl) rfl (hval 1 22 v1 rfl rfl) h1 w1';clear hA0 hval0;simp only [List.append_nil]at hW';refine (zoh (w:=W) t0 z0 t1 z1 (zxy hL)).mono fun e W' ⟨he,hg⟩ => ?_;subst he;exact⟨_,rfl,_,_,_,[],(p0++(p1 ++ [])),[],hW',trodAll_cons_mk (shut_bool Tryz.underlying4 _) trodAll_mk0,trodAll_cons_mk (Below.trod zlt (by kernel_rfl) (of_decide_eq_true (by kernel_rfl)) k0 hg (fun x hx=>hlt x (by simp [hx]))) (trodAll_cons_mk (Below.trod zlt (by kernel_rfl) (of_decide_eq_true (by kernel_rfl)) k1 hg (fun x hx=>hlt x (by simp [hx]))) (trodAll_mk0)),rfl,hg.frame _,fun h=>by cases h⟩
theorem closed:joinedFacts Tryz.pinned.checked.prog 10 Tryz.f10 Rows.countdownHoldsSpec Rows.countdownHoldsRow=true:=by
 unfold joinedFacts;simp only [zpr,zko,zqr,zmm,zrp,zuu,zvu,zwu,zxu,zyu,zkt,zcx,zzu,Bool.and_true,Bool.true_and];kernel_rfl
theorem over:Rows.countdownHoldsRow.holds Tryz.pinned (OpenSpec.ofChange Rows.countdownHoldsSpec) :=
 OpenClaim.holds_of_wide 10 Tryz.f10 rfl rfl rfl rfl rfl rfl rfl ⟨rfl,rfl,rfl,rfl,rfl⟩ rfl rfl rfl rfl rfl (by kernel_rfl) Tryz.func10 closed
  (of_decide_eq_true (by kernel_rfl)) (by unfold Func.isWrapper;first | (rw [if_pos (by decide +kernel)];kernel_rfl) | (rw [if_neg (by decide +kernel)];exact⟨rfl,rfl⟩))
  (fun os started H enc _=>lifted os started H enc)
theorem zjz:Rows.countdownHoldsRow.wfByText (OpenSpec.ofChange Rows.countdownHoldsSpec)=true:=by kernel_rfl
theorem zdx : Tryz.pinned.checked.prog.mainIs = some (true, "ef96ca74f71b0ee8ce9853d0d866aaeea865ad5ede2820f0fe13a0ac09cf6ca3".toList) := by kernel_rfl
theorem zbv:true=Tryz.pinned.checked.prog.looks []:=by kernel_rfl
theorem zex:false=Rows.countdownHoldsRow.goesBy Tryz.pinned.checked.prog:=by kernel_rfl
theorem zlo : Tryz.prog.funcNamed "ullage/ullagelaw10.CountdownHolds" = some 10 := by kernel_rfl
theorem zcv:([30,22].all fun u => !Tryz.prog.wantsStandIn u)=true:=by kernel_rfl
theorem proved:Rows.CountdownHoldsCardSaid :=
  Claim7.holds_tied_plain_at .later [] [.data, .data, .data, .sentinel, .sentinel, .data, .widerDeep, .funcs, .widerDeep] true (true, "ef96ca74f71b0ee8ce9853d0d866aaeea865ad5ede2820f0fe13a0ac09cf6ca3") true
    over (fun _ h=>by cases h) zjz (fun _ h=>by cases h) countdownHolds_row_tie rfl ⟨rfl,rfl⟩ zdx rfl
    (fun f fn hf hfn=>by
      obtain rfl:f=10:=Option.some.inj (zlo.symm.trans hf) |>.symm;obtain rfl:fn=Tryz.f10:=(Option.some.inj (Tryz.func10.symm.trans hfn)).symm
      exact⟨zbv,fun j t ht=>by
        rw [Tryz.params10]at ht;have hm:t ∈ [30,22]:=by simpa using Array.mem_of_getElem? ht
        have hall:=zcv;exact (show Tryz.prog.wantsStandIn t=false by simpa using List.all_eq_true.1 hall t hm)⟩)
    zex
#print axioms proved
end Go.Proofs.YtdjgnbkclcjiiaaGreatDoor.countdownHolds
