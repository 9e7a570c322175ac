/- CountdownRules: for every input the law returns true, and each argument reads afterwards as it read before. No condition. -/
import Derived.Test.YtdjgnbkclcjiiaaGreatDoorPw
import Derived.Test.YtdjgnbkclcjiiaaGreatDoorOl
import Derived.Test.YtdjgnbkclcjiiaaGreatDoorSn
import Derived.Test.YtdjgnbkclcjiiaaGreatDoorGm
import Derived.Test.YtdjgnbkclcjiiaaGreatDoorGn
import Derived.Test.YtdjgnbkclcjiiaaGreatDoorJfCountdownRules
import Derived.LaidHandle
import Derived.WalkKit
import Derived.ProofKit
import Derived.OpenShut
import Derived.Lib.SmallJoins
import Derived.LaidMore
import Derived.Stop.Joined
import Derived.SevenTiedAt
import Derived.Test.YtdjgnbkclcjiiaaGreatDoorCards
import Derived.Test.YtdjgnbkclcjiiaaGreatDoorTie
set_option linter.unusedVariables false
set_option linter.unusedSimpArgs false
namespace Go.Proofs.YtdjgnbkclcjiiaaGreatDoor.countdownRules
open Go.ChangeShapes Go.WideShapes Go.ChangeAt Go.RowKit Go.Joins Vc
theorem own:ownKnob Tryz.prog.godebug=none:=by kernel_rfl
theorem zwca:laidOutB Tryz.prog=true:=by kernel_rfl
theorem ziaa(os:Os)(args:Array Value):laidMetH Tryz.prog Rows.countdownRulesRow.laid ((World.doorLaid Tryz.prog 400 os).forCall (fun _ _=>0) ⟨#[],args,[]⟩).memory :=
 laidMetH_of_parts3 (fuel:=8) (laidMet_of_run' 8 (by kernel_rfl) (by kernel_rfl)) (by kernel_rfl) (by kernel_rfl)
set_option maxRecDepth 100000 in
theorem lifted(os:Os)(started:os.Started)(H:Type)(enc:TypeId × Value→H) :
  ReturnsInHanded {} Tryz.checked os 4 .any (fun w args=>(Rows.countdownRulesSpec.pre enc Tryz.prog Tryz.f4 [] false w args∧laidMetH Tryz.prog Rows.countdownRulesRow.laid w)∧sizedMet enc Tryz.prog Tryz.f4 (OpenSpec.ofChange Rows.countdownRulesSpec) false w args) (Rows.countdownRulesSpec.post enc Tryz.prog Tryz.f4 false true false false):=by
 refine returnsInHanded_of_change_and (C:=Tryz.checked) (X:=fun w _=>laidMetH Tryz.prog Rows.countdownRulesRow.laid w) (fun _ _ _ hh h=>h.of_heap hh) own started (by kernel_rfl) Tryz.func4
  (ChangeSpec.witness_shaped (enc:=enc) (C:=Tryz.checked) (os:=os) (X:=fun w _=>laidMetH Tryz.prog Rows.countdownRulesRow.laid w) false (World.doorLaid Tryz.prog 400 os) #[.agg #[.int .i64 0,.int .i64 0,.string ⟨#[]⟩,.int .i64 0,.int .i64 0,.int .i64 0,.slice none 0 0]] 8 rfl (World.shaped_of_RefB (by kernel_rfl) (by kernel_rfl)) (by kernel_rfl) (by kernel_rfl) (by kernel_rfl) (ziaa os _)) ?_
 intro W base args ds gs before hval0 hW _ hwt hL _;have hval:∀ (j:Nat) t v,Tryz.f4.params[j]? = some t→args[j]? = some v→Value.okWide Tryz.prog W .any base t v:=hval0;have hW':=hW;obtain⟨p,q,hA0,hV,rfl,hfz,hnd⟩:=hW;have hA:DataW.TrodAll enc Tryz.prog W 0 (fun _=>true) true Tryz.f4.params.toList args.toList ds p:=hA0;rw [Tryz.params4]at hA hval;obtain⟨v0,vs0,d0,ds0,p0,q0,hargs,rfl,rfl,h0,r0⟩:=trodAll_cons hA;obtain⟨rfl,rfl,rfl⟩:=trodAll_nil r0;obtain rfl:args=#[v0]:=by cases args;simp_all
 obtain⟨rfl,rfl⟩:=trodVars_none hV;have hlt:=fun x hx=>hW'.lt x hx;have k0:=h0
 have w0':Wt Tryz.prog 30 d0:=fun n hn=>by
  have:=List.all_eq_true.1 hwt n (DataW.weights_mem_each (j:=0) (t:=30) (d:=d0) (by kernel_rfl) rfl n hn)
  simpa using this
 obtain⟨r0',rfl,t0,z0⟩:=zov (fun _=>rfl) rfl (hval 0 30 v0 rfl rfl) h0 w0';clear hA0 hval0;simp only [List.append_nil]at hW';refine (zpj (w:=W) t0 z0 (zwea hL) (zxea hL)).mono fun e W' ⟨he,hg⟩ => ?_;subst he;exact⟨_,rfl,_,_,_,[],(p0 ++ []),[],hW',trodAll_cons_mk (shut_bool Tryz.underlying4 _) trodAll_mk0,trodAll_cons_mk (Below.trod zwca (by kernel_rfl) (of_decide_eq_true (by kernel_rfl)) k0 hg (fun x hx=>hlt x (by simp [hx]))) (trodAll_mk0),rfl,hg.frame _,fun h=>by cases h⟩
theorem closed:joinedFacts Tryz.pinned.checked.prog 4 Tryz.f4 Rows.countdownRulesSpec Rows.countdownRulesRow=true:=by
 unfold joinedFacts;simp only [zpv,zor,zqv,zdp,zxs,zcaa,zdaa,zeaa,zfaa,zgaa,zey,zvca,zhaa,Bool.and_true,Bool.true_and];kernel_rfl
theorem over:Rows.countdownRulesRow.holds Tryz.pinned (OpenSpec.ofChange Rows.countdownRulesSpec) :=
 OpenClaim.holds_of_wide 4 Tryz.f4 rfl rfl rfl rfl rfl rfl rfl ⟨rfl,rfl,rfl,rfl,rfl⟩ rfl rfl rfl rfl rfl (by kernel_rfl) Tryz.func4 closed
  (of_decide_eq_true (by kernel_rfl)) (by unfold Func.isWrapper;first | (rw [if_pos (by decide +kernel)];kernel_rfl) | (rw [if_neg (by decide +kernel)];exact⟨rfl,rfl⟩))
  (fun os started H enc _=>lifted os started H enc)
theorem zqfa:Rows.countdownRulesRow.wfByText (OpenSpec.ofChange Rows.countdownRulesSpec)=true:=by kernel_rfl
theorem zxca : Tryz.pinned.checked.prog.mainIs = some (true, "ef96ca74f71b0ee8ce9853d0d866aaeea865ad5ede2820f0fe13a0ac09cf6ca3".toList) := by kernel_rfl
theorem zjaa:true=Tryz.pinned.checked.prog.looks []:=by kernel_rfl
theorem zyca:false=Rows.countdownRulesRow.goesBy Tryz.pinned.checked.prog:=by kernel_rfl
theorem zpr : Tryz.prog.funcNamed "ullage/ullagelaw10.CountdownRules" = some 4 := by kernel_rfl
theorem zkaa:([30].all fun u => !Tryz.prog.wantsStandIn u)=true:=by kernel_rfl
theorem proved:Rows.CountdownRulesCardSaid :=
  Claim7.holds_tied_plain_at .later [] [.data, .data, .data, .sentinel, .sentinel, .data, .widerDeep, .funcs, .widerDeep] true (true, "ef96ca74f71b0ee8ce9853d0d866aaeea865ad5ede2820f0fe13a0ac09cf6ca3") true
    over (fun _ h=>by cases h) zqfa (fun _ h=>by cases h) countdownRules_row_tie rfl ⟨rfl,rfl⟩ zxca rfl
    (fun f fn hf hfn=>by
      obtain rfl:f=4:=Option.some.inj (zpr.symm.trans hf) |>.symm;obtain rfl:fn=Tryz.f4:=(Option.some.inj (Tryz.func4.symm.trans hfn)).symm
      exact⟨zjaa,fun j t ht=>by
        rw [Tryz.params4]at ht;have hm:t ∈ [30]:=by simpa using Array.mem_of_getElem? ht
        have hall:=zkaa;exact (show Tryz.prog.wantsStandIn t=false by simpa using List.all_eq_true.1 hall t hm)⟩)
    zyca
#print axioms proved
end Go.Proofs.YtdjgnbkclcjiiaaGreatDoor.countdownRules
