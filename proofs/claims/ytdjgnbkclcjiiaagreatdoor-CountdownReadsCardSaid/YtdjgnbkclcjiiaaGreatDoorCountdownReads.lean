/- CountdownReads: for every input the law returns true, and each argument reads afterwards as it read before. No condition. -/
import Derived.Test.YtdjgnbkclcjiiaaGreatDoorPq
import Derived.Test.YtdjgnbkclcjiiaaGreatDoorSe
import Derived.SizedLaws
import Derived.Test.YtdjgnbkclcjiiaaGreatDoorSn
import Derived.Test.YtdjgnbkclcjiiaaGreatDoorGm
import Derived.Test.YtdjgnbkclcjiiaaGreatDoorJfCountdownReads
import Derived.LaidHandle
import Derived.WalkKit
import Derived.ProofKit
import Derived.OpenShut
import Derived.Lib.SmallJoins
import Derived.LaidMore
import Derived.Stop.Joined
import Derived.SevenTiedAt
import Derived.Test.YtdjgnbkclcjiiaaGreatDoorCards
import Derived.Test.YtdjgnbkclcjiiaaGreatDoorTie
/- CountdownReads: for every input the law returns true, and each argument reads afterwards as it read before. No condition. -/
set_option linter.unusedVariables false
set_option linter.unusedSimpArgs false
namespace Go.Proofs.YtdjgnbkclcjiiaaGreatDoor.countdownReads
open Go.ChangeShapes Go.WideShapes Go.ChangeAt Go.RowKit Go.Joins Vc
theorem own:ownKnob Tryz.prog.godebug=none:=by kernel_rfl
theorem zeba:laidOutB Tryz.prog=true:=by kernel_rfl
theorem zzy(os:Os)(args:Array Value):laidMetH Tryz.prog Rows.countdownReadsRow.laid ((World.doorLaid Tryz.prog 400 os).forCall (fun _ _=>0) ⟨#[],args,[]⟩).memory :=
 laidMetH_of_parts3 (fuel:=8) (laidMet_of_run' 8 (by kernel_rfl) (by kernel_rfl)) (by kernel_rfl) (by kernel_rfl)
set_option maxRecDepth 100000 in
theorem lifted(os:Os)(started:os.Started)(H:Type)(enc:TypeId × Value→H) :
  ReturnsInHanded {} Tryz.checked os 5 .any (fun w args=>(Rows.countdownReadsSpec.pre enc Tryz.prog Tryz.f5 [] false w args∧laidMetH Tryz.prog Rows.countdownReadsRow.laid w)∧sizedMet enc Tryz.prog Tryz.f5 (OpenSpec.ofChange Rows.countdownReadsSpec) false w args) (Rows.countdownReadsSpec.post enc Tryz.prog Tryz.f5 false true false false):=by
 refine returnsInHanded_of_change_and (C:=Tryz.checked) (X:=fun w _=>laidMetH Tryz.prog Rows.countdownReadsRow.laid w) (fun _ _ _ hh h=>h.of_heap hh) own started (by kernel_rfl) Tryz.func5
  (ChangeSpec.witness_shaped (enc:=enc) (C:=Tryz.checked) (os:=os) (X:=fun w _=>laidMetH Tryz.prog Rows.countdownReadsRow.laid w) false (World.doorLaid Tryz.prog 400 os) #[.string ⟨#[]⟩] 8 rfl (World.shaped_of_RefB (by kernel_rfl) (by kernel_rfl)) (by kernel_rfl) (by kernel_rfl) (by kernel_rfl) (zzy os _)) ?_
 intro W base args ds gs before hval0 hW _ _ hL _;have hval:∀ (j:Nat) t v,Tryz.f5.params[j]? = some t→args[j]? = some v→Value.okWide Tryz.prog W .any base t v:=hval0;have hW':=hW;obtain⟨p,q,hA0,hV,rfl,hfz,hnd⟩:=hW;have hA:DataW.TrodAll enc Tryz.prog W 0 (fun _=>true) true Tryz.f5.params.toList args.toList ds p:=hA0;rw [Tryz.params5]at hA hval;obtain⟨v0,vs0,d0,ds0,p0,q0,hargs,rfl,rfl,h0,r0⟩:=trodAll_cons hA;obtain⟨rfl,rfl,rfl⟩:=trodAll_nil r0;obtain rfl:args=#[v0]:=by cases args;simp_all
 obtain⟨rfl,rfl⟩:=trodVars_none hV;have hlt:=fun x hx=>hW'.lt x hx;have k0:=h0;obtain⟨a0,hv0,_,_,w0⟩:=ChangeMaps.open_string Tryz.underlying9 (hval 0 9 v0 rfl rfl) h0;subst hv0;clear hA0 hval0;simp only [List.append_nil]at hW';refine (zmi (w:=W) a0 (zbda hL)).mono fun e W' ⟨he,hg⟩ => ?_;subst he;exact⟨_,rfl,_,_,_,[],(p0 ++ []),[],hW',trodAll_cons_mk (shut_bool Tryz.underlying4 _) trodAll_mk0,trodAll_cons_mk (Below.trod zeba (by kernel_rfl) (of_decide_eq_true (by kernel_rfl)) k0 hg (fun x hx=>hlt x (by simp [hx]))) (trodAll_mk0),rfl,hg.frame _,fun h=>by cases h⟩
theorem closed:joinedFacts Tryz.pinned.checked.prog 5 Tryz.f5 Rows.countdownReadsSpec Rows.countdownReadsRow=true:=by
 unfold joinedFacts;simp only [zmu,zvq,znu,zgo,zas,zty,zuy,zvy,zwy,zxy,zzw,zdba,zyy,Bool.and_true,Bool.true_and];kernel_rfl
theorem over:Rows.countdownReadsRow.holds Tryz.pinned (OpenSpec.ofChange Rows.countdownReadsSpec) :=
 OpenClaim.holds_of_wide 5 Tryz.f5 rfl rfl rfl rfl rfl rfl rfl ⟨rfl,rfl,rfl,rfl,rfl⟩ rfl rfl rfl rfl rfl (by kernel_rfl) Tryz.func5 closed
  (of_decide_eq_true (by kernel_rfl)) (by unfold Func.isWrapper;first | (rw [if_pos (by decide +kernel)];kernel_rfl) | (rw [if_neg (by decide +kernel)];exact⟨rfl,rfl⟩))
  (fun os started H enc _=>lifted os started H enc)
theorem zoda:Rows.countdownReadsRow.wfByText (OpenSpec.ofChange Rows.countdownReadsSpec)=true:=by kernel_rfl
theorem zfba : Tryz.pinned.checked.prog.mainIs = some (true, "ef96ca74f71b0ee8ce9853d0d866aaeea865ad5ede2820f0fe13a0ac09cf6ca3".toList) := by kernel_rfl
theorem zaz:true=Tryz.pinned.checked.prog.looks []:=by kernel_rfl
theorem zgba:false=Rows.countdownReadsRow.goesBy Tryz.pinned.checked.prog:=by kernel_rfl
theorem zwq : Tryz.prog.funcNamed "ullage/ullagelaw10.CountdownReads" = some 5 := by kernel_rfl
theorem zbz:([9].all fun u => !Tryz.prog.wantsStandIn u)=true:=by kernel_rfl
theorem proved:Rows.CountdownReadsCardSaid :=
  Claim7.holds_tied_plain_at .later [] [.data, .data, .data, .sentinel, .sentinel, .data, .widerDeep, .funcs, .widerDeep] true (true, "ef96ca74f71b0ee8ce9853d0d866aaeea865ad5ede2820f0fe13a0ac09cf6ca3") true
    over (fun _ h=>by cases h) zoda (fun _ h=>by cases h) countdownReads_row_tie rfl ⟨rfl,rfl⟩ zfba rfl
    (fun f fn hf hfn=>by
      obtain rfl:f=5:=Option.some.inj (zwq.symm.trans hf) |>.symm;obtain rfl:fn=Tryz.f5:=(Option.some.inj (Tryz.func5.symm.trans hfn)).symm
      exact⟨zaz,fun j t ht=>by
        rw [Tryz.params5]at ht;have hm:t ∈ [9]:=by simpa using Array.mem_of_getElem? ht
        have hall:=zbz;exact (show Tryz.prog.wantsStandIn t=false by simpa using List.all_eq_true.1 hall t hm)⟩)
    zgba
#print axioms proved
end Go.Proofs.YtdjgnbkclcjiiaaGreatDoor.countdownReads
