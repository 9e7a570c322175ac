import Derived.Test.YtogfcodccbcncaaGreatDoorOv
import Derived.Test.YtogfcodccbcncaaGreatDoorGt
import Derived.Test.YtogfcodccbcncaaGreatDoorGl
import Derived.Test.YtogfcodccbcncaaGreatDoorJfC
import Derived.WalkKit
import Derived.ProofKit
import Derived.OpenShut
import Derived.Lib.SmallJoins
import Derived.LaidMore
import Derived.Stop.Joined
import Derived.SevenTiedAt
import Derived.Lay
import Derived.MakeChecks
import Derived.ChangeMaps5
import Derived.Test.YtogfcodccbcncaaGreatDoorCards
import Derived.Test.YtogfcodccbcncaaGreatDoorTie
set_option linter.unusedVariables false
set_option linter.unusedSimpArgs false
namespace Go.Proofs.YtogfcodccbcncaaGreatDoor.vehicleChecks
open Go.ChangeShapes Go.WideShapes Go.ChangeAt Go.RowKit Go.Joins Ul
theorem own:ownKnob Tryz.prog.godebug=none:=by kernel_rfl
theorem zlda:laidOutB Tryz.prog=true:=by kernel_rfl
set_option maxRecDepth 100000 in
theorem lifted(os:Os)(started:os.Started)(H:Type)(enc:TypeId × Value→H) :
  ReturnsInHanded {} Tryz.checked os 8 .any (fun w args=>(Rows.vehicleChecksSpec.pre enc Tryz.prog Tryz.f8 [] false w args∧laidMetH Tryz.prog Rows.vehicleChecksRow.laid w)∧sizedMet enc Tryz.prog Tryz.f8 (OpenSpec.ofChange Rows.vehicleChecksSpec) false w args) (Rows.vehicleChecksSpec.post enc Tryz.prog Tryz.f8 false true false false):=by
 refine returnsInHanded_of_change_and (C:=Tryz.checked) (X:=fun w _=>laidMetH Tryz.prog Rows.vehicleChecksRow.laid w) (fun _ _ _ hh h=>h.of_heap hh) own started (by kernel_rfl) Tryz.func8
  (ChangeSpec.witness_shaped (enc:=enc) (C:=Tryz.checked) (os:=os) (X:=fun w _=>laidMetH Tryz.prog Rows.vehicleChecksRow.laid w) false (World.laidAll Tryz.prog os Rows.vehicleChecksRow.laid) #[.agg #[.string ⟨#[]⟩,.slice none 0 0,.int .i64 0,.int .i64 0,.slice none 0 0,.int .i64 0,.int .i64 0]] 8 (World.laidAll_os _ _ _) (World.shaped_of_ZipB (by kernel_rfl) (by kernel_rfl)) (by kernel_rfl) (by kernel_rfl) (by kernel_rfl) (by rw [MakeChecks.laidMetH_plain _ _ _ (by kernel_rfl)];exact laidMet_laidAll _ (by kernel_rfl) (by kernel_rfl))) ?_
 intro W base args ds gs before hval0 hW _ hwt hL _
 have hval:∀ (j:Nat) t v,Tryz.f8.params[j]? = some t→args[j]? = some v→Value.okWide Tryz.prog W .any base t v:=hval0
 have hW':=hW
 obtain⟨p,q,hA0,hV,rfl,hfz,hnd⟩:=hW
 have hA:DataW.TrodAll enc Tryz.prog W 0 (fun _=>true) true Tryz.f8.params.toList args.toList ds p:=hA0
 rw [Tryz.params8]at hA hval
 obtain⟨v0,vs0,d0,ds0,p0,q0,hargs,rfl,rfl,h0,r0⟩:=trodAll_cons hA
 obtain⟨rfl,rfl,rfl⟩:=trodAll_nil r0
 obtain rfl:args=#[v0]:=by cases args;simp_all
 obtain⟨rfl,rfl⟩:=trodVars_none hV
 have hlt:=fun x hx=>hW'.lt x hx
 have k0:=h0
 have w0':Wt Tryz.prog 42 d0:=fun n hn=>by
  have:=List.all_eq_true.1 hwt n (DataW.weights_mem_each (j:=0) (t:=42) (d:=d0) (by kernel_rfl) rfl n hn)
  simpa using this
 obtain⟨v0',rfl,t0,z0⟩:=ziaa (fun _=>rfl) rfl (hval 0 42 v0 rfl rfl) h0 w0'
 clear hA0 hval0
 simp only [List.append_nil]at hW'
 refine (zqh (w:=W) z0.sz t0 (zvda fun n d h=>Lib.laidMet.reads (show laidMet Tryz.prog Rows.vehicleChecksRow.laid W from hL) h)).mono fun e W' ⟨he,hg⟩ => ?_
 subst he
 exact⟨_,rfl,_,_,_,[],(p0 ++ []),[],hW',trodAll_cons_mk (shut_bool Tryz.underlying4 _) trodAll_mk0,trodAll_cons_mk (Below.trod zlda (by kernel_rfl) (of_decide_eq_true (by kernel_rfl)) k0 hg (fun x hx=>hlt x (by simp [hx]))) (trodAll_mk0),rfl,hg.frame _,fun h=>by cases h⟩
theorem closed:joinedFacts Tryz.pinned.checked.prog 8 Tryz.f8 Rows.vehicleChecksSpec Rows.vehicleChecksRow=true:=by
 unfold joinedFacts
 simp only [zmv,ziq,znv,zpo,zus,zjz,zkz,zlz,zmz,znz,zzw,zhca,zoz,Bool.and_true,Bool.true_and]
 kernel_rfl
theorem over:Rows.vehicleChecksRow.holds Tryz.pinned (OpenSpec.ofChange Rows.vehicleChecksSpec) :=
 OpenClaim.holds_of_wide 8 Tryz.f8 rfl rfl rfl rfl rfl rfl rfl ⟨rfl,rfl,rfl,rfl,rfl⟩ rfl rfl rfl rfl rfl (by kernel_rfl) Tryz.func8 closed
  (of_decide_eq_true (by kernel_rfl)) (by unfold Func.isWrapper;first | (rw [if_pos (by decide +kernel)];kernel_rfl) | (rw [if_neg (by decide +kernel)];exact⟨rfl,rfl⟩))
  (fun os started H enc _=>lifted os started H enc)
theorem zqfa:Rows.vehicleChecksRow.wfByText (OpenSpec.ofChange Rows.vehicleChecksSpec)=true:=by kernel_rfl
theorem zmda : Tryz.pinned.checked.prog.mainIs = some (true, "c65ffc23198c055ae78195d9ca5a7ae9defd3fe2b68d7512f53cac2b6d831df7".toList) := by kernel_rfl
theorem ziba:true=Tryz.pinned.checked.prog.looks []:=by kernel_rfl
theorem znda:false=Rows.vehicleChecksRow.goesBy Tryz.pinned.checked.prog:=by kernel_rfl
theorem zjs : Tryz.prog.funcNamed "ullage/ullagelaw02.VehicleChecks" = some 8 := by kernel_rfl
theorem zjba:([42].all fun u => !Tryz.prog.wantsStandIn u)=true:=by kernel_rfl
theorem proved:Rows.VehicleChecksCardSaid :=
  Claim7.holds_tied_plain_at .later [] [.data, .data, .data, .data, .listed, .data, .widerDeep, .widerDeep, .data, .data, .data, .data, .data, .data, .data, .data, .data, .pinned] true (true, "c65ffc23198c055ae78195d9ca5a7ae9defd3fe2b68d7512f53cac2b6d831df7") true
    over (fun _ h=>by cases h) zqfa (fun _ h=>by cases h) vehicleChecks_row_tie rfl ⟨rfl,rfl⟩ zmda rfl
    (fun f fn hf hfn=>by
      obtain rfl:f=8:=Option.some.inj (zjs.symm.trans hf) |>.symm
      obtain rfl:fn=Tryz.f8:=(Option.some.inj (Tryz.func8.symm.trans hfn)).symm
      exact⟨ziba,fun j t ht=>by
        rw [Tryz.params8]at ht
        have hm:t ∈ [42]:=by simpa using Array.mem_of_getElem? ht
        have hall:=zjba
        exact (show Tryz.prog.wantsStandIn t=false by simpa using List.all_eq_true.1 hall t hm)⟩)
    znda
#print axioms proved
end Go.Proofs.YtogfcodccbcncaaGreatDoor.vehicleChecks
