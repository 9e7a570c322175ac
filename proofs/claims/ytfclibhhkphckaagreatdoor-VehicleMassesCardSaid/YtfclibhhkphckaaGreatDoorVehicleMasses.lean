import Derived.Test.YtfclibhhkphckaaGreatDoorWm
import Derived.Test.YtfclibhhkphckaaGreatDoorOv
import Derived.Test.YtfclibhhkphckaaGreatDoorGl
import Derived.Test.YtfclibhhkphckaaGreatDoorJfM
import Derived.WalkKit
import Derived.ProofKit
import Derived.OpenShut
import Derived.Lib.SmallJoins
import Derived.LaidMore
import Derived.Stop.Joined
import Derived.SevenTiedAt
import Derived.Lay
import Derived.MakeChecks
import Derived.ChangeMaps5
import Derived.Test.YtfclibhhkphckaaGreatDoorCards
import Derived.Test.YtfclibhhkphckaaGreatDoorTie
set_option linter.unusedVariables false
set_option linter.unusedSimpArgs false
namespace Go.Proofs.YtfclibhhkphckaaGreatDoor.vehicleMasses
open Go.ChangeShapes Go.WideShapes Go.ChangeAt Go.RowKit Go.Joins Ul
theorem own:ownKnob Tryz.prog.godebug=none:=by kernel_rfl
theorem zqu:laidOutB Tryz.prog=true:=by kernel_rfl
set_option maxRecDepth 100000 in
theorem lifted(os:Os)(started:os.Started)(H:Type)(enc:TypeId × Value→H) :
  ReturnsInHanded {} Tryz.checked os 3 .any (fun w args=>(Rows.vehicleMassesSpec.pre enc Tryz.prog Tryz.f3 [] false w args∧laidMetH Tryz.prog Rows.vehicleMassesRow.laid w)∧sizedMet enc Tryz.prog Tryz.f3 (OpenSpec.ofChange Rows.vehicleMassesSpec) false w args) (Rows.vehicleMassesSpec.post enc Tryz.prog Tryz.f3 false true false false):=by
 refine returnsInHanded_of_change_and (C:=Tryz.checked) (X:=fun w _=>laidMetH Tryz.prog Rows.vehicleMassesRow.laid w) (fun _ _ _ hh h=>h.of_heap hh) own started (by kernel_rfl) Tryz.func3
  (ChangeSpec.witness_shaped (enc:=enc) (C:=Tryz.checked) (os:=os) (X:=fun w _=>laidMetH Tryz.prog Rows.vehicleMassesRow.laid w) false (World.laidAll Tryz.prog os Rows.vehicleMassesRow.laid) #[.agg #[.string ⟨#[]⟩,.slice none 0 0,.int .i64 0,.int .i64 0,.slice none 0 0,.int .i64 0,.int .i64 0],.int .i64 0,.agg #[.int .i64 0,.int .i64 0]] 8 (World.laidAll_os _ _ _) (World.shaped_of_ZipB (by kernel_rfl) (by kernel_rfl)) (by kernel_rfl) (by kernel_rfl) (by kernel_rfl) (by rw [MakeChecks.laidMetH_plain _ _ _ (by kernel_rfl)];exact laidMet_laidAll _ (by kernel_rfl) (by kernel_rfl))) ?_
 intro W base args ds gs before hval0 hW _ hwt hL _;have hval:∀ (j:Nat) t v,Tryz.f3.params[j]? = some t→args[j]? = some v→Value.okWide Tryz.prog W .any base t v:=hval0;have hW':=hW;obtain⟨p,q,hA0,hV,rfl,hfz,hnd⟩:=hW;have hA:DataW.TrodAll enc Tryz.prog W 0 (fun _=>true) true Tryz.f3.params.toList args.toList ds p:=hA0;rw [Tryz.params3]at hA hval;obtain⟨v0,vs0,d0,ds0,p0,q0,hargs,rfl,rfl,h0,r0⟩:=trodAll_cons hA;obtain⟨v1,vs1,d1,ds1,p1,q1,rfl,rfl,rfl,h1,r1⟩:=trodAll_cons r0;obtain⟨v2,vs2,d2,ds2,p2,q2,rfl,rfl,rfl,h2,r2⟩:=trodAll_cons r1;obtain⟨rfl,rfl,rfl⟩:=trodAll_nil r2;obtain rfl:args=#[v0,v1,v2]:=by cases args;simp_all
 obtain⟨rfl,rfl⟩:=trodVars_none hV;have hlt:=fun x hx=>hW'.lt x hx;have k0:=h0
 have w0':Wt Tryz.prog 28 d0:=fun n hn=>by
  have:=List.all_eq_true.1 hwt n (DataW.weights_mem_each (j:=0) (t:=28) (d:=d0) (by kernel_rfl) rfl n hn)
  simpa using this
 obtain⟨v0',rfl,t0,z0⟩:=zhca (fun _=>rfl) rfl (hval 0 28 v0 rfl rfl) h0 w0';have k1:=h1;obtain⟨a1,hv1,_,_,w1⟩:=open_int Tryz.underlying3 (hval 1 3 v1 rfl rfl) h1;subst hv1;have k2:=h2;obtain⟨c20,c21,y20,y21,m2,hv2,_,_,hy20,hy21⟩:=open_agg2 Tryz.underlying25 (by kernel_rfl) (show Tryz.prog.cellsOf 25=2 by kernel_rfl) (hval 2 25 v2 rfl rfl) h2;obtain⟨a20,e20,_,w20⟩:=DataW.trod_int Tryz.underlying23 hy20;simp at e20;obtain⟨a21,e21,_,w21⟩:=DataW.trod_int Tryz.underlying23 hy21;simp at e21;subst e20 e21 hv2;clear hA0 hval0;simp only [List.append_nil]at hW';refine (zti (w:=W) z0.sz z0.cp t0 (zxga fun n d h=>Lib.laidMet.reads (show laidMet Tryz.prog Rows.vehicleMassesRow.laid W from hL) h) a1 a20 a21).mono fun e W' ⟨he,hg⟩ => ?_;subst he;exact⟨_,rfl,_,_,_,[],(p0++(p1++(p2 ++ []))),[],hW',trodAll_cons_mk (shut_bool Tryz.underlying4 _) trodAll_mk0,trodAll_cons_mk (Below.trod zqu (by kernel_rfl) (of_decide_eq_true (by kernel_rfl)) k0 hg (fun x hx=>hlt x (by simp [hx]))) (trodAll_cons_mk (Below.trod zqu (by kernel_rfl) (of_decide_eq_true (by kernel_rfl)) k1 hg (fun x hx=>hlt x (by simp [hx]))) (trodAll_cons_mk (Below.trod zqu (by kernel_rfl) (of_decide_eq_true (by kernel_rfl)) k2 hg (fun x hx=>hlt x (by simp [hx]))) (trodAll_mk0))),rfl,hg.frame _,fun h=>by cases h⟩
theorem closed:joinedFacts Tryz.pinned.checked.prog 3 Tryz.f3 Rows.vehicleMassesSpec Rows.vehicleMassesRow=true:=by
 unfold joinedFacts;simp only [zhx,zys,zix,zhq,zpu,zpca,zqca,zrca,zsca,ztca,zjaa,zkfa,zuca,Bool.and_true,Bool.true_and];kernel_rfl
theorem over:Rows.vehicleMassesRow.holds Tryz.pinned (OpenSpec.ofChange Rows.vehicleMassesSpec) :=
 OpenClaim.holds_of_wide 3 Tryz.f3 rfl rfl rfl rfl rfl rfl rfl ⟨rfl,rfl,rfl,rfl,rfl⟩ rfl rfl rfl rfl rfl (by kernel_rfl) Tryz.func3 closed
  (of_decide_eq_true (by kernel_rfl)) (by unfold Func.isWrapper;first | (rw [if_pos (by decide +kernel)];kernel_rfl) | (rw [if_neg (by decide +kernel)];exact⟨rfl,rfl⟩))
  (fun os started H enc _=>lifted os started H enc)
theorem zwha:Rows.vehicleMassesRow.wfByText (OpenSpec.ofChange Rows.vehicleMassesSpec)=true:=by kernel_rfl
theorem zlfa : Tryz.pinned.checked.prog.mainIs = some (true, "c8cc03a4ebfa3f506af08d42836a024d47143b2b9e7feda6ff0edafa54980bb7".toList) := by kernel_rfl
theorem zvca:true=Tryz.pinned.checked.prog.looks []:=by kernel_rfl
theorem zmfa:false=Rows.vehicleMassesRow.goesBy Tryz.pinned.checked.prog:=by kernel_rfl
theorem zzs : Tryz.prog.funcNamed "ullage/ullagelaw02.VehicleMasses" = some 3 := by kernel_rfl
theorem zwca:([28,3,25].all fun u => !Tryz.prog.wantsStandIn u)=true:=by kernel_rfl
theorem proved:Rows.VehicleMassesCardSaid :=
  Claim7.holds_tied_plain_at .later [] [.data, .data, .data, .data, .listed, .data, .widerDeep, .widerDeep, .data, .data, .data, .data, .data, .data, .data, .data, .data, .pinned] true (true, "c8cc03a4ebfa3f506af08d42836a024d47143b2b9e7feda6ff0edafa54980bb7") true
    over (fun _ h=>by cases h) zwha (fun _ h=>by cases h) vehicleMasses_row_tie rfl ⟨rfl,rfl⟩ zlfa rfl
    (fun f fn hf hfn=>by
      obtain rfl:f=3:=Option.some.inj (zzs.symm.trans hf) |>.symm;obtain rfl:fn=Tryz.f3:=(Option.some.inj (Tryz.func3.symm.trans hfn)).symm
      exact⟨zvca,fun j t ht=>by
        rw [Tryz.params3]at ht;have hm:t ∈ [28,3,25]:=by simpa using Array.mem_of_getElem? ht
        have hall:=zwca;exact (show Tryz.prog.wantsStandIn t=false by simpa using List.all_eq_true.1 hall t hm)⟩)
    zmfa
#print axioms proved
end Go.Proofs.YtfclibhhkphckaaGreatDoor.vehicleMasses
