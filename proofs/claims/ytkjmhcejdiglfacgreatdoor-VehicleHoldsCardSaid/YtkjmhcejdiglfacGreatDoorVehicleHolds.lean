import Derived.Test.YtkjmhcejdiglfacGreatDoorHo
import Derived.Test.YtkjmhcejdiglfacGreatDoorOv
import Derived.Test.YtkjmhcejdiglfacGreatDoorGl
import Derived.Test.YtkjmhcejdiglfacGreatDoorJfH
import Derived.WalkKit
import Derived.ProofKit
import Derived.OpenShut
import Derived.Lib.SmallJoins
import Derived.LaidMore
import Derived.Stop.Joined
import Derived.SevenTiedAt
import Derived.Lay
import Derived.MakeChecks
import Derived.ChangeMaps5
import Derived.Test.YtkjmhcejdiglfacGreatDoorCards
import Derived.Test.YtkjmhcejdiglfacGreatDoorTie
set_option linter.unusedVariables false
set_option linter.unusedSimpArgs false
namespace Go.Proofs.YtkjmhcejdiglfacGreatDoor.vehicleHolds
open Go.ChangeShapes Go.WideShapes Go.ChangeAt Go.RowKit Go.Joins Ul
theorem own:ownKnob Tryz.prog.godebug=none:=by kernel_rfl
theorem zwt:laidOutB Tryz.prog=true:=by kernel_rfl
set_option maxRecDepth 100000 in
theorem lifted(os:Os)(started:os.Started)(H:Type)(enc:TypeId × Value→H) :
  ReturnsInHanded {} Tryz.checked os 3 .any (fun w args=>(Rows.vehicleHoldsSpec.pre enc Tryz.prog Tryz.f3 [] false w args∧laidMetH Tryz.prog Rows.vehicleHoldsRow.laid w)∧sizedMet enc Tryz.prog Tryz.f3 (OpenSpec.ofChange Rows.vehicleHoldsSpec) false w args) (Rows.vehicleHoldsSpec.post enc Tryz.prog Tryz.f3 false true false false):=by
 refine returnsInHanded_of_change_and (C:=Tryz.checked) (X:=fun w _=>laidMetH Tryz.prog Rows.vehicleHoldsRow.laid w) (fun _ _ _ hh h=>h.of_heap hh) own started (by kernel_rfl) Tryz.func3
  (ChangeSpec.witness_shaped (enc:=enc) (C:=Tryz.checked) (os:=os) (X:=fun w _=>laidMetH Tryz.prog Rows.vehicleHoldsRow.laid w) false (World.laidAll Tryz.prog os Rows.vehicleHoldsRow.laid) #[.agg #[.string ⟨#[]⟩,.slice none 0 0,.int .i64 0,.int .i64 0,.slice none 0 0,.int .i64 0,.int .i64 0],.agg #[.int .i64 0,.int .i64 0],.agg #[.int .u16 0,.int .u16 0,.int .u16 0,.int .u16 0]] 8 (World.laidAll_os _ _ _) (World.shaped_of_ZipB (by kernel_rfl) (by kernel_rfl)) (by kernel_rfl) (by kernel_rfl) (by kernel_rfl) (by rw [MakeChecks.laidMetH_plain _ _ _ (by kernel_rfl)];exact laidMet_laidAll _ (by kernel_rfl) (by kernel_rfl))) ?_
 intro W base args ds gs before hval0 hW _ hwt hL _;have hval:∀ (j:Nat) t v,Tryz.f3.params[j]? = some t→args[j]? = some v→Value.okWide Tryz.prog W .any base t v:=hval0;have hW':=hW;obtain⟨p,q,hA0,hV,rfl,hfz,hnd⟩:=hW;have hA:DataW.TrodAll enc Tryz.prog W 0 (fun _=>true) true Tryz.f3.params.toList args.toList ds p:=hA0;rw [Tryz.params3]at hA hval;obtain⟨v0,vs0,d0,ds0,p0,q0,hargs,rfl,rfl,h0,r0⟩:=trodAll_cons hA;obtain⟨v1,vs1,d1,ds1,p1,q1,rfl,rfl,rfl,h1,r1⟩:=trodAll_cons r0;obtain⟨v2,vs2,d2,ds2,p2,q2,rfl,rfl,rfl,h2,r2⟩:=trodAll_cons r1;obtain⟨rfl,rfl,rfl⟩:=trodAll_nil r2;obtain rfl:args=#[v0,v1,v2]:=by cases args;simp_all
 obtain⟨rfl,rfl⟩:=trodVars_none hV;have hlt:=fun x hx=>hW'.lt x hx;have k0:=h0
 have w0':Wt Tryz.prog 28 d0:=fun n hn=>by
  have:=List.all_eq_true.1 hwt n (DataW.weights_mem_each (j:=0) (t:=28) (d:=d0) (by kernel_rfl) rfl n hn)
  simpa using this
 obtain⟨v0',rfl,t0,z0⟩:=zdba (fun _=>rfl) rfl (hval 0 28 v0 rfl rfl) h0 w0';have k1:=h1;obtain⟨c10,c11,y10,y11,m1,hv1,_,_,hy10,hy11⟩:=open_agg2 Tryz.underlying25 (by kernel_rfl) (show Tryz.prog.cellsOf 25=2 by kernel_rfl) (hval 1 25 v1 rfl rfl) h1;obtain⟨a10,e10,_,w10⟩:=DataW.trod_int Tryz.underlying23 hy10;simp at e10;obtain⟨a11,e11,_,w11⟩:=DataW.trod_int Tryz.underlying23 hy11;simp at e11;subst e10 e11 hv1;have k2:=h2;obtain⟨c20,c21,c22,c23,y20,y21,y22,y23,m2,hv2,_,_,hy20,hy21,hy22,hy23⟩:=open_agg4 Tryz.underlying31 (by kernel_rfl) (show Tryz.prog.cellsOf 31=4 by kernel_rfl) (hval 2 31 v2 rfl rfl) h2;obtain⟨a20,e20,_,w20⟩:=DataW.trod_int Tryz.underlying29 hy20;simp at e20;obtain⟨a21,e21,_,w21⟩:=DataW.trod_int Tryz.underlying29 hy21;simp at e21;obtain⟨a22,e22,_,w22⟩:=DataW.trod_int Tryz.underlying29 hy22;simp at e22;obtain⟨a23,e23,_,w23⟩:=DataW.trod_int Tryz.underlying29 hy23;simp at e23;subst e20 e21 e22 e23 hv2;clear hA0 hval0;simp only [List.append_nil]at hW';refine (zoj (w:=W) z0.sz t0 (znfa fun n d h=>Lib.laidMet.reads (show laidMet Tryz.prog Rows.vehicleHoldsRow.laid W from hL) h) a10 a11 a20 a21 a22 a23 (wf16 w20) (wf16 w21) (wf16 w22) (wf16 w23)).mono fun e W' ⟨he,hg⟩ => ?_;subst he;exact⟨_,rfl,_,_,_,[],(p0++(p1++(p2 ++ []))),[],hW',trodAll_cons_mk (shut_bool Tryz.underlying4 _) trodAll_mk0,trodAll_cons_mk (Below.trod zwt (by kernel_rfl) (of_decide_eq_true (by kernel_rfl)) k0 hg (fun x hx=>hlt x (by simp [hx]))) (trodAll_cons_mk (Below.trod zwt (by kernel_rfl) (of_decide_eq_true (by kernel_rfl)) k1 hg (fun x hx=>hlt x (by simp [hx]))) (trodAll_cons_mk (Below.trod zwt (by kernel_rfl) (of_decide_eq_true (by kernel_rfl)) k2 hg (fun x hx=>hlt x (by simp [hx]))) (trodAll_mk0))),rfl,hg.frame _,fun h=>by cases h⟩
theorem closed:joinedFacts Tryz.pinned.checked.prog 3 Tryz.f3 Rows.vehicleHoldsSpec Rows.vehicleHoldsRow=true:=by
 unfold joinedFacts;simp only [zkw,zds,zlw,ztp,zvt,zfba,zgba,zhba,ziba,zjba,zcz,zwda,zkba,Bool.and_true,Bool.true_and];kernel_rfl
theorem over:Rows.vehicleHoldsRow.holds Tryz.pinned (OpenSpec.ofChange Rows.vehicleHoldsSpec) :=
 OpenClaim.holds_of_wide 3 Tryz.f3 rfl rfl rfl rfl rfl rfl rfl ⟨rfl,rfl,rfl,rfl,rfl⟩ rfl rfl rfl rfl rfl (by kernel_rfl) Tryz.func3 closed
  (of_decide_eq_true (by kernel_rfl)) (by unfold Func.isWrapper;first | (rw [if_pos (by decide +kernel)];kernel_rfl) | (rw [if_neg (by decide +kernel)];exact⟨rfl,rfl⟩))
  (fun os started H enc _=>lifted os started H enc)
theorem zkga:Rows.vehicleHoldsRow.wfByText (OpenSpec.ofChange Rows.vehicleHoldsSpec)=true:=by kernel_rfl
theorem zxda : Tryz.pinned.checked.prog.mainIs = some (true, "625c15fd1d3f47a786b855d23abbb2b3034cd63558fa92383c5934a452b45b6d".toList) := by kernel_rfl
theorem zlba:true=Tryz.pinned.checked.prog.looks []:=by kernel_rfl
theorem zyda:false=Rows.vehicleHoldsRow.goesBy Tryz.pinned.checked.prog:=by kernel_rfl
theorem zes : Tryz.prog.funcNamed "ullage/ullagelaw02.VehicleHolds" = some 3 := by kernel_rfl
theorem zmba:([28,25,31].all fun u => !Tryz.prog.wantsStandIn u)=true:=by kernel_rfl
theorem proved:Rows.VehicleHoldsCardSaid :=
  Claim7.holds_tied_plain_at .later [] [.data, .data, .data, .data, .listed, .data, .widerDeep, .widerDeep, .data, .data, .data, .data, .data, .data, .data, .data, .data, .pinned] true (true, "625c15fd1d3f47a786b855d23abbb2b3034cd63558fa92383c5934a452b45b6d") true
    over (fun _ h=>by cases h) zkga (fun _ h=>by cases h) vehicleHolds_row_tie rfl ⟨rfl,rfl⟩ zxda rfl
    (fun f fn hf hfn=>by
      obtain rfl:f=3:=Option.some.inj (zes.symm.trans hf) |>.symm;obtain rfl:fn=Tryz.f3:=(Option.some.inj (Tryz.func3.symm.trans hfn)).symm
      exact⟨zlba,fun j t ht=>by
        rw [Tryz.params3]at ht;have hm:t ∈ [28,25,31]:=by simpa using Array.mem_of_getElem? ht
        have hall:=zmba;exact (show Tryz.prog.wantsStandIn t=false by simpa using List.all_eq_true.1 hall t hm)⟩)
    zyda
#print axioms proved
end Go.Proofs.YtkjmhcejdiglfacGreatDoor.vehicleHolds
