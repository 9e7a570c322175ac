/- VehicleReads: for every input the law returns true, and each argument reads afterwards as it read before. No condition. -/
import Derived.Test.YtpfgephckjpcjaaGreatDoorYe
import Derived.Test.YtpfgephckjpcjaaGreatDoorGl
import Derived.Test.YtpfgephckjpcjaaGreatDoorJfR
import Derived.WalkKit
import Derived.ProofKit
import Derived.OpenShut
import Derived.Lib.SmallJoins
import Derived.LaidMore
import Derived.Stop.Joined
import Derived.SevenTiedAt
import Derived.Lay
import Derived.MakeChecks
import Derived.ChangeMaps5
import Derived.Test.YtpfgephckjpcjaaGreatDoorCards
import Derived.Test.YtpfgephckjpcjaaGreatDoorTie
set_option linter.unusedVariables false
set_option linter.unusedSimpArgs false
namespace Go.Proofs.YtpfgephckjpcjaaGreatDoor.vehicleReads
open Go.ChangeShapes Go.WideShapes Go.ChangeAt Go.RowKit Go.Joins Ul
theorem own:ownKnob Tryz.prog.godebug=none:=by kernel_rfl
theorem N8:laidOutB Tryz.prog=true:=by kernel_rfl
set_option maxRecDepth 100000 in
theorem lifted(os:Os)(started:os.Started)(H:Type)(enc:TypeId × Value->H) :
  ReturnsInHanded {} Tryz.checked os 3 .any (λw args=>(Rows.vehicleReadsSpec.pre enc Tryz.prog Tryz.f3 [] false w args/\laidMetH Tryz.prog Rows.vehicleReadsRow.laid w)/\sizedMet enc Tryz.prog Tryz.f3 (OpenSpec.ofChange Rows.vehicleReadsSpec) false w args) (Rows.vehicleReadsSpec.post enc Tryz.prog Tryz.f3 false true false false):=by
 refine returnsInHanded_of_change_and (C:=Tryz.checked) (X:=λw _=>laidMetH Tryz.prog Rows.vehicleReadsRow.laid w) (λ_ _ _ hh h=>h.of_heap hh) own started (by kernel_rfl) Tryz.func3
  (ChangeSpec.witness_shaped (enc:=enc) (C:=Tryz.checked) (os:=os) (X:=λw _=>laidMetH Tryz.prog Rows.vehicleReadsRow.laid w) false (World.laidAll Tryz.prog os Rows.vehicleReadsRow.laid) #[.string ⟨#[]⟩] 8 (World.laidAll_os _ _ _) (World.shaped_of_ZipB (by kernel_rfl) (by kernel_rfl)) (by kernel_rfl) (by kernel_rfl) (by kernel_rfl) (by rw [MakeChecks.laidMetH_plain _ _ _ (by kernel_rfl)];exact laidMet_laidAll _ (by kernel_rfl) (by kernel_rfl))) ?_
 intro W base args ds gs before AW hW _ _ hL _;have mh:∀(j:Nat) t v,Tryz.f3.params[j]? = some t->args[j]? = some v->Value.okWide Tryz.prog W .any base t v:=AW;have N9:=hW;obtain⟨p,q,Sx,hV,rfl,XO,tF⟩:=hW;have hA:DataW.TrodAll enc Tryz.prog W 0 (λ_=>true) true Tryz.f3.params.toList args.toList ds p:=Sx;rw [Tryz.params3]at hA mh;obtain⟨v0,XP,d0,XQ,p0,q0,gq,rfl,rfl,h0,r0⟩:=trodAll_cons hA;obtain⟨rfl,rfl,rfl⟩:=trodAll_nil r0;obtain rfl:args=#[v0]:=by cases args;simp_all
 obtain⟨rfl,rfl⟩:=trodVars_none hV;have eD:=λx hx=>N9.lt x hx;have k0:=h0;obtain⟨a0,Xc,_,_,w0⟩:=ChangeMaps.open_string Tryz.underlying9 (mh 0 9 v0 rfl rfl) h0;subst Xc;clear Sx AW;simp only [List.append_nil]at N9;refine (W4 (w:=W) a0 (NZ λn d h=>Lib.laidMet.reads (show laidMet Tryz.prog Rows.vehicleReadsRow.laid W from hL) h)).mono λe W' ⟨he,hg⟩ => ?_;subst he;exact⟨_,rfl,_,_,_,[],(p0 ++ []),[],N9,trodAll_cons_mk (shut_bool Tryz.underlying4 _) trodAll_mk0,trodAll_cons_mk (Below.trod N8 (by kernel_rfl) (of_decide_eq_true (by kernel_rfl)) k0 hg (λx hx=>eD x (by simp [hx]))) (trodAll_mk0),rfl,hg.frame _,λh=>by cases h⟩
theorem closed:joinedFacts Tryz.pinned.checked.prog 3 Tryz.f3 Rows.vehicleReadsSpec Rows.vehicleReadsRow=true:=by
 unfold joinedFacts;simp only [W8,W9,W_,Xa,Xb,N0,N1,N2,N3,N4,N5,N6,N7,Bool.and_true,Bool.true_and];kernel_rfl
theorem over:Rows.vehicleReadsRow.holds Tryz.pinned (OpenSpec.ofChange Rows.vehicleReadsSpec) :=
 OpenClaim.holds_of_wide 3 Tryz.f3 rfl rfl rfl rfl rfl rfl rfl ⟨rfl,rfl,rfl,rfl,rfl⟩ rfl rfl rfl rfl rfl (by kernel_rfl) Tryz.func3 closed
  (of_decide_eq_true (by kernel_rfl)) (by unfold Func.isWrapper;first | (rw [if_pos (by decide +kernel)];kernel_rfl) | (rw [if_neg (by decide +kernel)];exact⟨rfl,rfl⟩))
  (λos started H enc _=>lifted os started H enc)
theorem N_:Rows.vehicleReadsRow.wfByText (OpenSpec.ofChange Rows.vehicleReadsSpec)=true:=by kernel_rfl
theorem N' : Tryz.pinned.checked.prog.mainIs = some (true, "58b1c935224a1066a1860e2b694747ecf88073f7f8491b6dee9cc57a376e8a35".toList) := by kernel_rfl
theorem Oa:true=Tryz.pinned.checked.prog.looks []:=by kernel_rfl
theorem Ob:false=Rows.vehicleReadsRow.goesBy Tryz.pinned.checked.prog:=by kernel_rfl
theorem Xd : Tryz.prog.funcNamed "ullage/ullagelaw02.VehicleReads" = some 3 := by kernel_rfl
theorem Oc:([9].all λu => !Tryz.prog.wantsStandIn u)=true:=by kernel_rfl
theorem proved:Rows.VehicleReadsCardSaid :=
  Claim7.holds_tied_plain_at .later [] [.data, .data, .data, .data, .listed, .data, .widerDeep, .widerDeep, .data, .data, .data, .data, .data, .data, .data, .data, .data, .pinned] true (true, "58b1c935224a1066a1860e2b694747ecf88073f7f8491b6dee9cc57a376e8a35") true
    over (λ_ h=>by cases h) N_ (λ_ h=>by cases h) vehicleReads_row_tie rfl ⟨rfl,rfl⟩ N' rfl
    (λf fn hf J1=>by
      obtain rfl:f=3:=Option.some.inj (Xd.symm.trans hf) |>.symm;obtain rfl:fn=Tryz.f3:=(Option.some.inj (Tryz.func3.symm.trans J1)).symm
      exact⟨Oa,λj t ht=>by
        rw [Tryz.params3]at ht;have hm:t ∈ [9]:=by simpa using Array.mem_of_getElem? ht
        have cX:=Oc;exact (show Tryz.prog.wantsStandIn t=false by simpa using List.all_eq_true.1 cX t hm)⟩)
    Ob
#print axioms proved
end Go.Proofs.YtpfgephckjpcjaaGreatDoor.vehicleReads
