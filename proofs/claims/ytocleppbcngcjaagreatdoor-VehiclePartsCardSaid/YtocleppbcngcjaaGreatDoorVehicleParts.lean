/- VehicleParts: for every input the law returns true, and each argument reads afterwards as it read before. No condition. -/
import Derived.Test.YtocleppbcngcjaaGreatDoorJfP
import Derived.Test.YtocleppbcngcjaaGreatDoorCl
import Derived.WalkKit
import Derived.ProofKit
import Derived.OpenShut
import Derived.Lib.SmallJoins
import Derived.LaidMore
import Derived.Stop.Joined
import Derived.SevenTiedAt
import Derived.Lay
import Derived.MakeChecks
import Derived.ChangeMaps5
import Derived.Test.YtocleppbcngcjaaGreatDoorCards
import Derived.Test.YtocleppbcngcjaaGreatDoorTie
set_option linter.unusedVariables false
set_option linter.unusedSimpArgs false
namespace Go.Proofs.YtocleppbcngcjaaGreatDoor.vehicleParts
open Go.ChangeShapes Go.WideShapes Go.ChangeAt Go.RowKit Go.Joins Ul
theorem own:ownKnob Tryz.prog.godebug=none:=by kernel_rfl
theorem GF:laidOutB Tryz.prog=true:=by kernel_rfl
set_option maxRecDepth 100000 in
theorem lifted(os:Os)(started:os.Started)(H:Type)(enc:TypeId × Value->H) :
  ReturnsInHanded {} Tryz.checked os 3 .any (λw args=>(Rows.vehiclePartsSpec.pre enc Tryz.prog Tryz.f3 [] false w args/\laidMetH Tryz.prog Rows.vehiclePartsRow.laid w)/\sizedMet enc Tryz.prog Tryz.f3 (OpenSpec.ofChange Rows.vehiclePartsSpec) false w args) (Rows.vehiclePartsSpec.post enc Tryz.prog Tryz.f3 false true false false):=by
 refine returnsInHanded_of_change_and (C:=Tryz.checked) (X:=λw _=>laidMetH Tryz.prog Rows.vehiclePartsRow.laid w) (λ_ _ _ hh h=>h.of_heap hh) own started (by kernel_rfl) Tryz.func3
  (ChangeSpec.witness_shaped (enc:=enc) (C:=Tryz.checked) (os:=os) (X:=λw _=>laidMetH Tryz.prog Rows.vehiclePartsRow.laid w) false (World.laidAll Tryz.prog os Rows.vehiclePartsRow.laid) #[.agg #[.string ⟨#[]⟩,.slice none 0 0,.int .i64 0,.int .i64 0,.slice none 0 0,.int .i64 0,.int .i64 0],.int .i64 0] 8 (World.laidAll_os _ _ _) (World.shaped_of_ZipB (by kernel_rfl) (by kernel_rfl)) (by kernel_rfl) (by kernel_rfl) (by kernel_rfl) (by rw [MakeChecks.laidMetH_plain _ _ _ (by kernel_rfl)];exact laidMet_laidAll _ (by kernel_rfl) (by kernel_rfl))) ?_
 intro W base args ds gs before Ax hW _ E' hL _;have dA:∀(j:Nat) t v,Tryz.f3.params[j]? = some t->args[j]? = some v->Value.okWide Tryz.prog W .any base t v:=Ax;have Pm:=hW;obtain⟨p,q,Gn,hV,rfl,T4,xw⟩:=hW;have hA:DataW.TrodAll enc Tryz.prog W 0 (λ_=>true) true Tryz.f3.params.toList args.toList ds p:=Gn;rw [Tryz.params3]at hA dA;obtain⟨v0,Z5,d0,Z6,p0,q0,eu,rfl,rfl,h0,r0⟩:=trodAll_cons hA;obtain⟨v1,Z7,d1,Z8,p1,q1,rfl,rfl,rfl,h1,r1⟩:=trodAll_cons r0;obtain⟨rfl,rfl,rfl⟩:=trodAll_nil r1;obtain rfl:args=#[v0,v1]:=by cases args;simp_all
 obtain⟨rfl,rfl⟩:=trodVars_none hV;have cn:=λx hx=>Pm.lt x hx;have k0:=h0
 have Y6:Wt Tryz.prog 28 d0:=λn hn=>by
  have:=List.all_eq_true.1 E' n (DataW.weights_mem_each (j:=0) (t:=28) (d:=d0) (by kernel_rfl) rfl n hn)
  simpa using this
 obtain⟨Z9,rfl,t0,z0⟩:=N8 (λ_=>rfl) rfl (dA 0 28 v0 rfl rfl) h0 Y6;have k1:=h1;obtain⟨a1,A8,_,_,w1⟩:=open_int Tryz.underlying3 (dA 1 3 v1 rfl rfl) h1;subst A8;clear Gn Ax;simp only [List.append_nil]at Pm;refine (YS (w:=W) z0.sz z0.cp t0 (Pc λn d h=>Lib.laidMet.reads (show laidMet Tryz.prog Rows.vehiclePartsRow.laid W from hL) h) a1).mono λe W' ⟨he,hg⟩ => ?_;subst he;exact⟨_,rfl,_,_,_,[],(p0++(p1 ++ [])),[],Pm,trodAll_cons_mk (shut_bool Tryz.underlying4 _) trodAll_mk0,trodAll_cons_mk (Below.trod GF (by kernel_rfl) (of_decide_eq_true (by kernel_rfl)) k0 hg (λx hx=>cn x (by simp [hx]))) (trodAll_cons_mk (Below.trod GF (by kernel_rfl) (of_decide_eq_true (by kernel_rfl)) k1 hg (λx hx=>cn x (by simp [hx]))) (trodAll_mk0)),rfl,hg.frame _,λh=>by cases h⟩
theorem closed:joinedFacts Tryz.pinned.checked.prog 3 Tryz.f3 Rows.vehiclePartsSpec Rows.vehiclePartsRow=true:=by
 unfold joinedFacts;simp only [Y1,Y2,Y3,Y4,Y5,Pd,Pe,Pf,Pg,Ph,Pj,Pk,Pl,Bool.and_true,Bool.true_and];kernel_rfl
theorem over:Rows.vehiclePartsRow.holds Tryz.pinned (OpenSpec.ofChange Rows.vehiclePartsSpec) :=
 OpenClaim.holds_of_wide 3 Tryz.f3 rfl rfl rfl rfl rfl rfl rfl ⟨rfl,rfl,rfl,rfl,rfl⟩ rfl rfl rfl rfl rfl (by kernel_rfl) Tryz.func3 closed
  (of_decide_eq_true (by kernel_rfl)) (by unfold Func.isWrapper;first | (rw [if_pos (by decide +kernel)];kernel_rfl) | (rw [if_neg (by decide +kernel)];exact⟨rfl,rfl⟩))
  (λos started H enc _=>lifted os started H enc)
theorem Pn:Rows.vehiclePartsRow.wfByText (OpenSpec.ofChange Rows.vehiclePartsSpec)=true:=by kernel_rfl
theorem Po : Tryz.pinned.checked.prog.mainIs = some (true, "7eebf723744306a2e62c89fc297e263fdb18d7b45161069ef0480aa5d77d80bc".toList) := by kernel_rfl
theorem Pp:true=Tryz.pinned.checked.prog.looks []:=by kernel_rfl
theorem Pq:false=Rows.vehiclePartsRow.goesBy Tryz.pinned.checked.prog:=by kernel_rfl
theorem Y7 : Tryz.prog.funcNamed "ullage/ullagelaw02.VehicleParts" = some 3 := by kernel_rfl
theorem Pr:([28,3].all λu => !Tryz.prog.wantsStandIn u)=true:=by kernel_rfl
theorem proved:Rows.VehiclePartsCardSaid :=
  Claim7.holds_tied_plain_at .later [] [.data, .data, .data, .data, .listed, .data, .widerDeep, .widerDeep, .data, .data, .data, .data, .data, .data, .data, .data, .data, .pinned] true (true, "7eebf723744306a2e62c89fc297e263fdb18d7b45161069ef0480aa5d77d80bc") true
    over (λ_ h=>by cases h) Pn (λ_ h=>by cases h) vehicleParts_row_tie rfl ⟨rfl,rfl⟩ Po rfl
    (λf fn hf Ky=>by
      obtain rfl:f=3:=Option.some.inj (Y7.symm.trans hf) |>.symm;obtain rfl:fn=Tryz.f3:=(Option.some.inj (Tryz.func3.symm.trans Ky)).symm
      exact⟨Pp,λj t ht=>by
        rw [Tryz.params3]at ht;have hm:t ∈ [28,3]:=by simpa using Array.mem_of_getElem? ht
        have cf:=Pr;exact (show Tryz.prog.wantsStandIn t=false by simpa using List.all_eq_true.1 cf t hm)⟩)
    Pq
#print axioms proved
end Go.Proofs.YtocleppbcngcjaaGreatDoor.vehicleParts
