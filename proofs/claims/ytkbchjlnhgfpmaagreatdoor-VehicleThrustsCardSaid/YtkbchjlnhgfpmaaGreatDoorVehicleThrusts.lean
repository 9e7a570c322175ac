/- VehicleThrusts: for every input the law returns true, and each argument reads afterwards as it read before. No condition. -/
import Derived.Test.YtkbchjlnhgfpmaaGreatDoorTj
import Derived.Test.YtkbchjlnhgfpmaaGreatDoorOv
import Derived.Test.YtkbchjlnhgfpmaaGreatDoorGl
import Derived.Test.YtkbchjlnhgfpmaaGreatDoorJfT
import Derived.WalkKit
import Derived.ProofKit
import Derived.OpenShut
import Derived.Lib.SmallJoins
import Derived.LaidMore
import Derived.Stop.Joined
import Derived.SevenTiedAt
import Derived.Lay
import Derived.MakeChecks
import Derived.ChangeMaps5
import Derived.Test.YtkbchjlnhgfpmaaGreatDoorCards
import Derived.Test.YtkbchjlnhgfpmaaGreatDoorTie
set_option linter.unusedVariables false
set_option linter.unusedSimpArgs false
namespace Go.Proofs.YtkbchjlnhgfpmaaGreatDoor.vehicleThrusts
open Go.ChangeShapes Go.WideShapes Go.ChangeAt Go.RowKit Go.Joins Ul
theorem own:ownKnob Tryz.prog.godebug=none:=by kernel_rfl
theorem Sc:laidOutB Tryz.prog=true:=by kernel_rfl
set_option maxRecDepth 100000 in
theorem lifted(os:Os)(started:os.Started)(H:Type)(enc:TypeId × Value->H) :
  ReturnsInHanded {} Tryz.checked os 3 .any (λw args=>(Rows.vehicleThrustsSpec.pre enc Tryz.prog Tryz.f3 [] false w args/\laidMetH Tryz.prog Rows.vehicleThrustsRow.laid w)/\sizedMet enc Tryz.prog Tryz.f3 (OpenSpec.ofChange Rows.vehicleThrustsSpec) false w args) (Rows.vehicleThrustsSpec.post enc Tryz.prog Tryz.f3 false true false false):=by
 refine returnsInHanded_of_change_and (C:=Tryz.checked) (X:=λw _=>laidMetH Tryz.prog Rows.vehicleThrustsRow.laid w) (λ_ _ _ hh h=>h.of_heap hh) own started (by kernel_rfl) Tryz.func3
  (ChangeSpec.witness_shaped (enc:=enc) (C:=Tryz.checked) (os:=os) (X:=λw _=>laidMetH Tryz.prog Rows.vehicleThrustsRow.laid w) false (World.laidAll Tryz.prog os Rows.vehicleThrustsRow.laid) #[.agg #[.string ⟨#[]⟩,.slice none 0 0,.int .i64 0,.int .i64 0,.slice none 0 0,.int .i64 0,.int .i64 0],.int .i64 0,.agg #[.int .i64 0,.int .i64 0]] 8 (World.laidAll_os _ _ _) (World.shaped_of_ZipB (by kernel_rfl) (by kernel_rfl)) (by kernel_rfl) (by kernel_rfl) (by kernel_rfl) (by rw [MakeChecks.laidMetH_plain _ _ _ (by kernel_rfl)];exact laidMet_laidAll _ (by kernel_rfl) (by kernel_rfl))) ?_
 intro W base args ds gs before BQ hW _ Gk hL _;have jE:∀(j:Nat) t v,Tryz.f3.params[j]? = some t->args[j]? = some v->Value.okWide Tryz.prog W .any base t v:=BQ;have Sd:=hW;obtain⟨p,q,Wf,hV,rfl,hfz,yv⟩:=hW;have hA:DataW.TrodAll enc Tryz.prog W 0 (λ_=>true) true Tryz.f3.params.toList args.toList ds p:=Wf;rw [Tryz.params3]at hA jE;obtain⟨v0,vs0,d0,ds0,p0,q0,fM,rfl,rfl,h0,r0⟩:=trodAll_cons hA;obtain⟨v1,vs1,d1,ds1,p1,q1,rfl,rfl,rfl,h1,r1⟩:=trodAll_cons r0;obtain⟨v2,vs2,d2,ds2,p2,q2,rfl,rfl,rfl,h2,r2⟩:=trodAll_cons r1;obtain⟨rfl,rfl,rfl⟩:=trodAll_nil r2;obtain rfl:args=#[v0,v1,v2]:=by cases args;simp_all
 obtain⟨rfl,rfl⟩:=trodVars_none hV;have ct:=λx hx=>Sd.lt x hx;have k0:=h0
 have w0':Wt Tryz.prog 28 d0:=λn hn=>by
  have:=List.all_eq_true.1 Gk n (DataW.weights_mem_each (j:=0) (t:=28) (d:=d0) (by kernel_rfl) rfl n hn)
  simpa using this
 obtain⟨v0',rfl,t0,z0⟩:=RT (λ_=>rfl) rfl (jE 0 28 v0 rfl rfl) h0 w0';have k1:=h1;obtain⟨a1,Ck,_,_,w1⟩:=open_int Tryz.underlying3 (jE 1 3 v1 rfl rfl) h1;subst Ck;have k2:=h2;obtain⟨c20,c21,y20,y21,m2,y7,_,_,Se,Sf⟩:=open_agg2 Tryz.underlying25 (by kernel_rfl) (show Tryz.prog.cellsOf 25=2 by kernel_rfl) (jE 2 25 v2 rfl rfl) h2;obtain⟨a20,Wg,_,w20⟩:=DataW.trod_int Tryz.underlying23 Se;simp at Wg;obtain⟨a21,Wh,_,w21⟩:=DataW.trod_int Tryz.underlying23 Sf;simp at Wh;subst Wg Wh y7;clear Wf BQ;simp only [List.append_nil]at Sd;refine (zgj (w:=W) z0.sz t0 (R0 λn d h=>Lib.laidMet.reads (show laidMet Tryz.prog Rows.vehicleThrustsRow.laid W from hL) h) a1 a20 a21 (Fb w20) (Fb w21)).mono λe W' ⟨he,hg⟩ => ?_;subst he;exact⟨_,rfl,_,_,_,[],(p0++(p1++(p2 ++ []))),[],Sd,trodAll_cons_mk (shut_bool Tryz.underlying4 _) trodAll_mk0,trodAll_cons_mk (Below.trod Sc (by kernel_rfl) (of_decide_eq_true (by kernel_rfl)) k0 hg (λx hx=>ct x (by simp [hx]))) (trodAll_cons_mk (Below.trod Sc (by kernel_rfl) (of_decide_eq_true (by kernel_rfl)) k1 hg (λx hx=>ct x (by simp [hx]))) (trodAll_cons_mk (Below.trod Sc (by kernel_rfl) (of_decide_eq_true (by kernel_rfl)) k2 hg (λx hx=>ct x (by simp [hx]))) (trodAll_mk0))),rfl,hg.frame _,λh=>by cases h⟩
theorem closed:joinedFacts Tryz.pinned.checked.prog 3 Tryz.f3 Rows.vehicleThrustsSpec Rows.vehicleThrustsRow=true:=by
 unfold joinedFacts;simp only [R3,zjx,R4,zju,zcz,R5,R6,R7,R8,R9,R_,Sa,Sb,Bool.and_true,Bool.true_and];kernel_rfl
theorem over:Rows.vehicleThrustsRow.holds Tryz.pinned (OpenSpec.ofChange Rows.vehicleThrustsSpec) :=
 OpenClaim.holds_of_wide 3 Tryz.f3 rfl rfl rfl rfl rfl rfl rfl ⟨rfl,rfl,rfl,rfl,rfl⟩ rfl rfl rfl rfl rfl (by kernel_rfl) Tryz.func3 closed
  (of_decide_eq_true (by kernel_rfl)) (by unfold Func.isWrapper;first | (rw [if_pos (by decide +kernel)];kernel_rfl) | (rw [if_neg (by decide +kernel)];exact⟨rfl,rfl⟩))
  (λos started H enc _=>lifted os started H enc)
theorem Sh:Rows.vehicleThrustsRow.wfByText (OpenSpec.ofChange Rows.vehicleThrustsSpec)=true:=by kernel_rfl
theorem Si : Tryz.pinned.checked.prog.mainIs = some (true, "b9e369e92245063f5459cf44e7991d3e1edb2a810dcc6c46c38705a91d63fa41".toList) := by kernel_rfl
theorem Sj:true=Tryz.pinned.checked.prog.looks []:=by kernel_rfl
theorem Sk:false=Rows.vehicleThrustsRow.goesBy Tryz.pinned.checked.prog:=by kernel_rfl
theorem zkx : Tryz.prog.funcNamed "ullage/ullagelaw02.VehicleThrusts" = some 3 := by kernel_rfl
theorem Sl:([28,3,25].all λu => !Tryz.prog.wantsStandIn u)=true:=by kernel_rfl
theorem proved:Rows.VehicleThrustsCardSaid :=
  Claim7.holds_tied_plain_at .later [] [.data, .data, .data, .data, .listed, .data, .widerDeep, .widerDeep, .data, .data, .data, .data, .data, .data, .data, .data, .data, .pinned] true (true, "b9e369e92245063f5459cf44e7991d3e1edb2a810dcc6c46c38705a91d63fa41") true
    over (λ_ h=>by cases h) Sh (λ_ h=>by cases h) vehicleThrusts_row_tie rfl ⟨rfl,rfl⟩ Si rfl
    (λf fn hf MY=>by
      obtain rfl:f=3:=Option.some.inj (zkx.symm.trans hf) |>.symm;obtain rfl:fn=Tryz.f3:=(Option.some.inj (Tryz.func3.symm.trans MY)).symm
      exact⟨Sj,λj t ht=>by
        rw [Tryz.params3]at ht;have hm:t ∈ [28,3,25]:=by simpa using Array.mem_of_getElem? ht
        have cH:=Sl;exact (show Tryz.prog.wantsStandIn t=false by simpa using List.all_eq_true.1 cH t hm)⟩)
    Sk
#print axioms proved
end Go.Proofs.YtkbchjlnhgfpmaaGreatDoor.vehicleThrusts
