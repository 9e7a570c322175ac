import Derived.Test.YtdjgnbkclcjiiaaGreatDoorSi
import Derived.Test.YtdjgnbkclcjiiaaGreatDoorHd
set_option linter.unusedVariables false
set_option linter.unusedSimpArgs false
set_option maxRecDepth 100000
namespace Go.Proofs.YtdjgnbkclcjiiaaGreatDoor
open Go Go.RowKit Go.Proofs Wk
open Vc (SlAt OV iteI Vl zrc zf zcb)
attribute [local irreducible] Go.Calls
set_option maxHeartbeats 4000000 in
theorem zxaa{w:World}{op ask wi cm n a b1 b2:Int}{s:ByteArray}{sa:Option Addr}{sl sc:Nat}{V:Value}
  (hq:∀ w',Below w.heap.size w w'→Calls Tryz.prog 69 #[V,.agg #[.int .i64 op,.int .i64 ask,.string s,.int .i64 wi,.int .i64 cm,.int .i64 n,.slice sa sl sc]] w' (Vc.Ret (.agg #[.int .i64 b1,.int .i64 b2]) w'))
  (ha:∀ w',Below w.heap.size w w'→Calls Tryz.prog 128 #[.agg #[.int .i64 b1,.int .i64 b2],.int .i64 cm,.int .i64 n] w' (Vc.Ret (.int .i64 a) w')) :
  Calls Tryz.prog 68 #[.iface 183 (.agg #[.int .i64 op,.int .i64 ask,.string s,.int .i64 wi,.int .i64 cm,.int .i64 n,.slice sa sl sc]),.func (.func 69) #[V] #[]] w (Vc.Ret (.int .i64 a) w):=by
 have K:=Kn.start w;have n1:=zvz 183 (by decide);have n2:=zwz 183 (by decide);have n3:=zgba 183 (by decide)
 go_enter Tryz.func68,Tryz.ntmps68
 go_wp2_with (first | simp only [n1] | simp only [n2] | simp only [n3] | simp only [zty])
 refine zwb 11 (by repeat (first | exact K | apply Kn.push | apply Kn.drew)) (by kernel_rfl) (by kernel_rfl) ?_;clear K;intro W KB hG;simp only [OpenedG,World.size_alloc,World.size_drew,World.size_setCell]at hG;simp only [List.take_succ_cons,List.take_zero,List.drop_succ_cons,List.drop_zero]
 repeat (quiet_step (first | (go_at_call 69;exact zuz (hq _ (KB.grown ⟨_,rfl⟩).below)) | (go_at_call 128;exact zuz (ha _ (KB.grown ⟨_,rfl⟩).below))))
 refine wpQuiet_nil ?_;clear KB hG;intro wN K hO;simp only [Opened,World.size_alloc,World.size_drew,World.size_setCell]at hO
 go_wp2
 go_ret
 exact⟨rfl,by have B:=K.below;go_grown⟩
theorem vgk{w w':World}{g:Nat}{cs:Array Value}(hb:Below w.heap.size w w')(h:∃ ty mk,w.heap[g]? = some (.cells cs ty mk)):∃ ty mk,w'.heap[g]? = some (.cells cs ty mk):=by
 obtain⟨ty,mk,hg⟩:=h;exact⟨ty,mk,by rw [hb.block _ (Array.getElem?_eq_some_iff.1 hg).1];exact hg⟩
theorem zyaa{w w0:World}{r:Rl}{v:Value}{l:List Sn}{now fresh:Int}(hV:Vg_1 w)(hV3:Vg_3 w)(hw0:Below w0.heap.size w0 w)(h:RlAt w0 r)(hr:rightR r=true)(hl:SlAt w v 3 (l.flatMap snc))(ho:obsB l=true)(hw:0≤now∧now≤1073741824)(hf:0≤fresh∧fresh≤1000) :
  Calls Tryz.prog 68 #[FM r,.func (.func 69) #[.agg #[v,.int .i64 now,.int .i64 fresh]] #[]] w (Vc.Ret (.int .i64 (valR (askQ l now fresh) r)) w):=by
 obtain⟨va,vl,vc,hv⟩:=zce hl;refine pval (askQ l now fresh) ⟨.func (.func 69) #[.agg #[v,.int .i64 now,.int .i64 fresh]] #[],rfl⟩ _ (Nat.le_refl _) hr h fun k hk1 hk2 hk3 w2 hb2 => ?_;obtain⟨sa,sl,sc,hs⟩:=zce (zeb hk3).1
 have hat:(0≤k.ask∧k.ask≤2)∧(0≤k.wi∧k.wi≤1000)∧(0≤k.cm∧k.cm≤5):=by
  rw [zxr,if_pos hk2]at hk1;obtain⟨op,ask,nm,wi,cm,n,v,ks⟩:=k
  have:=zum.1 hk1
  exact⟨this.1,this.2.2.1,this.2.2.2.2.1⟩
 have hq:∀ w3,Below w2.heap.size w2 w3→Calls Tryz.prog 69 #[.agg #[v,.int .i64 now,.int .i64 fresh],RV7 k] w3 _:=fun w3 hb3=>by
  have b13:Below w.heap.size w w3:=hb2.trans (hb3.mono hb2.size);exact pask (vgk b13 hV3) (hk3.below (hw0.trans (b13.mono hw0.size))) (zcb b13 hl) ho hw hf hat.2.1 hat.1
 unfold RV7 at hq ⊢;rw [hs]at hq ⊢;exact zxaa (b1:=(askQ l now fresh k).1) (b2:=(askQ l now fresh k).2) hq (fun w3 hb3=>zuy (vgk (hb2.trans (hb3.mono hb2.size)) hV) (askQ l now fresh k) k.n hat.2.2)
theorem zzaa{w:World}{r:Rl}{v:Value}{l:List Sn}{now fresh:Int}(hV0:Vg_0 w)(hV:Vg_1 w)(hV3:Vg_3 w)(h:RlAt w r)(hl:SlAt w v 3 (l.flatMap snc))(hn:l.length < 4611686018427387904) :
  Calls Tryz.prog 29 #[RV7 r,v,.int .i64 now,.int .i64 fresh] w (Vc.Ret (.tuple #[.int .i64 (judgeI r l now fresh).1,.int .i64 (judgeI r l now fresh).2]) w):=by
 have h':=h;have hl':=hl;have hks:=zeb h;obtain⟨b0,p0,c0,e0,f0,g0⟩:=zzb hks.1;have hno:=zpk f0;have E:RV7 r=.agg #[.int .i64 r.op,.int .i64 r.ask,.string ⟨r.nm.toArray⟩,.int .i64 r.wi,.int .i64 r.cm,.int .i64 r.n,(if b0=true then .slice none 0 0 else .slice (some (Vc.qad p0 (Int.toNat ((r.ks.length:Nat):Int)) (Int.toNat c0))) (Int.toNat ((r.ks.length:Nat):Int)) (Int.toNat c0):Value)]:=by unfold RV7;rw [e0]
 rw [E];obtain⟨b1,p1,c1,e1,f1,g1⟩:=zym hl;rw [e1];obtain⟨hv1,hv2⟩:=zwr r;have J2:(validR r && obsB l)=false→(Value.tuple #[.int .i64 0,.int .i64 2])=.tuple #[.int .i64 (judgeI r l now fresh).1,.int .i64 (judgeI r l now fresh).2]:=fun hh=>by unfold judgeI;rw [if_pos hh]
 have J4:validR r=true→obsB l=true→¬ ((0≤now∧now≤1073741824)∧0≤fresh∧fresh≤1000)→(Value.tuple #[.int .i64 0,.int .i64 4])=.tuple #[.int .i64 (judgeI r l now fresh).1,.int .i64 (judgeI r l now fresh).2]:=fun h1 h2 hh=>by
  unfold judgeI;rw [h1,h2,if_neg (by decide),if_pos ?_];rw [Bool.eq_false_iff];intro h3;simp only [inB,Bool.and_eq_true,decide_eq_true_eq]at h3;exact hh ⟨h3.1,h3.2⟩
 refine zlh p0 p1 r.op r.ask r.wi r.cm r.n (r.ks.length:Nat) c0 (l.length:Nat) c1 now fresh b0 b1 r.nm w _ ⟨⟨(MK 0 1 r).2.1,zoq _ _ _ _ r 0 1⟩,validR r,fun w' hb=>by rw [← E];exact znw (vgk hb hV0) (h'.below hb),iteI (fun hv=>⟨_,fun w' hb=>by rw [← e1];exact zxu (vgk hb hV0) (zcb hb hl') hn,iteI (fun hob => ?_) (fun hob=>J2 (by rw [Bool.eq_false_iff.2 hob,Bool.and_false]))⟩) (fun hv=>J2 (by rw [Bool.eq_false_iff.2 hv,Bool.false_and]))⟩;refine iteI (fun a1=>iteI (fun a2=>iteI (fun a3=>iteI (fun a4=>⟨_,fun β w' hb _=>by dsimp only;rw [show (MK 0 1 r).2.1=FM r by rw [hv2 hv],← e1];exact zyaa (w0:=w) (vgk hb hV) (vgk hb hV3) hb h' (zpq hv) (zcb hb hl') hob ⟨a1,a2⟩ ⟨a3,a4⟩, ?_⟩) (fun a4=>J4 hv hob fun hh=>a4 hh.2.2)) (fun a3=>J4 hv hob fun hh=>a3 hh.2.1)) (fun a2=>J4 hv hob fun hh=>a2 hh.1.2)) (fun a1=>J4 hv hob fun hh=>a1 hh.1.1);unfold judgeI;rw [hv,hob,if_neg (by decide),if_neg (by simp [inB,a1,a2,a3,a4])]
end Go.Proofs.YtdjgnbkclcjiiaaGreatDoor
