import Derived.Test.YtdjgnbkclcjiiaaGreatDoorOl
import Derived.Test.YtdjgnbkclcjiiaaGreatDoorRv
set_option linter.unusedVariables false
set_option linter.unusedSimpArgs false
set_option maxRecDepth 4000
namespace Go.Proofs.YtdjgnbkclcjiiaaGreatDoor
open Go Go.RowKit Go.ChangeShapes Go.WideShapes Go.ChangeAt Go.Joins Vc
section
variable {H:Type} {enk:TypeId × Value→H} {w:World} {base:Nat} {sp:Nat→Bool} {held:Bool}
theorem zww{fuel:Nat}{cs:List Value}{x:DataW H × List MemPlace}(h:DataW.trod enk Tryz.prog w base sp held fuel 61 cs=some x):∃ z:Sn,cs=snc z∧True:=by
  obtain⟨xs,n,hfn,rfl,hl,hlen,hf⟩:=DataW.trod_struct Tryz.underlying61 h;have e0:Tryz.prog.cellsOf 9=1:=by kernel_rfl
  have e1:Tryz.prog.cellsOf 3=1:=by kernel_rfl
  have e3:Tryz.prog.cellsOf 61=3:=by kernel_rfl
  rw [e3]at hl
  match xs,hlen with
  | [y0,y1,y2],_ =>
    match cs,hl with
    | [c0,c1,c2],_ =>
      have g0:=hf 0 _ rfl;have g1:=hf 1 _ rfl;have g2:=hf 2 _ rfl;simp [e0,e1]at g0 g1 g2;obtain⟨s,q0,_,_⟩:=DataW.trod_string Tryz.underlying9 g0;obtain⟨a1,q1,_,_⟩:=DataW.trod_int Tryz.underlying3 g1;obtain⟨a2,q2,_,_⟩:=DataW.trod_int Tryz.underlying3 g2;simp at q0 q1 q2;exact⟨⟨s.data.toList,a1,a2⟩,by rw [q0,q1,q2];rfl,trivial⟩
theorem zbba{P:Program}(hsp:∀ b,sp b=true)(hP:P=Tryz.prog){fuel:Nat}{v:Value}{d:DataW H × List MemPlace}(hf:DataW.trod enk P w base sp held fuel 52 [v]=some d)(hw:Wt P 52 d.1) :
  ∃ l:List Sn,SlAt w v 3 (l.flatMap snc)∧l.length < 4611686018427387904:=by
 have hu:P.underlying 52=some (.slice 61):=by rw [hP];kernel_rfl
 have hc:P.cellsOf 61=3:=by rw [hP];kernel_rfl
 have hb:0 < P.bytesOf 61:=by rw [hP];exact of_decide_eq_true (by kernel_rfl)
 have hE:∀ fuel cs x,DataW.trod enk P w base sp held fuel 61 cs=some x→Wt P 61 x.1→∃ z:Sn,cs=snc z∧True:=fun fuel cs x h hw=>by rw [hP]at h;exact zww h
 clear hP;obtain⟨l,h1,_,h3⟩:=zsx hsp hu hc (by omega) zk (fun n cs x _=>hE n cs x) hf hw hb;exact⟨l,h1,zfn h3⟩
theorem zfv(hsp:∀ b,sp b=true){fuel:Nat}{cs:List Value}{x:DataW H × List MemPlace}(h:DataW.trod enk Tryz.prog w base sp held fuel 58 cs=some x)(hw:Wt Tryz.prog 58 x.1):∃ (u:Value) (a b:Int),cs=[u,.int .i64 a,.int .i64 b]∧∃ l:List Sn,SlAt w u 3 (l.flatMap snc)∧l.length < 4611686018427387904:=by
  obtain⟨xs,n,hfn,rfl,hl,hlen,hf⟩:=DataW.trod_struct Tryz.underlying58 h;have e0:Tryz.prog.cellsOf 52=1:=by kernel_rfl
  have e1:Tryz.prog.cellsOf 3=1:=by kernel_rfl
  have e3:Tryz.prog.cellsOf 58=3:=by kernel_rfl
  rw [e3]at hl
  match xs,hlen with
  | [y0,y1,y2],_ =>
    match cs,hl with
    | [c0,c1,c2],_ =>
      have g0:=hf 0 _ rfl;have g1:=hf 1 _ rfl;have g2:=hf 2 _ rfl;have w0:Wt Tryz.prog 52 y0.1:=zev Tryz.underlying58 hw (j:=0) rfl rfl;simp [e0,e1]at g0 g1 g2;obtain⟨a1,q1,_,_⟩:=DataW.trod_int Tryz.underlying3 g1;obtain⟨a2,q2,_,_⟩:=DataW.trod_int Tryz.underlying3 g2;simp at q1 q2;exact⟨c0,a1,a2,by rw [q1,q2],zbba hsp rfl g0 w0⟩
theorem zuq{P:Program}(hsp:∀ b,sp b=true)(hP:P=Tryz.prog){r:Reach}{b0:Nat}{v:Value}{d:DataW H}{ps:List MemPlace}(hval:Value.okWide P w r b0 58 v)(hd:DataW.Trod enk P w base sp held 58 v d ps)(hw:Wt P 58 d) :
  ∃ (u:Value) (a b:Int) (l:List Sn),v=.agg #[u,.int .i64 a,.int .i64 b]∧SlAt w u 3 (l.flatMap snc)∧l.length < 4611686018427387904:=by
 obtain⟨fs,hfs⟩:∃ fs,P.underlying 58=some (.struct fs):=⟨_,by rw [hP];exact Tryz.underlying58⟩;have hz:∀ fuel cs x,DataW.trod enk P w base sp held fuel 58 cs=some x→Wt P 58 x.1→∃ (u:Value) (a b:Int),cs=[u,.int .i64 a,.int .i64 b]∧∃ l:List Sn,SlAt w u 3 (l.flatMap snc)∧l.length < 4611686018427387904:=fun fuel cs x h hw=>by rw [hP]at h hw;exact zfv hsp h hw
 clear hP;obtain⟨cs,rfl,_⟩:=okWide_struct hfs hval;obtain⟨fuel,hf⟩:=hd;obtain⟨u,a,b,h1,l,h2,h3⟩:=hz _ _ _ hf hw;refine⟨u,a,b,l, ?_,h2,h3⟩
 have:cs=#[u,.int .i64 a,.int .i64 b]:=by
  apply Array.ext';exact h1
 rw [this]
end
end Go.Proofs.YtdjgnbkclcjiiaaGreatDoor
