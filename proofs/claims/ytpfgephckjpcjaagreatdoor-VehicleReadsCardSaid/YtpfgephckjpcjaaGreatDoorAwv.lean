import Derived.Test.YtpfgephckjpcjaaGreatDoorGx
import Derived.Test.YtpfgephckjpcjaaGreatDoorGc
import Derived.Test.YtpfgephckjpcjaaGreatDoorVal
import Derived.Test.YtpfgephckjpcjaaGreatDoorFvA
import Derived.Lib.Bytealg
set_option linter.unusedVariables false
set_option linter.unusedSimpArgs false
namespace Go.Proofs.YtpfgephckjpcjaaGreatDoor
open Go Go.RowKit
theorem vn(l:List UInt8)(w:World):(callFunc 177 #[.string ⟨l.toArray⟩,.int .u8 46]).run Tryz.prog w=.ok (.value (.int .i64 (Lib.indexByte l 46))) w:=by
 rw [run_callFunc_extern Tryz.func177 (by kernel_rfl) (by kernel_rfl) (by kernel_rfl) (e:=Extern.BytealgIndexByte.indexByte) (by kernel_rfl),Lib.run_indexByteString];rfl
theorem zt{w w':World}{g:Nat}{cs:Array Value}(h:∃ty mk,w.heap[g]? = some (.cells cs ty mk))(hb:Below w.heap.size w w'):∃ty mk,w'.heap[g]? = some (.cells cs ty mk):=by
 obtain⟨ty,mk,h⟩:=h;have h4:g<w.heap.size:=(Array.getElem?_eq_some_iff.1 h).1;exact⟨ty,mk,by rw [hb.block g h4];exact h⟩
theorem Ma{w w':World}(h:mr w)(hb:Below w.heap.size w w'):Calls Tryz.prog 43 #[.string ⟨(([49,46,53]:List UInt8)).toArray⟩] w' (Vc.aR (.tuple #[.agg #[.int .i64 3,.int .i64 2,.int .i64 0,.int .i64 0,.int .i64 0],.int .i64 0]) w') :=
 xi [49,46,53] [49] [53] true w' _ 0 (λw2=>V7 w2 _ ⟨⟨rfl,λw3=>vn [49,46,53] w3⟩,rfl⟩) (by decide) (by decide) (zt h hb)
  (λw2=>Wg 0 0 0 w2 _ (by simp)) ⟨_,_,_,_,_,rfl⟩
theorem Mb{w w':World}(h:mr w)(hb:Below w.heap.size w w'):Calls Tryz.prog 43 #[.string ⟨(([50]:List UInt8)).toArray⟩] w' (Vc.aR (.tuple #[.agg #[.int .i64 2,.int .i64 1,.int .i64 0,.int .i64 0,.int .i64 0],.int .i64 0]) w') :=
 xi [50] [50] [] false w' _ 0 (λw2=>V8 w2 _ ⟨⟨rfl,λw3=>vn [50] w3⟩,rfl⟩) (by decide) (by decide) (zt h hb)
  (λw2=>Wh 0 0 0 w2 _ (by simp)) ⟨_,_,_,_,_,rfl⟩
theorem Mc{w w':World}(h:mr w)(hb:Below w.heap.size w w'):Calls Tryz.prog 43 #[.string ⟨(([51]:List UInt8)).toArray⟩] w' (Vc.aR (.tuple #[.agg #[.int .i64 3,.int .i64 1,.int .i64 0,.int .i64 0,.int .i64 0],.int .i64 0]) w') :=
 xi [51] [51] [] false w' _ 0 (λw2=>V9 w2 _ ⟨⟨rfl,λw3=>vn [51] w3⟩,rfl⟩) (by decide) (by decide) (zt h hb)
  (λw2=>Wi 0 0 0 w2 _ (by simp)) ⟨_,_,_,_,_,rfl⟩
theorem Md{w w':World}(h:mr w)(hb:Below w.heap.size w w'):Calls Tryz.prog 43 #[.string ⟨(([49,48]:List UInt8)).toArray⟩] w' (Vc.aR (.tuple #[.agg #[.int .i64 10,.int .i64 1,.int .i64 0,.int .i64 0,.int .i64 0],.int .i64 0]) w') :=
 xi [49,48] [49,48] [] false w' _ 0 (λw2=>V_ w2 _ ⟨⟨rfl,λw3=>vn [49,48] w3⟩,rfl⟩) (by decide) (by decide) (zt h hb)
  (λw2=>Wj 0 0 0 w2 _ (by simp)) ⟨_,_,_,_,_,rfl⟩
theorem Me{w w':World}(h:mr w)(hb:Below w.heap.size w w'):Calls Tryz.prog 43 #[.string ⟨(([50,48,48,48]:List UInt8)).toArray⟩] w' (Vc.aR (.tuple #[.agg #[.int .i64 2000,.int .i64 1,.int .i64 0,.int .i64 0,.int .i64 0],.int .i64 0]) w') :=
 xi [50,48,48,48] [50,48,48,48] [] false w' _ 0 (λw2=>Wa w2 _ ⟨⟨rfl,λw3=>vn [50,48,48,48] w3⟩,rfl⟩) (by decide) (by decide) (zt h hb)
  (λw2=>Wk 0 0 0 w2 _ (by simp)) ⟨_,_,_,_,_,rfl⟩
theorem Mf{w w':World}(h:mr w)(hb:Below w.heap.size w w'):Calls Tryz.prog 43 #[.string ⟨(([49]:List UInt8)).toArray⟩] w' (Vc.aR (.tuple #[.agg #[.int .i64 1,.int .i64 1,.int .i64 0,.int .i64 0,.int .i64 0],.int .i64 0]) w') :=
 xi [49] [49] [] false w' _ 0 (λw2=>Wb w2 _ ⟨⟨rfl,λw3=>vn [49] w3⟩,rfl⟩) (by decide) (by decide) (zt h hb)
  (λw2=>Wl 0 0 0 w2 _ (by simp)) ⟨_,_,_,_,_,rfl⟩
theorem Mg{w w':World}(h:mr w)(hb:Below w.heap.size w w'):Calls Tryz.prog 43 #[.string ⟨(([48,46,53]:List UInt8)).toArray⟩] w' (Vc.aR (.tuple #[.agg #[.int .i64 1,.int .i64 2,.int .i64 0,.int .i64 0,.int .i64 0],.int .i64 0]) w') :=
 xi [48,46,53] [48] [53] true w' _ 0 (λw2=>Wc w2 _ ⟨⟨rfl,λw3=>vn [48,46,53] w3⟩,rfl⟩) (by decide) (by decide) (zt h hb)
  (λw2=>Wm 0 0 0 w2 _ (by simp)) ⟨_,_,_,_,_,rfl⟩
theorem Mh{w w':World}(h:mr w)(hb:Below w.heap.size w w'):Calls Tryz.prog 43 #[.string ⟨(([48]:List UInt8)).toArray⟩] w' (Vc.aR (.tuple #[.agg #[.int .i64 0,.int .i64 1,.int .i64 0,.int .i64 0,.int .i64 0],.int .i64 0]) w') :=
 xi [48] [48] [] false w' _ 0 (λw2=>Wd w2 _ ⟨⟨rfl,λw3=>vn [48] w3⟩,rfl⟩) (by decide) (by decide) (zt h hb)
  (λw2=>Wn 0 0 0 w2 _ (by simp)) ⟨_,_,_,_,_,rfl⟩
theorem Mi{w w':World}(h:mr w)(hb:Below w.heap.size w w'):Calls Tryz.prog 43 #[.string ⟨(([53,48]:List UInt8)).toArray⟩] w' (Vc.aR (.tuple #[.agg #[.int .i64 50,.int .i64 1,.int .i64 0,.int .i64 0,.int .i64 0],.int .i64 0]) w') :=
 xi [53,48] [53,48] [] false w' _ 0 (λw2=>We w2 _ ⟨⟨rfl,λw3=>vn [53,48] w3⟩,rfl⟩) (by decide) (by decide) (zt h hb)
  (λw2=>Wo 0 0 0 w2 _ (by simp)) ⟨_,_,_,_,_,rfl⟩
theorem Mj{w w':World}(h:mr w)(hb:Below w.heap.size w w'):Calls Tryz.prog 43 #[.string ⟨(([51,53]:List UInt8)).toArray⟩] w' (Vc.aR (.tuple #[.agg #[.int .i64 35,.int .i64 1,.int .i64 0,.int .i64 0,.int .i64 0],.int .i64 0]) w') :=
 xi [51,53] [51,53] [] false w' _ 0 (λw2=>Wf w2 _ ⟨⟨rfl,λw3=>vn [51,53] w3⟩,rfl⟩) (by decide) (by decide) (zt h hb)
  (λw2=>Wp 0 0 0 w2 _ (by simp)) ⟨_,_,_,_,_,rfl⟩
set_option maxHeartbeats 4000000 in
set_option maxRecDepth 100000 in
theorem Mk(w:World)(h0:bT w)(uN:I w):Calls Tryz.prog 107 #[.string ⟨(([111,110,101]:List UInt8)).toArray⟩] w (Vc.aR (.bool false) w):=by
 refine Wr w _ ?_
 repeat first
  |exact rfl
  |refine⟨h0, ?_⟩
  |refine⟨uN, ?_⟩
  |intro _ _
set_option maxHeartbeats 4000000 in
set_option maxRecDepth 100000 in
theorem Ml(w:World)(h0:bT w)(uN:I w):Calls Tryz.prog 107 #[.string ⟨(([116,97,110,107]:List UInt8)).toArray⟩] w (Vc.aR (.bool false) w):=by
 refine Ws w _ ?_
 repeat first
  |exact rfl
  |refine⟨h0, ?_⟩
  |refine⟨uN, ?_⟩
  |intro _ _
set_option maxHeartbeats 4000000 in
set_option maxRecDepth 100000 in
theorem Mm(w:World)(h0:bT w)(uN:I w):Calls Tryz.prog 107 #[.string ⟨(([108,111,119]:List UInt8)).toArray⟩] w (Vc.aR (.bool false) w):=by
 refine Wt w _ ?_
 repeat first
  |exact rfl
  |refine⟨h0, ?_⟩
  |refine⟨uN, ?_⟩
  |intro _ _
set_option maxHeartbeats 4000000 in
set_option maxRecDepth 100000 in
theorem Mn(w:World)(h0:bT w)(uN:I w):Calls Tryz.prog 107 #[.string ⟨(([101]:List UInt8)).toArray⟩] w (Vc.aR (.bool false) w):=by
 refine Wu w _ ?_
 repeat first
  |exact rfl
  |refine⟨h0, ?_⟩
  |refine⟨uN, ?_⟩
  |intro _ _
structure pz(w:World):Prop where
 g0:bT w
 g3:ag w
 g4:mr w
 g5:yL w
 g6:E5 w
 g7:E6 w
 g8:B0 w
 g9:B1 w
 g10:B2 w
 g11:Al w
 g12:Am w
 g14:I w
 g15:px w
theorem pz.jf{w w':World}(h:pz w)(hb:Below w.heap.size w w'):pz w':=⟨zt h.g0 hb,zt h.g3 hb,zt h.g4 hb,zt h.g5 hb,zt h.g6 hb,zt h.g7 hb,zt h.g8 hb,zt h.g9 hb,zt h.g10 hb,zt h.g11 hb,zt h.g12 hb,zt h.g14 hb,zt h.g15 hb⟩
set_option maxHeartbeats 4000000 in
set_option maxRecDepth 100000 in
theorem RP(w:World)(hG:pz w):Calls Tryz.prog 4 #[] w (Vc.aR (.bool true) w):=by
 obtain⟨h0,h3,h4,h5,h6,h7,h8,h9,C_,Wv,Fl,uN,Ww⟩:=hG;refine V6 w _ ?_
 have hdiv:∀w':World,Calls Tryz.prog 31 #[.agg #[.int .i64 42949672960,.int .i64 51539607552],.agg #[.int .i64 8589934592,.int .i64 17179869184]] w' (Vc.aR (.tuple #[.agg #[.int .i64 10737418240,.int .i64 25769803776],.int .i64 0]) w'):=λw' =>
  Vc.aR.mono (Lr 42949672960 51539607552 8589934592 17179869184 w' ⟨by decide,by decide⟩ ⟨by decide,by decide⟩ ⟨by decide,by decide⟩ ⟨by decide,by decide⟩) (by kernel_rfl)
 have r1:=λ(w':World) (hb:Below w.heap.size w w')=>Mk w' (zt h0 hb) (zt uN hb);have r2:=λ(w':World) (hb:Below w.heap.size w w')=>Ml w' (zt h0 hb) (zt uN hb);have r3:=λ(w':World) (hb:Below w.heap.size w w')=>Mm w' (zt h0 hb) (zt uN hb);have r4:=λ(w':World) (hb:Below w.heap.size w w')=>Mn w' (zt h0 hb) (zt uN hb);have v0:=λ(w':World) (hb:Below w.heap.size w w')=>Ma h4 hb;have v1:=λ(w':World) (hb:Below w.heap.size w w')=>Mb h4 hb;have v2:=λ(w':World) (hb:Below w.heap.size w w')=>Mc h4 hb;have v3:=λ(w':World) (hb:Below w.heap.size w w')=>Md h4 hb;have v4:=λ(w':World) (hb:Below w.heap.size w w')=>Me h4 hb;have v5:=λ(w':World) (hb:Below w.heap.size w w')=>Mf h4 hb;have v6:=λ(w':World) (hb:Below w.heap.size w w')=>Mg h4 hb;have v7:=λ(w':World) (hb:Below w.heap.size w w')=>Mh h4 hb;have v8:=λ(w':World) (hb:Below w.heap.size w w')=>Mi h4 hb;have v9:=λ(w':World) (hb:Below w.heap.size w w')=>Mj h4 hb
 repeat first
  |with_reducible refine⟨h0, ?_⟩
  |with_reducible refine⟨h3, ?_⟩
  |with_reducible refine⟨h4, ?_⟩
  |with_reducible refine⟨h5, ?_⟩
  |with_reducible refine⟨h6, ?_⟩
  |with_reducible refine⟨h7, ?_⟩
  |with_reducible refine⟨h8, ?_⟩
  |with_reducible refine⟨h9, ?_⟩
  |with_reducible refine⟨C_, ?_⟩
  |with_reducible refine⟨Wv, ?_⟩
  |with_reducible refine⟨Fl, ?_⟩
  |with_reducible refine⟨uN, ?_⟩
  |with_reducible refine⟨Ww, ?_⟩
  |with_reducible refine⟨r1, ?_⟩
  |with_reducible refine⟨r2, ?_⟩
  |with_reducible refine⟨r3, ?_⟩
  |with_reducible refine⟨r4, ?_⟩
  |with_reducible refine⟨v0, ?_⟩
  |with_reducible refine⟨v1, ?_⟩
  |with_reducible refine⟨v2, ?_⟩
  |with_reducible refine⟨v3, ?_⟩
  |with_reducible refine⟨v4, ?_⟩
  |with_reducible refine⟨v5, ?_⟩
  |with_reducible refine⟨v6, ?_⟩
  |with_reducible refine⟨v7, ?_⟩
  |with_reducible refine⟨v8, ?_⟩
  |with_reducible refine⟨v9, ?_⟩
  |intro _ _
  |refine⟨λw' _=>hdiv w', ?_⟩
  |refine⟨λw' _=>Wq _ _ _ _ _ _ _ _ _ _ _ w' _ rfl, ?_⟩
  |exact rfl
end Go.Proofs.YtpfgephckjpcjaaGreatDoor
