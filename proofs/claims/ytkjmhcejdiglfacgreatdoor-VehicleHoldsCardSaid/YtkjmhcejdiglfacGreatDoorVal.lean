import Derived.Test.YtkjmhcejdiglfacGreatDoorProg
import Derived.WalkKit
import Derived.BigCall
import Derived.Below
import Derived.Laws.IdiomStrings
import Derived.Laws.RangeString
set_option linter.unusedVariables false
set_option linter.unusedSimpArgs false
set_option linter.unusedSimpArgs false
namespace Go.Proofs.YtkjmhcejdiglfacGreatDoor
open Go Go.RowKit Go.Proofs
theorem zkea:Tryz.prog.underlying 9=some .string:=by kernel_rfl
theorem zlea:Tryz.prog.underlying 155=some (.slice 5):=by kernel_rfl
theorem zsfa:Tryz.prog.underlying 5=some (.int .u8):=by kernel_rfl
def digs(l:List UInt8):Nat:=l.foldl (fun a b=>10 * a + (b.toNat - 48)) 0
theorem zxr(l:List UInt8)(b:UInt8):digs (l ++ [b])=10 * digs l + (b.toNat - 48):=by simp [digs]
theorem zmt:∀ (n:Nat) (l:List UInt8),l.length=n→(∀ b∈l,48≤b.toNat∧b.toNat≤57)→digs l < 10 ^ n:=by
  intro n
  induction n with
  | zero=>intro l hl _;rw [List.eq_nil_of_length_eq_zero hl];decide
  | succ n ih =>
    intro l hl hd;obtain⟨r,b,rfl⟩:∃ r b,l=r ++ [b]:=⟨l.dropLast,l.getLast (by intro h;rw [h]at hl;cases hl),(List.dropLast_concat_getLast _).symm⟩;have h1:=ih r (by simpa using hl) fun x hx=>hd x (by simp [hx]);have h2:=hd b (by simp);rw [zxr,Nat.pow_succ];omega
theorem zby(l:List UInt8)(k:Nat)(hk:k < l.length):digs (l.take (k + 1))=10 * digs (l.take k) + (l[k].toNat - 48):=by
 rw [← zxr];congr 1;rw [List.take_add_one,List.getElem?_eq_getElem hk];rfl
theorem zvh(n:Nat)(h:n≤18):10 ^ n≤1000000000000000000:=by
 have:=Nat.pow_le_pow_right (n:=10) (by omega) h
 simpa using this
set_option maxHeartbeats 4000000 in
set_option maxRecDepth 100000 in
theorem zma(s whole part:List UInt8)(f:Bool)(w:World)(q:Value)(er:Int)
  (hcut:∀ w',Calls Tryz.prog 106 #[.string ⟨s.toArray⟩,.string ⟨#[46]⟩] w' fun e w''=>e=.returned (.tuple #[.string ⟨whole.toArray⟩,.string ⟨part.toArray⟩,.bool f])∧Below w'.heap.size w' w'')
  (hlen:whole.length + part.length≤18) (hd:∀ b∈whole++part,48≤b.toNat∧b.toNat≤57)
  (hg:∃ ty mk,w.heap[3]? = some (.cells #[.int .i64 0,.int .i64 0,.int .i64 0] ty mk))
  (hmade:∀ w',Calls Tryz.prog 107 #[.int .i64 (digs (whole++part)),.int .i64 ((10:Int) ^ part.length),.agg #[.int .i64 0,.int .i64 0,.int .i64 0]] w' fun e w''=>e=.returned (.tuple #[q,.int .i64 er])∧Below w'.heap.size w' w'')
  (hq:∃ a b c d e,q=.agg #[.int .i64 a,.int .i64 b,.int .i64 c,.int .i64 d,.int .i64 e]) :
  Calls Tryz.prog 65 #[.string ⟨s.toArray⟩] w fun e w'=>e=.returned (.tuple #[q,.int .i64 er])∧Below w.heap.size w w':=by
 obtain⟨gty,gmk,hg⟩:=hg
 go_enter Tryz.func65,Tryz.ntmps65
 go_wp2_with (go_at_call 106;refine (hcut _).mono ?_)
 rintro e wf ⟨rfl,bf⟩
 have hsz:w.heap.size < wf.heap.size:=by
  have:=bf.size
  simp only [World.size_alloc]at this;omega
 have hbx:wf.heap[w.heap.size]? = some (.cells #[.int .i64 0,.int .i64 0,.int .i64 0,.int .i64 0,.int .i64 0] 49):=by
  rw [bf.block _ (by simp only [World.size_alloc];omega)];show (w.heap.push _)[w.heap.size]? = _;rw [Array.getElem?_push_size]
 have bw:Below w.heap.size w wf:=((Below.refl w.heap.size w).alloc (Nat.le_refl _) _).trans (bf.mono (by simp only [World.size_alloc];omega));clear bf;have hs1:(⟨whole.toArray⟩:ByteArray).size=whole.length:=rfl;have hs2:(⟨part.toArray⟩:ByteArray).size=part.length:=rfl;have hw1:IntKind.i64.wrap ((whole.length:Int) + (part.length:Int))=(whole.length:Int) + (part.length:Int):=by rw [IntKind.wrap_i64];omega
 have hw2:¬ (18 < (whole.length:Int) + (part.length:Int)):=by omega
 have hap:(⟨whole.toArray⟩:ByteArray)++(⟨part.toArray⟩:ByteArray)=⟨(whole++part).toArray⟩:=by
  apply ByteArray.ext;simp
 obtain⟨B,hB⟩:∃ B,B=whole++part:=⟨_,rfl⟩;rw [← hB]at hap hd hmade;have hBl:B.length=whole.length + part.length:=by rw [hB,List.length_append]
 have hconv:∀ W:World,(convert 9 155 (.string ⟨(whole++part).toArray⟩)).run Tryz.prog W=.ok (.slice (some ⟨W.heap.size,0,none⟩) B.length (grownCap W B.length 0 5)) (W.drew.alloc (.cells (bytesRow ⟨B.toArray⟩ (grownCap W B.length 0 5)) 5 ((bytesRow ⟨B.toArray⟩ (grownCap W B.length 0 5)).size,(bytesRow ⟨B.toArray⟩ (grownCap W B.length 0 5)).size + 1))):=fun W=>by
  rw [← hB];exact run_bytes_of_string W _ _ _ ⟨B.toArray⟩ zkea zlea zsfa
 obtain⟨CAP,hCAP⟩:∃ CAP,CAP=grownCap wf B.length 0 5:=⟨_,rfl⟩;have hcg:B.length≤CAP:=by rw [hCAP];exact grownCap_ge wf _ _ _
 obtain⟨W1,hW1⟩:∃ W1,W1=wf.drew.alloc (.cells (bytesRow ⟨B.toArray⟩ CAP) 5 ((bytesRow ⟨B.toArray⟩ CAP).size,(bytesRow ⟨B.toArray⟩ CAP).size + 1)):=⟨_,rfl⟩;have hconv1:=hconv wf;rw [← hCAP,← hW1]at hconv1;have h1h:W1.heap=wf.heap.push (.cells (bytesRow ⟨B.toArray⟩ CAP) 5 ((bytesRow ⟨B.toArray⟩ CAP).size,(bytesRow ⟨B.toArray⟩ CAP).size + 1)):=by rw [hW1];rfl
 have b1:Below w.heap.size w W1:=by rw [hW1];exact bw.trans ((Below.refl wf.heap.size wf).drew.alloc (Nat.le_refl _) _ |>.mono (by omega))
 have e1:W1.heap[wf.heap.size]? = some (.cells (bytesRow ⟨B.toArray⟩ CAP) 5 ((bytesRow ⟨B.toArray⟩ CAP).size,(bytesRow ⟨B.toArray⟩ CAP).size + 1)):=by rw [h1h,Array.getElem?_push_size]
 have hcell:∀ (k:Nat) (hk:k < B.length),W1.cell? ⟨wf.heap.size,k,none⟩=some (.int .u8 (B[k].toNat:Int)):=fun k hk=>by
  have:=bytesRow_at ⟨B.toArray⟩ CAP k (by simpa using hk)
  simp only [World.cell?,e1];simpa using this
 have hbx1:W1.heap[w.heap.size]? = some (.cells #[.int .i64 0,.int .i64 0,.int .i64 0,.int .i64 0,.int .i64 0] 49):=by
  rw [h1h,Array.getElem?_push,if_neg (by omega)];exact hbx
 have h1s:W1.heap.size=wf.heap.size + 1:=by rw [h1h,Array.size_push]
 clear hW1 hCAP hconv
 go_wp2_with (simp only [hconv1])
 go_loop [7,29] (fun n i=>∃ k:Nat,k≤B.length∧n=.int .i64 (digs (B.take k))∧i=.int .i64 k) (fun _ i=>B.length - (intOf i).toNat)
 case atStart=>exact⟨0,by omega,by simp [digs],rfl⟩
 case round =>
  obtain⟨k,hk,rfl,rfl⟩:=hrel;by_cases hkn:k < B.length
  ·have hc:=hcell k hkn;have hb:=hd B[k] (List.getElem_mem hkn);have hlt:=zmt k (B.take k) (by rw [List.length_take];omega) fun b hb=>hd b (List.mem_of_mem_take hb);have hpw:=zvh k (by omega);have hlt2:=zmt (k + 1) (B.take (k + 1)) (by rw [List.length_take];omega) fun b hb=>hd b (List.mem_of_mem_take hb);have hpw2:=zvh (k + 1) (by omega);have hst:=zby B k hkn;obtain⟨D,hD⟩:∃ D,D=digs (B.take k):=⟨_,rfl⟩;obtain⟨D2,hD2⟩:∃ D2,D2=digs (B.take (k + 1)):=⟨_,rfl⟩;obtain⟨x,hx⟩:∃ x,x=B[k].toNat:=⟨_,rfl⟩;rw [← hD]at hlt hst ⊢;rw [← hD2]at hlt2 hst;rw [← hx]at hc hb hst;have g1:(k:Int) < (B.length:Int):=by omega
   have g2:IntKind.i64.wrap (10 * (D:Int))=10 * (D:Int):=by rw [IntKind.wrap_i64];omega
   have g3:IntKind.u8.wrap ((x:Int) - 48)=(x:Int) - 48:=by
    rw [IntKind.wrap_u8];omega
   have g4:IntKind.i64.wrap ((x:Int) - 48)=(x:Int) - 48:=by rw [IntKind.wrap_i64];omega
   have g5:IntKind.i64.wrap (10 * (D:Int) + ((x:Int) - 48))=(D2:Int):=by rw [IntKind.wrap_i64];omega
   have g6:IntKind.i64.wrap ((k:Int) + 1)=(k:Int) + 1:=by rw [IntKind.wrap_i64];omega
   have hid:Hid (D2=digs (B.take (k + 1))):=hD2;clear hd hD hD2 hx
   go_wp2
   go_round
   case rel=>exact⟨k + 1,by omega,congrArg _ (by have h:D2=digs (List.take (k + 1) B):=hid;omega),by simp⟩
   case measure=>simp [intOf];omega
  ·have hke:k=B.length:=by omega
   subst hke;have g1:¬ ((B.length:Int) < (B.length:Int)):=by omega
   rw [List.take_length];have hdp:∀ (j:Nat) (hj:j < part.length),48≤part[j].toNat∧part[j].toNat≤57:=fun j hj=>hd _ (by rw [hB];exact List.mem_append_right _ (List.getElem_mem hj))
   go_wp2
   go_loopw [8] (fun d wr=>∃ j:Nat,j≤part.length∧d=.int .i64 ((10:Int) ^ j)∧wr=W1.iter ⟨part.toArray⟩ j) (fun d _=>(1000000000000000001 - intOf d).toNat)
   case atStart=>exact⟨0,by omega,rfl,rfl⟩
   case round =>
    obtain⟨j,hj,rfl,rfl⟩:=hrel;by_cases hjn:j < part.length
    ·have hn:∀ ty,(Instr.next (.pointer (some ⟨wf.heap.size + 1,0,none⟩)) true ty).run Tryz.prog (W1.iter ⟨part.toArray⟩ j)=.ok (.tuple #[.bool true,.int .i64 j,.int .i32 part[j].toNat]) (W1.iter ⟨part.toArray⟩ (j + 1)):=fun ty=>by
      have:=run_next_ascii (P:=Tryz.prog) W1 ⟨part.toArray⟩ j ty (show j < part.length from hjn) (by have:=hdp j hjn;show part[j].toNat < 128;omega)
      rw [h1s]at this;exact this
     have hp1:=zvh (j + 1) (by omega);have hp0:(0:Int) < (10:Int) ^ j:=Int.pow_pos (by omega);have hps:(10:Int) ^ (j + 1)=(10:Int) ^ j * 10:=Int.pow_succ _ _
     have hp2:(10:Int) ^ (j + 1)≤1000000000000000000:=by
      have hc:((10 ^ (j + 1):Nat):Int)=(10:Int) ^ (j + 1):=Int.natCast_pow 10 (j + 1);rw [← hc];exact Int.ofNat_le.2 hp1
     obtain⟨T,hT⟩:∃ T,T=(10:Int) ^ j:=⟨_,rfl⟩;have hid:Hid (T=(10:Int) ^ j):=hT;rw [hps,← hT]at hp2;rw [← hT]at hp0 ⊢;have g2:IntKind.i64.wrap (T * 10)=T * 10:=by rw [IntKind.wrap_i64];omega
     clear hT hps hp1
     go_wp2_with (simp only [hn])
     go_roundw
     case rel=>exact⟨j + 1,by omega,by rw [hid.out];exact congrArg _ (Int.pow_succ _ _).symm,rfl⟩
     case measure=>simp [intOf];omega
    ·have hje:j=part.length:=by omega
     subst hje
     have hn:∀ ty,(Instr.next (.pointer (some ⟨wf.heap.size + 1,0,none⟩)) true ty).run Tryz.prog (W1.iter ⟨part.toArray⟩ part.length)=.ok (.tuple #[.bool false]) (W1.iter ⟨part.toArray⟩ part.length):=fun ty=>by
      have:=run_next_end (P:=Tryz.prog) W1 ⟨part.toArray⟩ part.length ty (by show ¬ part.length < part.length;omega)
      rw [h1s]at this;exact this
     obtain⟨W2,hW2⟩:∃ W2,W2=W1.iter ⟨part.toArray⟩ part.length:=⟨_,rfl⟩;have h2h:W2.heap=W1.heap.push (.stringIter ⟨part.toArray⟩ part.length):=by rw [hW2];rfl
     have b2:Below w.heap.size w W2:=by rw [hW2];exact b1.alloc (by omega) _
     have hbx2:W2.heap[w.heap.size]? = some (.cells #[.int .i64 0,.int .i64 0,.int .i64 0,.int .i64 0,.int .i64 0] 49):=by
      rw [h2h,Array.getElem?_push,if_neg (by omega)];exact hbx1
     have hg2:W2.heap[3]? = some (.cells #[.int .i64 0,.int .i64 0,.int .i64 0] gty gmk):=by
      have h4:3 < w.heap.size:=(Array.getElem?_eq_some_iff.1 hg).1;rw [b2.block 3 h4];exact hg
     have h2s:w.heap.size < W2.heap.size:=by rw [h2h,Array.size_push];omega
     rw [hB]at hmade;rw [← hW2]at hn ⊢;clear hW2;have c40:W2.cell? ⟨3,0,none⟩=some (.int .i64 0):=by simp [World.cell?,hg2]
     have c41:W2.cell? ⟨3,1,none⟩=some (.int .i64 0):=by simp [World.cell?,hg2]
     have c42:W2.cell? ⟨3,2,none⟩=some (.int .i64 0):=by simp [World.cell?,hg2]
     go_wp2_with (first | simp only [hn] | (go_at_call 107;refine (hmade _).mono ?_))
     rintro e wm ⟨rfl,bm⟩;obtain⟨qa,qb,qc,qd,qe,rfl⟩:=hq;have hbm:wm.heap[w.heap.size]? = some (.cells #[.int .i64 0,.int .i64 0,.int .i64 0,.int .i64 0,.int .i64 0] 49):=by rw [bm.block _ h2s];exact hbx2
     have bb:Below w.heap.size w wm:=b2.trans (bm.mono (by omega));have m0:wm.cell? ⟨w.heap.size,0,none⟩=some (.int .i64 0):=by simp [World.cell?,hbm]
     have m1:wm.cell? ⟨w.heap.size,1,none⟩=some (.int .i64 0):=by simp [World.cell?,hbm]
     have m2:wm.cell? ⟨w.heap.size,2,none⟩=some (.int .i64 0):=by simp [World.cell?,hbm]
     have m3:wm.cell? ⟨w.heap.size,3,none⟩=some (.int .i64 0):=by simp [World.cell?,hbm]
     have m4:wm.cell? ⟨w.heap.size,4,none⟩=some (.int .i64 0):=by simp [World.cell?,hbm]
     have z0:wm.frozen? ⟨w.heap.size,0,none⟩=false:=by simp [World.frozen?,hbm]
     have z1:wm.frozen? ⟨w.heap.size,1,none⟩=false:=by simp [World.frozen?,hbm]
     have z2:wm.frozen? ⟨w.heap.size,2,none⟩=false:=by simp [World.frozen?,hbm]
     have z3:wm.frozen? ⟨w.heap.size,3,none⟩=false:=by simp [World.frozen?,hbm]
     have z4:wm.frozen? ⟨w.heap.size,4,none⟩=false:=by simp [World.frozen?,hbm]
     clear hbm hbx2 hg2 hbx1
     go_wp2
     refine bodyPost_ret (by simp [results,Tryz.results65,go_sem,m0,m1,m2,m3,m4];try rfl) rfl ⟨?_, ?_⟩
     ·first | rfl | simp
     ·exact ((((bb.setCell (p:=⟨w.heap.size,0,none⟩) (Nat.le_refl _) _).setCell (p:=⟨w.heap.size,1,none⟩) (Nat.le_refl _) _).setCell (p:=⟨w.heap.size,2,none⟩) (Nat.le_refl _) _).setCell (p:=⟨w.heap.size,3,none⟩) (Nat.le_refl _) _).setCell (p:=⟨w.heap.size,4,none⟩) (Nat.le_refl _) _
end Go.Proofs.YtkjmhcejdiglfacGreatDoor
