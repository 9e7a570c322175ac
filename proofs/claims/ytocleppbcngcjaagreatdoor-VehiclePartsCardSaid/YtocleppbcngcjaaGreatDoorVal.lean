import Derived.Test.YtocleppbcngcjaaGreatDoorProg
import Derived.WalkKit
import Derived.BigCall
import Derived.Below
import Derived.Laws.IdiomStrings
import Derived.Laws.RangeString
set_option linter.unusedVariables false
set_option linter.unusedSimpArgs false
set_option linter.unusedSimpArgs false
namespace Go.Proofs.YtocleppbcngcjaaGreatDoor
open Go Go.RowKit Go.Proofs
theorem LN:Tryz.prog.underlying 9=some .string:=by kernel_rfl
theorem LO:Tryz.prog.underlying 66=some (.slice 5):=by kernel_rfl
theorem LQ:Tryz.prog.underlying 5=some (.int .u8):=by kernel_rfl
def gY(l:List UInt8):Nat:=l.foldl (λa b=>10*a+(b.toNat-48)) 0
theorem LR(l:List UInt8)(b:UInt8):gY (l ++ [b])=10*gY l+(b.toNat-48):=by simp [gY]
theorem HI:∀(n:Nat) (l:List UInt8),l.length=n->(∀b∈l,48<=b.toNat/\b.toNat<=57)->gY l<10 ^ n:=by
  intro n
  induction n with
  |zero=>intro l hl _;rw [List.eq_nil_of_length_eq_zero hl];decide
  |succ n ih =>
    intro l hl hd;obtain⟨r,b,rfl⟩:∃r b,l=r ++ [b]:=⟨l.dropLast,l.getLast (by intro h;rw [h]at hl;cases hl),(List.dropLast_concat_getLast _).symm⟩;have h1:=ih r (by simpa using hl) λx hx=>hd x (by simp [hx]);have h2:=hd b (by simp);rw [LR,Nat.pow_succ];omega
theorem WV(l:List UInt8)(k:Nat)(hk:k<l.length):gY (l.take (k+1))=10*gY (l.take k)+(l[k].toNat-48):=by
 rw [<-LR];congr 1;rw [List.take_add_one,List.getElem?_eq_getElem hk];rfl
theorem Di(n:Nat)(h:n<=18):10 ^ n<=1000000000000000000:=by
 have:=Nat.pow_le_pow_right (n:=10) (by omega) h
 simpa using this
set_option maxHeartbeats 4000000 in
set_option maxRecDepth 100000 in
theorem wQ(s whole part:List UInt8)(f:Bool)(w:World)(q:Value)(er:Int)
  (hcut:∀w',Calls Tryz.prog 104 #[.string ⟨s.toArray⟩,.string ⟨#[46]⟩] w' λe iV=>e=.returned (.tuple #[.string ⟨whole.toArray⟩,.string ⟨part.toArray⟩,.bool f])/\Below w'.heap.size w' iV)
  (hlen:whole.length+part.length<=18) (hd:∀b∈whole++part,48<=b.toNat/\b.toNat<=57)
  (hg:∃ty mk,w.heap[5]? = some (.cells #[.int .i64 0,.int .i64 0,.int .i64 0] ty mk))
  (wR:∀w',Calls Tryz.prog 105 #[.int .i64 (gY (whole++part)),.int .i64 ((10:Int) ^ part.length),.agg #[.int .i64 0,.int .i64 0,.int .i64 0]] w' λe iV=>e=.returned (.tuple #[q,.int .i64 er])/\Below w'.heap.size w' iV)
  (hq:∃a b c d e,q=.agg #[.int .i64 a,.int .i64 b,.int .i64 c,.int .i64 d,.int .i64 e]) :
  Calls Tryz.prog 58 #[.string ⟨s.toArray⟩] w λe w'=>e=.returned (.tuple #[q,.int .i64 er])/\Below w.heap.size w w':=by
 obtain⟨WW,WX,hg⟩:=hg
 go_enter Tryz.func58,Tryz.ntmps58
 go_wp2_with (go_at_call 104;refine (hcut _).mono ?_)
 rintro e wf ⟨rfl,bf⟩
 have fW:w.heap.size<wf.heap.size:=by
  have:=bf.size
  simp only [World.size_alloc]at this;omega
 have ky:wf.heap[w.heap.size]? = some (.cells #[.int .i64 0,.int .i64 0,.int .i64 0,.int .i64 0,.int .i64 0] 46):=by
  rw [bf.block _ (by simp only [World.size_alloc];omega)];show (w.heap.push _)[w.heap.size]? = _;rw [Array.getElem?_push_size]
 have bw:Below w.heap.size w wf:=((Below.refl w.heap.size w).alloc (Nat.le_refl _) _).trans (bf.mono (by simp only [World.size_alloc];omega));clear bf;have wS:(⟨whole.toArray⟩:ByteArray).size=whole.length:=rfl;have C5:(⟨part.toArray⟩:ByteArray).size=part.length:=rfl;have qX:IntKind.i64.wrap ((whole.length:Int)+(part.length:Int))=(whole.length:Int)+(part.length:Int):=by rw [IntKind.wrap_i64];omega
 have uH:¬(18<(whole.length:Int)+(part.length:Int)):=by omega
 have kx:(⟨whole.toArray⟩:ByteArray)++(⟨part.toArray⟩:ByteArray)=⟨(whole++part).toArray⟩:=by
  apply ByteArray.ext;simp
 obtain⟨B,hB⟩:∃B,B=whole++part:=⟨_,rfl⟩;rw [<-hB]at kx hd wR;have HJ:B.length=whole.length+part.length:=by rw [hB,List.length_append]
 have zZ:∀W:World,(convert 9 66 (.string ⟨(whole++part).toArray⟩)).run Tryz.prog W=.ok (.slice (some ⟨W.heap.size,0,none⟩) B.length (grownCap W B.length 0 5)) (W.drew.alloc (.cells (bytesRow ⟨B.toArray⟩ (grownCap W B.length 0 5)) 5 ((bytesRow ⟨B.toArray⟩ (grownCap W B.length 0 5)).size,(bytesRow ⟨B.toArray⟩ (grownCap W B.length 0 5)).size+1))):=λW=>by
  rw [<-hB];exact run_bytes_of_string W _ _ _ ⟨B.toArray⟩ LN LO LQ
 obtain⟨uh,BH⟩:∃uh,uh=grownCap wf B.length 0 5:=⟨_,rfl⟩;have Zl:B.length<=uh:=by rw [BH];exact grownCap_ge wf _ _ _
 obtain⟨W1,HK⟩:∃W1,W1=wf.drew.alloc (.cells (bytesRow ⟨B.toArray⟩ uh) 5 ((bytesRow ⟨B.toArray⟩ uh).size,(bytesRow ⟨B.toArray⟩ uh).size+1)):=⟨_,rfl⟩;have wT:=zZ wf;rw [<-BH,<-HK]at wT;have LS:W1.heap=wf.heap.push (.cells (bytesRow ⟨B.toArray⟩ uh) 5 ((bytesRow ⟨B.toArray⟩ uh).size,(bytesRow ⟨B.toArray⟩ uh).size+1)):=by rw [HK];rfl
 have b1:Below w.heap.size w W1:=by rw [HK];exact bw.trans ((Below.refl wf.heap.size wf).drew.alloc (Nat.le_refl _) _ |>.mono (by omega))
 have e1:W1.heap[wf.heap.size]? = some (.cells (bytesRow ⟨B.toArray⟩ uh) 5 ((bytesRow ⟨B.toArray⟩ uh).size,(bytesRow ⟨B.toArray⟩ uh).size+1)):=by rw [LS,Array.getElem?_push_size]
 have bY:∀(k:Nat) (hk:k<B.length),W1.cell? ⟨wf.heap.size,k,none⟩=some (.int .u8 (B[k].toNat:Int)):=λk hk=>by
  have:=bytesRow_at ⟨B.toArray⟩ uh k (by simpa using hk)
  simp only [World.cell?,e1];simpa using this
 have Fk:W1.heap[w.heap.size]? = some (.cells #[.int .i64 0,.int .i64 0,.int .i64 0,.int .i64 0,.int .i64 0] 46):=by
  rw [LS,Array.getElem?_push,if_neg (by omega)];exact ky
 have Su:W1.heap.size=wf.heap.size+1:=by rw [LS,Array.size_push]
 clear HK BH zZ
 go_wp2_with (simp only [wT])
 go_loop [7,29] (λn i=>∃k:Nat,k<=B.length/\n=.int .i64 (gY (B.take k))/\i=.int .i64 k) (λ_ i=>B.length-(intOf i).toNat)
 case atStart=>exact⟨0,by omega,by simp [gY],rfl⟩
 case round =>
  obtain⟨k,hk,rfl,rfl⟩:=hrel;by_cases eR:k<B.length
  ·have hc:=bY k eR;have hb:=hd B[k] (List.getElem_mem eR);have cn:=HI k (B.take k) (by rw [List.length_take];omega) λb hb=>hd b (List.mem_of_mem_take hb);have Zm:=Di k (by omega);have nG:=HI (k+1) (B.take (k+1)) (by rw [List.length_take];omega) λb hb=>hd b (List.mem_of_mem_take hb);have WY:=Di (k+1) (by omega);have lj:=WV B k eR;obtain⟨D,hD⟩:∃D,D=gY (B.take k):=⟨_,rfl⟩;obtain⟨D2,LU⟩:∃D2,D2=gY (B.take (k+1)):=⟨_,rfl⟩;obtain⟨x,hx⟩:∃x,x=B[k].toNat:=⟨_,rfl⟩;rw [<-hD]at cn lj ⊢;rw [<-LU]at nG lj;rw [<-hx]at hc hb lj;have g1:(k:Int)<(B.length:Int):=by omega
   have g2:IntKind.i64.wrap (10*(D:Int))=10*(D:Int):=by rw [IntKind.wrap_i64];omega
   have g3:IntKind.u8.wrap ((x:Int)-48)=(x:Int)-48:=by
    rw [IntKind.wrap_u8];omega
   have g4:IntKind.i64.wrap ((x:Int)-48)=(x:Int)-48:=by rw [IntKind.wrap_i64];omega
   have g5:IntKind.i64.wrap (10*(D:Int)+((x:Int)-48))=(D2:Int):=by rw [IntKind.wrap_i64];omega
   have g6:IntKind.i64.wrap ((k:Int)+1)=(k:Int)+1:=by rw [IntKind.wrap_i64];omega
   have hid:Hid (D2=gY (B.take (k+1))):=LU;clear hd hD LU hx
   go_wp2
   go_round
   case rel=>exact⟨k+1,by omega,congrArg _ (by have h:D2=gY (List.take (k+1) B):=hid;omega),by simp⟩
   case measure=>simp [intOf];omega
  ·have oQ:k=B.length:=by omega
   subst oQ;have g1:¬((B.length:Int)<(B.length:Int)):=by omega
   rw [List.take_length];have WZ:∀(j:Nat) (hj:j<part.length),48<=part[j].toNat/\part[j].toNat<=57:=λj hj=>hd _ (by rw [hB];exact List.mem_append_right _ (List.getElem_mem hj))
   go_wp2
   go_loopw [8] (λd wr=>∃j:Nat,j<=part.length/\d=.int .i64 ((10:Int) ^ j)/\wr=W1.iter ⟨part.toArray⟩ j) (λd _=>(1000000000000000001-intOf d).toNat)
   case atStart=>exact⟨0,by omega,rfl,rfl⟩
   case round =>
    obtain⟨j,hj,rfl,rfl⟩:=hrel;by_cases zR:j<part.length
    ·have hn:∀ty,(Instr.next (.pointer (some ⟨wf.heap.size+1,0,none⟩)) true ty).run Tryz.prog (W1.iter ⟨part.toArray⟩ j)=.ok (.tuple #[.bool true,.int .i64 j,.int .i32 part[j].toNat]) (W1.iter ⟨part.toArray⟩ (j+1)):=λty=>by
      have:=run_next_ascii (P:=Tryz.prog) W1 ⟨part.toArray⟩ j ty (show j<part.length from zR) (by have:=WZ j zR;show part[j].toNat<128;omega)
      rw [Su]at this;exact this
     have Sv:=Di (j+1) (by omega);have Sw:(0:Int)<(10:Int) ^ j:=Int.pow_pos (by omega);have HL:(10:Int) ^ (j+1)=(10:Int) ^ j*10:=Int.pow_succ _ _
     have JN:(10:Int) ^ (j+1)<=1000000000000000000:=by
      have hc:((10 ^ (j+1):Nat):Int)=(10:Int) ^ (j+1):=Int.natCast_pow 10 (j+1);rw [<-hc];exact Int.ofNat_le.2 Sv
     obtain⟨T,hT⟩:∃T,T=(10:Int) ^ j:=⟨_,rfl⟩;have hid:Hid (T=(10:Int) ^ j):=hT;rw [HL,<-hT]at JN;rw [<-hT]at Sw ⊢;have g2:IntKind.i64.wrap (T*10)=T*10:=by rw [IntKind.wrap_i64];omega
     clear hT HL Sv
     go_wp2_with (simp only [hn])
     go_roundw
     case rel=>exact⟨j+1,by omega,by rw [hid.out];exact congrArg _ (Int.pow_succ _ _).symm,rfl⟩
     case measure=>simp [intOf];omega
    ·have yz:j=part.length:=by omega
     subst yz
     have hn:∀ty,(Instr.next (.pointer (some ⟨wf.heap.size+1,0,none⟩)) true ty).run Tryz.prog (W1.iter ⟨part.toArray⟩ part.length)=.ok (.tuple #[.bool false]) (W1.iter ⟨part.toArray⟩ part.length):=λty=>by
      have:=run_next_end (P:=Tryz.prog) W1 ⟨part.toArray⟩ part.length ty (by show ¬part.length<part.length;omega)
      rw [Su]at this;exact this
     obtain⟨W2,HM⟩:∃W2,W2=W1.iter ⟨part.toArray⟩ part.length:=⟨_,rfl⟩;have Sx:W2.heap=W1.heap.push (.stringIter ⟨part.toArray⟩ part.length):=by rw [HM];rfl
     have b2:Below w.heap.size w W2:=by rw [HM];exact b1.alloc (by omega) _
     have Fl:W2.heap[w.heap.size]? = some (.cells #[.int .i64 0,.int .i64 0,.int .i64 0,.int .i64 0,.int .i64 0] 46):=by
      rw [Sx,Array.getElem?_push,if_neg (by omega)];exact Fk
     have BI:W2.heap[5]? = some (.cells #[.int .i64 0,.int .i64 0,.int .i64 0] WW WX):=by
      have h4:5<w.heap.size:=(Array.getElem?_eq_some_iff.1 hg).1;rw [b2.block 5 h4];exact hg
     have W0:w.heap.size<W2.heap.size:=by rw [Sx,Array.size_push];omega
     rw [hB]at wR;rw [<-HM]at hn ⊢;clear HM;have Zn:W2.cell? ⟨5,0,none⟩=some (.int .i64 0):=by simp [World.cell?,BI]
     have Zo:W2.cell? ⟨5,1,none⟩=some (.int .i64 0):=by simp [World.cell?,BI]
     have Zp:W2.cell? ⟨5,2,none⟩=some (.int .i64 0):=by simp [World.cell?,BI]
     go_wp2_with (first|simp only [hn] | (go_at_call 105;refine (wR _).mono ?_))
     rintro e wm ⟨rfl,bm⟩;obtain⟨qa,qb,qc,qd,qe,rfl⟩:=hq;have pK:wm.heap[w.heap.size]? = some (.cells #[.int .i64 0,.int .i64 0,.int .i64 0,.int .i64 0,.int .i64 0] 46):=by rw [bm.block _ W0];exact Fl
     have bb:Below w.heap.size w wm:=b2.trans (bm.mono (by omega));have m0:wm.cell? ⟨w.heap.size,0,none⟩=some (.int .i64 0):=by simp [World.cell?,pK]
     have m1:wm.cell? ⟨w.heap.size,1,none⟩=some (.int .i64 0):=by simp [World.cell?,pK]
     have m2:wm.cell? ⟨w.heap.size,2,none⟩=some (.int .i64 0):=by simp [World.cell?,pK]
     have m3:wm.cell? ⟨w.heap.size,3,none⟩=some (.int .i64 0):=by simp [World.cell?,pK]
     have m4:wm.cell? ⟨w.heap.size,4,none⟩=some (.int .i64 0):=by simp [World.cell?,pK]
     have z0:wm.frozen? ⟨w.heap.size,0,none⟩=false:=by simp [World.frozen?,pK]
     have z1:wm.frozen? ⟨w.heap.size,1,none⟩=false:=by simp [World.frozen?,pK]
     have z2:wm.frozen? ⟨w.heap.size,2,none⟩=false:=by simp [World.frozen?,pK]
     have z3:wm.frozen? ⟨w.heap.size,3,none⟩=false:=by simp [World.frozen?,pK]
     have z4:wm.frozen? ⟨w.heap.size,4,none⟩=false:=by simp [World.frozen?,pK]
     clear pK Fl BI Fk
     go_wp2
     refine bodyPost_ret (by simp [results,Tryz.results58,go_sem,m0,m1,m2,m3,m4];try rfl) rfl ⟨?_, ?_⟩
     ·first|rfl|simp
     ·exact ((((bb.setCell (p:=⟨w.heap.size,0,none⟩) (Nat.le_refl _) _).setCell (p:=⟨w.heap.size,1,none⟩) (Nat.le_refl _) _).setCell (p:=⟨w.heap.size,2,none⟩) (Nat.le_refl _) _).setCell (p:=⟨w.heap.size,3,none⟩) (Nat.le_refl _) _).setCell (p:=⟨w.heap.size,4,none⟩) (Nat.le_refl _) _
end Go.Proofs.YtocleppbcngcjaaGreatDoor
