import Derived.Test.YtocleppbcngcjaaGreatDoorProg
import Derived.Test.YtocleppbcngcjaaGreatDoorRows
import Derived.WalkKit
import Derived.BigCall
import Derived.Shelf.Strings.BuilderK
set_option linter.unusedVariables false
set_option linter.unusedSimpArgs false
namespace Go.Proofs.YtocleppbcngcjaaGreatDoor
open Go Go.RowKit Go.Proofs
theorem Dy:(Tryz.prog.info? 68).map (·.size)=some 2:=by kernel_rfl
theorem Ii:liesAt Tryz.prog Tryz.prog.depth 68 (2 / Tryz.prog.cellsOf 68) 0 68 1=true:=by kernel_rfl
theorem Ij:(Tryz.prog.info? 5).map (λi=>(i.zero,i.size,i.bytes))=some (some (.int .u8 0),1,1):=by kernel_rfl
theorem Ay:Tryz.prog.underlying 65=some (.pointer 68):=by kernel_rfl
theorem Dz:Tryz.prog.underlying 151=some .unsafePointer:=by kernel_rfl
theorem Ik:Tryz.prog.underlying 66=some (.slice 5):=by kernel_rfl
theorem Il:Tryz.prog.underlying 9=some .string:=by kernel_rfl
set_option maxHeartbeats 1000000 in
set_option maxRecDepth 100000 in
theorem TZ(b:Nat)(w:World)(h0:w.cell? ⟨b,0,none⟩=some (.pointer (some ⟨b,0,none⟩))) :
  Calls Tryz.prog 47 #[.pointer (some ⟨b,0,none⟩)] w λe w'=>e=.returned (.tuple #[])/\w'=w:=by
 obtain⟨j,hj,_⟩:=Option.map_eq_some_iff.1 Dy
 go_enter Tryz.func47,Tryz.ntmps47
 go_wp2
 rw [Lib.run_neq_ptr_same w _ Ay hj]
 go_wp2
 go_end0
 exact⟨rfl,rfl⟩
set_option maxHeartbeats 1000000 in
set_option maxRecDepth 100000 in
theorem T0(b:Nat)(w:World)(h0:w.cell? ⟨b,0,none⟩=some (.pointer none))(fM:w.shape? b=some (68,2))(T4:w.frozen? ⟨b,0,none⟩=false) :
  Calls Tryz.prog 47 #[.pointer (some ⟨b,0,none⟩)] w λe w'=>e=.returned (.tuple #[])/\w'=w.setCell ⟨b,0,none⟩ (.pointer (some ⟨b,0,none⟩)):=by
 obtain⟨j,hj,Az⟩:=Option.map_eq_some_iff.1 Dy
 go_enter Tryz.func47,Tryz.ntmps47
 go_wp2
 rw [Lib.run_to_unsafe w ⟨b,0,none⟩ Ay Dz hj (by rw [Az];decide) fM (Nat.zero_lt_succ 1)];simp only [Result.andThen];rw [Oper.upon_value]
 go_wp2
 rw [run_callFunc_extern Tryz.func98 (by kernel_rfl) (by kernel_rfl) (by kernel_rfl) (e:=Extern.AbiNoEscape.same) (by kernel_rfl)];rw [Lib.run_noEscape];simp only [Result.andThen];rw [Oper.upon_value]
 go_wp2
 rw [Lib.run_from_unsafe w ⟨b,0,none⟩ Dz Ay hj fM Ii];simp only [Result.andThen];rw [Oper.upon_value]
 go_wp2
 go_end0
 exact⟨rfl,rfl⟩
abbrev ux(B b:Nat)(bs:List Value)(w:World):Prop:=Lib.IsBuilderF 68 5 B b bs w
theorem T5(B b:Nat)(bs:List Value)(w:World)(h:ux B b bs w) :
  Calls Tryz.prog 47 #[.pointer (some ⟨b,0,none⟩)] w λe w'=>e=.returned (.tuple #[])/\(Lib.BuilderAtF 68 5 B b (.pointer (some ⟨b,0,none⟩)) bs w'/\Below B w w'/\Lib.OthersKept 5 (some b) w w'):=by
 rcases h with h|h
 ·refine (T0 b w h.cell0 h.shape h.frozen0).mono ?_;rintro e w' ⟨rfl,rfl⟩;exact⟨rfl,h.used _,(Below.refl B w).setCell (p:=⟨b,0,none⟩) h.1 _,(Lib.OthersKept.refl _ _ w).setCell ⟨b,0,none⟩ rfl _⟩
 ·refine (TZ b w h.cell0).mono ?_;rintro e w' ⟨rfl,rfl⟩;exact⟨rfl,h,Below.refl B _,Lib.OthersKept.refl _ _ _⟩
set_option maxHeartbeats 2000000 in
set_option maxRecDepth 100000 in
theorem T6(B b:Nat)(bs:List Value)(s:ByteArray)(w:World)(h:ux B b bs w)(hlen:bs.length+s.size<=140737488355328)(Cx:B<=w.heap.size) :
  Calls Tryz.prog 26 #[.pointer (some ⟨b,0,none⟩),.string s] w λe w'=>e=.returned (.tuple #[.int .i64 s.size,.nilIface])/\(Lib.BuilderAtF 68 5 B b (.pointer (some ⟨b,0,none⟩)) (bs++Lib.strCells s) w'/\Below B w w'/\Lib.OthersKept 5 (some b) w w'):=by
 obtain⟨i0,hi,uV,uy,uW⟩:=info_parts Ij
 go_enter Tryz.func26,Tryz.ntmps26
 go_wp2_with (go_at_call 47;refine (T5 B b bs _ h).mono ?_)
 rintro e w1 ⟨rfl,h1,fy,si⟩;obtain⟨hB,v,k_,iM,cW⟩:=h1;have c0:w1.cell? ⟨b,0,none⟩=some (.pointer (some ⟨b,0,none⟩)):=by rw [Lib.cell_of_heap k_];rfl
 have c1:w1.cell? ⟨b,1,none⟩=some v:=by rw [Lib.cell_of_heap k_];rfl
 go_wp2_with (at_builtin;refine Lib.wpList_append_own_stringF _ rfl _ _ 66 9 rfl B 5 i0 Ik Il hi uV uy uW _ _ _ rfl iM s rfl ?c3 ?c4 ?c5 ?_)
 case c3=>unfold maxLen;omega
 case c4=>omega
 case c5=>have:=fy.size;omega
 intro v' w2 yU iN _
 have cn:b<w1.heap.size:=by
  rcases Nat.lt_or_ge b w1.heap.size with h'|h'
  ·exact h'
  ·simp [Array.getElem?_eq_none h']at k_
 have dL:w2.heap[b]? = some (.cells #[.pointer (some ⟨b,0,none⟩),v] 68 (0,0)):=by
  rw [iN.block b cn (λe=>cW e.symm)];exact k_
 have d0:w2.cell? ⟨b,0,none⟩=some (.pointer (some ⟨b,0,none⟩)):=by rw [Lib.cell_of_heap dL];rfl
 have d1:w2.cell? ⟨b,1,none⟩=some v:=by rw [Lib.cell_of_heap dL];rfl
 have f1:w2.frozen? ⟨b,1,none⟩=false:=Lib.frozen_of_heap dL 1
 obtain⟨ao,n',cap,rfl⟩:∃ao n' cap,v'=.slice ao n' cap:=by
  rcases yU.2 with ⟨hv,_⟩|⟨g,cap,cur,fz,hv,_⟩
  ·exact⟨_,_,_,hv⟩
  ·exact⟨_,_,_,hv⟩
 go_wp2
 go_ret2
 refine⟨rfl, ?_, ?_,(si.grown iN (Lib.ownsRowF_kind iM)).setCell ⟨b,1,none⟩ rfl _⟩
 ·exact Lib.BuilderAtF.put (T:=68) (e:=5) hB dL (bs':=bs++Lib.strCells s) (by simpa [Lib.strCells_length]using yU) (by decide)
 ·exact (fy.grown iN (by have:=fy.size;omega) (λk hk=>(iM.lt k hk).1)).setCell (p:=⟨b,1,none⟩) hB _
end Go.Proofs.YtocleppbcngcjaaGreatDoor
