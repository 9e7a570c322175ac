import Derived.Shelf.Strconv.Atoi
import Derived.Shelf.Strconv.Itoa0
import Derived.Shelf.Strconv.Itoa1
import Derived.Shelf.LaysM
import Derived.Shelf.Strconv.Itoa2
import Derived.Shelf.Strconv.Itoa3
import Derived.Shelf.Strconv.AtoiErrFast
import Derived.Shelf.Strconv.ParseIntEmpty
import Derived.Shelf.Strconv.AtoiFail
import Derived.Shelf.Strconv.Clone
import Derived.Shelf.Strconv.SyntaxError
import Derived.Shelf.LaysC
import Derived.Shelf.Strconv.ToError
import Derived.Shelf.Strconv.AtoiErr
import Derived.Shelf.Strconv.Lower
import Derived.Shelf.Strconv.ParseUint10
import Derived.Shelf.Strconv.ParseUint10Empty
import Derived.Shelf.Strconv.ParseUint10Any
import Derived.Shelf.Strconv.RangeError
import Derived.Shelf.Strconv.ToErrorRange
import Derived.Shelf.Strconv.ParseUintEmpty
import Derived.Shelf.Strconv.ParseUint10b64
import Derived.Shelf.Strconv.ParseUint10b32
import Derived.Shelf.Strconv.ParseUint10b16
import Derived.Shelf.Strconv.ParseUint10b8
import Derived.Shelf.Strconv.ParseUint10At
import Derived.Shelf.Strings.Prefix
import Derived.Shelf.Slices.Turned
import Derived.Shelf.Slices.Reverse
import Derived.Ground.Names2Prog
import Derived.Shelf.Slices.Clone
import Derived.Shelf.Slices.Cells
import Derived.Ground.SlgnProg
import Derived.Shelf.SlicesE.Reverse
import Derived.Shelf.SlicesE.Clone
import Derived.Test.YtdjgnbkclcjiiaaGreatDoorProg
import Derived.Test.YtdjgnbkclcjiiaaGreatDoorPt
import Derived.Test.YtdjgnbkclcjiiaaGreatDoorPq
import Derived.Test.YtdjgnbkclcjiiaaGreatDoorM18
import Derived.Lib.ItoaLen
import Derived.Lib.AppendIntMem
section
namespace Go.Proofs
open Go.Shelf
open Go.Lib in
open Go.Lib in
open Go.Lib in
open Go.Lib in
open Go.RowKit Go.Sort Go.Lib in
def Tryz.laysM246_ren:Go.Shelf.Ren:=⟨fun | 246=>161 | 283=>170 | 284=>171 | 285=>172 | 286=>173 | 129=>177 | 317=>176 | 318=>178 | 319=>179 | 320=>180 | 337=>184 | 338=>185 | n=>n,fun | 2=>2 | 3=>3 | 9=>9 | 4=>4 | 171=>246 | 0=>0 | 53=>247 | 37=>227 | 5=>5 | 173=>250 | 212=>258 | 51=>148 | 20=>20 | 213=>259 | 46=>261 | 232=>272 | 233=>273 | n=>n,fun | 17=>4 | 18=>5 | 19=>6 | n=>n⟩
open Go.RowKit Go.Sort Go.Lib in
def Tryz.laysM243_ren:Go.Shelf.Ren:=⟨fun | 243=>149 | 246=>161 | 283=>170 | 284=>171 | 285=>172 | 286=>173 | 129=>177 | 317=>176 | 318=>178 | 319=>179 | 320=>180 | 337=>184 | 338=>185 | n=>n,fun | 3=>3 | 9=>9 | 2=>2 | 4=>4 | 171=>246 | 0=>0 | 53=>247 | 37=>227 | 5=>5 | 173=>250 | 212=>258 | 51=>148 | 20=>20 | 213=>259 | 46=>261 | 232=>272 | 233=>273 | n=>n,fun | 17=>4 | 18=>5 | 19=>6 | n=>n⟩
open Go.RowKit Go.Sort Go.Lib in
def Tryz.laysM171_ren:Go.Shelf.Ren:=⟨fun | 171=>107 | 243=>149 | 246=>161 | 283=>170 | 284=>171 | 285=>172 | 286=>173 | 129=>177 | 317=>176 | 318=>178 | 319=>179 | 320=>180 | 337=>184 | 338=>185 | n=>n,fun | 3=>3 | 9=>9 | 2=>2 | 4=>4 | 171=>246 | 0=>0 | 53=>247 | 37=>227 | 5=>5 | 173=>250 | 212=>258 | 51=>148 | 20=>20 | 213=>259 | 46=>261 | 232=>272 | 233=>273 | n=>n,fun | 17=>4 | 18=>5 | 19=>6 | n=>n⟩
theorem Tryz.laysM171:Go.Proofs.LaysM.n171 Tryz.prog Tryz.laysM171_ren := {
 mixed:=by kernel_rfl
 f129:=Tryz.func177.trans (congrArg some (by kernel_rfl))
 f171:=Tryz.func107.trans (congrArg some (by kernel_rfl))
 f243:=Tryz.func149.trans (congrArg some (by kernel_rfl))
 f246:=Tryz.func161.trans (congrArg some (by kernel_rfl))
 f283:=Tryz.func170.trans (congrArg some (by kernel_rfl))
 f284:=Tryz.func171.trans (congrArg some (by kernel_rfl))
 f285:=Tryz.func172.trans (congrArg some (by kernel_rfl))
 f286:=Tryz.func173.trans (congrArg some (by kernel_rfl))
 f317:=Tryz.func176.trans (congrArg some (by kernel_rfl))
 f318:=Tryz.func178.trans (congrArg some (by kernel_rfl))
 f319:=Tryz.func179.trans (congrArg some (by kernel_rfl))
 f320:=Tryz.func180.trans (congrArg some (by kernel_rfl))
 f337:=Tryz.func184.trans (congrArg some (by kernel_rfl))
 f338:=Tryz.func185.trans (congrArg some (by kernel_rfl))
 t0:=Tryz.underlying0
 a0:=Tryz.isAgg0
 z0:=Tryz.sizeOf0
 v0:=Tryz.zeroValue0
 t2:=Tryz.underlying2
 a2:=Tryz.isAgg2
 z2:=Tryz.sizeOf2
 v2:=Tryz.zeroValue2
 t3:=Tryz.underlying3
 a3:=Tryz.isAgg3
 z3:=Tryz.sizeOf3
 v3:=Tryz.zeroValue3
 t4:=Tryz.underlying4
 a4:=Tryz.isAgg4
 z4:=Tryz.sizeOf4
 v4:=Tryz.zeroValue4
 t5:=Tryz.underlying5
 a5:=Tryz.isAgg5
 z5:=Tryz.sizeOf5
 v5:=Tryz.zeroValue5
 t9:=Tryz.underlying9
 a9:=Tryz.isAgg9
 z9:=Tryz.sizeOf9
 v9:=Tryz.zeroValue9
 t20:=Tryz.underlying20
 a20:=Tryz.isAgg20
 z20:=Tryz.sizeOf20
 v20:=Tryz.zeroValue20
 t37:=Tryz.underlying227
 a37:=Tryz.isAgg227
 z37:=Tryz.sizeOf227
 v37:=Tryz.zeroValue227
 t46:=Tryz.underlying261
 a46:=Tryz.isAgg261
 z46:=Tryz.sizeOf261
 v46:=Tryz.zeroValue261
 t51:=Tryz.underlying148
 a51:=Tryz.isAgg148
 z51:=Tryz.sizeOf148
 v51:=Tryz.zeroValue148
 t53:=Tryz.underlying247
 a53:=Tryz.isAgg247
 z53:=Tryz.sizeOf247
 v53:=Tryz.zeroValue247
 t171:=Tryz.underlying246
 a171:=Tryz.isAgg246
 z171:=Tryz.sizeOf246
 v171:=Tryz.zeroValue246
 t173:=Tryz.underlying250
 a173:=Tryz.isAgg250
 z173:=Tryz.sizeOf250
 v173:=Tryz.zeroValue250
 t212:=Tryz.underlying258
 a212:=Tryz.isAgg258
 z212:=Tryz.sizeOf258
 v212:=Tryz.zeroValue258
 t213:=Tryz.underlying259
 a213:=Tryz.isAgg259
 z213:=Tryz.sizeOf259
 t232:=Tryz.underlying272
 a232:=Tryz.isAgg272
 z232:=Tryz.sizeOf272
 v232:=Tryz.zeroValue272
 t233:=Tryz.underlying273
 a233:=Tryz.isAgg273
 z233:=Tryz.sizeOf273
 v233:=Tryz.zeroValue273
 g17:=by kernel_rfl
 g18:=by kernel_rfl
 g19:=by kernel_rfl
 i0:=by kernel_rfl
 i2:=by kernel_rfl
 i3:=by kernel_rfl
 i4:=by kernel_rfl
 i5:=by kernel_rfl
 i9:=by kernel_rfl
 i20:=by kernel_rfl
 i37:=by kernel_rfl
 i46:=by kernel_rfl
 i51:=by kernel_rfl
 i53:=by kernel_rfl
 i171:=by kernel_rfl
 i173:=by kernel_rfl
 i212:=by kernel_rfl
 i232:=by kernel_rfl
 i233:=by kernel_rfl
 m17:=by kernel_rfl
 m18:=by kernel_rfl
 m19:=by kernel_rfl}
open Go.RowKit Go.Sort Go.Lib in
theorem Tryz.strconv_Itoa (n : Int) (h0 : -9223372036854775808 ≤ n) (h1 : n ≤ 9223372036854775807) (w : World) (htab : Lib.TabIs Tryz.prog w "internal/strconv.uint64pow10" .u64 Lib.pow10Tab) :
    Calls Tryz.prog 107 #[.int .i64 n] w fun e w'=>e=.returned (.string ⟨(Lib.itoa n).toArray⟩)∧∃ k os,w'=grow (w.drewN k) os:=Any.strconv_Itoa Tryz.laysM171 n h0 h1 w htab
end Go.Proofs
end
section
set_option linter.unusedVariables false
set_option linter.unusedSimpArgs false
set_option maxRecDepth 100000
namespace Go.Proofs.YtdjgnbkclcjiiaaGreatDoor
open Go Go.RowKit Go.Proofs Wk
open Vc (SlAt OV iteI Vl zwa ze zug)
attribute [local irreducible] Go.Calls
theorem zpu:∀ n:Nat,Lib.decDigits n=natD n:=by
  intro n
  induction n using Nat.strongRecOn with
  | ind n ih =>
    rw [Lib.decDigits,natD];by_cases h:n < 10
    · rw [dif_pos h,if_pos h]
    · rw [dif_neg h,if_neg h,ih (n / 10) (by omega)]
theorem zxx(n:Int):Lib.itoa n=intD n:=by
 unfold Lib.itoa intD;split
 ·rw [zpu,show n.natAbs=(-n).toNat by omega]
 ·rw [zpu]
theorem zoj{n:Int}(h:-10000000000 < n∧n < 10000000000):(intD n).length≤11:=by
 unfold intD;split
 ·obtain⟨_,h2,_⟩:=zuh 9 (-n).toNat (by omega);simp only [List.length_cons];omega
 ·obtain⟨_,h2,_⟩:=zuh 9 n.toNat (by omega);omega
abbrev TabG (w : World) : Prop := Lib.TabIs Tryz.prog w "internal/strconv.uint64pow10" .u64 Lib.pow10Tab
theorem zte{w w':World}(h:TabG w)(hb:Below w.heap.size w w'):TabG w':=by
  revert h
  unfold TabG Lib.TabIs World.var?;generalize Tryz.prog.globalNamed "internal/strconv.uint64pow10" = og;intro h;cases og with
  | none=>cases h
  | some g =>
    simp only [Option.bind_some]at h ⊢;cases hh:w.heap[g]? with
    | none=>rw [hh]at h;cases h
    | some o =>
      rw [hb.block _ (Array.getElem?_eq_some_iff.1 hh).1];exact h
abbrev NumI(f:Nat)(w:World):Prop:=∀ n:Int,-10000000000 < n∧n < 10000000000→∀ w':World,Below w.heap.size w w'→Calls Tryz.prog f #[.int .i64 n] w' (Vc.Ret (.string ⟨(intD n).toArray⟩) w')
theorem zlfa{w:World}(hV:TabG w):NumI 107 w:=by
 intro n h w' hb;refine (Tryz.strconv_Itoa n (by omega) (by omega) w' (zte hV hb)).mono ?_;rintro e w2 ⟨rfl,k,os,rfl⟩;rw [zxx];exact⟨rfl,Lib.below_grow _ w' (Nat.le_refl _) k os⟩
theorem znr{m:Nat}(h:m < 10):natD m=[UInt8.ofNat (48 + m)]:=by rw [natD,if_pos h]
theorem zyx{m:Nat}(h:¬ m < 10):natD m=natD (m / 10) ++ [UInt8.ofNat (48 + m % 10)]:=by rw [natD,if_neg h]
def InvN(n:Int)(l:List Vc.Vl):Prop:=∃ (s0:List UInt8) (x:Int),l=[.s s0,.i x,.s []] ∧ -10000000000 < x∧x < 10000000000∧natD n.natAbs=natD x.natAbs++s0
def msD(l:List Vc.Vl):Nat:=match l with
 | [.s _,.i x,.s _]=>x.natAbs
 | _=>0
theorem zqu{x:Int}(h0:-10000000000 < x)(h1:x < 10000000000):IntKind.u8.wrap (IntKind.i64.wrap (48 + (if IntKind.i64.wrap (0 - x.tmod 10) > x.tmod 10 then IntKind.i64.wrap (0 - x.tmod 10)else x.tmod 10)))=((48 + x.natAbs % 10:Nat):Int):=by
 have h2:(x.tmod 10).natAbs=x.natAbs % 10:=Int.natAbs_tmod x 10;have h3:x.natAbs % 10 < 10:=Nat.mod_lt _ (by decide);have hw:IntKind.i64.wrap (0 - x.tmod 10) = -(x.tmod 10):=by rw [ze (by omega)];omega
 rw [hw];have e:(if -(x.tmod 10) > x.tmod 10 then -(x.tmod 10)else x.tmod 10)=((x.natAbs % 10:Nat):Int):=by split <;> omega
 rw [e,ze (by omega),IntKind.wrap_u8];omega
theorem zyz{n:Int}{l:List UInt8}(hn:n < 0)(h:natD n.natAbs=l):[45]++l=intD n:=by
 unfold intD;rw [if_pos hn,← h,show n.natAbs=(-n).toNat by omega];rfl
theorem zzz{n:Int}{l:List UInt8}(hn:¬ n < 0)(h:natD n.natAbs=l):[]++l=intD n:=by
 unfold intD;rw [if_neg hn,← h,show n.toNat=n.natAbs by omega];rfl
theorem zmfa{w:World}:NumI 110 w:=by
 intro n h w' hb;refine zjg n w' _ (iteI (fun hn=>⟨InvN n,msD,⟨[],n,rfl,h.1,h.2,by rw [List.append_nil]⟩, ?_⟩) (fun hn=>⟨InvN n,msD,⟨[],n,rfl,h.1,h.2,by rw [List.append_nil]⟩, ?_⟩))
 ·rintro s0 x1 s1 ⟨t0,y,hxy,hb0,hb1,hd⟩;simp only [List.cons.injEq,Vc.Vl.s.injEq,Vc.Vl.i.injEq,and_true]at hxy;obtain⟨rfl,rfl,rfl⟩:=hxy;rintro x2 rfl x3 rfl x4 rfl x5 rfl x6 rfl x7 hx7;rw [zqu hb0 hb1]at hx7;subst hx7;refine⟨fun v hv=>⟨_,by simpa using hv⟩, ?_⟩;rintro s2 hs2;have hs2:s2=[UInt8.ofNat (48 + x1.natAbs % 10)]:=hs2;subst hs2;have hlen:=(zuh 9 n.natAbs (by omega)).2.1;rw [hd,List.length_append]at hlen;refine⟨by simp;omega, ?_⟩;rintro s3 rfl x8 hx8;have h8:(x1.tdiv 10).natAbs=x1.natAbs / 10:=Int.natAbs_tdiv x1 10;rw [ze (by omega)]at hx8;rw [← hx8]at h8;refine iteI (fun h => ?_) (fun h => ?_)
  ·have hs:x1.natAbs < 10:=by omega
   refine⟨by simp;omega, ?_⟩;rintro s4 rfl;rw [znr hs]at hd;have hm:x1.natAbs % 10=x1.natAbs:=Nat.mod_eq_of_lt hs;rw [hm];exact congrArg (fun l:List UInt8=>Value.string ⟨l.toArray⟩) (zyz hn hd)
  ·have hs:¬ x1.natAbs < 10:=by omega
   refine⟨⟨_,_,rfl,by omega,by omega, ?_⟩, ?_⟩
   ·rw [hd,zyx hs,h8,List.append_assoc]
   ·simp only [msD];omega
 ·rintro s0 x1 s1 ⟨t0,y,hxy,hb0,hb1,hd⟩;simp only [List.cons.injEq,Vc.Vl.s.injEq,Vc.Vl.i.injEq,and_true]at hxy;obtain⟨rfl,rfl,rfl⟩:=hxy;rintro x2 rfl x3 rfl x4 rfl x5 rfl x6 rfl x7 hx7;rw [zqu hb0 hb1]at hx7;subst hx7;refine⟨fun v hv=>⟨_,by simpa using hv⟩, ?_⟩;rintro s2 hs2;have hs2:s2=[UInt8.ofNat (48 + x1.natAbs % 10)]:=hs2;subst hs2;have hlen:=(zuh 9 n.natAbs (by omega)).2.1;rw [hd,List.length_append]at hlen;refine⟨by simp;omega, ?_⟩;rintro s3 rfl x8 hx8;have h8:(x1.tdiv 10).natAbs=x1.natAbs / 10:=Int.natAbs_tdiv x1 10;rw [ze (by omega)]at hx8;rw [← hx8]at h8;refine iteI (fun h => ?_) (fun h => ?_)
  ·have hs:x1.natAbs < 10:=by omega
   refine⟨by simp;omega, ?_⟩;rintro s4 rfl;rw [znr hs]at hd;have hm:x1.natAbs % 10=x1.natAbs:=Nat.mod_eq_of_lt hs;rw [hm];exact congrArg (fun l:List UInt8=>Value.string ⟨l.toArray⟩) (zzz hn hd)
  ·have hs:¬ x1.natAbs < 10:=by omega
   refine⟨⟨_,_,rfl,by omega,by omega, ?_⟩, ?_⟩
   ·rw [hd,zyx hs,h8,List.append_assoc]
   ·simp only [msD];omega
theorem zaaa(c:Nat):(cmpsB.getD c []).length≤2:=by
 by_cases h:c < 6
 ·obtain rfl | rfl | rfl | rfl | rfl | rfl:c=0∨c=1∨c=2∨c=3∨c=4∨c=5:=by omega
  all_goals decide
 ·rw [List.getD_eq_getElem?_getD,List.getElem?_eq_none (by show 6≤c;omega)];simp
theorem zqca{op ask:Int}{nm:List UInt8}{wi cm n:Int}{v:Value}{ks:List Rl}(ha:atomB (.mk op ask nm wi cm n v ks)=true):(txA ask nm wi cm n).length≤90:=by
 obtain⟨_,h3,⟨h4,h5⟩,h6,_,⟨h9,h10⟩,_⟩:=zhb.1 ha;have h1:=zkj h3;have h2:=zoj (n:=wi) (by omega);have h7:=zoj (n:=n) (by omega);have h8:=zaaa cm.toNat
 unfold txA;split
 ·omega
 ·simp only [List.length_append,List.length_cons];split
  ·omega
  ·split <;> simp only [List.length_append,List.length_cons,wMost,wLeast,List.length_nil] <;> omega
theorem zan:∀ (m:Nat) (r:Rl),nodesR r≤m→rightR r=true→(txR r).length≤100 * nodesR r:=by
 intro m
 induction m with
 | zero=>intro r hm;have:=zcb r;omega
 | succ m ih =>
 intro r hm hr;rcases zvb hr with ⟨ho,ha⟩ | ⟨v,k,rfl,hk⟩ | ⟨op,v,a,b,rfl,ho,ha,hb⟩
 ·obtain⟨op,ask,nm,wi,cm,n,v,ks⟩:=r;obtain rfl:op=1:=ho
  have:=zqca ha
  have h1:=zcb (.mk 1 ask nm wi cm n v ks);rw [znj,if_pos rfl];omega
 ·have hnk:nodesR k≤m:=by simp only [nodesR,nodesL]at hm;omega
  have h1:=ih k hnk hk;rw [zym];simp only [List.length_cons,txN,zhg,nodesR,nodesL];split <;> omega
 ·have hna:nodesR a≤m:=by simp only [nodesR,nodesL]at hm;omega
  have hnb:nodesR b≤m:=by simp only [nodesR,nodesL]at hm;omega
  have h1:=ih a hna ha;have h2:=ih b hnb hb;rcases ho with rfl | rfl
  ·rw [zzm];simp only [List.length_append,List.length_cons,txN,txD,zhg,nodesR,nodesL];split <;> split <;> omega
  ·rw [zlr (by have:=zhc ha;omega)];simp only [List.length_append,List.length_cons,txD,zhg,nodesR,nodesL];split <;> omega
theorem str_eq{a b:List UInt8}(h:a=b):(Value.string ⟨a.toArray⟩)=.string ⟨b.toArray⟩:=by rw [h]
theorem zad{w:World}{f:Nat}{s6 sg:List UInt8}{n:Int}(hl:s6.length≤200)(hs:sg.length≤2)(hI:NumI f w)(hn:-10000000000 < n∧n < 10000000000){r:List UInt8}(hr:s6++(sg++32::intD n)=r) :
  (List.length s6 + List.length sg≤9223372036854775807)∧∀ s7:List UInt8,s7=s6++sg→(List.length s7 + List.length ([32]:List UInt8)≤9223372036854775807)∧∀ s8:List UInt8,s8=s7++([32]:List UInt8) →
  ∃ s9:List UInt8,(∀ w':World,Below w.heap.size w w'→Calls Tryz.prog f #[.int .i64 n] w' (Vc.Ret (.string ⟨s9.toArray⟩) w'))∧(List.length s8 + List.length s9≤9223372036854775807)∧∀ s10:List UInt8,s10=s8++s9→(.string ⟨s10.toArray⟩:Value)=.string ⟨r.toArray⟩:=by
 have hd:=zoj hn;refine⟨by omega, ?_⟩;rintro s7 rfl;refine⟨by simp only [List.length_append,List.length_cons,List.length_nil];omega, ?_⟩;rintro s8 rfl;refine⟨intD n,hI n hn,by simp only [List.length_append,List.length_cons,List.length_nil];omega, ?_⟩;rintro s10 rfl;exact str_eq (by rw [← hr];simp)
theorem zbba{w:World}{s6:List UInt8}{c n:Int}(hV:Vg_1 w)(hI:NumI 107 w)(hl:s6.length≤200)(hc:0≤c∧c≤5)(hn:-10000000000 < n∧n < 10000000000){r:List UInt8}(hr:s6++(cmpsB.getD c.toNat []++32::intD n)=r) :
  (0≤c)∧(c < 6)∧((c=0)→Vj_countdown_text_A_T3 w s6 n (.string ⟨r.toArray⟩))∧(¬ (c=0)→Vj_countdown_text_A_T2 c w s6 n (.string ⟨r.toArray⟩)):=by
 refine⟨hc.1,by omega,fun h=>⟨hV,zad hl (by decide) hI hn (by rw [← hr,h];rfl)⟩,fun h0 => ?_⟩;refine iteI (fun h=>⟨hV,zad hl (by decide) hI hn (by rw [← hr,h];rfl)⟩) (fun h1 => ?_);refine iteI (fun h=>⟨hV,zad hl (by decide) hI hn (by rw [← hr,h];rfl)⟩) (fun h2 => ?_);refine iteI (fun h=>⟨hV,zad hl (by decide) hI hn (by rw [← hr,h];rfl)⟩) (fun h3 => ?_);refine iteI (fun h=>⟨hV,zad hl (by decide) hI hn (by rw [← hr,h];rfl)⟩) (fun h4 => ?_);have h:c=5:=by omega
 exact⟨hV,zad hl (by decide) hI hn (by rw [← hr,h];rfl)⟩
theorem zcba{w:World}{s6:List UInt8}{c n:Int}(hI:NumI 110 w)(hl:s6.length≤199)(hc:0≤c∧c≤5)(hn:-10000000000 < n∧n < 10000000000){r:List UInt8}(hr:s6++32::(cmpsB.getD c.toNat []++32::intD n)=r) :
  Vj_ullageref10_text_T2 s6 c w n (.string ⟨r.toArray⟩):=by
 refine⟨by simp only [List.length_cons,List.length_nil];omega, ?_⟩;rintro s7 rfl;have hl':(s6 ++ [32]).length≤200:=by simp only [List.length_append,List.length_cons,List.length_nil];omega
 have hr':(s6 ++ [32])++(cmpsB.getD c.toNat []++32::intD n)=r:=by rw [← hr];simp
 refine⟨hc.1,by omega,fun h=>zad hl' (by decide) hI hn (by rw [← hr',h];rfl),fun h0 => ?_⟩;refine iteI (fun h=>zad hl' (by decide) hI hn (by rw [← hr',h];rfl)) (fun h1 => ?_);refine iteI (fun h=>zad hl' (by decide) hI hn (by rw [← hr',h];rfl)) (fun h2 => ?_);refine iteI (fun h=>zad hl' (by decide) hI hn (by rw [← hr',h];rfl)) (fun h3 => ?_);refine iteI (fun h=>zad hl' (by decide) hI hn (by rw [← hr',h];rfl)) (fun h4 => ?_);have h:c=5:=by omega
 exact zad hl' (by decide) hI hn (by rw [← hr',h];rfl)
theorem zzx{ask:Int}{nm:List UInt8}{wi cm n:Int}{v:Value}{ks:List Rl}:FM (.mk 1 ask nm wi cm n v ks)=.iface 183 (RV7 (.mk 1 ask nm wi cm n v ks)):=by simp only [FM,fmV,if_pos]
theorem zay{v:Value}{k:Rl}:FM (.mk 2 0 [] 0 0 0 v [k])=.iface 176 (.agg #[FM k]):=by
 simp only [FM];rw [fmV,if_neg (by decide)];simp only [fmL,fmK]
theorem zby{v:Value}{a b:Rl}:FM (.mk 3 0 [] 0 0 0 v [a,b])=.iface 180 (.agg #[FM a,FM b]):=by
 simp only [FM];rw [fmV,if_neg (by decide)];simp only [fmL,fmK,if_pos]
theorem zrca{v:Value}{a b:Rl}:FM (.mk 4 0 [] 0 0 0 v [a,b])=.iface 181 (.agg #[FM a,FM b]):=by
 simp only [FM];rw [fmV,if_neg (by decide)];simp only [fmL,fmK];rw [if_neg (by decide)]
abbrev fo(r:Rl):Vc.OV:=⟨FM r,zfca r⟩
theorem znv{w w0:World}{r:Rl}(hr:rightR r=true)(h:RlAt w0 r):Calls Tryz.prog 105 #[FM r] w (Vc.Ret (.bool (decide (r.op=4))) w)∧Calls Tryz.prog 106 #[FM r] w (Vc.Ret (.bool (decide (r.op=3))) w):=by
 rcases zvb hr with ⟨ho,ha⟩ | ⟨v,k,rfl,hk⟩ | ⟨op,v,a,b,rfl,ho,ha,hb⟩
 ·obtain⟨b0,p0,c0,e0,f0,g0⟩:=zk (zm h).1;obtain⟨op,ask,nm,wi,cm,n,v,ks⟩:=r;obtain rfl:op=1:=ho
  have hf:FM (.mk 1 ask nm wi cm n v ks)=.iface 183 (.agg #[.int .i64 1,.int .i64 ask,.string ⟨nm.toArray⟩,.int .i64 wi,.int .i64 cm,.int .i64 n,(if b0=true then .slice none 0 0 else .slice (some (Vc.qad p0 (Int.toNat ((ks.length:Nat):Int)) (Int.toNat c0))) (Int.toNat ((ks.length:Nat):Int)) (Int.toNat c0):Value)]):=by
   rw [zzx];have e0':v=_:=e0;exact congrArg (fun z=>Value.iface 183 (.agg #[.int .i64 1,.int .i64 ask,.string ⟨nm.toArray⟩,.int .i64 wi,.int .i64 cm,.int .i64 n,z])) e0'
  exact⟨zfi p0 1 ask wi cm n (ks.length:Nat) c0 b0 (fo (.mk 1 ask nm wi cm n v ks)) nm hf w _ rfl,zch p0 1 ask wi cm n (ks.length:Nat) c0 b0 (fo (.mk 1 ask nm wi cm n v ks)) nm hf w _ rfl⟩
 ·exact⟨zgi (fo (.mk 2 0 [] 0 0 0 v [k])) (fo k) (zay (v:=v)) w _ rfl,zdh (fo (.mk 2 0 [] 0 0 0 v [k])) (fo k) (zay (v:=v)) w _ rfl⟩
 ·rcases ho with rfl | rfl
  ·exact⟨zhi (fo (.mk 3 0 [] 0 0 0 v [a,b])) (fo a) (fo b) (zby (v:=v)) w _ rfl,zeh (fo (.mk 3 0 [] 0 0 0 v [a,b])) (fo a) (fo b) (zby (v:=v)) w _ rfl⟩
  ·exact⟨zii (fo (.mk 4 0 [] 0 0 0 v [a,b])) (fo a) (fo b) (zrca (v:=v)) w _ rfl,zfh (fo (.mk 4 0 [] 0 0 0 v [a,b])) (fo a) (fo b) (zrca (v:=v)) w _ rfl⟩
theorem zws{w:World}{r:Rl}{b:Bool}{m:Nat}(hl:(txR r).length≤30000)(h:∀ w',Below w.heap.size w w'→Calls Tryz.prog 55 #[FM r] w' (Vc.Ret (.string ⟨(txR r).toArray⟩) w')):Calls Tryz.prog 104 #[FM r,.bool b] w (Vc.Ret (.string ⟨(parT b (txR r)).toArray⟩) w):=by
 refine zji b (fo r) w _ (iteI (fun hb=>⟨txR r,h,by simp only [List.length_cons,List.length_nil];omega, ?_⟩) (fun hb=>⟨txR r,h, ?_⟩))
 ·rintro s1 rfl;refine⟨by simp only [List.length_append,List.length_cons,List.length_nil];omega, ?_⟩;rintro s2 rfl;rw [hb];rfl
 ·rw [Bool.not_eq_true]at hb;rw [hb];rfl
set_option maxHeartbeats 1000000 in
theorem znfa{w w0:World}{ask:Int}{nm:List UInt8}{wi cm n:Int}{v:Value}{ks:List Rl}(hV0:Vg_0 w)(hV:Vg_1 w)(hI:NumI 107 w)(ha:atomB (.mk 1 ask nm wi cm n v ks)=true)(h:RlAt w0 (.mk 1 ask nm wi cm n v ks)) :
  Calls Tryz.prog 55 #[FM (.mk 1 ask nm wi cm n v ks)] w (Vc.Ret (.string ⟨(txA ask nm wi cm n).toArray⟩) w):=by
 obtain⟨⟨h1,h2⟩,h3,⟨h4,h5⟩,h6,h7,⟨h9,h10⟩,_⟩:=zhb.1 ha;have hnl:=zkj h3;have hwl:=zoj (n:=wi) (by omega);obtain⟨b0,p0,c0,e0,f0,g0⟩:=zk (zm h).1
 have hf:FM (.mk 1 ask nm wi cm n v ks)=.iface 183 (.agg #[.int .i64 1,.int .i64 ask,.string ⟨nm.toArray⟩,.int .i64 wi,.int .i64 cm,.int .i64 n,(if b0=true then .slice none 0 0 else .slice (some (Vc.qad p0 (Int.toNat ((ks.length:Nat):Int)) (Int.toNat c0))) (Int.toNat ((ks.length:Nat):Int)) (Int.toNat c0):Value)]):=by
  rw [zzx];have e0':v=_:=e0;exact congrArg (fun z=>Value.iface 183 (.agg #[.int .i64 1,.int .i64 ask,.string ⟨nm.toArray⟩,.int .i64 wi,.int .i64 cm,.int .i64 n,z])) e0'
 have hn:-10000000000 < n∧n < 10000000000:=by omega
 have hw:-10000000000 < wi∧wi < 10000000000:=by omega
 have T1:ask=0→¬ (cm=5∧n=0)→Vj_countdown_text_A_T1 nm cm w n (.string ⟨(txA ask nm wi cm n).toArray⟩):=fun h0 hq=>by
  have hT:txA ask nm wi cm n=nm++32::(cmpsB.getD cm.toNat []++32::intD n):=by unfold txA;rw [if_neg (fun h=>hq h.2),if_pos h0]
  rw [hT];refine⟨by simp only [List.length_cons,List.length_nil];omega, ?_⟩;rintro s1 rfl;exact zbba hV hI (by simp only [List.length_append,List.length_cons,List.length_nil];omega) h7 hn (by simp)
 have W:∀ wd:List UInt8,wd.length≤6→txA ask nm wi cm n=wd++(nm++44::32::(intD wi++41::32::(cmpsB.getD cm.toNat []++32::intD n))) →
   (List.length wd + List.length nm≤9223372036854775807)∧∀ s1:List UInt8,s1=wd++nm→(List.length s1 + List.length ([44,32]:List UInt8)≤9223372036854775807)∧∀ s2:List UInt8,s2=s1++([44,32]:List UInt8) →
   ∃ s3:List UInt8,(Vq w 107 #[.int .i64 wi] (.string ⟨s3.toArray⟩))∧(List.length s2 + List.length s3≤9223372036854775807)∧∀ s4:List UInt8,s4=s2++s3 →
   (List.length s4 + List.length ([41]:List UInt8)≤9223372036854775807)∧∀ s5:List UInt8,s5=s4++([41]:List UInt8)→(List.length s5 + List.length ([32]:List UInt8)≤9223372036854775807)∧∀ s6:List UInt8,s6=s5++([32]:List UInt8) →
   (0≤cm)∧(cm < 6)∧((cm=0)→Vj_countdown_text_A_T3 w s6 n (.string ⟨(txA ask nm wi cm n).toArray⟩))∧(¬ (cm=0)→Vj_countdown_text_A_T2 cm w s6 n (.string ⟨(txA ask nm wi cm n).toArray⟩)):=fun wd hwd hT=>by
  refine⟨by omega, ?_⟩;rintro s1 rfl;refine⟨by simp only [List.length_append,List.length_cons,List.length_nil];omega, ?_⟩;rintro s2 rfl;refine⟨intD wi,hI wi hw,by simp only [List.length_append,List.length_cons,List.length_nil];omega, ?_⟩;rintro s4 rfl;refine⟨by simp only [List.length_append,List.length_cons,List.length_nil];omega, ?_⟩;rintro s5 rfl;refine⟨by simp only [List.length_append,List.length_cons,List.length_nil];omega, ?_⟩;rintro s6 rfl;exact zbba hV hI (by simp only [List.length_append,List.length_cons,List.length_nil];omega) h7 hn (by rw [hT];simp)
 have hT:ask≠0→txA ask nm wi cm n=(if ask=1 then wMost else wLeast)++40::(nm++44::32::(intD wi++41::32::(cmpsB.getD cm.toNat []++32::intD n))):=fun h0=>by
  unfold txA;rw [if_neg (fun h=>h0 h.1),if_neg h0];simp
 refine zei p0 1 ask wi cm n (ks.length:Nat) c0 b0 (fo (.mk 1 ask nm wi cm n v ks)) nm hf w _ ?_;refine iteI (fun h0=>iteI (fun h5=>iteI (fun hn0 => ?_) (fun hn0=>T1 h0 fun h=>hn0 h.2)) (fun h5=>T1 h0 fun h=>h5 h.1)) (fun h0=>⟨h1,by omega,fun h=>absurd h h0,fun _=>iteI (fun hk=>⟨hV0,W [109,111,115,116,40] (by decide) ?_⟩) (fun hk=>⟨hV0,W [108,101,97,115,116,40] (by decide) ?_⟩)⟩)
 ·have:txA ask nm wi cm n=nm:=by unfold txA;rw [if_pos ⟨h0,h5,hn0⟩]
  rw [this]
 ·rw [hT h0,if_pos hk];rfl
 ·rw [hT h0,if_neg hk];rfl
theorem zofa:∀ (m:Nat) {w w0:World} {r:Rl},nodesR r≤m→nodesR r≤200→rightR r=true→RlAt w0 r→Vg_0 w→Vg_1 w→TabG w→Calls Tryz.prog 55 #[FM r] w (Vc.Ret (.string ⟨(txR r).toArray⟩) w):=by
 intro m
 induction m with
 | zero=>intro w w0 r hm;have:=zcb r;omega
 | succ m ih =>
 intro w w0 r hm hm2 hr h hV0 hV hT;rcases zvb hr with ⟨ho,ha⟩ | ⟨v,k,rfl,hk⟩ | ⟨op,v,a,b,rfl,ho,ha,hb⟩
 ·obtain⟨op,ask,nm,wi,cm,n,v,ks⟩:=r;obtain rfl:op=1:=ho;rw [znj,if_pos rfl];exact znfa hV0 hV (zlfa hT) ha h
 ·have hnk:nodesR k≤m:=by simp only [nodesR,nodesL]at hm;omega
  have hnk2:nodesR k≤200:=by simp only [nodesR,nodesL]at hm2;omega
  have hak:=zva (zm h).2 k (by simp [Rl.ks]);have hlk:=zan _ k (Nat.le_refl _) hk
  have A:∀ (bb:Bool) w',Below w.heap.size w w'→Calls Tryz.prog 104 #[FM k,.bool bb] w' (Vc.Ret (.string ⟨(parT bb (txR k)).toArray⟩) w'):=fun bb w' hb'=>zws (m:=0) (by omega) fun w'' hb''=>by
   have hbb:=hb'.trans (hb''.mono hb'.size);exact ih hnk hnk2 hk hak (vgk2 hbb hV0) (vgk2 hbb hV) (zte hT hbb)
  rw [zym];refine zbi (fo (.mk 2 0 [] 0 0 0 v [k])) (fo k) (zay (v:=v)) w _ ⟨decide (k.op=4),fun w' _=>(znv hk hak).1,iteI (fun h4=>⟨_,A true, ?_⟩) (fun h4=>⟨decide (k.op=3),fun w' _=>(znv hk hak).2,_,A _, ?_⟩)⟩
  ·refine⟨by simp only [zhg,List.length_cons,List.length_nil];split <;> omega, ?_⟩;rintro s1 rfl;rw [decide_eq_true_eq]at h4;unfold txN;rw [decide_eq_true (by omega)];rfl
  ·refine⟨by simp only [zhg,List.length_cons,List.length_nil];split <;> omega, ?_⟩;rintro s1 rfl;rw [decide_eq_true_eq]at h4;unfold txN;rw [show decide (2 < k.op)=decide (k.op=3) by rw [decide_eq_decide];have:=zhc hk;omega];rfl
 ·have hna:nodesR a≤m:=by simp only [nodesR,nodesL]at hm;omega
  have hnb:nodesR b≤m:=by simp only [nodesR,nodesL]at hm;omega
  have hna2:nodesR a≤200:=by simp only [nodesR,nodesL]at hm2;omega
  have hnb2:nodesR b≤200:=by simp only [nodesR,nodesL]at hm2;omega
  have haa:=zva (zm h).2 a (by simp [Rl.ks]);have hab:=zva (zm h).2 b (by simp [Rl.ks]);have hla:=zan _ a (Nat.le_refl _) ha;have hlb:=zan _ b (Nat.le_refl _) hb;have TA:∀ w',Below w.heap.size w w'→Calls Tryz.prog 55 #[FM a] w' (Vc.Ret (.string ⟨(txR a).toArray⟩) w'):=fun w' hbb=>ih hna hna2 ha haa (vgk2 hbb hV0) (vgk2 hbb hV) (zte hT hbb);have TB:∀ w',Below w.heap.size w w'→Calls Tryz.prog 55 #[FM b] w' (Vc.Ret (.string ⟨(txR b).toArray⟩) w'):=fun w' hbb=>ih hnb hnb2 hb hab (vgk2 hbb hV0) (vgk2 hbb hV) (zte hT hbb);have AA:∀ (bb:Bool) w',Below w.heap.size w w'→Calls Tryz.prog 104 #[FM a,.bool bb] w' (Vc.Ret (.string ⟨(parT bb (txR a)).toArray⟩) w'):=fun bb w' hb'=>zws (m:=0) (by omega) fun w'' hb''=>TA w'' (hb'.trans (hb''.mono hb'.size));have AB:∀ (bb:Bool) w',Below w.heap.size w w'→Calls Tryz.prog 104 #[FM b,.bool bb] w' (Vc.Ret (.string ⟨(parT bb (txR b)).toArray⟩) w'):=fun bb w' hb'=>zws (m:=0) (by omega) fun w'' hb''=>TB w'' (hb'.trans (hb''.mono hb'.size));have la:∀ bb,(parT bb (txR a)).length≤21000:=fun bb=>by rw [zhg];split <;> omega
  have lb:∀ bb,(parT bb (txR b)).length≤21000:=fun bb=>by rw [zhg];split <;> omega
  rcases ho with rfl | rfl
  ·rw [zzm];refine zci (fo (.mk 3 0 [] 0 0 0 v [a,b])) (fo a) (fo b) (zby (v:=v)) w _ ⟨decide (a.op=4),fun w' _=>(znv ha haa).1,_,AA _,by have:=la (decide (a.op=4));simp only [List.length_cons,List.length_nil];omega, ?_⟩;rintro s1 rfl
   have e1:parT (decide (a.op=4)) (txR a)=txD a:=by
    unfold txD;rw [show decide (3 < a.op)=decide (a.op=4) by rw [decide_eq_decide];have:=zhc ha;omega]
   have l1:=la (decide (a.op=4));rw [e1]at l1 ⊢;refine⟨decide (b.op=4),fun w' _=>(znv hb hab).1,iteI (fun h4=>⟨_,AB true, ?_⟩) (fun h4=>⟨decide (b.op=3),fun w' _=>(znv hb hab).2,_,AB _, ?_⟩)⟩
   ·refine⟨by have:=lb true;simp only [List.length_append,List.length_cons,List.length_nil];omega, ?_⟩;rintro s1 rfl;rw [decide_eq_true_eq]at h4;refine str_eq ?_;unfold txN;rw [decide_eq_true (by omega)];simp
   ·refine⟨by have:=lb (decide (b.op=3));simp only [List.length_append,List.length_cons,List.length_nil];omega, ?_⟩;rintro s1 rfl;rw [decide_eq_true_eq]at h4;refine str_eq ?_;unfold txN;rw [show decide (2 < b.op)=decide (b.op=3) by rw [decide_eq_decide];have:=zhc hb;omega];simp
  ·rw [zlr (by have:=zhc ha;omega)];refine zdi (fo (.mk 4 0 [] 0 0 0 v [a,b])) (fo a) (fo b) (zrca (v:=v)) w _ ⟨_,TA,by simp only [List.length_cons,List.length_nil];omega, ?_⟩;rintro s1 rfl;refine⟨decide (b.op=4),fun w' _=>(znv hb hab).1,_,AB _,by have:=lb (decide (b.op=4));simp only [List.length_append,List.length_cons,List.length_nil];omega, ?_⟩;rintro s1 rfl;refine str_eq ?_;unfold txD;rw [show decide (3 < b.op)=decide (b.op=4) by rw [decide_eq_decide];have:=zhc hb;omega];simp
def prT(r:Rl):List UInt8:=if validR r=true then txR r else []
theorem zqea{w:World}{r:Rl}(h:RlAt w r)(hV0:Vg_0 w)(hV:Vg_1 w)(hT:TabG w):Calls Tryz.prog 22 #[RV7 r] w (Vc.Ret (.string ⟨(prT r).toArray⟩) w):=by
 have h':=h;have hks:=zm h;obtain⟨b0,p0,c0,e0,f0,g0⟩:=zk hks.1;have hno:=zbe f0;have E:RV7 r=.agg #[.int .i64 r.op,.int .i64 r.ask,.string ⟨r.nm.toArray⟩,.int .i64 r.wi,.int .i64 r.cm,.int .i64 r.n,(if b0=true then .slice none 0 0 else .slice (some (Vc.qad p0 (Int.toNat ((r.ks.length:Nat):Int)) (Int.toNat c0))) (Int.toNat ((r.ks.length:Nat):Int)) (Int.toNat c0):Value)]:=by unfold RV7;rw [e0]
 rw [E];refine zkf p0 r.op r.ask r.wi r.cm r.n (r.ks.length:Nat) c0 b0 r.nm w _ ⟨⟨(MK 0 1 r).2.1,zyo _ _ _ _ r 0 1⟩,validR r,fun w' hb=>by rw [← E];exact zbu (vgk2 hb hV0) (h'.below hb),iteI (fun hv=>⟨txR r,fun w' hb => ?_, ?_⟩) (fun hv => ?_)⟩
 ·have hv':=hv;simp only [validR,Bool.and_eq_true,decide_eq_true_eq]at hv';have e:=(zau r).2 hv;show Calls Tryz.prog 55 #[(MK 0 1 r).2.1] w' _;rw [e];exact zofa _ (Nat.le_refl _) hv'.1.1 hv'.2 h' (vgk2 hb hV0) (vgk2 hb hV) (zte hT hb)
 ·unfold prT;rw [if_pos hv]
 ·unfold prT;rw [if_neg hv]
end Go.Proofs.YtdjgnbkclcjiiaaGreatDoor
end
