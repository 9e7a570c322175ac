import Derived.Test.YtdjgnbkclcjiiaaGreatDoorSa
set_option linter.unusedVariables false
set_option linter.unusedSimpArgs false
set_option maxRecDepth 4000
namespace Go.Proofs.YtdjgnbkclcjiiaaGreatDoor
open Go Go.RowKit Go.Proofs Wk
open Vc (SlAt OV iteI Vl zrb zc)
set_option maxHeartbeats 4000000 in
theorem zmt(w:World)(now fresh win:Int):Calls Tryz.prog 157 #[.slice none 0 0,.int .i64 now,.int .i64 fresh,.int .i64 win] w (Vc.Ret (.tuple #[.slice none 0 0,.bool false]) w):=by
 go_enter Tryz.func157,Tryz.ntmps157
 go_wp2
 go_loopw [10,12] (fun f i wr=>f=.int .i64 (-1)∧i=.int .i64 0∧Below w.heap.size w wr) (fun _ _ _=>0)
 case atStart=>exact⟨rfl,rfl,Below.refl _ _⟩
 case round =>
  obtain⟨rfl,rfl,hB⟩:=hrel
  go_wp2
  go_loopw [13,14] (fun f i wq=>f=.bool false∧i=.int .i64 1∧Below w.heap.size w wq) (fun _ _ _=>0)
  case atStart=>exact⟨rfl,rfl,hB⟩
  case round =>
   obtain⟨rfl,rfl,hC⟩:=hrel
   go_wp2
   go_region
   go_wp2
   refine bodyPost_ret (by simp [results,Tryz.results157,go_sem];try rfl) rfl ⟨?_, ?_⟩
   ·rfl
   ·exact hC.drew
set_option maxHeartbeats 4000000 in
theorem zwp(w:World)(a:Addr)(c:Nat)(now fresh win:Int):Calls Tryz.prog 157 #[.slice (some a) 0 c,.int .i64 now,.int .i64 fresh,.int .i64 win] w (Vc.Ret (.tuple #[.slice none 0 0,.bool false]) w):=by
 go_enter Tryz.func157,Tryz.ntmps157
 go_wp2
 go_loopw [10,12] (fun f i wr=>f=.int .i64 (-1)∧i=.int .i64 0∧Below w.heap.size w wr) (fun _ _ _=>0)
 case atStart=>exact⟨rfl,rfl,Below.refl _ _⟩
 case round =>
  obtain⟨rfl,rfl,hB⟩:=hrel
  go_wp2
  go_loopw [13,14] (fun f i wq=>f=.bool false∧i=.int .i64 1∧Below w.heap.size w wq) (fun _ _ _=>0)
  case atStart=>exact⟨rfl,rfl,hB⟩
  case round =>
   obtain⟨rfl,rfl,hC⟩:=hrel
   go_wp2
   go_region
   go_wp2
   refine bodyPost_ret (by simp [results,Tryz.results157,go_sem];try rfl) rfl ⟨?_, ?_⟩
   ·rfl
   ·exact hC.drew
theorem zqn(s:Sn):∀ v∈snc s,v.oneCell'=true:=fun v hv=>by
 simp only [snc,List.mem_cons,List.not_mem_nil,or_false]at hv;rcases hv with rfl | rfl | rfl <;> rfl
theorem zos(from':Int):∀ s:List Sn,s.Pairwise (fun a b=>a.t≤b.t)→(s.filter fun x=>decide (x.t≤from'))=s.take (s.filter fun x=>decide (x.t≤from')).length∧(s.filter fun x => !decide (x.t≤from'))=s.drop (s.filter fun x=>decide (x.t≤from')).length
  | [],_=>⟨rfl,rfl⟩
  | a::l,h=>by
    rw [List.pairwise_cons]at h;obtain⟨h1,h2⟩:=zos from' l h.2;by_cases ha:a.t≤from'
    · rw [List.filter_cons_of_pos (by simpa using ha),List.filter_cons_of_neg (by simpa using ha),List.length_cons,List.take_succ_cons,List.drop_succ_cons,← h1,← h2];exact⟨rfl,rfl⟩
    · have e1:(a::l).filter (fun x=>decide (x.t≤from'))=[]:=by
        rw [List.filter_eq_nil_iff];intro x hx;rcases List.mem_cons.1 hx with rfl | hx
        · simpa using ha
        · have:=h.1 x hx
          simp only [decide_eq_true_eq];omega
      have e2:(a::l).filter (fun x => !decide (x.t≤from'))=a::l:=by
        rw [List.filter_eq_self];intro x hx;rcases List.mem_cons.1 hx with rfl | hx
        · simpa using ha
        · have:=h.1 x hx
          simp only [Bool.not_eq_true',decide_eq_false_iff_not];omega
      rw [e1,e2];exact⟨rfl,rfl⟩
theorem zps(fresh:Int)(a b:Sn):∀ p:List Sn,gapsB fresh (p ++ [a,b])=(gapsB fresh (p ++ [a]) && decide (b.t - a.t≤fresh))
  | []=>by simp [gapsB]
  | [c]=>by simp [gapsB]
  | c::d::p=>by
    have:=zps fresh a b (d::p)
    simp only [List.cons_append]at this ⊢;simp only [gapsB,this,Bool.and_assoc]
theorem zxp{fresh:Int}{out:List Sn}{i:Nat}{a p:Sn}(h:out[i]? = some a)(hp:out[i - 1]? = some p)(h1:1≤i):gapsB fresh (out.take (i + 1))=(gapsB fresh (out.take i) && decide (a.t - p.t≤fresh)):=by
 obtain⟨j,rfl⟩:∃ j,i=j + 1:=⟨i - 1,by omega⟩;rw [Nat.add_sub_cancel]at hp;rw [List.take_add_one (i:=j + 1),h,List.take_add_one (i:=j),hp];simp only [Option.toList_some,List.append_assoc,List.cons_append,List.nil_append];exact zps fresh p a _
def IW(init:Bool)(fresh:Int)(out:List Sn):List Vl→Prop:=fun L=>∃ i:Nat,L=[.b (init && gapsB fresh (out.take i)),.i i]∧1≤i∧(i≤out.length∨i=1)
theorem zji(init:Bool)(fresh:Int)(out:List Sn):IW init fresh out [.b init,.i 1]:=by
 refine⟨1, ?_,Nat.le_refl _,.inr rfl⟩
 have:gapsB fresh (out.take 1)=true:=by
  match out with
  | []=>rfl
  | [a]=>rfl
  | a::b::l=>rfl
 rw [this,Bool.and_true];rfl
section
variable {out:List Sn} {l0:List OV} {init:Bool} {fresh now:Int} {w:World} {QM:World→Value→Prop} (hb:∀ s∈out,0≤s.t∧s.t≤1073741824) (hw:0≤now∧now≤1073741824) (hf:0≤fresh∧fresh≤1000) (hn:out.length≤4000) (hne:init=true→out ≠ [])
 (hQ:∀ b c n a w' r,Below w.heap.size w w'→Vc.RowOk w.heap.size b c n a (out.flatMap snc) 3 61 w'→r=(init && gapsB fresh out && decide (now - endT out≤fresh))→QM w' (.tuple #[Vc.ownV b c n a,.bool r]))
include hb hw hf hn hne hQ
theorem zjca(hL:l0.map (·.1)=out.flatMap snc)(b1:Bool)(x:Int)(hI:IW init fresh out [.b b1,.i x]):Vj_ullageref10_sight_T2 l0 x fresh (IW init fresh out) (msO out.length) b1 now w QM:=by
 obtain⟨i,hy,h1,hi⟩:=hI;simp only [List.cons.injEq,Vl.i.injEq,Vl.b.injEq,and_true]at hy;obtain⟨rfl,rfl⟩:=hy
 have hll:l0.length=out.length * 3:=by
  have:=congrArg List.length hL
  rwa [List.length_map,Vc.zia zf]at this
 unfold Vj_ullageref10_sight_T2;simp only [List.append_nil,hL,Int.toNat_natCast];rintro x hx;obtain rfl:x=(out.length:Nat):=by omega
 refine iteI (fun hlt => ?_) (fun hge => ?_)
 ·have hil:i < out.length:=by omega
  have hk:out[i]? = some out[i]:=List.getElem?_eq_getElem hil;generalize out[i]=a at hk;have hk':out[i - 1]? = some (out[i - 1]'(by omega)):=List.getElem?_eq_getElem (by omega);generalize out[i - 1]'(by omega)=p at hk';have ha:=hb a (List.mem_of_getElem? hk);have hp:=hb p (List.mem_of_getElem? hk');have G:=zxp (fresh:=fresh) hk hk' h1;rintro y hy;obtain rfl:y=(out.length:Nat):=by omega
  refine⟨by omega,by omega,a.t,(Vc.zi zf hk (by decide):_=(snc a)[1]?), ?_⟩;rintro x1 rfl;rw [zc (x:=(i:Int) - 1) (by omega),show ((i:Int) - 1).toNat=i - 1 by omega];rintro y hy;obtain rfl:y=(out.length:Nat):=by omega
  refine⟨by omega,by omega,p.t,(Vc.zi zf hk' (by decide):_=(snc p)[1]?), ?_⟩;rintro x2 rfl;rw [zc (x:=a.t - p.t) (by omega)];refine iteI (fun hf => ?_) (fun hf => ?_)
  ·rintro x3 rfl;rw [zc (x:=(i:Int) + 1) (by omega)];refine⟨⟨i + 1, ?_,by omega,by omega⟩,by simp only [msO];omega⟩;rw [G,decide_eq_false (by omega),Bool.and_false,Bool.and_false];rfl
  ·rintro x3 rfl;rw [zc (x:=(i:Int) + 1) (by omega)];refine⟨⟨i + 1, ?_,by omega,by omega⟩,by simp only [msO];omega⟩;rw [G,decide_eq_true (by omega),Bool.and_true];rfl
 ·rw [List.take_of_length_le (by omega)];refine iteI (fun hb1 => ?_) (fun hb1 => ?_)
  ·have hne':out ≠ []:=hne (by
    rw [Bool.and_eq_true]at hb1;exact hb1.1)
   have hpos:0 < out.length:=List.length_pos_iff.2 hne';have hk:out[out.length - 1]? = some (out[out.length - 1]'(by omega)):=List.getElem?_eq_getElem (by omega);have hl:out.getLast? = some (out[out.length - 1]'(by omega)):=by rw [List.getLast?_eq_getElem?,hk]
   generalize out[out.length - 1]'(by omega)=a at hk hl;have ha:=hb a (List.mem_of_getElem? hk);rintro y hy;obtain rfl:y=(out.length:Nat):=by omega
   rintro x1 rfl;rw [zc (x:=((out.length:Nat):Int) - 1) (by omega),show (((out.length:Nat):Int) - 1).toNat=out.length - 1 by omega];rintro y hy;obtain rfl:y=(out.length:Nat):=by omega
   refine⟨by omega,by omega,a.t,(Vc.zi zf hk (by decide):_=(snc a)[1]?), ?_⟩;rintro x2 rfl;rw [zc (x:=now - fresh) (by omega)];rintro β w' hB ⟨hr,_⟩;refine hQ _ _ _ _ w' _ hB hr ?_;rw [hb1,Bool.true_and];unfold endT;rw [hl];show decide (a.t ≥ now - fresh)=decide (now - a.t≤fresh);exact decide_eq_decide.2 (by omega)
  ·rintro β w' hB ⟨hr,_⟩;refine hQ _ _ _ _ w' _ hB hr ?_;rw [Bool.eq_false_iff.2 hb1,Bool.false_and]
theorem zkca{z:Sn}{nw:List Sn}(ho:out=z::nw)(hL:l0.map (·.1)=nw.flatMap snc)(b1:Bool)(x:Int)(hI:IW init fresh out [.b b1,.i x]):Vj_ullageref10_sight_T1 l0 x z.nm z.t z.v fresh (IW init fresh out) (msO out.length) b1 now w QM:=by
 obtain⟨i,hy,h1,hi⟩:=hI;simp only [List.cons.injEq,Vl.i.injEq,Vl.b.injEq,and_true]at hy;obtain⟨rfl,rfl⟩:=hy
 have hll:l0.length=nw.length * 3:=by
  have:=congrArg List.length hL
  rwa [List.length_map,Vc.zia zf]at this
 have hol:out.length=nw.length + 1:=by rw [ho];rfl
 have hC:(.string ⟨z.nm.toArray⟩:Value)::(.int .i64 z.t:Value)::(.int .i64 z.v:Value)::nw.flatMap snc=out.flatMap snc:=by rw [ho];rfl
 unfold Vj_ullageref10_sight_T1;simp only [List.append_nil,hL,hC,Int.toNat_natCast];rintro x hx;obtain rfl:x=(out.length:Nat):=by omega
 refine iteI (fun hlt => ?_) (fun hge => ?_)
 ·have hil:i < out.length:=by omega
  have hk:out[i]? = some out[i]:=List.getElem?_eq_getElem hil;generalize out[i]=a at hk;have hk':out[i - 1]? = some (out[i - 1]'(by omega)):=List.getElem?_eq_getElem (by omega);generalize out[i - 1]'(by omega)=p at hk';have ha:=hb a (List.mem_of_getElem? hk);have hp:=hb p (List.mem_of_getElem? hk');have G:=zxp (fresh:=fresh) hk hk' h1;rintro y hy;obtain rfl:y=(out.length:Nat):=by omega
  refine⟨by omega,by omega,a.t,(Vc.zi zf hk (by decide):_=(snc a)[1]?), ?_⟩;rintro x1 rfl;rw [zc (x:=(i:Int) - 1) (by omega),show ((i:Int) - 1).toNat=i - 1 by omega];rintro y hy;obtain rfl:y=(out.length:Nat):=by omega
  refine⟨by omega,by omega,p.t,(Vc.zi zf hk' (by decide):_=(snc p)[1]?), ?_⟩;rintro x2 rfl;rw [zc (x:=a.t - p.t) (by omega)];refine iteI (fun hf => ?_) (fun hf => ?_)
  ·rintro x3 rfl;rw [zc (x:=(i:Int) + 1) (by omega)];refine⟨⟨i + 1, ?_,by omega,by omega⟩,by simp only [msO];omega⟩;rw [G,decide_eq_false (by omega),Bool.and_false,Bool.and_false];rfl
  ·rintro x3 rfl;rw [zc (x:=(i:Int) + 1) (by omega)];refine⟨⟨i + 1, ?_,by omega,by omega⟩,by simp only [msO];omega⟩;rw [G,decide_eq_true (by omega),Bool.and_true];rfl
 ·rw [List.take_of_length_le (by omega)];refine iteI (fun hb1 => ?_) (fun hb1 => ?_)
  ·have hne':out ≠ []:=hne (by
    rw [Bool.and_eq_true]at hb1;exact hb1.1)
   have hpos:0 < out.length:=List.length_pos_iff.2 hne';have hk:out[out.length - 1]? = some (out[out.length - 1]'(by omega)):=List.getElem?_eq_getElem (by omega);have hl:out.getLast? = some (out[out.length - 1]'(by omega)):=by rw [List.getLast?_eq_getElem?,hk]
   generalize out[out.length - 1]'(by omega)=a at hk hl;have ha:=hb a (List.mem_of_getElem? hk);rintro y hy;obtain rfl:y=(out.length:Nat):=by omega
   rintro x1 rfl;rw [zc (x:=((out.length:Nat):Int) - 1) (by omega),show (((out.length:Nat):Int) - 1).toNat=out.length - 1 by omega];rintro y hy;obtain rfl:y=(out.length:Nat):=by omega
   refine⟨by omega,by omega,a.t,(Vc.zi zf hk (by decide):_=(snc a)[1]?), ?_⟩;rintro x2 rfl;rw [zc (x:=now - fresh) (by omega)];rintro β w' hB ⟨hr,_⟩;refine hQ _ _ _ _ w' _ hB hr ?_;rw [hb1,Bool.true_and];unfold endT;rw [hl];show decide (a.t ≥ now - fresh)=decide (now - a.t≤fresh);exact decide_eq_decide.2 (by omega)
  ·rintro β w' hB ⟨hr,_⟩;refine hQ _ _ _ _ w' _ hB hr ?_;rw [Bool.eq_false_iff.2 hb1,Bool.false_and]
end
def SgQ(w:World)(p:List Sn × Bool):World→Value→Prop:=fun w' u=>∃ b c n a,u=.tuple #[Vc.ownV b c n a,.bool p.2]∧Vc.RowOk w.heap.size b c n a (p.1.flatMap snc) 3 61 w'
def msX(n:Nat):List Vl→Nat | [_,.i a]=>n - a.toNat | _=>0
set_option maxHeartbeats 4000000 in
theorem zer{w:World}{b m:Nat}{s:List Sn}{now fresh win:Int}(hc:∀ j u,(s.flatMap snc)[j]? = some u→w.cell? ⟨b,j,none⟩=some u)(hne:s ≠ [])(hm:s.length≤m)(hn:s.length≤1000)(hst:s.Pairwise fun a b=>a.t≤b.t)
  (hb:∀ x∈s,0≤x.t∧x.t≤1073741824) (hw:0≤now∧now≤1073741824) (hf:0≤fresh∧fresh≤1000) (hwi:0≤win∧win≤1000) :
  Calls Tryz.prog 157 #[.slice (some ⟨b,0,none⟩) s.length m,.int .i64 now,.int .i64 fresh,.int .i64 win] w (fun e w'=>∃ u,e=.returned u∧Below w.heap.size w w'∧((fun _:Value=>False) u∨SgQ w (sightP s now fresh win) w' u)):=by
 have hpos:0 < s.length:=List.length_pos_iff.2 hne
 have e0:Value.slice (some ⟨b,0,none⟩) s.length m=(if false=true then .slice none 0 0 else .slice (some (Vc.qad (b,0) (Int.toNat ((s.length:Nat):Int)) (Int.toNat ((m:Nat):Int)))) (Int.toNat ((s.length:Nat):Int)) (Int.toNat ((m:Nat):Int)):Value):=by
  rw [if_neg (by decide),Int.toNat_natCast,Int.toNat_natCast,Vc.zih (by omega)]
 have hnb:¬ (false=true):=by decide
 have cellAt:∀ (i:Nat) (z:Sn),s[i]? = some z→w.cell? ⟨b,0 + i * 3 + 0,none⟩=some (.string ⟨z.nm.toArray⟩)∧w.cell? ⟨b,0 + i * 3 + 1,none⟩=some (.int .i64 z.t)∧w.cell? ⟨b,0 + i * 3 + 2,none⟩=some (.int .i64 z.v):=fun i z hk=>by
  simp only [Nat.zero_add];exact⟨hc (i * 3 + 0) _ (Vc.zi zf hk (by decide)),hc (i * 3 + 1) _ (Vc.zi zf hk (by decide)),hc (i * 3 + 2) _ (Vc.zi zf hk (by decide))⟩
 obtain⟨hs1,hs2⟩:=zos (now - win) s hst;obtain⟨k,hk⟩:∃ k,k=(s.filter fun x=>decide (x.t≤now - win)).length:=⟨_,rfl⟩;rw [← hk]at hs1 hs2;have hkn:k≤s.length:=by rw [hk];exact List.length_filter_le _ _
 have hnew:(s.drop k).length=s.length - k:=List.length_drop;obtain⟨L,hL⟩:=Vc.zhz zqn (s.drop k)
 have hLl:L.length=(s.length - k) * 3:=by
  have:=congrArg List.length hL
  rwa [List.length_map,Vc.zia zf,hnew]at this
 have slAt:Vc.SlAt w (.slice (some ⟨b,0 + k * 3,none⟩) (s.length - k) (m - k)) 3 (L.map (·.1)):=by
  rw [hL];refine .inr (.inr ⟨b,0 + k * 3,_,_,rfl,by rw [Vc.zia zf,hnew],fun j u hj => ?_⟩);rw [Nat.zero_add];refine hc (k * 3 + j) u ?_;have hsp:s.flatMap snc=(s.take k).flatMap snc++(s.drop k).flatMap snc:=by rw [← List.flatMap_append,List.take_append_drop]
  have hlt:((s.take k).flatMap snc).length=k * 3:=by rw [Vc.zia zf,List.length_take];omega
  rw [hsp,List.getElem?_append_right (by omega),hlt,Nat.add_sub_cancel_left];exact hj
 have slAt0:k=s.length→m=k→Vc.SlAt w (.slice (some ⟨b,0,none⟩) (s.length - k) (m - k)) 3 (L.map (·.1)):=fun h1 h2=>by
  rw [hL,h1,List.drop_length,Nat.sub_self];exact .inr (.inr ⟨b,0,0,m - s.length,rfl,rfl,fun j u hj=>by simp at hj⟩)
 rw [e0]
 refine zfg (b,0) (s.length:Nat) (m:Nat) now fresh win false w (fun _=>False) (SgQ w (sightP s now fresh win))
  ⟨fun L=>∃ i:Nat,L=[.i ((((s.take i).filter fun x=>decide (x.t≤now - win)).length:Nat) - 1:Int),.i i]∧i≤s.length,msX s.length,⟨0,by simp,Nat.zero_le _⟩, ?_⟩
 rintro x5 x6 ⟨i,hy,hi⟩;simp only [List.cons.injEq,Vl.i.injEq,and_true]at hy;obtain⟨rfl,rfl⟩:=hy;refine⟨by omega,.inl hnb,iteI (fun hlt => ?_) (fun hge => ?_)⟩
 ·have hz:s[i]? = some (s[i]'(by omega)):=List.getElem?_eq_getElem (by omega);generalize s[i]'(by omega)=z at hz;obtain⟨q0,q1,q2⟩:=cellAt i z hz;simp only [Int.toNat_natCast];refine⟨hnb,by omega,hlt,z.t,q1, ?_⟩;rintro x8 rfl;rw [zc (x:=now - win) (by omega)]
  have hT:(s.take (i + 1)).filter (fun x=>decide (x.t≤now - win))=(s.take i).filter (fun x=>decide (x.t≤now - win)) ++ [z].filter (fun x=>decide (x.t≤now - win)):=by
   rw [List.take_add_one,hz,List.filter_append];rfl
  refine iteI (fun ht => ?_) (fun ht => ?_)
  ·rintro x9 rfl;rw [zc (by omega)];refine⟨⟨i + 1, ?_,by omega⟩,by simp only [msX];omega⟩
   have hall:(s.take i).filter (fun x=>decide (x.t≤now - win))=s.take i:=by
    rw [List.filter_eq_self];intro x hx;obtain⟨j,hj⟩:=List.mem_iff_getElem?.1 hx
    have hji:j < i:=by
     have:=(List.getElem?_eq_some_iff.1 hj).1
     rw [List.length_take]at this;omega
    rw [List.getElem?_take_of_lt hji]at hj
    have:=List.pairwise_iff_getElem.1 hst j i (by omega) (by omega) hji
    rw [(List.getElem?_eq_some_iff.1 hj).2,(List.getElem?_eq_some_iff.1 hz).2]at this;simp only [decide_eq_true_eq];omega
   rw [hT,hall,List.filter_cons_of_pos (by simpa using ht),List.filter_nil,List.length_append,List.length_take,Nat.min_eq_left hi];simp
  ·rintro x9 rfl;rw [zc (by omega)];refine⟨⟨i + 1, ?_,by omega⟩,by simp only [msX];omega⟩;rw [hT,List.filter_cons_of_neg (by simpa using ht),List.filter_nil,List.append_nil];rfl
 ·obtain rfl:i=s.length:=by omega
  rw [List.take_length,← hk]
  have QM:∀ (out:List Sn) (wh:Bool),sightP s now fresh win=(out,wh)→∀ b c n a w' r,Below w.heap.size w w'→Vc.RowOk w.heap.size b c n a (out.flatMap snc) 3 61 w'→r=wh→SgQ w (sightP s now fresh win) w' (.tuple #[Vc.ownV b c n a,.bool r]):=fun out wh h b c n a w' r _ hr e=>by
   rw [h,e];exact⟨b,c,n,a,rfl,hr⟩
  have hdb:∀ x∈s.drop k,0≤x.t∧x.t≤1073741824:=fun x hx=>hb x (List.mem_of_mem_drop hx)
  have hS:sightP s now fresh win=match (s.take k).getLast? with
    | some f=>if now - win - fresh≤f.t then (f::s.drop k,gapsB fresh (f::s.drop k) && decide (now - endT (f::s.drop k)≤fresh))else (s.drop k,false)
    | none=>(s.drop k,false):=by
   unfold sightP;dsimp only;rw [hs1,hs2];cases (s.take k).getLast? <;> rfl
  have t2:sightP s now fresh win=(s.drop k,false)→∀ (b1:Bool) (x:Int),IW false fresh (s.drop k) [.b b1,.i x]→Vj_ullageref10_sight_T2 L x fresh (IW false fresh (s.drop k)) (msO (s.drop k).length) b1 now w _:=fun hs b1 x hI =>
   zjca (out:=s.drop k) (init:=false) hdb hw hf (by omega) (fun h=>by cases h) (fun b c n a w' r h1 h2 h3=>QM (s.drop k) false hs b c n a w' r h1 h2 (by rw [h3,Bool.false_and,Bool.false_and])) hL b1 x hI
  have bnd:∀ x16:Int,x16=(((0 + (L.length + 0)) / 3:Nat):Int)→x16≤1073741824:=fun x h=>by omega
  have bnd3:∀ x16:Int,x16=(((3 + (L.length + 0)) / 3:Nat):Int)→x16≤1073741824:=fun x h=>by omega
  refine iteI (fun h0 => ?_) (fun h0 => ?_)
  ·obtain⟨j,rfl⟩:∃ j,k=j + 1:=⟨k - 1,by omega⟩;have ej:((j + 1:Nat):Int) - 1=(j:Int):=by omega
   have hz:s[j]? = some (s[j]'(by omega)):=List.getElem?_eq_getElem (by omega);generalize s[j]'(by omega)=z at hz;obtain⟨q0,q1,q2⟩:=cellAt j z hz;have hgl:(s.take (j + 1)).getLast? = some z:=by rw [List.take_add_one,hz];simp
   rw [hgl]at hS;dsimp only at hS;have hzb:=hb z (List.mem_of_getElem? hz)
   have SL:(j + 1:Nat) < m→Vc.SlAt w (.slice (some ⟨b,0 + (Int.toNat (0 + ((j + 1:Nat):Int))) * 3,none⟩) (Int.toNat (((s.length:Nat):Int) - ((j + 1:Nat):Int))) (Int.toNat (((m:Nat):Int) - ((j + 1:Nat):Int)))) 3 (L.map (·.1)):=fun _=>by
    rw [show Int.toNat (0 + ((j + 1:Nat):Int))=j + 1 by omega,show Int.toNat (((s.length:Nat):Int) - ((j + 1:Nat):Int))=s.length - (j + 1) by omega,show Int.toNat (((m:Nat):Int) - ((j + 1:Nat):Int))=m - (j + 1) by omega];exact slAt
   have SL0:¬ (((j + 1:Nat):Int) < (m:Int))→Vc.SlAt w (.slice (some ⟨b,0,none⟩) (Int.toNat (((s.length:Nat):Int) - ((j + 1:Nat):Int))) (Int.toNat (((m:Nat):Int) - ((j + 1:Nat):Int)))) 3 (L.map (·.1)):=fun h=>by
    rw [show Int.toNat (((s.length:Nat):Int) - ((j + 1:Nat):Int))=s.length - (j + 1) by omega,show Int.toNat (((m:Nat):Int) - ((j + 1:Nat):Int))=m - (j + 1) by omega];exact slAt0 (by omega) (by omega)
   rw [ej];refine⟨hnb,by omega,by omega,z.t,q1, ?_⟩;rintro x8 rfl;rw [zc (x:=now - win) (by omega)];rintro x9 rfl;rw [zc (x:=now - win - fresh) (by omega)];refine iteI (fun hA=>⟨hnb,by omega,by omega,z.nm,q0,z.t,q1,z.v,q2, ?_⟩) (fun hA => ?_)
   ·rw [if_pos hA]at hS;have hi:decide (z.t ≥ now - win - fresh)=true:=decide_eq_true hA;rw [hi]
    have t1:∀ (b1:Bool) (x:Int),IW true fresh (z::s.drop (j + 1)) [.b b1,.i x]→Vj_ullageref10_sight_T1 L x z.nm z.t z.v fresh (IW true fresh (z::s.drop (j + 1))) (msO (z::s.drop (j + 1)).length) b1 now w (SgQ w (sightP s now fresh win)):=fun b1 x hI =>
     zkca (out:=z::s.drop (j + 1)) (init:=true) (fun x hx=>(List.mem_cons.1 hx).elim (fun e=>e▸hzb) (hdb x)) hw hf (by rw [List.length_cons];omega) (fun _=>List.cons_ne_nil _ _) (fun b c n a w' r h1 h2 h3=>QM _ _ hS b c n a w' r h1 h2 (by rw [h3,Bool.true_and])) rfl hL b1 x hI
    rintro x12 rfl;rw [zc (x:=(j:Int) + 1) (by omega),show (j:Int) + 1=((j + 1:Nat):Int) by omega];refine⟨hnb,by omega,by omega,by omega,by omega,by omega,by omega, ?_⟩;rintro x13 rfl x14 rfl;refine iteI (fun hlt => ?_) (fun hge2=>⟨L,SL0 hge2,fun x hx=>⟨bnd3 x hx,_,_,zji true fresh (z::s.drop (j + 1)),t1⟩⟩);rintro x15 rfl;exact⟨L,SL (by omega),fun x hx=>⟨bnd3 x hx,_,_,zji true fresh (z::s.drop (j + 1)),t1⟩⟩
   ·rw [if_neg hA]at hS;have hi:decide (z.t ≥ now - win - fresh)=false:=decide_eq_false hA;rw [hi];rintro x12 rfl;rw [zc (x:=(j:Int) + 1) (by omega),show (j:Int) + 1=((j + 1:Nat):Int) by omega];refine⟨hnb,by omega,by omega,by omega,by omega,by omega,by omega, ?_⟩;rintro x13 rfl x14 rfl;refine iteI (fun hlt => ?_) (fun hge2=>⟨L,SL0 hge2,fun x hx=>⟨bnd x hx,_,_,zji false fresh (s.drop (j + 1)),t2 hS⟩⟩);rintro x15 rfl;exact⟨L,SL (by omega),fun x hx=>⟨bnd x hx,_,_,zji false fresh (s.drop (j + 1)),t2 hS⟩⟩
  ·obtain rfl:k=0:=by omega
   have hS0:sightP s now fresh win=(s.drop 0,false):=hS;rintro x7 rfl;rw [zc (by omega),show (((0:Nat):Int) - 1 + 1)=0 by omega];refine⟨hnb,by omega,by omega,by omega,by omega,by omega,by omega, ?_⟩;rintro x13 rfl x14 rfl;refine iteI (fun hlt => ?_) (fun hge2=>absurd (show (0:Int) < m by omega) hge2);rintro x15 rfl;refine⟨L, ?_,fun x hx=>⟨bnd x hx,_,_,zji false fresh (s.drop 0),t2 hS0⟩⟩;rw [show Int.toNat (((s.length:Nat):Int) - 0)=s.length - 0 by omega,show Int.toNat (((m:Nat):Int) - 0)=m - 0 by omega];exact slAt
end Go.Proofs.YtdjgnbkclcjiiaaGreatDoor
