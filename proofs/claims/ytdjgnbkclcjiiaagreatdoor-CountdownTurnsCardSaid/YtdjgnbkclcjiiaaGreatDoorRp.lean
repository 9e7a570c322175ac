import Derived.Test.YtdjgnbkclcjiiaaGreatDoorCq
set_option linter.unusedVariables false
set_option linter.unusedSimpArgs false
namespace Go.Proofs.YtdjgnbkclcjiiaaGreatDoor
open Go Go.RowKit Vc
inductive Rl where
 | mk (op ask:Int) (nm:List UInt8) (wi cm n:Int) (v:Value) (ks:List Rl)
def Rl.op:Rl→Int | .mk a _ _ _ _ _ _ _=>a
def Rl.ask:Rl→Int | .mk _ a _ _ _ _ _ _=>a
def Rl.nm:Rl→List UInt8 | .mk _ _ a _ _ _ _ _=>a
def Rl.wi:Rl→Int | .mk _ _ _ a _ _ _ _=>a
def Rl.cm:Rl→Int | .mk _ _ _ _ a _ _ _=>a
def Rl.n:Rl→Int | .mk _ _ _ _ _ a _ _=>a
def Rl.v:Rl→Value | .mk _ _ _ _ _ _ a _=>a
def Rl.ks:Rl→List Rl | .mk _ _ _ _ _ _ _ a=>a
def rlc(r:Rl):List Value := [.int .i64 r.op,.int .i64 r.ask,.string ⟨r.nm.toArray⟩,.int .i64 r.wi,.int .i64 r.cm,.int .i64 r.n,r.v]
theorem zbe(r:Rl):(rlc r).length=7:=rfl
def RV7(r:Rl):Value := .agg #[.int .i64 r.op,.int .i64 r.ask,.string ⟨r.nm.toArray⟩,.int .i64 r.wi,.int .i64 r.cm,.int .i64 r.n,r.v]
mutual
def nodesR:Rl→Nat | .mk _ _ _ _ _ _ _ ks=>1 + nodesL ks
def nodesL:List Rl→Nat | []=>0 | r::l=>nodesR r + nodesL l
end
mutual
def depthR:Rl→Nat | .mk _ _ _ _ _ _ _ ks=>1 + depthL ks
def depthL:List Rl→Nat | []=>0 | r::l=>max (depthR r) (depthL l)
end
theorem zjh(r:Rl):1≤nodesR r:=by cases r;simp only [nodesR];omega
mutual
def RlAt(w:World):Rl→Prop | .mk _ _ _ _ _ _ v ks=>SlAt w v 7 (ks.flatMap rlc)∧RlAtL w ks
def RlAtL(w:World):List Rl→Prop | []=>True | r::l=>RlAt w r∧RlAtL w l
end
theorem zeb{w:World}{r:Rl}(h:RlAt w r):SlAt w r.v 7 (r.ks.flatMap rlc)∧RlAtL w r.ks:=by cases r;simpa only [RlAt,Rl.v,Rl.ks]using h
theorem zwe{w:World}:∀ {l:List Rl},RlAtL w l→∀ r∈l,RlAt w r
  | a::l,h,r,hr=>by
    simp only [RlAtL]at h;rcases List.mem_cons.1 hr with rfl | hr
    · exact h.1
    · exact zwe h.2 r hr
mutual
theorem RlAt.below{w w':World}(hb:Below w.heap.size w w'):∀ {r:Rl},RlAt w r→RlAt w' r
  | .mk _ _ _ _ _ _ v ks,h=>by
    simp only [RlAt]at h ⊢;exact⟨zcb hb h.1,RlAtL.below hb h.2⟩
theorem RlAtL.below{w w':World}(hb:Below w.heap.size w w'):∀ {l:List Rl},RlAtL w l→RlAtL w' l
  | [],h=>trivial
  | r::l,h=>by
    simp only [RlAtL]at h ⊢;exact⟨RlAt.below hb h.1,RlAtL.below hb h.2⟩
end
mutual
def RlSz:Rl→Prop | .mk _ _ nm _ _ _ _ ks=>nm.length < 4611686018427387904∧ks.length < 4611686018427387904∧RlSzL ks
def RlSzL:List Rl→Prop | []=>True | r::l=>RlSz r∧RlSzL l
end
theorem zok:∀ {l:List Rl},RlSzL l→∀ r∈l,RlSz r
  | a::l,h,r,hr=>by
    simp only [RlSzL]at h;rcases List.mem_cons.1 hr with rfl | hr
    · exact h.1
    · exact zok h.2 r hr
def letB(c:UInt8):Bool:=decide (97≤c.toNat) && decide (c.toNat≤122)
def digB(c:UInt8):Bool:=decide (48≤c.toNat) && decide (c.toNat≤57)
def markB(c:UInt8):Bool:=letB c || digB c || decide (c.toNat=45)
def wMost:List UInt8 := [109,111,115,116]
def wLeast:List UInt8 := [108,101,97,115,116]
def nameB(s:List UInt8):Bool:=decide (1≤s.length) && decide (s.length≤32) && (match s with | c::_=>letB c | []=>false) && !decide (s=wMost) && !decide (s=wLeast) && s.all markB
def inB(n lo hi:Int):Bool:=decide (lo≤n) && decide (n≤hi)
def atomB(r:Rl):Bool:=inB r.ask 0 2 && nameB r.nm && inB r.wi 0 1000 && (!decide (r.ask=0) || decide (r.wi=0)) && inB r.cm 0 5 && inB r.n (-1073741824) 1073741824 && decide (r.ks.length=0)
def bareB(r:Rl):Bool:=decide (r.ask=0) && decide (r.nm=[]) && decide (r.wi=0) && decide (r.cm=0) && decide (r.n=0)
def kidsB(op:Int)(n:Nat):Bool:=(decide (op=2) && decide (n=1)) || ((decide (op=3) || decide (op=4)) && decide (n=2))
mutual
def rightR:Rl→Bool | .mk op ask nm wi cm n v ks=>if op=1 then atomB (.mk op ask nm wi cm n v ks)else bareB (.mk op ask nm wi cm n v ks) && kidsB op ks.length && rightL ks
def rightL:List Rl→Bool | []=>true | r::l=>rightR r && rightL l
end
def validR(r:Rl):Bool:=decide (nodesR r≤200) && decide (depthR r≤20) && rightR r
def fmK(N D O:TypeId)(op:Int):List Value→Value
 | [a]=>.iface N (.agg #[a])
 | [a,b]=>.iface (if op=3 then D else O) (.agg #[a,b])
 | _=>.nilIface
mutual
def fmV(A N D O:TypeId):Rl→Value
 | .mk op ask nm wi cm n v ks=>if op=1 then .iface A (RV7 (.mk op ask nm wi cm n v ks))else fmK N D O op (fmL A N D O ks)
def fmL(A N D O:TypeId):List Rl→List Value
 | []=>[]
 | r::l=>fmV A N D O r::fmL A N D O l
end
section
variable (A N D O:TypeId)
def mkE(op:Int):Nat × Option (List Value)→Nat × Value × Bool
 | (n,none)=>(n,.nilIface,false)
 | (n,some vs)=>if kidsB op vs.length=true then (n,fmK N D O op vs,true)else (n,.nilIface,false)
def mkC(a:Nat × Value × Bool)(k:Nat→Nat × Option (List Value)):Nat × Option (List Value) :=
 if a.2.2=true then (match k a.1 with
  | (n,none)=>(n,none)
  | (n,some vs)=>(n,some (a.2.1::vs)))else (a.1,none)
mutual
def mkR(n:Nat)(lv:Int):Rl→Nat × Value × Bool
  | .mk op ask nm wi cm k v ks =>
    if n + 1 > 200∨lv > 20 then (n + 1,.nilIface,false)
    else if op=1 then (n + 1,.iface A (RV7 (.mk op ask nm wi cm k v ks)),atomB (.mk op ask nm wi cm k v ks))
    else if bareB (.mk op ask nm wi cm k v ks)=false then (n + 1,.nilIface,false)
    else if ks.length > 2 then (n + 1,.nilIface,false)
    else mkE N D O op (mkL (n + 1) (lv + 1) ks)
def mkL(n:Nat)(lv:Int):List Rl→Nat × Option (List Value)
 | []=>(n,some [])
 | r::l=>mkC (mkR n lv r) (fun n=>mkL n lv l)
end
end
end Go.Proofs.YtdjgnbkclcjiiaaGreatDoor
