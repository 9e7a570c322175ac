import Derived.Test.YtdjgnbkclcjiiaaGreatDoorRq
set_option linter.unusedVariables false
set_option linter.unusedSimpArgs false
namespace Go.Proofs.YtdjgnbkclcjiiaaGreatDoor
open Go Go.RowKit Vc
def cmpB(c a b:Int):Bool:=if c=0 then decide (a < b)else if c=1 then decide (a≤b)else if c=2 then decide (a > b)else if c=3 then decide (a ≥ b)else if c=4 then decide (a=b)else decide (a≠b)
def ansI(b:Int × Int)(c n:Int):Int :=
 if (cmpB c b.1 n && cmpB c (max b.1 (min b.2 n)) n && cmpB c b.2 n)=true then 1 else if (!cmpB c b.1 n && !cmpB c (max b.1 (min b.2 n)) n && !cmpB c b.2 n)=true then -1 else 0
theorem zny(b:Int × Int)(c n:Int):-1≤ansI b c n∧ansI b c n≤1:=by unfold ansI;split <;> (try split) <;> omega
def valK(op:Int):List Int→Int
 | [a] => -a
 | [a,b]=>if op=3 then min a b else max a b
 | _=>0
mutual
def valR(q:Rl→Int × Int):Rl→Int
 | .mk op ask nm wi cm n v ks=>if op=1 then ansI (q (.mk op ask nm wi cm n v ks)) cm n else valK op (valL q ks)
def valL(q:Rl→Int × Int):List Rl→List Int
 | []=>[]
 | r::l=>valR q r::valL q l
end
theorem zoy{op:Int}:∀ {l:List Int},(∀ x∈l,-1≤x∧x≤1) → -1≤valK op l∧valK op l≤1
 | [],h=>by simp [valK]
 | [a],h=>by have:=h a (by simp);simp only [valK];omega
 | [a,b],h=>by have h1:=h a (by simp);have h2:=h b (by simp);simp only [valK];split <;> omega
 | _::_::_::_,h=>by simp [valK]
mutual
theorem zmq(q:Rl→Int × Int):∀ r:Rl,-1≤valR q r∧valR q r≤1
  | .mk op ask nm wi cm n v ks=>by
    unfold valR;split
    · exact zny _ _ _
    · exact zoy (zmu q ks)
theorem zmu(q:Rl→Int × Int):∀ l:List Rl,∀ x∈valL q l,-1≤x∧x≤1
  | [],x,h=>by simp [valL]at h
  | r::l,x,h=>by
    simp only [valL,List.mem_cons]at h;rcases h with rfl | h
    · exact zmq q r
    · exact zmu q l x h
end
structure Sn where
 nm:List UInt8
 (t v:Int)
def snc(s:Sn):List Value := [.string ⟨s.nm.toArray⟩,.int .i64 s.t,.int .i64 s.v]
theorem zk(s:Sn):(snc s).length=3:=rfl
def snB(s:Sn):Bool:=nameB s.nm && inB s.t 0 1073741824 && inB s.v (-1073741824) 1073741824
def lastT(l:List Sn)(nm:List UInt8):Int:=l.foldl (fun a s=>if s.nm=nm then s.t else a) 0
def obsA:List Sn→List Sn→Bool
 | _,[]=>true
 | p,s::l=>nameB s.nm && inB s.t (lastT p s.nm) 1073741824 && inB s.v (-1073741824) 1073741824 && obsA (p ++ [s]) l
def obsB(l:List Sn):Bool:=obsA [] l && decide (l.length≤1000)
def sampL(l:List Sn)(nm:List UInt8)(now:Int):List Sn:=l.filter fun s=>decide (s.nm=nm) && decide (s.t≤now)
def lastQ(s:List Sn)(now fresh:Int):Int × Int:=match s.getLast? with
 | some x=>if x.t < now - fresh then (-1099511627776,1099511627776)else (x.v,x.v)
 | none=>(-1099511627776,1099511627776)
def gapsB(fresh:Int):List Sn→Bool
 | a::b::l=>decide (b.t - a.t≤fresh) && gapsB fresh (b::l)
 | _=>true
def maxV(l:List Sn):Int:=l.foldl (fun a s=>max a s.v) (-1099511627776)
def minV(l:List Sn):Int:=l.foldl (fun a s=>min a s.v) 1099511627776
def endT(l:List Sn):Int:=match l.getLast? with
 | some x=>x.t
 | none=>0
def sightP(s:List Sn)(now fresh win:Int):List Sn × Bool :=
 let old:=s.filter fun x=>decide (x.t≤now - win);let new:=s.filter fun x => !decide (x.t≤now - win)
 match old.getLast? with
 | some f=>if now - win - fresh≤f.t then (f::new,gapsB fresh (f::new) && decide (now - endT (f::new)≤fresh))else (new,false)
 | none=>(new,false)
def askQ(l:List Sn)(now fresh:Int)(r:Rl):Int × Int :=
 if r.ask=0 then lastQ (sampL l r.nm now) now fresh
 else let p:=sightP (sampL l r.nm now) now fresh r.wi
  if r.ask=1 then (maxV p.1,if p.2=true then maxV p.1 else 1099511627776)else (if p.2=true then minV p.1 else -1099511627776,minV p.1)
def judgeI(r:Rl)(l:List Sn)(now fresh:Int):Int × Int :=
 if (validR r && obsB l)=false then (0,2)else if (inB now 0 1073741824 && inB fresh 0 1000)=false then (0,4)else (valR (askQ l now fresh) r,0)
end Go.Proofs.YtdjgnbkclcjiiaaGreatDoor
