import Derived.Test.YtdjgnbkclcjiiaaGreatDoorRq
set_option linter.unusedVariables false
set_option linter.unusedSimpArgs false
namespace Go.Proofs.YtdjgnbkclcjiiaaGreatDoor
open Go Go.RowKit Vc
def cmpB(c a b:Int):Bool:=if c=0 then decide (a < b)else if c=1 then decide (a≤b)else if c=2 then decide (a > b)else if c=3 then decide (a ≥ b)else if c=4 then decide (a=b)else decide (a≠b)
def ansI(b:Int × Int)(c n:Int):Int :=
 if (cmpB c b.1 n && cmpB c (max b.1 (min b.2 n)) n && cmpB c b.2 n)=true then 1 else if (!cmpB c b.1 n && !cmpB c (max b.1 (min b.2 n)) n && !cmpB c b.2 n)=true then -1 else 0
theorem zmw(b:Int × Int)(c n:Int):-1≤ansI b c n∧ansI b c n≤1:=by unfold ansI;split <;> (try split) <;> omega
def valK(op:Int):List Int→Int
 | [a] => -a
 | [a,b]=>if op=3 then min a b else max a b
 | _=>0
mutual
def valR(q:Rl→Int × Int):Rl→Int
 | .mk op ask nm wi cm n v ks=>if op=1 then ansI (q (.mk op ask nm wi cm n v ks)) cm n else valK op (valL q ks)
def valL(q:Rl→Int × Int):List Rl→List Int
 | []=>[]
 | r::l=>valR q r::valL q l
end
theorem znw{op:Int}:∀ {l:List Int},(∀ x∈l,-1≤x∧x≤1) → -1≤valK op l∧valK op l≤1
 | [],h=>by simp [valK]
 | [a],h=>by have:=h a (by simp);simp only [valK];omega
 | [a,b],h=>by have h1:=h a (by simp);have h2:=h b (by simp);simp only [valK];split <;> omega
 | _::_::_::_,h=>by simp [valK]
mutual
theorem zzs(q:Rl→Int × Int):∀ r:Rl,-1≤valR q r∧valR q r≤1
  | .mk op ask nm wi cm n v ks=>by
    unfold valR;split
    · exact zmw _ _ _
    · exact znw (zat q ks)
theorem zat(q:Rl→Int × Int):∀ l:List Rl,∀ x∈valL q l,-1≤x∧x≤1
  | [],x,h=>by simp [valL]at h
  | r::l,x,h=>by
    simp only [valL,List.mem_cons]at h;rcases h with rfl | h
    · exact zzs q r
    · exact zat q l x h
end
structure Sn where
 nm:List UInt8
 (t v:Int)
end Go.Proofs.YtdjgnbkclcjiiaaGreatDoor
