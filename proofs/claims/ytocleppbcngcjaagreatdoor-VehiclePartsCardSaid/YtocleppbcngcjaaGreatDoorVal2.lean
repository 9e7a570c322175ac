import Derived.Test.YtocleppbcngcjaaGreatDoorVal
set_option linter.unusedVariables false
set_option linter.unusedSimpArgs false
set_option linter.unusedSimpArgs false
namespace Go.Proofs.YtocleppbcngcjaaGreatDoor
open Go Go.RowKit Go.Proofs
set_option maxHeartbeats 4000000 in
set_option maxRecDepth 100000 in
theorem X'(s whole part:List UInt8)(f:Bool)(w:World)
  (hcut:∀w',Calls Tryz.prog 104 #[.string ⟨s.toArray⟩,.string ⟨#[46]⟩] w' λe iV=>e=.returned (.tuple #[.string ⟨whole.toArray⟩,.string ⟨part.toArray⟩,.bool f])/\Below w'.heap.size w' iV)
  (hlen:18<whole.length+part.length) (Zy:whole.length+part.length<4611686018427387904) :
  Calls Tryz.prog 58 #[.string ⟨s.toArray⟩] w λe w'=>e=.returned (.tuple #[.agg #[.int .i64 0,.int .i64 0,.int .i64 0,.int .i64 0,.int .i64 0],.int .i64 4])/\Below w.heap.size w w':=by
 go_enter Tryz.func58,Tryz.ntmps58
 go_wp2_with (go_at_call 104;refine (hcut _).mono ?_)
 rintro e wf ⟨rfl,bf⟩
 have fW:w.heap.size<wf.heap.size:=by
  have:=bf.size
  simp only [World.size_alloc]at this;omega
 have ky:wf.heap[w.heap.size]? = some (.cells #[.int .i64 0,.int .i64 0,.int .i64 0,.int .i64 0,.int .i64 0] 46):=by
  rw [bf.block _ (by simp only [World.size_alloc];omega)];show (w.heap.push _)[w.heap.size]? = _;rw [Array.getElem?_push_size]
 have bw:Below w.heap.size w wf:=((Below.refl w.heap.size w).alloc (Nat.le_refl _) _).trans (bf.mono (by simp only [World.size_alloc];omega));clear bf;have wS:(⟨whole.toArray⟩:ByteArray).size=whole.length:=rfl;have C5:(⟨part.toArray⟩:ByteArray).size=part.length:=rfl;have qX:IntKind.i64.wrap ((whole.length:Int)+(part.length:Int))=(whole.length:Int)+(part.length:Int):=by rw [IntKind.wrap_i64];omega
 have uH:(18<(whole.length:Int)+(part.length:Int)):=by omega
 have m0:wf.cell? ⟨w.heap.size,0,none⟩=some (.int .i64 0):=by simp [World.cell?,ky]
 have m1:wf.cell? ⟨w.heap.size,1,none⟩=some (.int .i64 0):=by simp [World.cell?,ky]
 have m2:wf.cell? ⟨w.heap.size,2,none⟩=some (.int .i64 0):=by simp [World.cell?,ky]
 have m3:wf.cell? ⟨w.heap.size,3,none⟩=some (.int .i64 0):=by simp [World.cell?,ky]
 have m4:wf.cell? ⟨w.heap.size,4,none⟩=some (.int .i64 0):=by simp [World.cell?,ky]
 have z0:wf.frozen? ⟨w.heap.size,0,none⟩=false:=by simp [World.frozen?,ky]
 have z1:wf.frozen? ⟨w.heap.size,1,none⟩=false:=by simp [World.frozen?,ky]
 have z2:wf.frozen? ⟨w.heap.size,2,none⟩=false:=by simp [World.frozen?,ky]
 have z3:wf.frozen? ⟨w.heap.size,3,none⟩=false:=by simp [World.frozen?,ky]
 have z4:wf.frozen? ⟨w.heap.size,4,none⟩=false:=by simp [World.frozen?,ky]
 go_wp2
 refine bodyPost_ret (by simp [results,Tryz.results58,go_sem,m0,m1,m2,m3,m4];try rfl) rfl ⟨?_, ?_⟩
 ·first|rfl|simp
 ·first
   |exact ((((bw.setCell (p:=⟨w.heap.size,0,none⟩) (Nat.le_refl _) _).setCell (p:=⟨w.heap.size,1,none⟩) (Nat.le_refl _) _).setCell (p:=⟨w.heap.size,2,none⟩) (Nat.le_refl _) _).setCell (p:=⟨w.heap.size,3,none⟩) (Nat.le_refl _) _).setCell (p:=⟨w.heap.size,4,none⟩) (Nat.le_refl _) _
   |exact bw
end Go.Proofs.YtocleppbcngcjaaGreatDoor
