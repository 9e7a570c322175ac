/- Vc, part C: the symbolic walk over memory, lists of operations and code; what it says as a proposition. No program in sight. -/
import Derived.Test.YtdhiapllbjamfaaVcB
set_option linter.unusedVariables false
set_option linter.unusedSimpArgs false
namespace Vc
open Go Go.RowKit
variable {R : Type}

def St.new (A : Alg R) (st : St) (dst : Option Tmp) (cs : List At) (t : TypeId) (v : Nat → At) (K : St → R) : R :=
  if cs.all (At.wf st.c) = true then
    St.put A { st with m := (st.c.nk, cs, t) :: st.m } dst (.cv (.one (v st.c.nk))) { st.c with nk := st.c.nk + 1 } K
  else A.fail "new"

/-- Operations that lay a block, or write. -/
def opm (A : Alg R) (G : Cfg) (st : St) (o : Oper) (K : St → R) : R :=
  match o.op with
  | .alloc t => match zeroA G.P t with
    | some z => St.new A st o.dst z.cells t (.loc · 0) K
    | none => A.fail "alloc"
  | .box t x => match st.ev x with
    | .cv v => St.new A st o.dst v.cells t (.loc · 0) K
    | _ => A.fail "box"
  | .store t a x => match szAgg G.P t, st.ev a, st.ev x with
    | some (_, n), .cv (.one (.loc k off)), .cv v => match getM st.m k with
      | some (cs, _) => if v.cells.length = n ∧ off + n ≤ cs.length ∧ v.wf st.c = true then
          St.put A { st with m := setM st.m k (cs.take off ++ v.cells ++ cs.drop (off + n)) } o.dst .any st.c K
        else A.fail "store: size"
      | none => A.fail "store: no such block"
    | _, _, _ => A.fail "store"
  | .buildSlice t len parts => match G.P.underlying t with
    | some (.slice el) => match szAgg G.P el, zeroA G.P el with
      | some (_, s), some z => if z.cells.length = s ∧ 0 < s ∧ 0 < len ∧ len * s ≤ 4096 then
          match fillA (fun i => some (i * s, s)) (times z.cells len) (parts.toList.map fun p => (p.1, st.ev p.2)) with
          | some cs => St.new A st o.dst cs el (.lsl · 0 len len) K
          | none => A.fail "buildSlice: parts"
        else A.fail "buildSlice: size"
      | _, _ => A.fail "buildSlice"
    | _ => A.fail "buildSlice"
  | _ => opv A G st o fun v c => if c.nk = st.c.nk then St.put A st o.dst v c K else A.fail "blocks"

/-- A truth value that a slot is known to hold. -/
def St.know (st : St) (d : Nat) (b : Bool) : St := { st with t := (d, .cv (.one (.bool (.lit b)))) :: st.t }

abbrev Inl (R : Type) := FuncId → List SV → St → (SV → St → R) → R

/-- One operation that is wanted. -/
def stepO (A : Alg R) (G : Cfg) (inl : Inl R) (st : St) (o : Oper) (K : St → R) : R :=
  match o.op with
  | .call { callee := .value g, args, .. } => match st.ev g with
    | .cv (.one (.fn f caps)) =>
      if G.inl.contains f = true then
        if (args.toList.map st.ev).any svAny = true then A.fail "inline: arguments"
        else inl f (args.toList.map st.ev ++ caps.map fun x => .cv (.one (.loc x.1 x.2))) st fun v s => St.put A s o.dst v s.c K
      else opm A G st o K
    | _ => A.fail "call: value"
  | _ => opm A G st o K

/-- Operations one after the other. -/
def execL (A : Alg R) (step : St → Oper → (St → R) → R) (ops : Array Oper) : List Oper → St → (St → R) → R
  | [], st, K => K st
  | o :: r, st, K =>
    match o.guard with
    | none => step st o fun s => execL A step ops r s K
    | some (j, want) => match (ops[j]?).bind (·.dst) with
      | none => A.fail "guard"
      | some d => if d < st.n then match getS st.t d with
          | .cv (.one (.bool e)) =>
            doFork A e
              (fun _ => if want = true then step (st.know d true) o fun s => execL A step ops r s K else St.put A (st.know d true) o.dst .und st.c fun s => execL A step ops r s K)
              (fun _ => if want = true then St.put A (st.know d false) o.dst .und st.c fun s => execL A step ops r s K else step (st.know d false) o fun s => execL A step ops r s K)
          | .und => St.put A st o.dst .und st.c fun s => execL A step ops r s K
          | _ => A.fail "guard: unknown"
        else A.fail "guard: slot"

/-- Regions whose order is left open: what of memory is read, written, laid. -/
structure DS where
  rd : List (Nat × Nat)
  wr : List (Nat × Nat)
  al : List (Nat × Nat)
def blksOf : List At → List Nat
  | [] => []
  | .loc k _ :: r | .lsl k _ _ _ :: r => k :: blksOf r
  | _ :: r => blksOf r
def readsOf (st : St) (o : Oper) : List Nat :=
  match o.op with
  | .load _ x => blksOf (svCells (st.ev x))
  | .call { callee := .value g, args, .. } => blksOf ((args.toList.map st.ev).flatMap svCells) ++ (match st.ev g with
    | .cv (.one (.fn _ caps)) => caps.map (·.1)
    | _ => [])
  | _ => []
def writesOf (st : St) (o : Oper) : List Nat :=
  match o.op with
  | .store _ x _ => blksOf (svCells (st.ev x))
  | _ => []
def direct (ops : Array Oper) (i j : Nat) : Bool :=
  match ops[i]? with
  | some o => o.after.any fun e => Region.binds .any e && decide (e.on = j)
  | none => false
/-- Does an operation come behind another one, through some others? -/
def reach (ops : Array Oper) : Nat → Nat → Nat → Bool
  | 0, _, _ => false
  | d + 1, i, j => direct ops i j || match ops[i]? with
    | some o => o.after.any fun e => Region.binds .any e && reach ops d e.on j
    | none => false
def idsOf : List At → List Nat
  | [] => []
  | .loc k _ :: r | .lsl k _ _ _ :: r => k :: idsOf r
  | .fn _ caps :: r => caps.map (·.1) ++ idsOf r
  | _ :: r => idsOf r
def svIds : SV → List Nat
  | .cv c => idsOf c.cells
  | .tup l => idsOf (l.flatMap CV.cells)
  | _ => []
def isStore (o : Oper) : Bool :=
  match o.op with
  | .store .. => true
  | _ => false
/-- Each slot is written once; what is read is written before; stores are in order. -/
def drawOk (ops : Array Oper) : Bool :=
  (List.range ops.size).all fun i => match ops[i]? with
    | none => false
    | some o => (o.after.all fun e => !Region.binds .any e || decide (e.on < i)) && (List.range ops.size).all fun j => match ops[j]? with
      | none => false
      | some p =>
        (match p.dst with
          | none => true
          | some d => decide (i = j ∨ o.dst ≠ some d) && (!(o.looksAt ops).contains d || (decide (j < i) && direct ops i j) || (decide (i < j) && direct ops j i))) &&
        (!(isStore o && isStore p && decide (j < i)) || direct ops i j)
/-- Is a block not laid in the region, or laid before an operation? -/
def DS.old (d : DS) (ops : Array Oper) (i k : Nat) : Bool :=
  match d.al.lookup k with
  | none => true
  | some j => reach ops 3 i j
def okD (ops : Array Oper) (i : Nat) (d : DS) (o : Oper) (al : List (Nat × Nat)) (s : St) : Bool :=
  (match o.dst with
    | none => true
    | some x => (svIds (getS s.t x)).all (d.old ops i)) && (s.m.all fun e => (idsOf e.2.1).all fun k => (al.lookup k).isNone)
/-- Each read of a block is in order with each write of it. -/
def apartB (ops : Array Oper) (rd wr : List (Nat × Nat)) : Bool :=
  rd.all fun x => wr.all fun y => decide (x.1 ≠ y.1) || (decide (y.2 < x.2) && direct ops x.2 y.2) || (decide (x.2 < y.2) && direct ops y.2 x.2)
def stepD (A : Alg R) (G : Cfg) (ops : Array Oper) (i : Nat) (d : DS) (st : St) (o : Oper) (K : DS → St → R) : R :=
  if (readsOf st o ++ writesOf st o).all (d.old ops i) = true then
    opm A G st o fun s =>
      if okD ops i d o (if st.c.nk < s.c.nk then (st.c.nk, i) :: d.al else d.al) s = true then
        K { rd := (readsOf st o).map (·, i) ++ d.rd, wr := (writesOf st o).map (·, i) ++ d.wr, al := if st.c.nk < s.c.nk then (st.c.nk, i) :: d.al else d.al } s
      else A.fail "drawn: blocks"
  else A.fail "drawn: order"
def execD (A : Alg R) (G : Cfg) (ops : Array Oper) : Nat → List Oper → DS → St → (St → R) → R
  | _, [], d, st, K => if apartB ops d.rd d.wr = true then K st else A.fail "drawn: read and written"
  | i, o :: r, d, st, K =>
    match o.guard with
    | none => stepD A G ops i d st o fun d' s => execD A G ops (i + 1) r d' s K
    | some (j, want) => match (ops[j]?).bind (·.dst) with
      | none => A.fail "guard"
      | some x => if x < st.n then match getS st.t x with
          | .cv (.one (.bool e)) =>
            doFork A e
              (fun _ => if want = true then stepD A G ops i d (st.know x true) o fun d' s => execD A G ops (i + 1) r d' s K else St.put A (st.know x true) o.dst .und st.c fun s => execD A G ops (i + 1) r d s K)
              (fun _ => if want = true then St.put A (st.know x false) o.dst .und st.c fun s => execD A G ops (i + 1) r d s K else stepD A G ops i d (st.know x false) o fun d' s => execD A G ops (i + 1) r d' s K)
          | .und => St.put A st o.dst .und st.c fun s => execD A G ops (i + 1) r d s K
          | _ => A.fail "guard: unknown"
        else A.fail "guard: slot"
def drawnX (A : Alg R) (G : Cfg) (ops : Array Oper) (st : St) (K : St → R) : R :=
  if drawOk ops = true then execD A G ops 0 ops.toList ⟨[], [], []⟩ st K else A.fail "drawn: form"

inductive Ex where
  | normal
  | exit (id : Nat)
  | ret

def keyOf : Code → Nat
  | .region id _ _ => id
  | .seq a _ => keyOf a
  | .block _ b => keyOf b
  | .scope b => keyOf b
  | .loop b => keyOf b
  | .cond _ a _ => keyOf a
  | _ => 0

def resOf (P : Program) (st : St) : List ResultVar → Option (List CV)
  | [] => some []
  | .tmp t :: r => match getS st.t t, resOf P st r with
    | .cv v, some l => some (v :: l)
    | _, _ => none
  | .cell a t :: r => match getS st.t a, resOf P st r with
    | .cv (.one (.loc k off)), some l => match getM st.m k with
      | some (cs, _) => match partOf P t cs off with
        | some v => some (v :: l)
        | none => none
      | none => none
    | _, _ => none

def kindOf : At → Option CK
  | .int k _ => some (.int k)
  | .bool _ => some .bool
  | .val _ => some .oth
  | _ => none
def kindsOf : List At → Option (List CK)
  | [] => some []
  | a :: l => match kindOf a, kindsOf l with
    | some k, some r => some (k :: r)
    | _, _ => none
def cellsAt (st : St) : List (Nat × Nat) → Option (List (Nat × Nat))
  | [] => some []
  | (s, off) :: r => match getS st.t s, cellsAt st r with
    | .cv (.one (.loc k o)), some l => some ((k, o + off) :: l)
    | _, _ => none
/-- The atoms of some slots, and of some cells. -/
def readS (t : List (Nat × SV)) : List Nat → Option (List CV)
  | [] => some []
  | s :: r => match getS t s, readS t r with
    | .cv v, some l => some (v :: l)
    | _, _ => none
def readM (m : Mem) : List (Nat × Nat) → Option (List At)
  | [] => some []
  | (k, o) :: r => match getM m k, readM m r with
    | some (cs, _), some l => match cs[o]? with
      | some a => some (a :: l)
      | none => none
    | _, _ => none
def CV.shape : CV → Bool × Nat
  | .one _ => (false, 1)
  | .agg l => (true, l.length)
def cvLike : CV → List At → CV
  | .one a, l => .one (l.headD a)
  | .agg x, l => .agg (l.take x.length)
def writeS (t : List (Nat × SV)) : List Nat → List CV → List At → List (Nat × SV)
  | s :: r, v :: vs, l => writeS ((s, .cv (cvLike v l)) :: t) r vs (l.drop v.cells.length)
  | _, _, _ => t
def writeM (m : Mem) : List (Nat × Nat) → List At → Mem
  | (k, o) :: r, a :: l => match getM m k with
    | some (cs, _) => writeM (setM m k (cs.set o a)) r l
    | none => writeM m r l
  | _, _ => m
def killS (t : List (Nat × SV)) : List Nat → List (Nat × SV)
  | [] => t
  | s :: r => (s, .any) :: killS t r
def cellsSame (k : Nat) (free : List (Nat × Nat)) : Nat → List At → List At → Bool
  | _, [], [] => true
  | o, a :: x, b :: y => (free.contains (k, o) || decide (a = b)) && cellsSame k free (o + 1) x y
  | _, _, _ => false
/-- Is a state behind a round as it was at its head, but for what is free? -/
def sameSt (a b : St) (slots : List Nat) (free : List (Nat × Nat)) : Bool :=
  decide (b.n = a.n) && (a.t.all fun x => slots.contains x.1 || decide (getS a.t x.1 = .any) || decide (getS b.t x.1 = getS a.t x.1)) &&
  (a.m.all fun x => match getM b.m x.1 with
    | some (cs, t) => decide (t = x.2.2) && cellsSame x.1 free 0 x.2.1 cs
    | none => false)

/-- A loop, round by round. -/
def unroll (A : Alg R) (f : St → (Ex → St → R) → R) (K : Ex → St → R) : Nat → St → R
  | 0, _ => A.fail "rounds"
  | m + 1, st => f st fun e s => match e with
    | .normal => unroll A f K m s
    | e => K e s

/-- The walk over code. -/
def exec (A : Alg R) (G : Cfg) : Nat → Code → St → (Ex → St → R) → R
  | 0, _, _, _ => A.fail "fuel"
  | n + 1, c, st, K =>
    let inl : Inl R := fun f args s K' => match G.P.funcs[f]? with
      | none => A.fail "inline: no such function"
      | some fn => match fn.body with
        | none => A.fail "inline: no body"
        | some b =>
          exec A G n b { t := (List.range args.length).zip args, n := args.length + (fn.ntmps - args.length), m := s.m, c := s.c } fun e s' =>
            match e with
            | .exit _ => A.fail "inline: exit"
            | _ => match resOf G.P s' fn.results.toList with
              | some l => K' (resV l) { t := s.t, n := s.n, m := s'.m, c := s'.c }
              | none => A.fail "inline: results"
    match c with
    | .skip => K .normal st
    | .label _ => K .normal st
    | .ret => K .ret st
    | .exit id => K (.exit id) st
    | .region _ ops draw => if draw = true then drawnX A G ops st (K .normal) else execL A (stepO A G inl) ops ops.toList st (K .normal)
    | .seq a b => exec A G n a st fun e s => match e with
      | .normal => exec A G n b s K
      | e => K e s
    | .cond (.tmp d) a b => match getS st.t d with
      | .cv (.one (.bool e)) => if d < st.n then doFork A e (fun _ => exec A G n a (st.know d true) K) (fun _ => exec A G n b (st.know d false) K) else A.fail "cond: slot"
      | _ => A.fail "cond: unknown"
    | .cond (.const (.bool t)) a b => if t = true then exec A G n a st K else exec A G n b st K
    | .block id b => exec A G n b st fun e s => match e with
      | .exit i => if i = id then K .normal s else K (.exit i) s
      | e => K e s
    | .scope b => exec A G n b st K
    | .loop b => match G.loops.lookup (keyOf b) with
      | some (.inv cells slots kill) => match cellsAt st cells, readS st.t slots with
        | some free, some vs => match readM st.m free with
          | none => A.fail "loop: cells"
          | some ms => match kindsOf (vs.flatMap CV.cells ++ ms) with
            | none => A.fail "loop: kinds"
            | some ks =>
              let fr := freshL st.c ks
              let st1 : St := { t := writeS (killS st.t kill) slots vs fr, n := st.n, m := writeM st.m free (fr.drop (vs.flatMap CV.cells).length), c := freshLC st.c ks }
              A.loop (vs.flatMap CV.cells ++ ms) fr fun cont =>
                exec A G n b st1 fun e s => match e with
                  | .normal => match readS s.t slots, readM s.m free with
                    | some vs', some ms' =>
                      if sameSt st1 s slots free = true ∧ vs'.map CV.shape = vs.map CV.shape ∧ kindsOf (vs'.flatMap CV.cells ++ ms') = some ks then cont (vs'.flatMap CV.cells ++ ms')
                      else A.fail "loop: not the same"
                    | _, _ => A.fail "loop: values"
                  | e => K e s
        | _, _ => A.fail "loop: slots"
      | _ => unroll A (exec A G n b) K n st
    | _ => A.fail "code"

/-- The walk over a function. -/
def execF (A : Alg R) (G : Cfg) (n : Nat) (fn : Func) (b : Code) (args : List SV) (c : Ctr) : R :=
  exec A G n b { t := (List.range args.length).zip args, n := args.length + (fn.ntmps - args.length), m := [], c := c } fun e s =>
    match e with
    | .exit _ => A.fail "exit"
    | _ => match resOf G.P s fn.results.toList with
      | some l => A.fin (resV l) (namedM s.m (l.flatMap CV.cells))
      | none => A.fail "results"
end Vc
