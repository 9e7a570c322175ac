/- Vc, part C: the symbolic walk over memory, lists of operations and code; what it says as a proposition. No program in sight. -/
import Derived.Test.YtdhiapllbjamfaaVcB
set_option linter.unusedVariables false
set_option linter.unusedSimpArgs false
namespace Vc
open Go Go.RowKit
variable {R : Type}

def St.new (A : Alg R) (st : St) (dst : Option Tmp) (cs : List At) (t : TypeId) (v : Nat → At) (K : St → R) : R :=
  if cs.all (At.wf st.c) = true then
    St.put A { st with m := (st.c.nk, cs, t) :: st.m } dst (.cv (.one (v st.c.nk))) { st.c with nk := st.c.nk + 1 } K
  else A.fail "new"

/-- Operations that lay a block, or write. -/
def opm (A : Alg R) (G : Cfg) (st : St) (o : Oper) (K : St → R) : R :=
  match o.op with
  | .alloc t => match zeroA G.P t with
    | some z => St.new A st o.dst z.cells t (.loc · 0) K
    | none => A.fail "alloc"
  | .box t x => match st.ev x with
    | .cv v => St.new A st o.dst v.cells t (.loc · 0) K
    | _ => A.fail "box"
  | .store t a x => match szAgg G.P t, st.ev a, st.ev x with
    | some (_, n), .cv (.one (.loc k off)), .cv v => match getM st.m k with
      | some (cs, _) => if v.cells.length = n ∧ off + n ≤ cs.length ∧ v.wf st.c = true then
          St.put A { st with m := setM st.m k (cs.take off ++ v.cells ++ cs.drop (off + n)) } o.dst .any st.c K
        else A.fail "store: size"
      | none => A.fail "store: no such block"
    | _, _, _ => A.fail "store"
  | .buildSlice t len parts => match G.P.underlying t with
    | some (.slice el) => match szAgg G.P el, zeroA G.P el with
      | some (_, s), some z => if z.cells.length = s ∧ 0 < s ∧ 0 < len ∧ len * s ≤ 4096 then
          match fillA (fun i => some (i * s, s)) (times z.cells len) (parts.toList.map fun p => (p.1, st.ev p.2)) with
          | some cs => St.new A st o.dst cs el (.lsl · 0 len len) K
          | none => A.fail "buildSlice: parts"
        else A.fail "buildSlice: size"
      | _, _ => A.fail "buildSlice"
    | _ => A.fail "buildSlice"
  | _ => opv A G st o fun v c => if c.nk = st.c.nk then St.put A st o.dst v c K else A.fail "blocks"

/-- A new row of the call's own. -/
def St.newO (A : Alg R) (st : St) (dst : Option Tmp) (eat : List Nat) (ce : CE) (sz : Nat) (el : TypeId) (c : Ctr) (K : St → R) : R :=
  if ceWf c ce = true then
    St.put A { st with o := (c.nk, ce, sz, el) :: delOs st.o eat } dst (.cv (.one (.own c.nk))) { c with nk := c.nk + 4 } K
  else A.fail "row"
/-- A row that is appended to: what it holds, and which it is. -/
def rowOf (o : OMem) (sz : Nat) (el : TypeId) : SV → Option (CE × List Nat)
  | .cv (.one .nils) => some ([], [])
  | .cv (.one (.own k)) => match getO o k with
    | some (ce, s, t) => if s = sz ∧ t = el then some (ce, [k]) else none
    | none => none
  | _ => none
/-- What is appended. -/
def addOf (A : Alg R) (st : St) (sz : Nat) (eat : List Nat) (y : SV) (K : CE → Ctr → R) : R :=
  match y with
  | .cv (.one .nils) => K [] st.c
  | .cv (.one (.lsl k off len _)) => match getM st.m k with
    | some (cs, _) => if off + len * sz ≤ cs.length then K [.ats ((cs.drop off).take (len * sz))] st.c else A.fail "append: beyond"
    | none => A.fail "append: no such block"
  | .cv (.one (.own k)) => match getO st.o k with
    | some (ce, s, _) => if s = sz ∧ eat.contains k = false then K ce st.c else A.fail "append: a row to itself"
    | none => A.fail "append: no such row"
  | .cv (.one x) => match x with
    | .xsl _ _ s _ _ | .qsl _ _ s _ _ => if s = sz ∧ x.wf st.c = true then A.ecp st.c.nl x sz (K [.var st.c.nl] { st.c with nl := st.c.nl + 1 }) else A.fail "append: a part"
    | _ => A.fail "append: what"
  | _ => A.fail "append: what"
def maxRow : Int := 1073741824
/-- append. -/
def opa (A : Alg R) (G : Cfg) (st : St) (o : Oper) (K : St → R) : R :=
  match o.op with
  | .call { callee := .builtin .append, args, argTypes } => match args.toList, argTypes.toList with
    | [x, y], [t, t'] => match G.P.underlying t with
      | some (.slice el) => match G.P.info? el, zeroA G.P el with
        | some i, some z =>
          if t' = t ∧ 0 < i.size ∧ z.cells.length = i.size ∧ i.bytes ≤ 131072 then
            match rowOf st.o i.size el (st.ev x) with
            | some (ce, eat) => addOf A st i.size eat (st.ev y) fun add c1 =>
                doOLen A c1 (ceApp ce add) i.size fun n c2 => doChk A (.cmp .leq n (.lit maxRow)) (St.newO A st o.dst eat (ceApp ce add) i.size el c2 K)
            | none => A.fail "append: to what"
          else A.fail "append: type"
        | _, _ => A.fail "append: element"
      | _ => A.fail "append: slice"
    | _, _ => A.fail "append: arguments"
  | _ => A.fail "append"
def setO : OMem → Nat → CE → OMem
  | [], _, _ => []
  | (j, v) :: r, i, ce => if j = i then (j, ce, v.2) :: r else (j, v) :: setO r i ce
def idsOf : List At → List Nat
  | [] => []
  | .loc k _ :: r | .lsl k _ _ _ :: r => k :: idsOf r
  | .own k :: r => k :: (k + 1) :: (k + 2) :: (k + 3) :: idsOf r
  | .oloc k _ _ _ :: r | .yld k :: r => k :: idsOf r
  | .fn _ caps :: r => caps.map (·.1) ++ idsOf r
  | .mfn _ first caps :: r => first.map (·.1) ++ caps.map (·.1) ++ idsOf r
  | _ :: r => idsOf r
/-- Other operations on rows of the call's own. -/
def opw (A : Alg R) (G : Cfg) (st : St) (o : Oper) (K : St → R) : R :=
  match o.op with
  | .makeSlice t l cp => match G.P.underlying t with
    | some (.slice el) => match G.P.info? el, zeroA G.P el with
      | some i, some z =>
        if 0 < i.size ∧ z.cells.length = i.size ∧ i.bytes ≤ 131072 ∧ z.cells.all At.flat = true ∧ z.wf st.c = true then
          match st.ev l, st.ev cp with
          | .cv (.one (.int _ e)), .cv (.one (.int _ e2)) =>
            if e = .lit 0 then
              doChk A (.cmp .geq e2 (.lit 0)) (doChk A (.cmp .leq e2 (.lit maxRow)) (St.newO A st o.dst [] [] i.size el st.c K))
            else if e = e2 then
              doChk A (.cmp .geq e (.lit 0)) (doChk A (.cmp .leq e (.lit maxRow)) (match e with
                | .lit n => St.newO A st o.dst [] [.ats (times z.cells n.toNat)] i.size el st.c K
                | e => if e.wf st.c = true then A.lst st.c.nl (.rep e z.cells) (St.newO A st o.dst [] [.var st.c.nl] i.size el { st.c with nl := st.c.nl + 1 } K) else A.fail "makeSlice: length"))
            else A.fail "makeSlice: capacity"
          | _, _ => A.fail "makeSlice: lengths"
        else A.fail "makeSlice: type"
      | _, _ => A.fail "makeSlice: element"
    | _ => A.fail "makeSlice"
  | .buildSlice t len parts => match G.P.underlying t with
    | some (.slice el) => match G.P.info? el with
      | some i => if len = 0 ∧ parts.toList.length = 0 ∧ 0 < i.size then St.newO A st o.dst [] [] i.size el st.c K else match szAgg G.P el, zeroA G.P el with
        | some (_, s), some z => if z.cells.length = s ∧ 0 < s ∧ 0 < len ∧ len * s ≤ 4096 then
            match fillA (fun i => some (i * s, s)) (times z.cells len) (parts.toList.map fun p => (p.1, st.ev p.2)) with
            | some cs => if cs.length = len * s ∧ idsOf cs = [] then St.newO A st o.dst [] [.ats cs] s el st.c K else A.fail "buildSlice: row"
            | none => A.fail "buildSlice: parts"
          else A.fail "buildSlice: size"
        | _, _ => A.fail "buildSlice: row"
      | none => A.fail "buildSlice: row"
    | _ => A.fail "buildSlice: row"
  | .slice t x lo (some hi) (some mx) => match G.P.underlying t, st.ev hi, st.ev mx, intOr (.lit 0) (lo.map st.ev) with
    | some (.slice el), .cv (.one (.int _ (.lit 0))), .cv (.one (.int _ (.lit 0))), some (.lit 0) => match G.P.info? el, st.ev x with
      | some i, .cv (.one (.qsl ..)) | some i, .cv (.one (.xsl ..)) | some i, .cv (.one (.own ..)) | some i, .cv (.one .nils) =>
        if 0 < i.size then St.newO A st o.dst [] [] i.size el st.c K else A.fail "slice: row"
      | _, _ => A.fail "slice: row"
    | _, _, _, _ => A.fail "slice: row"
  | .store t a x => match szAgg G.P t, st.ev a, st.ev x with
    | some (_, n), .cv (.one (.oloc k ix sz off)), .cv v => match getO st.o k with
      | some (ce, s, _) =>
        if s = sz ∧ v.cells.length = n ∧ off + n ≤ sz ∧ 0 < sz ∧ v.wf st.c = true ∧ ix.wf st.c = true ∧ ceWf st.c ce = true then
          doOLen A st.c ce sz fun m c1 => doChk A (.cmp .geq ix (.lit 0)) (doChk A (.cmp .lss ix m) (
            match knownAt ce ix sz off with
            | some (cs, p) => St.put A { st with o := setO st.o k [.ats (cs.take p ++ v.cells ++ cs.drop (p + n))] } o.dst .any c1 K
            | none => if ceFlat ce = true ∧ v.flat = true then
                A.lst c1.nl (.set ce ix sz off v.cells) (St.put A { st with o := setO st.o k [.var c1.nl] } o.dst .any { c1 with nl := c1.nl + 1 } K)
              else A.fail "store: row"))
        else A.fail "store: row"
      | none => A.fail "store: no such row"
    | _, _, _ => A.fail "store: row"
  | _ => A.fail "row: operation"

/-- A truth value that a slot is known to hold. -/
def St.know (st : St) (d : Nat) (b : Bool) : St := { st with t := (d, .cv (.one (.bool (.lit b)))) :: st.t }

abbrev Inl (R : Type) := FuncId → List SV → St → (SV → St → R) → R
abbrev Yl (R : Type) := Nat → List SV → St → (SV → St → R) → R
def locSV (x : Nat × Nat) : SV := .cv (.one (.loc x.1 x.2))

/-- Is a slice that is laid a row (a hint)? -/
def rowHint (G : Cfg) (t : TypeId) (dst : Option Tmp) : Bool :=
  match dst with
  | some d => (G.loops.lookup (1000000 + t * 10000 + d)).isSome
  | none => false
/-- One operation that is wanted. -/
def stepO (A : Alg R) (G : Cfg) (inl : Inl R) (yl : Yl R) (st : St) (o : Oper) (K : St → R) : R :=
  match o.op with
  | .call { callee := .value g, args, .. } => match st.ev g with
    | .cv (.one (.fn f caps)) =>
      if G.inl.contains f = true then
        if (args.toList.map st.ev).any svAny = true then A.fail "inline: arguments"
        else inl f (args.toList.map st.ev ++ caps.map locSV) st fun v s => St.put A s o.dst v s.c K
      else opm A G st o K
    | .cv (.one (.mfn f first caps)) =>
      if G.inl.contains f = true then
        if (args.toList.map st.ev).any svAny = true then A.fail "inline: arguments"
        else inl f (first.map locSV ++ (args.toList.map st.ev ++ caps.map locSV)) st fun v s => St.put A s o.dst v s.c K
      else opm A G st o K
    | .cv (.one (.yld k)) =>
      if (args.toList.map st.ev).any svAny = true then A.fail "yield: arguments"
      else yl k (args.toList.map st.ev) st fun v s => St.put A s o.dst v s.c K
    | _ => A.fail "call: value"
  | .call { callee := .builtin .append, .. } => opa A G st o K
  | .makeSlice .. => opw A G st o K
  | .buildSlice t len _ => if len = 0 ∨ rowHint G t o.dst = true then opw A G st o K else opm A G st o K
  | .slice _ _ _ _ (some _) => opw A G st o K
  | .store _ a _ => match st.ev a with
    | .cv (.one (.oloc ..)) => opw A G st o K
    | _ => opm A G st o K
  | _ => opm A G st o K

/-- Operations one after the other. -/
def execL (A : Alg R) (step : St → Oper → (St → R) → R) (ops : Array Oper) : List Oper → St → (St → R) → R
  | [], st, K => K st
  | o :: r, st, K =>
    match o.guard with
    | none => step st o fun s => execL A step ops r s K
    | some (j, want) => match (ops[j]?).bind (·.dst) with
      | none => A.fail "guard"
      | some d => if d < st.n then match getS st.t d with
          | .cv (.one (.bool e)) =>
            doFork A e
              (fun _ => if want = true then step (st.know d true) o fun s => execL A step ops r s K else St.put A (st.know d true) o.dst .und st.c fun s => execL A step ops r s K)
              (fun _ => if want = true then St.put A (st.know d false) o.dst .und st.c fun s => execL A step ops r s K else step (st.know d false) o fun s => execL A step ops r s K)
          | .und => St.put A st o.dst .und st.c fun s => execL A step ops r s K
          | _ => A.fail "guard: unknown"
        else A.fail "guard: slot"

/-- Regions whose order is left open: what of memory is read, written, laid. -/
structure DS where
  rd : List (Nat × Nat)
  wr : List (Nat × Nat)
  al : List (Nat × Nat)
def blksOf : List At → List Nat
  | [] => []
  | .loc k _ :: r | .lsl k _ _ _ :: r => k :: blksOf r
  | .own k :: r | .oloc k _ _ _ :: r => k :: blksOf r
  | _ :: r => blksOf r
def readsOf (st : St) (o : Oper) : List Nat :=
  match o.op with
  | .load _ x => blksOf (svCells (st.ev x))
  | .indexAddr _ x _ => blksOf (svCells (st.ev x))
  | .call { callee := .value g, args, .. } => blksOf ((args.toList.map st.ev).flatMap svCells) ++ (match st.ev g with
    | .cv (.one (.fn _ caps)) => caps.map (·.1)
    | .cv (.one (.mfn _ first caps)) => first.map (·.1) ++ caps.map (·.1)
    | _ => [])
  | .call { callee := .builtin _, args, .. } => blksOf ((args.toList.map st.ev).flatMap svCells)
  | _ => []
def writesOf (st : St) (o : Oper) : List Nat :=
  match o.op with
  | .store _ x _ => blksOf (svCells (st.ev x))
  | .call { callee := .builtin .append, args, .. } => match args.toList with
    | x :: _ => blksOf (svCells (st.ev x))
    | [] => []
  | _ => []
def direct (ops : Array Oper) (i j : Nat) : Bool :=
  match ops[i]? with
  | some o => o.after.any fun e => Region.binds .any e && decide (e.on = j)
  | none => false
/-- Does an operation come behind another one, through some others? -/
def reach (ops : Array Oper) : Nat → Nat → Nat → Bool
  | 0, _, _ => false
  | d + 1, i, j => direct ops i j || match ops[i]? with
    | some o => o.after.any fun e => Region.binds .any e && reach ops d e.on j
    | none => false
def svIds : SV → List Nat
  | .cv c => idsOf c.cells
  | .tup l => idsOf (l.flatMap CV.cells)
  | _ => []
/-- Each slot is written once; what is read is written before. -/
def drawOk (ops : Array Oper) : Bool :=
  (List.range ops.size).all fun i => match ops[i]? with
    | none => false
    | some o => (o.after.all fun e => !Region.binds .any e || decide (e.on < i)) && (List.range ops.size).all fun j => match ops[j]? with
      | none => false
      | some p =>
        match p.dst with
          | none => true
          | some d => decide (i = j ∨ o.dst ≠ some d) && (!(o.looksAt ops).contains d || (decide (j < i) && direct ops i j) || (decide (i < j) && direct ops j i))
/-- Is a block not laid in the region, or laid before an operation? -/
def DS.old (d : DS) (ops : Array Oper) (i k : Nat) : Bool :=
  match d.al.lookup k with
  | none => true
  | some j => reach ops 3 i j
/-- The blocks that stand in what is written. -/
def valIds (st : St) (o : Oper) : List Nat :=
  match o.op with
  | .store _ _ x => svIds (st.ev x)
  | .box _ x => svIds (st.ev x)
  | .buildSlice _ _ parts => parts.toList.flatMap fun p => svIds (st.ev p.2)
  | _ => []
def okD (ops : Array Oper) (i : Nat) (d : DS) (o : Oper) (s : St) : Bool :=
  match o.dst with
    | none => true
    | some x => (svIds (getS s.t x)).all (d.old ops i)
/-- Each read of a block, and each write, is in order with each write of it. -/
def ordB (ops : Array Oper) (x y : Nat × Nat) : Bool :=
  decide (x.1 ≠ y.1) || decide (x.2 = y.2) || (decide (y.2 < x.2) && direct ops x.2 y.2) || (decide (x.2 < y.2) && direct ops y.2 x.2)
def apartB (ops : Array Oper) (rd wr : List (Nat × Nat)) : Bool :=
  (rd.all fun x => wr.all fun y => ordB ops x y) && wr.all fun x => wr.all fun y => ordB ops x y
def newIds (a b i : Nat) : List (Nat × Nat) := (List.range (b - a)).map fun j => (a + j, i)
/-- The names of a row were laid together. -/
def rowsB (al : List (Nat × Nat)) (o : OMem) : Bool := o.all fun x => [1, 2, 3].all fun d => decide (al.lookup (x.1 + d) = al.lookup x.1)
/-- An operation of a drawn region. -/
def opd (A : Alg R) (G : Cfg) (st : St) (o : Oper) (K : St → R) : R :=
  match o.op with
  | .call { callee := .builtin .append, .. } => opa A G st o K
  | .buildSlice t len _ => if len = 0 ∨ rowHint G t o.dst = true then opw A G st o K else opm A G st o K
  | _ => opm A G st o K
def stepD (A : Alg R) (G : Cfg) (ops : Array Oper) (i : Nat) (d : DS) (st : St) (o : Oper) (K : DS → St → R) : R :=
  if (readsOf st o ++ writesOf st o ++ valIds st o).all (d.old ops i) = true then
    opd A G st o fun s =>
      if (okD ops i d o s && rowsB (newIds st.c.nk s.c.nk i ++ d.al) s.o) = true then
        K { rd := (readsOf st o).map (·, i) ++ d.rd, wr := (writesOf st o).map (·, i) ++ d.wr, al := newIds st.c.nk s.c.nk i ++ d.al } s
      else A.fail "drawn: blocks"
  else A.fail "drawn: order"
def execD (A : Alg R) (G : Cfg) (ops : Array Oper) : Nat → List Oper → DS → St → (St → R) → R
  | _, [], d, st, K => if apartB ops d.rd d.wr = true then K st else A.fail "drawn: read and written"
  | i, o :: r, d, st, K =>
    match o.guard with
    | none => stepD A G ops i d st o fun d' s => execD A G ops (i + 1) r d' s K
    | some (j, want) => match (ops[j]?).bind (·.dst) with
      | none => A.fail "guard"
      | some x => if x < st.n then match getS st.t x with
          | .cv (.one (.bool e)) =>
            doFork A e
              (fun _ => if want = true then stepD A G ops i d (st.know x true) o fun d' s => execD A G ops (i + 1) r d' s K else St.put A (st.know x true) o.dst .und st.c fun s => execD A G ops (i + 1) r d s K)
              (fun _ => if want = true then St.put A (st.know x false) o.dst .und st.c fun s => execD A G ops (i + 1) r d s K else stepD A G ops i d (st.know x false) o fun d' s => execD A G ops (i + 1) r d' s K)
          | .und => St.put A st o.dst .und st.c fun s => execD A G ops (i + 1) r d s K
          | _ => A.fail "guard: unknown"
        else A.fail "guard: slot"
/-- How many operations there are ahead of the last ones, each of which comes behind all before it. -/
def cutOf (ops : Array Oper) : Nat → Nat
  | 0 => 0
  | n + 1 => if (List.range n).all (fun j => reach ops 4 n j) = true then cutOf ops n else n + 1
def drawnX (A : Alg R) (G : Cfg) (inl : Inl R) (yl : Yl R) (ops : Array Oper) (st : St) (K : St → R) : R :=
  if drawOk ops = true then
    execD A G ops 0 (ops.toList.take (cutOf ops ops.size)) ⟨[], [], []⟩ st fun s => execL A (stepO A G inl yl) ops (ops.toList.drop (cutOf ops ops.size)) s K
  else A.fail "drawn: form"

def keyOf : Code → Nat
  | .region id _ _ => id
  | .seq a _ => keyOf a
  | .block _ b => keyOf b
  | .scope b => keyOf b
  | .loop b => keyOf b
  | .cond _ a _ => keyOf a
  | _ => 0

def resOf (P : Program) (st : St) : List ResultVar → Option (List CV)
  | [] => some []
  | .tmp t :: r => match getS st.t t, resOf P st r with
    | .cv v, some l => some (v :: l)
    | _, _ => none
  | .cell a t :: r => match getS st.t a, resOf P st r with
    | .cv (.one (.loc k off)), some l => match getM st.m k with
      | some (cs, _) => match partOf P t cs off with
        | some v => some (v :: l)
        | none => none
      | none => none
    | _, _ => none

def kindOf (o : OMem) : At → Option CK
  | .int k _ => some (.int k)
  | .bool _ => some .bool
  | .val _ => some .oth
  | .str _ => some .str
  | .sv _ => some .str
  | .qsl _ _ sz _ _ => some (.sl sz)
  | .own k => match getO o k with
    | some (ce, sz, t) => if ceFlat ce = true then some (.own sz t) else none
    | none => none
  | _ => none
def kindsOf (o : OMem) : List At → Option (List CK)
  | [] => some []
  | a :: l => match kindOf o a, kindsOf o l with
    | some k, some r => some (k :: r)
    | _, _ => none
def cellsAt (st : St) : List (Nat × Nat) → Option (List (Nat × Nat))
  | [] => some []
  | (s, off) :: r => match getS st.t s, cellsAt st r with
    | .cv (.one (.loc k o)), some l => some ((k, o + off) :: l)
    | _, _ => none
/-- The atoms of some slots, and of some cells. -/
def readS (t : List (Nat × SV)) : List Nat → Option (List CV)
  | [] => some []
  | s :: r => match getS t s, readS t r with
    | .cv v, some l => some (v :: l)
    | _, _ => none
def readM (m : Mem) : List (Nat × Nat) → Option (List At)
  | [] => some []
  | (k, o) :: r => match getM m k, readM m r with
    | some (cs, _), some l => match cs[o]? with
      | some a => some (a :: l)
      | none => none
    | _, _ => none
def CV.shape : CV → Bool × Nat
  | .one _ => (false, 1)
  | .agg l => (true, l.length)
def cvLike : CV → List At → CV
  | .one a, l => .one (l.headD a)
  | .agg x, l => .agg (l.take x.length)
def writeS (t : List (Nat × SV)) : List Nat → List CV → List At → List (Nat × SV)
  | s :: r, v :: vs, l => writeS ((s, .cv (cvLike v l)) :: t) r vs (l.drop v.cells.length)
  | _, _, _ => t
def writeM (m : Mem) : List (Nat × Nat) → List At → Mem
  | (k, o) :: r, a :: l => match getM m k with
    | some (cs, _) => writeM (setM m k (cs.set o a)) r l
    | none => writeM m r l
  | _, _ => m
def killS (t : List (Nat × SV)) : List Nat → List (Nat × SV)
  | [] => t
  | s :: r => (s, .any) :: killS t r
def cellsSame (k : Nat) (free : List (Nat × Nat)) : Nat → List At → List At → Bool
  | _, [], [] => true
  | o, a :: x, b :: y => (free.contains (k, o) || decide (a = b)) && cellsSame k free (o + 1) x y
  | _, _, _ => false
def ownIds : List At → List Nat
  | [] => []
  | .own k :: l => k :: ownIds l
  | _ :: l => ownIds l
/-- Is a state behind a round as it was at its head, but for what is free? -/
def sameSt (a b : St) (slots : List Nat) (free : List (Nat × Nat)) (own : List Nat) : Bool :=
  decide (b.n = a.n ∧ b.r = a.r ∧ b.d = a.d) && (a.o.all fun x => own.contains x.1 || decide (getO b.o x.1 = getO a.o x.1)) && (a.t.all fun x => slots.contains x.1 || decide (getS a.t x.1 = .any) || decide (getS b.t x.1 = getS a.t x.1)) &&
  (a.m.all fun x => match getM b.m x.1 with
    | some (cs, t) => decide (t = x.2.2) && cellsSame x.1 free 0 x.2.1 cs
    | none => false)

/-- A loop, round by round. -/
def unroll (A : Alg R) (f : St → (Ex → St → R) → R) (K : Ex → St → R) : Nat → St → R
  | 0, _ => A.fail "rounds"
  | m + 1, st => f st fun e s => match e with
    | .normal => unroll A f K m s
    | e => K e s

def getR : List (Nat × Option Ex) → Nat → Option (Option Ex)
  | [], _ => none
  | (j, v) :: r, i => if j = i then some v else getR r i
def rdRdy (r : List (Nat × Option Ex)) : Option Nat → Bool
  | none => true
  | some k => (getR r k).isSome
def setR : List (Nat × Option Ex) → Nat → Option Ex → List (Nat × Option Ex)
  | [], _, _ => []
  | (j, v) :: r, i, e => if j = i then (j, e) :: setR r i e else (j, v) :: setR r i e
def delR : List (Nat × Option Ex) → Nat → List (Nat × Option Ex)
  | [], _ => []
  | (j, v) :: r, i => if j = i then delR r i else (j, v) :: delR r i
def putSs : List (Nat × SV) → List Nat → List SV → List (Nat × SV)
  | t, p :: ps, v :: vs => putSs ((p, v) :: t) ps vs
  | t, _, _ => t

/-- The walk over code; rd: the loop over a function of which it is the body. -/
def exec (A : Alg R) (G : Cfg) : Nat → Option Nat → Yl R → Code → St → (Ex → St → R) → R
  | 0, _, _, _, _, _ => A.fail "fuel"
  | n + 1, rd, yl, c, st, K =>
    let inl : Inl R := fun f args s K' => match G.P.funcs[f]? with
      | none => A.fail "inline: no such function"
      | some fn => match fn.body with
        | none => A.fail "inline: no body"
        | some b =>
          exec A G n none yl b { t := (List.range args.length).zip args, n := args.length + (fn.ntmps - args.length), m := s.m, c := s.c, o := s.o, r := s.r, d := [] } fun e s' =>
            match e with
            | .exit _ => A.fail "inline: exit"
            | _ => match resOf G.P s' fn.results.toList with
              | some l => K' (resV l) { t := s.t, n := s.n, m := s'.m, c := s'.c, o := s'.o, r := s'.r, d := s.d }
              | none => A.fail "inline: results"
    match c with
    | .skip => K .normal st
    | .label _ => K .normal st
    | .ret => K .ret st
    | .exit id => K (.exit id) st
    | .region _ ops draw => if draw = true then drawnX A G inl yl ops st (K .normal) else execL A (stepO A G inl yl) ops ops.toList st (K .normal)
    | .seq a b => exec A G n rd yl a st fun e s => match e with
      | .normal => exec A G n rd yl b s K
      | e => K e s
    | .cond (.tmp d) a b => match getS st.t d with
      | .cv (.one (.bool e)) => if d < st.n then doFork A e (fun _ => exec A G n rd yl a (st.know d true) K) (fun _ => exec A G n rd yl b (st.know d false) K) else A.fail "cond: slot"
      | _ => A.fail "cond: unknown"
    | .cond (.const (.bool t)) a b => if t = true then exec A G n rd yl a st K else exec A G n rd yl b st K
    | .block id b => exec A G n rd yl b st fun e s => match e with
      | .exit i => if i = id then K .normal s else K (.exit i) s
      | e => K e s
    | .scope b => if rd = none then exec A G n rd yl b st K else A.fail "scope in a round"
    | .rangeFunc (.tmp g) ps assign body => match getS st.t g with
      | .cv (.one (.fn f caps)) =>
        if G.inl.contains f = true ∧ g < st.n ∧ rdRdy st.r rd = true then
          let kr := st.c.nk
          let yl' : Yl R := fun k args s K' =>
            if k = kr then
              if getR s.r kr = some none ∧ args.length = ps.size ∧ (ps.all fun p => decide (p < st.n)) = true then
                exec A G n (some kr) yl assign { t := putSs st.t ps.toList args, n := st.n, m := s.m, c := s.c, o := s.o, r := s.r, d := [] } fun e s1 => match e with
                  | .normal => if getR s1.r kr = some none then exec A G n (some kr) yl body { s1 with r := setR s1.r kr (some .normal) } fun e s2 =>
                    if getR s2.r kr = some (some .normal) then match e with
                      | .normal => K' (.cv (.one (.bool (.lit true)))) { t := s.t, n := s.n, m := s2.m, c := s2.c, o := s2.o, r := setR s2.r kr none, d := s.d }
                      | e => K' (.cv (.one (.bool (.lit false)))) { t := s.t, n := s.n, m := s2.m, c := s2.c, o := s2.o, r := setR s2.r kr (some e), d := s.d }
                    else A.fail "yield: record"
                    else A.fail "yield: record at first"
                  | _ => A.fail "yield: assignment"
              else A.fail "yield: not ready"
            else yl k args s K'
          match G.P.funcs[f]? with
          | none => A.fail "range: no such function"
          | some fn => match fn.body with
            | none => A.fail "range: no body"
            | some b =>
              let args := SV.cv (.one (.yld kr)) :: caps.map locSV
              exec A G n none yl' b { t := (List.range args.length).zip args, n := args.length + (fn.ntmps - args.length), m := st.m, c := { st.c with nk := kr + 2 }, o := st.o, r := (kr, none) :: st.r, d := [] } fun e s' =>
                match e with
                | .exit _ => A.fail "range: exit"
                | _ => match resOf G.P s' fn.results.toList with
                  | some _ => match getR s'.r kr with
                    | some none => K .normal { t := st.t, n := st.n, m := s'.m, c := s'.c, o := s'.o, r := delR s'.r kr, d := if rd.isSome = true then st.d else (kr + 1) :: st.d }
                    | some (some .normal) => A.fail "range: busy"
                    | some (some e) => K e { t := st.t, n := st.n, m := s'.m, c := s'.c, o := s'.o, r := delR s'.r kr, d := if rd.isSome = true then st.d else (kr + 1) :: st.d }
                    | none => A.fail "range: record"
                  | none => A.fail "range: results"
        else A.fail "range: function"
      | _ => A.fail "range: value"
    | .loop b => match (G.loops.lookup (keyOf b)).bind LH.parts with
      | some (blks, cells, slots, kill) => match cellsAt st cells, readS st.t slots with
        | some fc, some vs =>
          let free := blks ++ fc
          match readM st.m free with
          | none => A.fail "loop: cells"
          | some ms =>
            let at0 := vs.flatMap CV.cells ++ ms
            match kindsOf st.o at0 with
            | none => A.fail "loop: kinds"
            | some ks =>
              if (ownIds at0).Nodup then
                let fr := freshL st.c ks
                let fo := freshO st.c ks
                let st1 : St := { t := writeS (killS st.t kill) slots vs fr, n := st.n, m := writeM st.m free (fr.drop (vs.flatMap CV.cells).length), c := freshLC st.c ks, o := fo ++ delOs st.o (ownIds at0), r := st.r, d := st.d }
                A.loop st.o at0 fo fr fun cont =>
                  exec A G n rd yl b st1 fun e s => match e with
                    | .normal => match readS s.t slots, readM s.m free with
                      | some vs', some ms' =>
                        if sameSt st1 s slots free (fo.map (·.1)) = true ∧ vs'.map CV.shape = vs.map CV.shape ∧ kindsOf s.o (vs'.flatMap CV.cells ++ ms') = some ks ∧ (ownIds (vs'.flatMap CV.cells ++ ms')).Nodup ∧
                            (ownIds (vs'.flatMap CV.cells ++ ms')).all (fun k => fo.any (fun x => x.1 == k) || (delOs st.o (ownIds at0)).all fun x => x.1 != k) = true then
                          cont s.o (vs'.flatMap CV.cells ++ ms')
                        else A.fail "loop: not the same"
                      | _, _ => A.fail "loop: values"
                    | e => K e s
              else A.fail "loop: rows twice"
        | _, _ => A.fail "loop: slots"
      | none => unroll A (exec A G n rd yl b) K n st
    | _ => A.fail "code"

/-- The walk over a function. -/
def execF (A : Alg R) (G : Cfg) (n : Nat) (fn : Func) (b : Code) (args : List SV) (c : Ctr) : R :=
  exec A G n none (fun _ _ _ _ => A.fail "yield") b { t := (List.range args.length).zip args, n := args.length + (fn.ntmps - args.length), m := [], c := c } fun e s =>
    match e with
    | .exit _ => A.fail "exit"
    | _ => match resOf G.P s fn.results.toList with
      | some l => A.fin (resV l) (namedM s.m (l.flatMap CV.cells)) (namedO s.o (l.flatMap CV.cells))
      | none => A.fail "results"
end Vc
