/- Vc, part B: the symbolic walk itself. No program in sight. -/
import Derived.Test.YtdhiapllbjamfaaVcA
set_option linter.unusedVariables false
set_option linter.unusedSimpArgs false
namespace Vc
open Go Go.RowKit

/-- Kinds of cells. -/
inductive CK where
  | int (k : IntKind)
  | bool
  | oth
  | str
  | sl (sz : Nat)
  | own (sz : Nat) (t : TypeId)
  deriving DecidableEq

abbrev Mem := List (Nat × List At × TypeId)
/-- Rows of the call's own that may grow: content, cells of an element, its type. -/
abbrev OMem := List (Nat × CE × Nat × TypeId)
/-- What the values of a list are. -/
inductive LP where
  | set (ce : CE) (ix : IE) (sz off : Nat) (l : List At)
  | rep (n : IE) (l : List At)
  deriving DecidableEq

/-- What the walk is written out as. -/
structure Alg (R : Type) where
  fail : String → R
  fin : SV → Mem → OMem → R
  int : Nat → IP → R → R
  chk : BE → R → R
  ite : BE → R → R → R
  call : FuncId → List SV → Mem → OMem → List At → SV → R → R
  xcall : FuncId → List SV → List At → SV → R → R
  load : At → Nat → IE → Nat → Nat → R → R
  loop : OMem → List At → OMem → List At → ((OMem → List At → R) → R) → R
  rd : At → CE → IE → Nat → Nat → R → R
  lst : Nat → LP → R → R
  ecp : Nat → At → Nat → R → R

/-- A loop: unrolled, or by an invariant, with cells (slot of a pointer, offset) that it changes. -/
inductive LH where
  | unroll
  | inv (cells : List (Nat × Nat)) (slots kill : List Nat)
  | invb (blks cells : List (Nat × Nat)) (slots kill : List Nat)
def LH.parts : LH → Option (List (Nat × Nat) × List (Nat × Nat) × List Nat × List Nat)
  | .unroll => none
  | .inv cells slots kill => some ([], cells, slots, kill)
  | .invb blks cells slots kill => some (blks, cells, slots, kill)

structure Cfg where
  P : Program
  calls : List FuncId
  ext : List FuncId
  inl : List FuncId
  loops : List (Nat × LH)

/-- How code is left. -/
inductive Ex where
  | normal
  | exit (id : Nat)
  | ret
  deriving DecidableEq
/-- The state of a walk: slots, memory of the call's own, counters, rows that grow, loops over functions (ready, or left), marks. -/
structure St where
  t : List (Nat × SV)
  n : Nat
  m : Mem
  c : Ctr
  o : OMem := []
  r : List (Nat × Option Ex) := []
  d : List Nat := []

def getS : List (Nat × SV) → Nat → SV
  | [], _ => .any
  | (j, v) :: r, i => if j = i then v else getS r i
def getM : Mem → Nat → Option (List At × TypeId)
  | [], _ => none
  | (j, v) :: r, i => if j = i then some v else getM r i
def setM : Mem → Nat → List At → Mem
  | [], _, _ => []
  | (j, v) :: r, i, cs => if j = i then (j, cs, v.2) :: r else (j, v) :: setM r i cs

def getO : OMem → Nat → Option (CE × Nat × TypeId)
  | [], _ => none
  | (j, v) :: r, i => if j = i then some v else getO r i
def delO : OMem → Nat → OMem
  | [], _ => []
  | (j, v) :: r, i => if j = i then delO r i else (j, v) :: delO r i
def delOs : OMem → List Nat → OMem
  | o, [] => o
  | o, k :: l => delOs (delO o k) l
def Sg.flat : Sg → Bool
  | .ats l => l.all At.flat
  | .var _ => true
def ceFlat (l : CE) : Bool := l.all Sg.flat

def St.ev (st : St) : Operand → SV
  | .tmp t => getS st.t t
  | .const v => SV.ofValue v
  | .global _ => .any
  | .func f => .cv (.one (.fn f []))

variable {R : Type}

def St.put (A : Alg R) (st : St) (dst : Option Tmp) (v : SV) (c : Ctr) (K : St → R) : R :=
  match dst with
  | none => K { st with c := c }
  | some d => if d < st.n ∧ v.wf c = true then K { st with t := (d, v) :: st.t, c := c } else A.fail "put"

/-- Is it a struct or an array; how many cells. -/
def szAgg (P : Program) (t : TypeId) : Option (Bool × Nat) :=
  match P.underlying t, P.info? t with
  | some d, some i => some (match d with | .struct _ | .array _ _ => true | _ => false, i.size)
  | _, _ => none

def pieces {α : Type} (f : α → Option (List CK)) : List α → Option (List CK)
  | [] => some []
  | x :: l => match f x, pieces f l with
    | some a, some b => some (a ++ b)
    | _, _ => none
def times {α : Type} (l : List α) : Nat → List α
  | 0 => []
  | n + 1 => l ++ times l n
/-- The kinds of a type's cells. -/
def cks (P : Program) : Nat → TypeId → Option (List CK)
  | 0, _ => none
  | n + 1, t => match P.underlying t with
    | some (.int k) => some [.int k]
    | some .bool => some [.bool]
    | some (.struct fs) => pieces (fun f => cks P n f.type) fs.toList
    | some (.array m e) => (cks P n e).map (times · m)
    | some .string => some [.str]
    | some (.slice e) => match szAgg P e with
      | some (_, s) => some [.sl s]
      | none => none
    | some _ => some [.oth]
    | none => none

def fresh1 (c : Ctr) : CK → At
  | .int k => .int k (.var c.ni)
  | .bool => .bool (.var c.nb)
  | .oth => .val c.nv
  | .str => .sv c.ns
  | .sl sz => .qsl c.nb c.np sz (.var c.ni) (.var (c.ni + 1))
  | .own _ _ => .own c.nk
def freshC (c : Ctr) : CK → Ctr
  | .int _ => { c with ni := c.ni + 1 }
  | .bool => { c with nb := c.nb + 1 }
  | .oth => { c with nv := c.nv + 1 }
  | .str => { c with ns := c.ns + 1 }
  | .sl _ => { c with nb := c.nb + 1, np := c.np + 1, ni := c.ni + 2 }
  | .own _ _ => { c with nk := c.nk + 4, nl := c.nl + 1 }
/-- Kinds without rows of the call's own. -/
def CK.plain : CK → Bool
  | .own .. => false
  | _ => true
def freshL (c : Ctr) : List CK → List At
  | [] => []
  | k :: l => fresh1 c k :: freshL (freshC c k) l
def freshLC (c : Ctr) : List CK → Ctr
  | [] => c
  | k :: l => freshLC (freshC c k) l
/-- The rows that are fresh. -/
def freshO (c : Ctr) : List CK → OMem
  | [] => []
  | .own sz t :: l => (c.nk, [.var c.nl], sz, t) :: freshO (freshC c (.own sz t)) l
  | k :: l => freshO (freshC c k) l

/-- The shapes of results. -/
def shapes (P : Program) : List TypeId → Option (List (Bool × List CK))
  | [] => some []
  | t :: l => match szAgg P t, cks P 30 t, shapes P l with
    | some (g, _), some ks, some r => if (g = true ∨ ks.length = 1) ∧ ks.all CK.plain = true then some ((g, ks) :: r) else none
    | _, _, _ => none
def shapeK : List (Bool × List CK) → List CK
  | [] => []
  | (_, ks) :: r => ks ++ shapeK r
def cvOf (g : Bool) (l : List At) : CV :=
  match g, l with
  | false, [a] => .one a
  | _, l => .agg l
def shapeV : List (Bool × List CK) → List At → List CV
  | [], _ => []
  | (g, ks) :: r, l => cvOf g (l.take ks.length) :: shapeV r (l.drop ks.length)
def resV (cs : List CV) : SV :=
  match cs with
  | [c] => .cv c
  | cs => .tup cs

def doInt (A : Alg R) (c : Ctr) (k : IntKind) (p : IP) (K : SV → Ctr → R) : R :=
  if p.lits = true then K (.cv (.one (.int k (.lit (p.den Env.zero))))) c
  else if p.wf c = true then A.int c.ni p (K (.cv (.one (.int k (.var c.ni)))) { c with ni := c.ni + 1 }) else A.fail "int"
/-- An integer: no kind, no wrap. -/
def doIE (A : Alg R) (c : Ctr) (p : IP) (K : IE → Ctr → R) : R :=
  if p.lits = true then K (.lit (p.den Env.zero)) c
  else if p.wf c = true then A.int c.ni p (K (.var c.ni) { c with ni := c.ni + 1 }) else A.fail "sum"
def doSum (A : Alg R) (c : Ctr) (op : IE → IE → IP) (a b : IE) (K : IE → Ctr → R) : R := doIE A c (op a b) K
/-- How many elements a row has. -/
def doOLen (A : Alg R) (c : Ctr) (ce : CE) (sz : Nat) (K : IE → Ctr → R) : R := doIE A c (.olen (ceNum ce) (ceVars ce) sz) K
def doChk (A : Alg R) (e : BE) (r : R) : R :=
  match e.sim with
  | .lit true => r
  | e' => A.chk e' r
def doFork (A : Alg R) (e : BE) (t f : Unit → R) : R :=
  match e.sim with
  | .lit true => t ()
  | .lit false => f ()
  | .not e' => A.ite e' (f ()) (t ())
  | .cmp .neq a b => A.ite (.cmp .eql a b) (f ()) (t ())
  | e' => A.ite e' (t ()) (f ())
/-- One of some numbers, which an integer is. -/
def doCases (A : Alg R) (e : IE) (n : Nat) : Nat → (Nat → R) → R
  | 0, _ => A.fail "cases"
  | 1, K => K (n - 1)
  | j + 2, K => doFork A (.cmp .eql e (.lit ((n - (j + 2) : Nat) : Int))) (fun _ => K (n - (j + 2))) (fun _ => doCases A e n (j + 1) K)

def isArith : BinOp → Bool
  | .add | .sub | .mul | .and | .or | .xor | .andNot => true
  | _ => false
def isCmp : BinOp → Bool
  | .eql | .neq | .lss | .leq | .gtr | .geq => true
  | _ => false

/-- Are values of a type compared cell by cell? -/
def eqFs (P : Program) (f : TypeId → Option (List CK)) : Nat → List Field → Option (List CK)
  | _, [] => some []
  | off, fd :: r => if fd.name = "_" ∨ fd.offset ≠ off then none else match f fd.type, szAgg P fd.type with
    | some ks, some (_, n) => if n = ks.length then (eqFs P f (off + n) r).map (ks ++ ·) else none
    | _, _ => none
def eqTy (P : Program) : Nat → TypeId → Option (List CK)
  | 0, _ => none
  | n + 1, t => match P.underlying t with
    | some (.int k) => some [.int k]
    | some .bool => some [.bool]
    | some .string => some [.str]
    | some (.struct fs) => if P.stoodInHeld t = true then none else eqFs P (eqTy P n) 0 fs.toList
    | some (.array m e) => match eqTy P n e, szAgg P e with
      | some ks, some (_, s) => if s = ks.length then some (times ks m) else none
      | _, _ => none
    | _ => none
/-- A string. -/
def strOf : At → Option SE
  | .str l => some (.lit l)
  | .sv i => some (.var i)
  | _ => none
/-- Are two cells of a kind one? -/
def eqOne (k : CK) (a b : At) : Option BE :=
  match k with
  | .int k => match a, b with
    | .int k1 a, .int k2 b => if k1 = k ∧ k2 = k then some (.cmp .eql a b) else none
    | _, _ => none
  | .bool => match a, b with
    | .bool a, .bool b => some (.eq a b)
    | _, _ => none
  | .str => match strOf a, strOf b with
    | some p, some q => some (.seq p q)
    | _, _ => none
  | _ => none
/-- Are the cells of two values, of these kinds, one? -/
def eqCells : List CK → List At → List At → Option BE
  | [], [], [] => some (.lit true)
  | k :: r, a :: x, b :: y => match eqOne k a b, eqCells r x y with
    | some e, some e' => some (.and e e')
    | _, _ => none
  | _, _, _ => none

def doBin (A : Alg R) (P : Program) (c : Ctr) (op : BinOp) (t : TypeId) (x y : SV) (K : SV → Ctr → R) : R :=
  match x, y with
  | .cv (.one (.int k a)), .cv (.one (.int k' b)) =>
    if op = .shl then
      match b with
      | .lit n => if 0 ≤ n ∧ n.toNat < k.bits then doInt A c k (.shl k a n.toNat) K else A.fail "shift"
      | b => doChk A (.cmp .geq b (.lit 0)) (doInt A c k (.bin .shl k a b) K)
    else if op = .shr then
      match b with
      | .lit n => if 0 ≤ n ∧ n.toNat < k.bits then doInt A c k (.shr a n.toNat) K else A.fail "shift"
      | b => doChk A (.cmp .geq b (.lit 0)) (doInt A c k (.bin .shr k a b) K)
    else if k = k' then
      if isArith op then doInt A c k (.bin op k a b) K
      else if op = .quo ∨ op = .rem then doChk A (.cmp .neq b (.lit 0)) (doInt A c k (.bin op k a b) K)
      else if isCmp op then K (.cv (.one (.bool (BE.cmp op a b).sim))) c
      else A.fail "binOp"
    else A.fail "binOp: kinds"
  | .cv (.one (.bool a)), .cv (.one (.bool b)) =>
    match P.underlying t with
    | some .bool =>
      if op = .eql then K (.cv (.one (.bool (BE.eq a b).sim))) c
      else if op = .neq then K (.cv (.one (.bool (BE.not (BE.eq a b)).sim))) c
      else A.fail "binOp: bools"
    | _ => A.fail "binOp: bools"
  | .cv (.agg a), .cv (.agg b) =>
    match eqTy P 30 t, szAgg P t with
    | some ks, some (true, _) => match eqCells ks a b with
      | some e =>
        if P.eqGuardType P.depth t = true then A.fail "binOp: guard"
        else if op = .eql then K (.cv (.one (.bool e.sim))) c
        else if op = .neq then K (.cv (.one (.bool (BE.not e).sim))) c
        else A.fail "binOp: structs"
      | none => A.fail "binOp: cells"
    | _, _ => A.fail "binOp: types"
  | .cv (.one x), .cv (.one y) =>
    match P.underlying t, strOf x, strOf y with
    | some .string, some a, some b =>
      if op = .eql then K (.cv (.one (.bool (BE.seq a b).sim))) c
      else if op = .neq then K (.cv (.one (.bool (BE.not (BE.seq a b)).sim))) c
      else A.fail "binOp: strings"
    | _, _, _ => A.fail "binOp: operands"
  | _, _ => A.fail "binOp: operands"

def doLoads (A : Alg R) (p : Nat) (ix : IE) (sz : Nat) : Nat → List CK → Ctr → (List At → Ctr → R) → R
  | _, [], c, K => K [] c
  | off, k :: l, c, K => A.load (fresh1 c k) p ix sz off (doLoads A p ix sz (off + 1) l (freshC c k) fun r c' => K (fresh1 c k :: r) c')

def doRds (A : Alg R) (ce : CE) (ix : IE) (sz : Nat) : Nat → List CK → Ctr → (List At → Ctr → R) → R
  | _, [], c, K => K [] c
  | off, k :: l, c, K => A.rd (fresh1 c k) ce ix sz off (doRds A ce ix sz (off + 1) l (freshC c k) fun r c' => K (fresh1 c k :: r) c')

/-- Known values of a row at a place that is known. -/
def knownAt (ce : CE) (ix : IE) (sz off : Nat) : Option (List At × Nat) :=
  match ix, ceAts ce with
  | .lit j, some cs => some (cs, j.toNat * sz + off)
  | _, _ => none

def doLoad (A : Alg R) (P : Program) (m : Mem) (o : OMem) (c : Ctr) (t : TypeId) (x : SV) (K : SV → Ctr → R) : R :=
  match szAgg P t with
  | none => A.fail "load: type"
  | some (g, n) =>
    match x with
    | .cv (.one (.oloc k ix sz off)) =>
      match getO o k with
      | none => A.fail "load: no such row"
      | some (ce, _, _) =>
        match knownAt ce ix sz off with
        | some (cs, p) =>
          if g = true then
            if p + n ≤ cs.length then K (.cv (.agg ((cs.drop p).take n))) c else A.fail "load: beyond"
          else match cs[p]? with
            | some a => K (.cv (.one a)) c
            | none => A.fail "load: beyond"
        | none =>
          match cks P 30 t with
          | none => A.fail "load: kinds"
          | some ks =>
            if ks.length = (if g = true then n else 1) ∧ ks.all CK.plain = true ∧ ceFlat ce = true ∧ ceWf c ce = true ∧ ix.wf c = true then
              doRds A ce ix sz off ks c fun l c' => K (.cv (cvOf g l)) c'
            else A.fail "load: kinds"
    | .cv (.one (.loc k off)) =>
      match getM m k with
      | none => A.fail "load: no such block"
      | some (cs, _) =>
        if g = true then
          if off + n ≤ cs.length then K (.cv (.agg ((cs.drop off).take n))) c else A.fail "load: beyond"
        else match cs[off]? with
          | some a => K (.cv (.one a)) c
          | none => A.fail "load: beyond"
    | .cv (.one (.ext p ix sz off)) =>
      match cks P 30 t with
      | none => A.fail "load: kinds"
      | some ks =>
        if ks.length = (if g = true then n else 1) ∧ ks.all CK.plain = true ∧ p < c.np ∧ ix.wf c = true then
          doLoads A p ix sz off ks c fun l c' => K (.cv (cvOf g l)) c'
        else A.fail "load: kinds"
    | _ => A.fail "load: address"

def doUn (A : Alg R) (c : Ctr) (op : UnOp) (x : SV) (K : SV → Ctr → R) : R :=
  match op, x with
  | .neg, .cv (.one (.int k a)) => doInt A c k (.neg k a) K
  | .xor, .cv (.one (.int k a)) => doInt A c k (.com k a) K
  | .not, .cv (.one (.bool a)) => K (.cv (.one (.bool (BE.not a).sim))) c
  | _, _ => A.fail "unOp"

def doConv (A : Alg R) (P : Program) (c : Ctr) (s d : TypeId) (x : SV) (K : SV → Ctr → R) : R :=
  match P.underlying s, P.underlying d, x with
  | some _, some (.int k), .cv (.one (.int _ a)) => doInt A c k (.conv k a) K
  | _, _, _ => A.fail "convert"

/-- A part of a value of some cells. -/
def partOf (P : Program) (t : TypeId) (cs : List At) (off : Nat) : Option CV :=
  match szAgg P t with
  | some (true, n) => if off + n ≤ cs.length then some (.agg ((cs.drop off).take n)) else none
  | some (false, _) => (cs[off]?).map .one
  | none => none
def doField (A : Alg R) (P : Program) (c : Ctr) (t : TypeId) (x : SV) (f : Nat) (K : SV → Ctr → R) : R :=
  match P.underlying t, x with
  | some (.struct fs), .cv (.agg cs) =>
    match fs[f]? with
    | some fd => match partOf P fd.type cs fd.offset with
      | some v => K (.cv v) c
      | none => A.fail "field: part"
    | none => A.fail "field"
  | _, _ => A.fail "field"
def doFieldAddr (A : Alg R) (P : Program) (c : Ctr) (s : TypeId) (x : SV) (f : Nat) (K : SV → Ctr → R) : R :=
  match P.underlying s with
  | some (.struct fs) => match fs[f]? with
    | some fd => match szAgg P fd.type with
      | some (_, n) => if n = 0 then A.fail "fieldAddr: no cells" else match x with
        | .cv (.one (.loc k off)) => K (.cv (.one (.loc k (off + fd.offset)))) c
        | .cv (.one (.ext p ix sz off)) => K (.cv (.one (.ext p ix sz (off + fd.offset)))) c
        | .cv (.one (.oloc k ix sz off)) => K (.cv (.one (.oloc k ix sz (off + fd.offset)))) c
        | _ => A.fail "fieldAddr: address"
      | none => A.fail "fieldAddr"
    | none => A.fail "fieldAddr"
  | _ => A.fail "fieldAddr"
def doIndexAddr (A : Alg R) (P : Program) (o : OMem) (c : Ctr) (t : TypeId) (x i : SV) (K : SV → Ctr → R) : R :=
  match i with
  | .cv (.one (.int _ e)) =>
    match P.underlying t, x with
    | some (.slice el), .cv (.one (.own k)) => match szAgg P el, getO o k with
      | some (_, s), some (ce, sz, _) => if s = sz ∧ 0 < sz then
          doOLen A c ce sz fun n c1 => doChk A (.cmp .geq e (.lit 0)) (doChk A (.cmp .lss e n) (K (.cv (.one (.oloc k e sz 0))) c1))
        else A.fail "indexAddr: a part of a row"
      | _, _ => A.fail "indexAddr: no such row"
    | some (.slice el), .cv (.one (.qsl q p sz len _)) => match szAgg P el with
      | some (_, s) => if s = sz then
          doChk A (.not (.var q)) (doChk A (.cmp .geq e (.lit 0)) (doChk A (.cmp .lss e len) (K (.cv (.one (.ext p e sz 0))) c)))
        else A.fail "indexAddr: a part of a slice"
      | none => A.fail "indexAddr"
    | some (.array n el), .cv (.one (.oloc k ix sz off)) => match szAgg P el with
      | some (_, s) => match e with
        | .lit j => if 0 ≤ j ∧ j.toNat < n then K (.cv (.one (.oloc k ix sz (off + j.toNat * s)))) c else A.fail "indexAddr: beyond"
        | e => doChk A (.cmp .geq e (.lit 0)) (doChk A (.cmp .lss e (.lit n)) (doCases A e n n fun j => K (.cv (.one (.oloc k ix sz (off + j * s)))) c))
      | none => A.fail "indexAddr"
    | some (.array n el), .cv (.one (.loc k off)) => match szAgg P el with
      | some (_, s) => match e with
        | .lit j => if 0 ≤ j ∧ j.toNat < n then K (.cv (.one (.loc k (off + j.toNat * s)))) c else A.fail "indexAddr: beyond"
        | e => doChk A (.cmp .geq e (.lit 0)) (doChk A (.cmp .lss e (.lit n)) (doCases A e n n fun j => K (.cv (.one (.loc k (off + j * s)))) c))
      | none => A.fail "indexAddr"
    | some (.array n el), .cv (.one (.ext p ix sz off)) => match szAgg P el with
      | some (_, s) => match e with
        | .lit j => if 0 ≤ j ∧ j.toNat < n then K (.cv (.one (.ext p ix sz (off + j.toNat * s)))) c else A.fail "indexAddr: beyond"
        | e => doChk A (.cmp .geq e (.lit 0)) (doChk A (.cmp .lss e (.lit n)) (doCases A e n n fun j => K (.cv (.one (.ext p ix sz (off + j * s)))) c))
      | none => A.fail "indexAddr"
    | some (.slice el), .cv (.one (.lsl k off len _)) => match szAgg P el with
      | some (_, s) => match e with
        | .lit j => if 0 ≤ j ∧ j.toNat < len then K (.cv (.one (.loc k (off + j.toNat * s)))) c else A.fail "indexAddr: beyond"
        | e => doChk A (.cmp .geq e (.lit 0)) (doChk A (.cmp .lss e (.lit len)) (doCases A e len len fun j => K (.cv (.one (.loc k (off + j * s)))) c))
      | none => A.fail "indexAddr"
    | some (.slice el), .cv (.one (.xsl p ix sz len _)) => match szAgg P el with
      | some (_, s) => if s = sz then
          doChk A (.cmp .geq e (.lit 0)) (doChk A (.cmp .lss e len) (if ix = .lit 0 then K (.cv (.one (.ext p e sz 0))) c
            else doChk A (.cmp .geq ix (.lit 0)) (doSum A c .sum ix e fun e' c' => K (.cv (.one (.ext p e' sz 0))) c')))
        else A.fail "indexAddr: a part of a slice"
      | none => A.fail "indexAddr"
    | _, _ => A.fail "indexAddr: operand"
  | _ => A.fail "indexAddr: index"
def doIndex (A : Alg R) (P : Program) (c : Ctr) (t : TypeId) (x i : SV) (K : SV → Ctr → R) : R :=
  match i with
  | .cv (.one (.int _ e)) =>
    match P.underlying t, x with
    | some (.array n el), .cv (.agg cs) => match szAgg P el with
      | some (_, s) => match e with
        | .lit j => if 0 ≤ j ∧ j.toNat < n then match partOf P el cs (j.toNat * s) with
            | some v => K (.cv v) c
            | none => A.fail "index: part"
          else A.fail "index: beyond"
        | e => doChk A (.cmp .geq e (.lit 0)) (doChk A (.cmp .lss e (.lit n)) (doCases A e n n fun j => match partOf P el cs (j * s) with
            | some v => K (.cv v) c
            | none => A.fail "index: part"))
      | none => A.fail "index"
    | some .string, .cv (.one x) => match strOf x with
      | some s => doIE A c (.slen s) fun n c1 => doChk A (.cmp .geq e (.lit 0)) (doChk A (.cmp .lss e n) (doInt A c1 .u8 (.sidx s e) K))
      | none => A.fail "index: a string"
    | _, _ => A.fail "index: operand"
  | _ => A.fail "index: index"

/-- Parts laid into cells. -/
def fillA (place : Nat → Option (Nat × Nat)) (cells : List At) : List (Nat × SV) → Option (List At)
  | [] => some cells
  | (i, .cv v) :: r => match place i with
    | some (off, size) => if v.cells.length = size ∧ off + size ≤ cells.length then fillA place (cells.take off ++ v.cells ++ cells.drop (off + size)) r else none
    | none => none
  | _ :: _ => none
def zeroA (P : Program) (t : TypeId) : Option CV :=
  match P.info? t with
  | some i => match i.zero with
    | some v => match SV.ofValue v with
      | .cv c => some c
      | _ => none
    | none => none
  | none => none
def fieldPlaces (P : Program) : List Field → Option (List (Nat × Nat))
  | [] => some []
  | f :: l => match szAgg P f.type, fieldPlaces P l with
    | some (_, n), some r => some ((f.offset, n) :: r)
    | _, _ => none
def doBuild (A : Alg R) (P : Program) (c : Ctr) (t : TypeId) (parts : List (Nat × SV)) (K : SV → Ctr → R) : R :=
  match P.underlying t, zeroA P t with
  | some (.struct fs), some z => match fieldPlaces P fs.toList with
    | some pl => match fillA (pl[·]?) z.cells parts with
      | some cs => K (.cv (.agg cs)) c
      | none => A.fail "build: parts"
    | none => A.fail "build: places"
  | some (.array _ el), some z => match szAgg P el with
    | some (_, s) => match fillA (fun i => some (i * s, s)) z.cells parts with
      | some cs => K (.cv (.agg cs)) c
      | none => A.fail "build: parts"
    | none => A.fail "build"
  | _, _ => A.fail "build"

def locsOf : List SV → Option (List (Nat × Nat))
  | [] => some []
  | .cv (.one (.loc k o)) :: r => (locsOf r).map ((k, o) :: ·)
  | _ => none
/-- The rows that values name. -/
def namedO (o : OMem) : List At → OMem
  | [] => []
  | .own k :: r => match getO o k with
    | some v => (k, v) :: namedO o r
    | none => namedO o r
  | _ :: r => namedO o r
/-- The blocks that values name. -/
def namedM (m : Mem) : List At → Mem
  | [] => []
  | .loc k _ :: r | .lsl k _ _ _ :: r => match getM m k with
    | some v => (k, v) :: namedM m r
    | none => namedM m r
  | _ :: r => namedM m r
def svCells : SV → List At
  | .cv c => c.cells
  | _ => []
def svAny : SV → Bool
  | .any => true
  | .und => true
  | _ => false
def tupSV : SV → List CV
  | .cv c => [c]
  | .tup l => l
  | _ => []

/-- A call by what is known of the function. -/
def doCall (A : Alg R) (G : Cfg) (m : Mem) (o : OMem) (c : Ctr) (f : FuncId) (args : List SV) (K : SV → Ctr → R) : R :=
  match G.P.funcs[f]? with
  | none => A.fail "call: no such function"
  | some fn => match shapes G.P fn.resultTypes.toList with
    | none => A.fail "call: results"
    | some ss =>
      if args.any svAny = true ∨ ¬ args.all (SV.wf c) = true then A.fail "call: arguments"
      else if G.ext.contains f = true then
        A.xcall f args (freshL c (shapeK ss)) (resV (shapeV ss (freshL c (shapeK ss)))) (K (resV (shapeV ss (freshL c (shapeK ss)))) (freshLC c (shapeK ss)))
      else if G.calls.contains f = true then
        A.call f args (namedM m (args.flatMap svCells)) (namedO o (args.flatMap svCells)) (freshL c (shapeK ss)) (resV (shapeV ss (freshL c (shapeK ss)))) (K (resV (shapeV ss (freshL c (shapeK ss)))) (freshLC c (shapeK ss)))
      else A.fail "call: unknown function"

def intOr (d : IE) : Option SV → Option IE
  | none => some d
  | some (.cv (.one (.int _ e))) => some e
  | some _ => none
/-- A part of a slice. -/
def doSlice1 (A : Alg R) (P : Program) (c : Ctr) (t : TypeId) (x : SV) (lo hi : Option SV) (K : SV → Ctr → R) : R :=
  match P.underlying t, x with
  | some (.slice el), .cv (.one (.xsl p ix sz len cap)) => match szAgg P el, intOr (.lit 0) lo, intOr len hi with
    | some (_, s), some l, some h => if s = sz then
        doChk A (.cmp .geq len (.lit 0)) (doChk A (.cmp .leq len cap) (doChk A (.cmp .geq l (.lit 0)) (doChk A (.cmp .leq l h) (doChk A (.cmp .leq h cap) (
          if l = .lit 0 then K (.cv (.one (.xsl p ix sz h cap))) c
          else doChk A (.cmp .geq ix (.lit 0)) (doSum A c .diff h l fun len' c1 => doSum A c1 .diff cap l fun cap' c2 =>
            doFork A (.cmp .lss l cap) (fun _ => doSum A c2 .sum ix l fun ix' c3 => K (.cv (.one (.xsl p ix' sz len' cap'))) c3) (fun _ => K (.cv (.one (.xsl p ix sz len' cap'))) c2)))))))
      else A.fail "slice: size"
    | _, _, _ => A.fail "slice: bounds"
  | some (.slice el), .cv (.one (.lsl k off len cap)) => match szAgg P el, intOr (.lit 0) lo, intOr (.lit len) hi with
    | some (_, s), some (.lit l), some (.lit h) =>
      if 0 ≤ l ∧ l ≤ h ∧ h ≤ cap then K (.cv (.one (.lsl k (if l.toNat = cap then off else off + l.toNat * s) (h.toNat - l.toNat) (cap - l.toNat)))) c else A.fail "slice: beyond"
    | _, _, _ => A.fail "slice: bounds"
  | some (.array n el), .cv (.one (.loc k off)) => match szAgg P el, intOr (.lit 0) lo, intOr (.lit n) hi with
    | some (_, s), some (.lit l), some (.lit h) =>
      if 0 ≤ l ∧ l ≤ h ∧ h ≤ n then K (.cv (.one (.lsl k (if l.toNat = n then off else off + l.toNat * s) (h.toNat - l.toNat) (n - l.toNat)))) c else A.fail "slice: beyond"
    | _, _, _ => A.fail "slice: bounds"
  | _, _ => A.fail "slice: operand"
/-- The same, of a slice that may be nil. -/
def doSlice (A : Alg R) (P : Program) (c : Ctr) (t : TypeId) (x : SV) (lo hi : Option SV) (K : SV → Ctr → R) : R :=
  match x with
  | .cv (.one (.qsl q p sz len cap)) => doChk A (.not (.var q)) (doSlice1 A P c t (.cv (.one (.xsl p (.lit 0) sz len cap))) lo hi K)
  | x => doSlice1 A P c t x lo hi K
def doLen (A : Alg R) (P : Program) (o : OMem) (c : Ctr) (t : Option TypeId) (x : SV) (K : SV → Ctr → R) : R :=
  match t.bind P.underlying, x with
  | some (.slice _), .cv (.one (.own k)) => match getO o k with
    | some (ce, sz, _) => if 0 < sz then doOLen A c ce sz fun n c1 => K (.cv (.one (.int .i64 n))) c1 else A.fail "len"
    | none => A.fail "len: no such row"
  | some (.slice _), .cv (.one (.qsl q _ _ len _)) => doChk A (.cmp .geq len (.lit 0)) (doChk A (.or (.not (.var q)) (.cmp .eql len (.lit 0))) (K (.cv (.one (.int .i64 len))) c))
  | some .string, .cv (.one (.sv i)) => doIE A c (.slen (.var i)) fun n c1 => K (.cv (.one (.int .i64 n))) c1
  | some (.slice _), .cv (.one (.lsl _ _ len _)) => K (.cv (.one (.int .i64 (.lit len)))) c
  | some (.slice _), .cv (.one .nils) => K (.cv (.one (.int .i64 (.lit 0)))) c
  | some (.slice _), .cv (.one (.xsl _ _ _ len _)) => doChk A (.cmp .geq len (.lit 0)) (K (.cv (.one (.int .i64 len))) c)
  | some .string, .cv (.one (.str l)) => K (.cv (.one (.int .i64 (.lit l.length)))) c
  | some (.array n _), _ => K (.cv (.one (.int .i64 (.lit n)))) c
  | _, _ => A.fail "len"
def doMinMax (A : Alg R) (c : Ctr) (mx : Bool) (x y : SV) (K : SV → Ctr → R) : R :=
  match x, y with
  | .cv (.one (.int k a)), .cv (.one (.int _ b)) => doInt A c k (if mx then .max a b else .min a b) K
  | _, _ => A.fail "min, max"

/-- Operations that only compute a value (and may read, and may call by a contract). -/
def opv (A : Alg R) (G : Cfg) (st : St) (o : Oper) (K : SV → Ctr → R) : R :=
  match o.op with
  | .move x => K (st.ev x) st.c
  | .assign x => K (st.ev x) st.c
  | .pick x a b => match st.ev x with
    | .cv (.one (.bool e)) => doFork A e (fun _ => K (st.ev a) st.c) (fun _ => K (st.ev b) st.c)
    | _ => A.fail "pick"
  | .load t x => doLoad A G.P st.m st.o st.c t (st.ev x) K
  | .nilCheck x => match st.ev x with
    | .cv (.one (.loc k off)) => K (.cv (.one (.loc k off))) st.c
    | .cv (.one (.ext p ix sz off)) => K (.cv (.one (.ext p ix sz off))) st.c
    | .cv (.one (.oloc k ix sz off)) => K (.cv (.one (.oloc k ix sz off))) st.c
    | .cv (.one (.fn f caps)) => K (.cv (.one (.fn f caps))) st.c
    | .cv (.one (.mfn f first caps)) => K (.cv (.one (.mfn f first caps))) st.c
    | .cv (.one (.yld k)) => K (.cv (.one (.yld k))) st.c
    | _ => A.fail "nilCheck"
  | .binOp op t x y _ => doBin A G.P st.c op t (st.ev x) (st.ev y) K
  | .unOp op _ x => doUn A st.c op (st.ev x) K
  | .convert s d x => doConv A G.P st.c s d (st.ev x) K
  | .field t x f => doField A G.P st.c t (st.ev x) f K
  | .fieldAddr s x f => doFieldAddr A G.P st.c s (st.ev x) f K
  | .indexAddr t x i => doIndexAddr A G.P st.o st.c t (st.ev x) (st.ev i) K
  | .index t x i => doIndex A G.P st.c t (st.ev x) (st.ev i) K
  | .extract x i => match st.ev x with
    | .tup l => match l[i]? with
      | some v => K (.cv v) st.c
      | none => A.fail "extract"
    | _ => A.fail "extract"
  | .build t parts => doBuild A G.P st.c t (parts.toList.map fun p => (p.1, st.ev p.2)) K
  | .slice t x lo hi none => doSlice A G.P st.c t (st.ev x) (lo.map st.ev) (hi.map st.ev) K
  | .makeFunc (.func f) first caps => if first.size = 0 then match locsOf (caps.toList.map st.ev) with
      | some l => K (.cv (.one (.fn f l))) st.c
      | none => A.fail "makeFunc"
    else match locsOf (first.toList.map st.ev), locsOf (caps.toList.map st.ev) with
      | some q, some l => K (.cv (.one (.mfn f q l))) st.c
      | _, _ => A.fail "makeFunc"
  | .call { callee := .builtin .len, args, argTypes } => match args.toList with
    | [x] => doLen A G.P st.o st.c argTypes[0]? (st.ev x) K
    | _ => A.fail "len"
  | .call { callee := .builtin .max, args, .. } => match args.toList with
    | [x, y] => doMinMax A st.c true (st.ev x) (st.ev y) K
    | _ => A.fail "max"
  | .call { callee := .builtin .min, args, .. } => match args.toList with
    | [x, y] => doMinMax A st.c false (st.ev x) (st.ev y) K
    | _ => A.fail "min"
  | .call { callee := .value g, args, .. } => match st.ev g with
    | .cv (.one (.fn f caps)) => doCall A G st.m st.o st.c f (args.toList.map st.ev ++ caps.map fun x => .cv (.one (.loc x.1 x.2))) K
    | .cv (.one (.mfn f first caps)) => doCall A G st.m st.o st.c f ((first.map fun x => .cv (.one (.loc x.1 x.2))) ++ (args.toList.map st.ev ++ caps.map fun x => .cv (.one (.loc x.1 x.2)))) K
    | _ => A.fail "call: value"
  | _ => A.fail "operation"
end Vc
