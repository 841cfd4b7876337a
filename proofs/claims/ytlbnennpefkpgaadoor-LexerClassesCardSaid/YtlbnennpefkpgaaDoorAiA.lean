/- An interpreter over trees: definitions, relations. No conditions of its own. -/
import Derived.WalkKit
set_option linter.unusedVariables false
set_option linter.unusedSimpArgs false
namespace Go.AI
open Go

/-- An abstract value. -/
inductive D where
  | bool (b : Bool)
  | int (k : IntKind) (n : Int)
  | str (l : List UInt8)
  | ptr (i off : Nat)
  | rptr (i ver idx r : Nat)
  | tptr (cs : List D)
  | nilptr
  | empty
  | slice (es : List D)
  | arr (i ver off n : Nat)
  | map (i : Nat)
  | nilmap
  | func (f : FuncId) (first captured : List D)
  | nilfunc
  | yield (i : Nat)
  | iface (t : TypeId) (v : D)
  | niliface
  | agg (cs : List D)
  | tuple (vs : List D)
  | undef
  | any
  deriving Inhabited, Repr

/-- The cells of a value. -/
def D.cells : D → List D
  | .agg cs => cs
  | d => [d]

/-- One cell, of which something is known. -/
def D.one : D → Bool
  | .agg _ | .tuple _ | .undef | .any => false
  | _ => true

inductive AOpd where
  | tmp (t : Nat)
  | lit (d : D)
  | glob (g : Nat)
  deriving Inhabited, Repr

inductive ACallee where
  | fn (f : FuncId)
  | val (x : AOpd)
  deriving Inhabited, Repr

/-- What '==' compares. -/
inductive EqC where
  | none | bool | agg (ks : List Nat) | ptr | iface | func | map
  deriving Inhabited, Repr, DecidableEq

/-- An operation, its types looked up. -/
inductive AOp where
  | mv (x : AOpd)
  | newrow (sz : Nat)
  | pick (c a b : AOpd)
  | alloc (zero : List D)
  | allocRow (sz : Nat)
  | box (x : AOpd)
  | build (zero : List D) (parts : List (Nat × Nat × AOpd))
  | buildSlice (sz len : Nat) (zero : List D) (parts : List (Nat × AOpd))
  | buildRow (sz len : Nat) (zero : List D) (parts : List (Nat × AOpd))
  | load (agg : Bool) (size : Nat) (x : AOpd)
  | store (size : Nat) (a v : AOpd)
  | nilCheck (x : AOpd)
  | arith (op : BinOp) (c : EqC) (x y : AOpd)
  | neg (x : AOpd)
  | not (x : AOpd)
  | toInt (k : IntKind) (x : AOpd)
  | toStr (x : AOpd)
  | same (x : AOpd)
  | mkIface (t : TypeId) (x : AOpd)
  | mkFunc (f : FuncId) (first captured : List AOpd)
  | mkMap
  | mkSlice (sz bytes : Nat) (zero : D) (len cap : AOpd)
  | sliceStr (x : AOpd) (lo hi : Option AOpd)
  | sliceRow (sz : Nat) (x : AOpd) (lo hi mx : Option AOpd)
  | addOff (off : Nat) (x : AOpd)
  | fieldOf (agg : Bool) (off size : Nat) (x : AOpd)
  | indexAddrS (sz : Nat) (x i : AOpd)
  | indexAddrA (len sz : Nat) (x i : AOpd)
  | indexA (agg : Bool) (len sz : Nat) (x i : AOpd)
  | indexStr (x i : AOpd)
  | lookup (kc : Nat) (zero : D) (commaOk : Bool) (x k : AOpd)
  | mapUpdate (kc : Nat) (m k v : AOpd)
  | rangeStr (x : AOpd)
  | nextStr (x : AOpd)
  | typeAssert (t : TypeId) (zero : D) (commaOk : Bool) (x : AOpd)
  | extract (x : AOpd) (i : Nat)
  | len (str : Bool) (x : AOpd)
  | append (sz bytes : Nat) (s x : AOpd)
  | max2 (xs : List AOpd)
  | min2 (xs : List AOpd)
  | call (c : ACallee) (args : List AOpd)
  | panic (x : AOpd)
  deriving Inhabited, Repr

structure AOper where
  dst : Option Nat
  op : AOp
  guard : Option (Nat × Bool)     -- the temporary that is asked, and what it has to be
  reads : List Nat                -- what it looks at (of a region that draws its order)
  deriving Inhabited, Repr

inductive ACode where
  | skip
  | region (ops : List AOper) (keep : Option (List Nat))
  | drawn (ops : List AOper) (anc : List Nat) (keep : Option (List Nat))
  | seq (a b : ACode)
  | cond (c : AOpd) (thn els : ACode)
  | block (id : Nat) (body : ACode)
  | loop (body : ACode)
  | exit (id : Nat)
  | label (l : Nat)
  | goto (l : Nat)
  | scope (body : ACode) (jump : Option (Nat × ACode))
  | rangeFunc (f : AOpd) (params : List Nat) (assign body : ACode)
  | ret
  deriving Inhabited, Repr

inductive ARes where
  | tmp (t : Nat)
  | cell (t : Nat) (agg : Bool) (size : Nat)
  deriving Inhabited, Repr

structure AFunc where
  ntmps : Nat
  nparams : Nat
  results : List ARes
  body : ACode
  deriving Inhabited, Repr

/-! ### Values of memory -/

abbrev Env := List (Nat × D)

/-- How a round may leave. -/
inductive AJump where
  | ret
  | exit (id : Nat)
  | goto (l : Nat)
  deriving Inhabited, Repr, DecidableEq

deriving instance Repr for LoopState

/-- What may change, by its number. -/
inductive Obj where
  | box (cs : List D)
  | row (sz : Nat) (es : List D) (since : Nat)
  | fro (sz : Nat) (es : List D) (since : Nat)
  | siter (l : List UInt8) (pos : Nat)
  | map (kvs : List (D × D))
  | loop (n : Nat) (env : Env) (params : List Nat) (assign body : ACode) (state : LoopState) (pending : Option AJump)
  deriving Inhabited, Repr

abbrev St := List Obj


def getE : Env → Nat → D
  | [], _ => .any
  | (t, d) :: r, s => if t = s then d else getE r s

def setE : Env → Nat → D → Env
  | [], s, v => [(s, v)]
  | (t, d) :: r, s, v => if t = s then (t, v) :: r else (t, d) :: setE r s v

/-- Only some temporaries stay. -/
def keepE (keep : Option (List Nat)) (e : Env) : Env :=
  match keep with
  | none => e
  | some l => l.map fun t => (t, getE e t)

/-- The elements of a slice. -/
def rowOf (σ : St) : D → Option (List D)
  | .slice es => some es
  | .empty => some []
  | .arr i ver off n =>
    match σ[i]? with
    | some (.row _ es since) | some (.fro _ es since) =>
      if since ≤ ver ∧ off + n ≤ ver ∧ ver ≤ es.length then some ((es.drop off).take n) else none
    | _ => none
  | _ => none

def cutCells (agg : Bool) (size : Nat) (cs : List D) : Option D :=
  if agg then (if size ≤ cs.length then some (.agg (cs.take size)) else none)
  else if size = 1 then cs.head? else none

def loadD (σ : St) (agg : Bool) (size : Nat) : D → Option D
  | .ptr i off =>
    match σ[i]? with
    | some (.box cs) => cutCells agg size (cs.drop off)
    | _ => none
  | .rptr i ver idx r =>
    match σ[i]? with
    | some (.row _ es since) | some (.fro _ es since) =>
      if since ≤ ver ∧ idx < ver ∧ ver ≤ es.length then
        match es[idx]? with
        | some e => cutCells agg size (e.cells.drop r)
        | none => none
      else none
    | _ => none
  | .tptr cs => cutCells agg size cs
  | _ => none

def putCells (cs : List D) (off : Nat) (vs : List D) : Option (List D) :=
  if off + vs.length ≤ cs.length ∧ vs.all D.one = true then some (cs.take off ++ vs ++ cs.drop (off + vs.length)) else none

def storeD (σ : St) (size : Nat) (v : D) : D → Option St
  | .ptr i off =>
    match σ[i]? with
    | some (.box cs) => if v.cells.length = size then (putCells cs off v.cells).map fun cs' => σ.set i (.box cs') else none
    | _ => none
  | .rptr i ver idx r =>
    match σ[i]? with
    | some (.row sz es _) =>
      if ver = es.length ∧ idx < ver ∧ v.cells.length = size then
        match es[idx]? with
        | some (.agg cs) => (putCells cs r v.cells).map fun cs' => σ.set i (.row sz (es.set idx (.agg cs')) es.length)
        | some _ => if r = 0 ∧ v.one = true then some (σ.set i (.row sz (es.set idx v) es.length)) else none
        | none => none
      else none
    | _ => none
  | _ => none

/-- Scalars of one kind: bools, whole numbers, strings. -/
def D.kindEq : Nat → D → D → Option Bool
  | 0, .bool a, .bool b => some (a == b)
  | 1, .int j a, .int k b => if j = k then some (a == b) else none
  | 2, .str a, .str b => some (a == b)
  | _, _, _ => none

def flatEqs : List Nat → List D → List D → Option Bool
  | [], [], [] => some true
  | k :: ks, a :: x, b :: y => match D.kindEq k a b with
    | some t => (flatEqs ks x y).map (t && ·)
    | none => none
  | _, _, _ => none

def eqD : EqC → D → D → Option Bool
  | .bool, .bool a, .bool b => some (a == b)
  | .agg ks, .agg x, .agg y => flatEqs ks x y
  | .ptr, .nilptr, .nilptr => some true
  | .ptr, .ptr _ _, .nilptr | .ptr, .nilptr, .ptr _ _ | .ptr, .rptr .., .nilptr | .ptr, .nilptr, .rptr .. => some false
  | .iface, .iface _ _, .niliface | .iface, .niliface, .iface _ _ => some false
  | .func, .nilfunc, .nilfunc => some true
  | .func, .func .., .nilfunc | .func, .nilfunc, .func .. => some false
  | .map, .nilmap, .nilmap => some true
  | .map, .map _, .nilmap | .map, .nilmap, .map _ => some false
  | _, _, _ => none

def bytesLess : List UInt8 → List UInt8 → Bool := Op.bytesLess

def intArith (op : BinOp) (k : IntKind) (a b : Int) : Option D :=
  match op with
  | .add => some (.int k (k.wrap (a + b)))
  | .sub => some (.int k (k.wrap (a - b)))
  | .mul => some (.int k (k.wrap (a * b)))
  | .quo => if b = 0 then none else some (.int k (k.wrap (a.tdiv b)))
  | .rem => if b = 0 then none else some (.int k (a.tmod b))
  | .and => some (.int k (k.wrap ((BitVec.ofInt k.bits a &&& BitVec.ofInt k.bits b).toNat)))
  | .or => some (.int k (k.wrap ((BitVec.ofInt k.bits a ||| BitVec.ofInt k.bits b).toNat)))
  | .eql => some (.bool (a == b))
  | .neq => some (.bool (a != b))
  | .lss => some (.bool (a < b))
  | .leq => some (.bool (a ≤ b))
  | .gtr => some (.bool (a > b))
  | .geq => some (.bool (a ≥ b))
  | _ => none

def strArith (op : BinOp) (x y : List UInt8) : Option D :=
  match op with
  | .add => if x.length + y.length ≤ 9223372036854775807 then some (.str (x ++ y)) else none
  | .eql => some (.bool (x == y))
  | .neq => some (.bool (!(x == y)))
  | .lss => some (.bool (bytesLess x y))
  | .leq => some (.bool (bytesLess x y || x == y))
  | .gtr => some (.bool !(bytesLess x y || x == y))
  | .geq => some (.bool !(bytesLess x y))
  | _ => none

def arithD (op : BinOp) (c : EqC) (x y : D) : Option D :=
  match op, x, y with
  | .shl, .int k a, .int _ b => if b < 0 then none else some (.int k (k.wrap (a * 2 ^ (min b.toNat k.bits))))
  | .shr, .int k a, .int _ b => if b < 0 then none else some (.int k (a.fdiv (2 ^ (min b.toNat k.bits))))
  | op, .int k a, .int k' b => if k = k' then intArith op k a b else none
  | op, .str a, .str b => strArith op a b
  | .eql, x, y => (eqD c x y).map .bool
  | .neq, x, y => (eqD c x y).map fun b => .bool (!b)
  | _, _, _ => none

/-- Parts laid into cells. -/
def fillD (cs : List D) : List (Nat × Nat × D) → Option (List D)
  | [] => some cs
  | (off, size, v) :: rest =>
    if v.cells.length = size then
      match putCells cs off v.cells with
      | some cs' => fillD cs' rest
      | none => none
    else none

/-- Elements laid into a row. -/
def fillRow (sz : Nat) (es : List D) : List (Nat × D) → Option (List D)
  | [] => some es
  | (i, v) :: rest => if v.cells.length = sz ∧ i < es.length ∧ v.cells.all D.one = true then fillRow sz (es.set i v) rest else none

def mapFind (kc : Nat) (k : D) : List (D × D) → Option (Option D)
  | [] => some none
  | (k', v) :: r => match D.kindEq kc k k' with
    | some true => some (some v)
    | some false => mapFind kc k r
    | none => none

def mapSet (kc : Nat) (k v : D) : List (D × D) → Option (List (D × D))
  | [] => some [(k, v)]
  | (k', v') :: r => match D.kindEq kc k k' with
    | some true => some ((k, v) :: r)
    | some false => (mapSet kc k v r).map ((k', v') :: ·)
    | none => none

def bound (n : Nat) (dflt : Nat) : Option D → Option Nat
  | none => some dflt
  | some (.int _ i) => if 0 ≤ i ∧ i ≤ n then some i.toNat else none
  | some _ => none

/-- What an operation comes to. -/
inductive Nx where
  | value (d : D)
  | skip
  | enter (f : FuncId) (args : List D)
  | yield (i : Nat) (args : List D)
  | panic (d : D)
  deriving Inhabited, Repr

/-- What is known of the program: its laid tables, as cells; its functions without a body. -/
structure Gl where
  g : Nat → Option (List D)
  nat : FuncId → Option (List D → Option D)

abbrev lookA (glob : Gl) (e : Env) : AOpd → D
  | .tmp t => getE e t
  | .lit d => d
  | .glob g => match glob.g g with | some cs => .tptr cs | none => .any

def val (d : Option D) (σ : St) : Option (Nx × St) := d.map fun d => (.value d, σ)

def stepOp (look : AOpd → D) (σ : St) : AOp → Option (Nx × St)
  | .mv x => some (.value (look x), σ)
  | .newrow sz => some (.value (.arr σ.length 0 0 0), σ ++ [.row sz [] 0])
  | .pick c a b => match look c with
    | .bool t => some (.value (if t then look a else look b), σ)
    | _ => none
  | .alloc zero => some (.value (.ptr σ.length 0), σ ++ [.box zero])
  | .allocRow sz => some (.value (.ptr (σ.length + 1) 0), σ ++ [.row sz [] 0, .box [.arr σ.length 0 0 0]])
  | .box x => if (look x).cells.all D.one = true then some (.value (.ptr σ.length 0), σ ++ [.box (look x).cells]) else none
  | .build zero parts => val ((fillD zero (parts.map fun (o, s, x) => (o, s, look x))).map .agg) σ
  | .buildSlice sz len zero parts => if zero.length = sz ∧ 0 < sz ∧ zero.all D.one = true then val ((fillRow sz (List.replicate len (if sz = 1 then zero.headD .any else .agg zero)) (parts.map fun (i, x) => (i, look x))).map fun es => if len = 0 then .empty else .slice es) σ else none
  | .buildRow sz len zero parts => if zero.length = sz ∧ 0 < sz ∧ zero.all D.one = true then (fillRow sz (List.replicate len (if sz = 1 then zero.headD .any else .agg zero)) (parts.map fun (i, x) => (i, look x))).map fun es => (.value (.arr σ.length es.length 0 es.length), σ ++ [.row sz es 0]) else none
  | .load agg size x => val (loadD σ agg size (look x)) σ
  | .store size a v => (storeD σ size (look v) (look a)).map fun σ' => (.skip, σ')
  | .nilCheck x => match look x with
    | .ptr i o => some (.value (.ptr i o), σ)
    | .rptr i v x r => some (.value (.rptr i v x r), σ)
    | .tptr cs => some (.value (.tptr cs), σ)
    | _ => none
  | .arith op c x y => val (arithD op c (look x) (look y)) σ
  | .neg x => match look x with
    | .int k n => some (.value (.int k (k.wrap (0 - n))), σ)
    | _ => none
  | .not x => match look x with
    | .bool b => some (.value (.bool !b), σ)
    | _ => none
  | .toInt k x => match look x with
    | .int _ n => some (.value (.int k (k.wrap n)), σ)
    | _ => none
  | .toStr x => match look x with
    | .int _ n => if 0 ≤ n ∧ n < 128 then some (.value (.str [UInt8.ofNat n.toNat]), σ) else none
    | .str l => some (.value (.str l), σ)
    | _ => none
  | .same x => some (.value (look x), σ)
  | .mkIface t x => some (.value (.iface t (look x)), σ)
  | .mkFunc f first captured => some (.value (.func f (first.map look) (captured.map look)), σ)
  | .mkMap => some (.value (.map σ.length), σ ++ [.map []])
  | .mkSlice sz bytes zero len cap => match look len, look cap with
    | .int .i64 n, .int .i64 c =>
      if 0 ≤ n ∧ n ≤ c ∧ c.toNat * bytes ≤ 140737488355328 ∧ c.toNat ≤ 140737488355328 ∧ zero.cells.length = sz ∧ 0 < sz ∧ zero.cells.all D.one = true
      then some (.value (.arr σ.length n.toNat 0 n.toNat), σ ++ [.row sz (List.replicate n.toNat zero) 0]) else none
    | _, _ => none
  | .sliceStr x lo hi => match look x with
    | .str l => match bound l.length l.length (hi.map look) with
      | some h => match bound h 0 (lo.map look) with
        | some b => some (.value (.str ((l.take h).drop b)), σ)
        | none => none
      | none => none
    | _ => none
  | .sliceRow sz x lo hi mx => match look x, mx with
    | .slice es, none => match bound es.length es.length (hi.map look) with
      | some h => match bound h 0 (lo.map look) with
        | some b => if (es.all fun e => e.cells.length == sz) = true then some (.value (.slice ((es.take h).drop b)), σ) else none
        | none => none
      | none => none
    | .arr i ver off n, none => match σ[i]? with
      | some (.row sz' es since) | some (.fro sz' es since) =>
        if sz' = sz ∧ since ≤ ver ∧ ver ≤ es.length then
          match bound n n (hi.map look) with
          | some h => match bound h 0 (lo.map look) with
            | some b => some (.value (if b = h then .slice [] else .arr i ver (off + b) (h - b)), σ)
            | none => none
          | none => none
        else none
      | _ => none
    | .slice _, some m | .arr .., some m | .empty, some m => match (lo.map look), (hi.map look), look m with
      | none, some (.int _ 0), .int _ 0 => some (.value .empty, σ)
      | some (.int _ 0), some (.int _ 0), .int _ 0 => some (.value .empty, σ)
      | _, _, _ => none
    | .empty, none => match bound 0 0 (hi.map look) with
      | some h => match bound h 0 (lo.map look) with
        | some _ => some (.value .empty, σ)
        | none => none
      | none => none
    | _, _ => none
  | .addOff off x => match look x with
    | .ptr i o => some (.value (.ptr i (o + off)), σ)
    | .rptr i v idx r => some (.value (.rptr i v idx (r + off)), σ)
    | .tptr cs => some (.value (.tptr (cs.drop off)), σ)
    | _ => none
  | .fieldOf agg off size x => match look x with
    | .agg cs => if off + size ≤ cs.length then val (cutCells agg size (cs.drop off)) σ else none
    | _ => none
  | .indexAddrS sz x i => match look x, look i with
    | .slice es, .int _ n => if 0 ≤ n ∧ n < es.length then
        match es[n.toNat]? with
        | some e => if e.cells.length = sz then some (.value (.tptr e.cells), σ) else none
        | none => none
      else none
    | .arr i ver off m, .int _ n => if 0 ≤ n ∧ n < m then
        match σ[i]? with
        | some (.row sz' es since) | some (.fro sz' es since) => if sz' = sz ∧ since ≤ ver ∧ ver ≤ es.length then some (.value (.rptr i ver (off + n.toNat) 0), σ) else none
        | _ => none
      else none
    | _, _ => none
  | .indexAddrA len sz x i => match look i with
    | .int _ n => if 0 ≤ n ∧ n < len then
        match look x with
        | .ptr i o => some (.value (.ptr i (o + n.toNat * sz)), σ)
        | .rptr i v idx r => some (.value (.rptr i v idx (r + n.toNat * sz)), σ)
        | .tptr cs => some (.value (.tptr (cs.drop (n.toNat * sz))), σ)
        | _ => none
      else none
    | _ => none
  | .indexA agg len sz x i => match look x, look i with
    | .agg cs, .int _ n => if 0 ≤ n ∧ n < len ∧ (n.toNat + 1) * sz ≤ cs.length then val (cutCells agg sz (cs.drop (n.toNat * sz))) σ else none
    | _, _ => none
  | .indexStr x i => match look x, look i with
    | .str l, .int _ n => if 0 ≤ n ∧ n < l.length then
        match l[n.toNat]? with
        | some b => some (.value (.int .u8 b.toNat), σ)
        | none => none
      else none
    | _, _ => none
  | .lookup kc zero commaOk x k =>
    match D.kindEq kc (look k) (look k) with
    | none => none
    | some _ =>
      match (match look x with
        | .nilmap => some none
        | .map i => match σ[i]? with
          | some (.map kvs) => mapFind kc (look k) kvs
          | _ => none
        | _ => none) with
      | some r => some (.value (if commaOk then .tuple [r.getD zero, .bool r.isSome] else r.getD zero), σ)
      | none => none
  | .mapUpdate kc m k v => match look m with
    | .map i => match σ[i]? with
      | some (.map kvs) => match D.kindEq kc (look k) (look k) with
        | none => none
        | some _ => (mapSet kc (look k) (look v) kvs).map fun kvs' => (.skip, σ.set i (.map kvs'))
      | _ => none
    | _ => none
  | .rangeStr x => match look x with
    | .str l => some (.value (.ptr σ.length 0), σ ++ [.siter l 0])
    | _ => none
  | .nextStr x => match look x with
    | .ptr i 0 => match σ[i]? with
      | some (.siter l pos) =>
        if pos < l.length then
          let cw := Utf8.decode ⟨l.toArray⟩ pos
          some (.value (.tuple [.bool true, .int .i64 pos, .int .i32 cw.1]), σ.set i (.siter l (pos + cw.2)))
        else some (.value (.tuple [.bool false]), σ)
      | _ => none
    | _ => none
  | .typeAssert t zero commaOk x => match look x with
    | .iface t' v => if t' = t then some (.value (if commaOk then .tuple [v, .bool true] else v), σ)
      else if commaOk then some (.value (.tuple [zero, .bool false]), σ) else none
    | _ => none
  | .extract x i => match look x with
    | .tuple vs => val vs[i]? σ
    | _ => none
  | .len str x => match str, look x with
    | true, .str l => some (.value (.int .i64 l.length), σ)
    | false, .slice es => some (.value (.int .i64 es.length), σ)
    | false, .empty => some (.value (.int .i64 0), σ)
    | false, .arr _ _ _ n => some (.value (.int .i64 n), σ)
    | _, _ => none
  | .append sz bytes s x =>
    match rowOf σ (look x) with
    | some xs =>
      if (xs.all fun e => e.cells.length == sz && e.cells.all D.one) = true ∧ 0 < sz ∧ 0 < bytes then
        match look s with
        | .empty => if xs.length * bytes ≤ 140737488355328 then
            (if xs = [] then some (.value .empty, σ) else some (.value (.arr σ.length xs.length 0 xs.length), σ ++ [.row sz xs xs.length])) else none
        | .arr i ver off n => match σ[i]? with
          | some (.row sz' es since) =>
            if ver = es.length ∧ off = 0 ∧ n = ver ∧ sz' = sz ∧ (ver + xs.length) * bytes ≤ 140737488355328 ∧ since ≤ ver then
              some (.value (.arr i (ver + xs.length) 0 (ver + xs.length)), σ.set i (.row sz (es ++ xs) since)) else none
          | _ => none
        | _ => none
      else none
    | none => none
  | .max2 xs => match xs.map look with
    | [.int k a, .int k' b] => if k = k' then some (.value (.int k (if b > a then b else a)), σ) else none
    | _ => none
  | .min2 xs => match xs.map look with
    | [.int k a, .int k' b] => if k = k' then some (.value (.int k (if b < a then b else a)), σ) else none
    | _ => none
  | .call (.fn f) args => some (.enter f (args.map look), σ)
  | .call (.val x) args => match look x with
    | .func f first captured => some (.enter f (first ++ args.map look ++ captured), σ)
    | .yield i => some (.yield i (args.map look), σ)
    | _ => none
  | .panic x => match look x with
    | .iface t v => some (.panic (.iface t v), σ)
    | _ => none

/-! ### Trees -/
mutual
def D.tree : D → Bool
  | .bool _ | .int .. | .str _ | .nilptr | .empty | .nilmap | .nilfunc | .niliface => true
  | .slice es => treeL es
  | .agg cs => treeL cs
  | .tuple vs => treeL vs
  | .iface _ v => v.tree
  | .func _ a b => treeL a && treeL b
  | _ => false
def treeL : List D → Bool
  | [] => true
  | d :: r => d.tree && treeL r
end

/-- No slice, no pointer: nothing that lies in memory. -/
def D.flat : D → Bool
  | .bool _ | .int .. | .str _ | .niliface => true
  | .tuple vs => vs.all fun
    | .bool _ | .int .. | .str _ => true
    | _ => false
  | _ => false

/-- A value as a tree: what may change is written out. -/
def strip : Nat → St → D → Option D
  | 0, _, d => if d.tree then some d else none
  | n + 1, σ, d => if d.tree then some d else match d with
    | .arr .. => match rowOf σ d with
      | some es => (es.mapM (strip n σ)).map .slice
      | none => none
    | .slice es => (es.mapM (strip n σ)).map .slice
    | .agg cs => (cs.mapM (strip n σ)).map .agg
    | .tuple vs => (vs.mapM (strip n σ)).map .tuple
    | _ => none

/-- The objects to which a value leads. -/
def leads : Nat → St → D → List Nat
  | 0, _, _ => []
  | n + 1, σ, d => if d.tree then [] else match d with
    | .arr i .. => i :: match rowOf σ d with
      | some es => es.flatMap (leads n σ)
      | none => []
    | .slice es => es.flatMap (leads n σ)
    | .agg cs => cs.flatMap (leads n σ)
    | .tuple vs => vs.flatMap (leads n σ)
    | _ => []

def Obj.freeze : Obj → Obj
  | .row sz es since => .fro sz es since
  | o => o

def freeze (l : List Nat) (σ : St) : St := σ.zipIdx.map fun (o, i) => if l.contains i then o.freeze else o

/-! ### Equality of values -/
mutual
def D.eqb : D → D → Bool
  | .bool a, .bool b => a == b
  | .int j a, .int k b => j == k && a == b
  | .str a, .str b => a == b
  | .ptr i a, .ptr j b => i == j && a == b
  | .rptr i v x r, .rptr i' v' x' r' => i == i' && v == v' && x == x' && r == r'
  | .tptr a, .tptr b => eqbL a b
  | .nilptr, .nilptr | .empty, .empty | .nilmap, .nilmap | .nilfunc, .nilfunc | .niliface, .niliface | .undef, .undef => true
  | .slice a, .slice b => eqbL a b
  | .arr i v o n, .arr i' v' o' n' => i == i' && v == v' && o == o' && n == n'
  | .map i, .map j => i == j
  | .func f a b, .func g c d => f == g && eqbL a c && eqbL b d
  | .iface t v, .iface u w => t == u && v.eqb w
  | .agg a, .agg b => eqbL a b
  | .tuple a, .tuple b => eqbL a b
  | _, _ => false
def eqbL : List D → List D → Bool
  | [], [] => true
  | a :: x, b :: y => a.eqb b && eqbL x y
  | _, _ => false
end

/-! ### Code -/
inductive AExit where
  | normal
  | exit (id : Nat)
  | goto (l : Nat)
  | ret
  | panic (d : D)
  deriving Inhabited, Repr

inductive FRes where
  | ret (d : D)
  | panic (d : D)
  deriving Inhabited, Repr

/-- What is called: a function; the body of a loop. -/
inductive Tgt where
  | fn (f : FuncId)
  | round (i : Nat)
  deriving Inhabited, Repr

abbrev CallF := Tgt → List D → St → Option (FRes × St)

def putE (n : Nat) (e : Env) (dst : Option Nat) (v : D) : Option Env :=
  match dst with
  | none => some e
  | some d => if d < n then some (setE e d v) else none

/-- What one operation gives. -/
inductive SV where
  | val (d : D)
  | panic (d : D)
  deriving Inhabited, Repr

def stepGo (callf : CallF) (glob : Gl) (o : AOp) (e : Env) (σ : St) : Option (SV × St) :=
  match stepOp (lookA glob e) σ o with
  | some (.value d, σ') => some (.val d, σ')
  | some (.skip, σ') => some (.val .undef, σ')
  | some (.enter f args, σ') => match glob.nat f with
    | some h => (h args).map fun d => (.val d, σ')
    | none => match callf (.fn f) args σ' with
      | some (.ret d, σ'') => some (.val d, σ'')
      | some (.panic d, σ'') => some (.panic d, σ'')
      | none => none
  | some (.yield i args, σ') => match callf (.round i) args σ' with
    | some (.ret d, σ'') => some (.val d, σ'')
    | _ => none
  | some (.panic d, σ') => some (.panic d, σ')
  | none => none

def stepVal (callf : CallF) (glob : Gl) (o : AOper) (e : Env) (σ : St) : Option (SV × St) :=
  match o.guard with
  | none => stepGo callf glob o.op e σ
  | some (t, want) => match getE e t with
    | .bool b => if b = want then stepGo callf glob o.op e σ else some (.val .undef, σ)
    | .undef => some (.val .undef, σ)
    | _ => none

/-- One operation. 'some d': it panics with d. -/
def stepOper (callf : CallF) (glob : Gl) (n : Nat) (o : AOper) (e : Env) (σ : St) : Option (Option D × Env × St) :=
  match stepVal callf glob o e σ with
  | some (.val d, σ') => (putE n e o.dst d).map fun e' => (none, e', σ')
  | some (.panic d, σ') => some (some d, e, σ')
  | none => none

def runOps (callf : CallF) (glob : Gl) (n : Nat) : List AOper → Env → St → Option (Option D × Env × St)
  | [], e, σ => some (none, e, σ)
  | o :: r, e, σ => match stepOper callf glob n o e σ with
    | some (none, e', σ') => runOps callf glob n r e' σ'
    | x => x

/-- Does an operation leave the objects as they are, whatever they are? -/
def AOp.quiet : AOp → Bool
  | .newrow _ | .alloc _ | .allocRow _ | .box _ | .buildRow .. | .store .. | .mkMap | .mkSlice .. | .mapUpdate .. | .rangeStr _ | .nextStr _ | .append .. | .panic _ | .call .. => false
  | _ => true

/-- An operation that left the objects as they are. -/
def quietAt (ext : FuncId → Bool) (glob : Gl) (o : AOp) (e : Env) (d : D) : Bool :=
  match o with
  | .call (.fn f) args => (glob.nat f).isSome || ext f && (d.flat || treeL (args.map (lookA glob e)))
  | o => o.quiet

/-- A quiet operation that has been carried out: its number, the operation, the temporaries that it saw, what it gave. -/
abbrev Done := Nat × AOper × Env × D

def hasN (m j : Nat) : Bool := m.testBit j

/-- Would it give the same, the objects being these? -/
def sameAt (callf : CallF) (glob : Gl) (o : AOper) (e : Env) (σ : St) (d : D) : Bool :=
  match stepVal callf glob o e σ with
  | some (.val d', _) => d'.eqb d
  | _ => false

/-- A region that draws its order: in the order of the text, if no other order gives anything else. -/
def runDrawn (callf : CallF) (ext : FuncId → Bool) (glob : Gl) (n : Nat) :
    Nat → List AOper → List Nat → List Done → List (Nat × St) → Env → St → Option (Option D × Env × St)
  | _, [], _, _, _, e, σ => some (none, e, σ)
  | j, o :: r, anc, done, loud, e, σ =>
    match stepVal callf glob o (keepE (some o.reads) e) σ with
    | some (.val d, σ') =>
      match putE n e o.dst d with
      | some e' =>
        if quietAt ext glob o.op (keepE (some o.reads) e) d then
          if loud.all (fun (k, σk) => hasN (anc.headD 0) k || sameAt callf glob o (keepE (some o.reads) e) σk d) then
            runDrawn callf ext glob n (j + 1) r anc.tail ((j, o, keepE (some o.reads) e, d) :: done) loud e' σ'
          else none
        else
          if loud.all (fun (k, _) => hasN (anc.headD 0) k) && done.all (fun (i, oi, ei, di) => hasN (anc.headD 0) i || sameAt callf glob oi ei σ' di) then
            runDrawn callf ext glob n (j + 1) r anc.tail done ((j, σ) :: loud) e' σ'
          else none
      | none => none
    | some (.panic d, σ') => if loud.all (fun (k, _) => hasN (anc.headD 0) k) && anc.tail.all (fun b => hasN b j) then some (some d, e, σ') else none
    | none => none

/-- Rounds of a loop. -/
def iter (f : Env → St → Option (AExit × Env × St)) : Nat → Env → St → Option (AExit × Env × St)
  | 0, _, _ => none
  | k + 1, e, σ => match f e σ with
    | some (.normal, e', σ') => iter f k e' σ'
    | x => x

/-- Passes from a label. -/
def iterG (l : Nat) (f : Env → St → Option (AExit × Env × St)) : Nat → Env → St → Option (AExit × Env × St)
  | 0, _, _ => none
  | k + 1, e, σ => match f e σ with
    | some (.goto l', e', σ') => if l' = l then iterG l f k e' σ' else none
    | x => x

def evalCode (callf : CallF) (ext : FuncId → Bool) (glob : Gl) (n k : Nat) (inR : Bool) : ACode → Env → St → Option (AExit × Env × St)
  | .skip, e, σ => some (.normal, e, σ)
  | .region ops keep, e, σ => match runOps callf glob n ops e σ with
    | some (none, e', σ') => some (.normal, keepE keep e', σ')
    | some (some d, e', σ') => some (.panic d, e', σ')
    | none => none
  | .drawn ops anc keep, e, σ => match runDrawn callf ext glob n 0 ops anc [] [] e σ with
    | some (none, e', σ') => some (.normal, keepE keep e', σ')
    | some (some d, e', σ') => some (.panic d, e', σ')
    | none => none
  | .seq a b, e, σ => match evalCode callf ext glob n k inR a e σ with
    | some (.normal, e', σ') => evalCode callf ext glob n k inR b e' σ'
    | x => x
  | .cond c a b, e, σ => match lookA glob e c with
    | .bool true => evalCode callf ext glob n k inR a e σ
    | .bool false => evalCode callf ext glob n k inR b e σ
    | _ => none
  | .block id body, e, σ => match evalCode callf ext glob n k inR body e σ with
    | some (.exit id', e', σ') => if id' = id then some (.normal, e', σ') else some (.exit id', e', σ')
    | x => x
  | .loop body, e, σ => iter (evalCode callf ext glob n k inR body) k e σ
  | .exit id, e, σ => some (.exit id, e, σ)
  | .label _, e, σ => some (.normal, e, σ)
  | .goto l, e, σ => some (.goto l, e, σ)
  | .scope body none, e, σ => match evalCode callf ext glob n k inR body e σ with
    | some (.goto _, _, _) => none
    | x => x
  | .scope body (some (l, rest)), e, σ => match evalCode callf ext glob n k inR body e σ with
    | some (.goto l', e', σ') => if l' = l then iterG l (evalCode callf ext glob n k inR rest) k e' σ' else none
    | x => x
  | .rangeFunc f ps as bd, e, σ => match lookA glob e f with
    | .func g first captured =>
      if inR then none else
      match callf (.fn g) (first ++ [.yield σ.length] ++ captured) (σ ++ [.loop n e ps as bd .ready none]) with
      | some (.ret _, σ') => match σ'[σ.length]? with
        | some (.loop m e1 ps1 as1 bd1 st pend) =>
          if st = .busy then none else
          let σ2 := σ'.set σ.length (.loop m e1 ps1 as1 bd1 .exhausted pend)
          match pend with
          | none => some (.normal, e, σ2)
          | some .ret => some (.ret, e, σ2)
          | some (.exit id) => some (.exit id, e, σ2)
          | some (.goto l) => some (.goto l, e, σ2)
        | _ => none
      | some (.panic d, σ') => some (.panic d, e, σ')
      | none => none
    | _ => none
  | .ret, e, σ => some (.ret, e, σ)

def resOf (e : Env) (σ : St) : ARes → Option D
  | .tmp t => some (getE e t)
  | .cell t agg size => loadD σ agg size (getE e t)

def resultsOf (e : Env) (σ : St) (l : List ARes) : Option D :=
  match l.mapM (resOf e σ) with
  | some [d] => some d
  | some ds => some (.tuple ds)
  | none => none

def argsE : Nat → List D → Env
  | _, [] => []
  | i, d :: r => (i, d) :: argsE (i + 1) r

abbrev Ext := FuncId → Option (List D → Option D)

/-- A call of a function that is known by what it computes. -/
def callExt (g : List D → Option D) (args : List D) (σ : St) : Option (FRes × St) :=
  if treeL args then (g args).map fun r => (.ret r, σ)
  else match args.mapM (strip 16 σ) with
    | some as => match g as with
      | some r => if r.flat then some (.ret r, σ) else some (.ret r, freeze (args.flatMap (leads 16 σ)) σ)
      | none => none
    | none => none

/-- The parameters of a round. -/
def putParams (n : Nat) : List Nat → List D → Env → Option Env
  | [], [], e => some e
  | p :: ps, d :: ds, e => match putE n e (some p) d with
    | some e' => putParams n ps ds e'
    | none => none
  | _, _, _ => none

/-- A round is over. -/
def endR (i : Nat) (jump : Option AJump) (σ : St) : Option (FRes × St) :=
  match σ[i]? with
  | some (.loop n env ps as bd _ _) => some (.ret (.bool jump.isNone), σ.set i (.loop n env ps as bd (if jump.isNone then .ready else .done) jump))
  | _ => none

def evalRound (ev : Nat → ACode → Env → St → Option (AExit × Env × St)) (i : Nat) (args : List D) (σ : St) : Option (FRes × St) :=
  match σ[i]? with
  | some (.loop n env ps as bd .ready none) => match putParams n ps args env with
    | some e => match ev n as e σ with
      | some (.normal, e1, σ1) => match σ1[i]? with
        | some (.loop n1 env1 ps1 as1 bd1 .ready p1) => match ev n bd e1 (σ1.set i (.loop n1 env1 ps1 as1 bd1 .busy p1)) with
          | some (.normal, _, σ2) => endR i none σ2
          | some (.ret, _, σ2) => endR i (some .ret) σ2
          | some (.exit id, _, σ2) => endR i (some (.exit id)) σ2
          | some (.goto l, _, σ2) => endR i (some (.goto l)) σ2
          | _ => none
        | _ => none
      | _ => none
    | none => none
  | _ => none

def evalFn (T : FuncId → Option AFunc) (ext : Ext) (glob : Gl) : Nat → CallF
  | 0, _, _, _ => none
  | k + 1, .round i, args, σ => evalRound (fun n => evalCode (evalFn T ext glob k) (fun f => (ext f).isSome) glob n k true) i args σ
  | k + 1, .fn f, args, σ =>
    match ext f with
    | some g => callExt g args σ
    | none => match T f with
      | some af =>
        if args.length = af.nparams ∧ af.nparams ≤ af.ntmps then
          match evalCode (evalFn T ext glob k) (fun f => (ext f).isSome) glob af.ntmps k false af.body (argsE 0 args) σ with
          | some (.normal, e, σ') | some (.ret, e, σ') => (resultsOf e σ' af.results).map fun d => (.ret d, σ')
          | some (.panic d, _, σ') => some (.panic d, σ')
          | _ => none
        else none
      | none => none

end Go.AI

namespace Go.AI
open Go

def valD1 : Value → Option D
  | .bool b => some (.bool b)
  | .int k n => some (.int k n)
  | .string s => some (.str s.data.toList)
  | .pointer none => some .nilptr
  | .slice none 0 0 => some .empty
  | .map none => some .nilmap
  | .nilFunc => some .nilfunc
  | .nilIface => some .niliface
  | _ => none

def valD : Value → Option D
  | .agg cs => (cs.toList.mapM valD1).map .agg
  | .tuple vs => if vs.size = 0 then some .undef else none
  | v => valD1 v

def opd : Operand → Option AOpd
  | .tmp t => some (.tmp t)
  | .const v => (valD v).map .lit
  | .global g => some (.glob g)
  | .func f => some (.lit (.func f [] []))

/-- The empty slice, written out. -/
def isEmptyLit : Operand → Bool
  | .const (.slice none 0 0) => true
  | _ => false

def opdO : Option Operand → Option (Option AOpd)
  | none => some none
  | some a => (opd a).map some

section
variable (P : Program)

def sizeT (t : TypeId) : Option Nat := (P.info? t).map (·.size)
def bytesT (t : TypeId) : Option Nat := (P.info? t).map (·.bytes)
def aggT (t : TypeId) : Option Bool := match P.underlying t with
  | some (.struct _) | some (.array _ _) => some true
  | some _ => some false
  | none => none
def zeroT (t : TypeId) : Option D := match P.info? t with
  | some i => match i.zero with
    | some v => valD v
    | none => none
  | none => none

def scalarK (t : TypeId) : Option Nat := match P.underlying t with
  | some .bool => some 0
  | some (.int _) => some 1
  | some .string => some 2
  | _ => none

/-- The fields' kinds, each a cell. -/
def fieldKs : Nat → List Field → Option (List Nat)
  | _, [] => some []
  | i, f :: fs => if f.name != "_" && f.offset == i then do pure ((← scalarK P f.type) :: (← fieldKs (i + 1) fs)) else none

def eqC (t : TypeId) : EqC := match P.underlying t with
  | some .bool => .bool
  | some (.struct fs) => match fieldKs P 0 fs.toList with
    | some ks => if P.stoodInHeld t || P.eqGuardType P.depth t then .none else .agg ks
    | none => .none
  | some (.pointer _) => .ptr
  | some (.interface _) => .iface
  | some (.func ..) => .func
  | some (.map ..) => .map
  | _ => .none

def cOp (acc : Nat → Bool) (o : Oper) : Option AOp := do
  match o.op with
  | .move x | .assign x =>
    if (o.dst.map acc).getD false && isEmptyLit x then
      match P.underlying o.type with
      | some (.slice e) => do pure (.newrow (← sizeT P e))
      | _ => none
    else do pure (.mv (← opd x))
  | .pick c a b => do pure (.pick (← opd c) (← opd a) (← opd b))
  | .alloc elem =>
    if (o.dst.map acc).getD false then
      match P.underlying elem, zeroT P elem with
      | some (.slice e), some .empty => do pure (.allocRow (← sizeT P e))
      | _, _ => none
    else do
      let z ← zeroT P elem
      if z.cells.all D.one then pure (.alloc z.cells) else none
  | .box _ x => do pure (.box (← opd x))
  | .build t parts =>
    match P.underlying t with
    | some (.struct fs) => do
      let places ← fs.toList.mapM fun f => (P.info? f.type).map fun i => (f.offset, i.size)
      let ps ← parts.toList.mapM fun (x : Nat × Operand) => (places[x.1]?).bind fun q => (opd x.2).map fun y => (q.1, q.2, y)
      let z ← zeroT P t
      if z.cells.all D.one then pure (.build z.cells ps) else none
    | some (.array _ e) => do
      let sz ← sizeT P e
      let ps ← parts.toList.mapM fun (x : Nat × Operand) => (opd x.2).map fun y => (x.1 * sz, sz, y)
      let z ← zeroT P t
      if z.cells.all D.one then pure (.build z.cells ps) else none
    | _ => none
  | .buildSlice t len parts =>
    match P.underlying t with
    | some (.slice e) => do
      let sz ← sizeT P e
      if len * sz > 2 ^ 24 then none else
      let ps ← parts.toList.mapM fun (x : Nat × Operand) => (opd x.2).map fun y => (x.1, y)
      let z ← zeroT P e
      if z.cells.length = sz then
        if (o.dst.map acc).getD false then pure (.buildRow sz len z.cells ps) else pure (.buildSlice sz len z.cells ps)
      else none
    | _ => none
  | .load t x => do pure (.load (← aggT P t) (← sizeT P t) (← opd x))
  | .store t a x => do pure (.store (← sizeT P t) (← opd a) (← opd x))
  | .nilCheck x => do pure (.nilCheck (← opd x))
  | .binOp op t x y _ => do pure (.arith op (eqC P t) (← opd x) (← opd y))
  | .unOp .neg _ x => do pure (.neg (← opd x))
  | .unOp .not _ x => do pure (.not (← opd x))
  | .convert s d x =>
    match P.underlying s, P.underlying d with
    | some (.int _), some (.int k) => do pure (.toInt k (← opd x))
    | some (.int _), some .string => do pure (.toStr (← opd x))
    | some .string, some .string => do pure (.toStr (← opd x))
    | _, _ => none
  | .makeInterface t x =>
    match P.underlying t with
    | some (.interface _) | none => none
    | _ => do pure (.mkIface t (← opd x))
  | .makeFunc (.func f) first captured => do pure (.mkFunc f (← first.toList.mapM opd) (← captured.toList.mapM opd))
  | .makeMap _ none => pure .mkMap
  | .makeSlice t l c =>
    match P.underlying t with
    | some (.slice e) => do pure (.mkSlice (← sizeT P e) (← bytesT P e) (← zeroT P e) (← opd l) (← opd c))
    | _ => none
  | .slice t x lo hi mx =>
    match P.underlying t with
    | some .string => if mx.isSome then none else do
        let x ← opd x
        let lo ← opdO lo
        let hi ← opdO hi
        pure (.sliceStr x lo hi)
    | some (.slice e) => do
        let x ← opd x
        let lo ← opdO lo
        let hi ← opdO hi
        let mx ← opdO mx
        pure (.sliceRow (← sizeT P e) x lo hi mx)
    | _ => none
  | .fieldAddr s x f =>
    match P.underlying s with
    | some (.struct fs) => do
      let f ← fs[f]?
      if (← sizeT P f.type) = 0 then none else pure (.addOff f.offset (← opd x))
    | _ => none
  | .field t x f =>
    match P.underlying t with
    | some (.struct fs) => do
      let f ← fs[f]?
      pure (.fieldOf (← aggT P f.type) f.offset (← sizeT P f.type) (← opd x))
    | _ => none
  | .indexAddr t x i =>
    match P.underlying t with
    | some (.slice e) => do pure (.indexAddrS (← sizeT P e) (← opd x) (← opd i))
    | some (.array n e) => do pure (.indexAddrA n (← sizeT P e) (← opd x) (← opd i))
    | _ => none
  | .index t x i =>
    match P.underlying t with
    | some (.array n e) => do pure (.indexA (← aggT P e) n (← sizeT P e) (← opd x) (← opd i))
    | some .string => do pure (.indexStr (← opd x) (← opd i))
    | _ => none
  | .lookup t x k ok =>
    match P.underlying t with
    | some (.map kt e) => do pure (.lookup (← scalarK P kt) (← zeroT P e) ok (← opd x) (← opd k))
    | _ => none
  | .mapUpdate t m k v | .insert t m k v =>
    match P.underlying t with
    | some (.map kt _) => do pure (.mapUpdate (← scalarK P kt) (← opd m) (← opd k) (← opd v))
    | _ => none
  | .range t x =>
    match P.underlying t with
    | some .string => do pure (.rangeStr (← opd x))
    | _ => none
  | .next it true => do pure (.nextStr (← opd it))
  | .typeAssert x _ t ok =>
    match P.underlying t with
    | some (.interface _) | none => none
    | _ => do pure (.typeAssert t (← zeroT P t) ok (← opd x))
  | .extract x i => do pure (.extract (← opd x) i)
  | .call c =>
    match c.callee with
    | .builtin .len => match c.args.toList, c.argTypes.toList with
      | [x], [t] => match P.underlying t with
        | some .string => do pure (.len true (← opd x))
        | some (.slice _) => do pure (.len false (← opd x))
        | _ => none
      | _, _ => none
    | .builtin .append => match c.args.toList, c.argTypes.toList with
      | [s, x], [t, u] => match P.underlying t, P.underlying u with
        | some (.slice e), some (.slice _) => do
          let sz ← sizeT P e
          let z ← zeroT P e
          if z.cells.length = sz && z.cells.all D.one then pure (.append sz (← bytesT P e) (← opd s) (← opd x)) else none
        | _, _ => none
      | _, _ => none
    | .builtin .max => do pure (.max2 (← c.args.toList.mapM opd))
    | .builtin .min => do pure (.min2 (← c.args.toList.mapM opd))
    | .builtin .panic => match c.args.toList with
      | [x] => do pure (.panic (← opd x))
      | _ => none
    | .builtin _ => none
    | .invoke _ _ => none
    | .value (.func f) => do pure (.call (.fn f) (← c.args.toList.mapM opd))
    | .value x => do pure (.call (.val (← opd x)) (← c.args.toList.mapM opd))
  | .panic x => do pure (.panic (← opd x))
  | _ => none

def cOper (acc : Nat → Bool) (draw : Bool) (ops : Array Oper) (o : Oper) : Option AOper := do
  let op ← cOp P acc o
  match o.guard with
  | none => pure { dst := o.dst, op, guard := none, reads := if draw then o.looksAt ops else [] }
  | some (j, want) => do
    let t ← (ops[j]?).bind (·.dst)
    pure { dst := o.dst, op, guard := some (t, want), reads := if draw then o.looksAt ops else [] }

/-- The operations that come before an operation in every order, as bits. -/
def ancs (ops : List Oper) : List Nat :=
  ops.foldl (init := []) fun acc o =>
    acc ++ [o.after.toList.foldl (fun m e => if Region.binds .any e then m ||| 2 ^ e.on ||| acc.getD e.on 0 else m) 0]

/-- What is asked of a region that draws its order: no temporary has two writers, or a writer that is not ordered beside its readers. -/
def drawnOk (ops : Array Oper) : Bool :=
  let l := ops.toList
  let a := ancs l
  Region.noSelect ops &&
  (l.zipIdx.all fun (o, i) => o.after.all fun e => !Region.binds .any e || e.on < i) &&
  (l.zipIdx.all fun (o, i) => l.zipIdx.all fun (p, j) => i == j || match o.dst with
    | none => true
    | some d => p.dst != some d && (!(p.looksAt ops).contains d || (a.getD j 0).testBit i || (a.getD i 0).testBit j))

/-- What comes after a label. -/
def aFind : ACode → Nat → Option ACode
  | .seq a b, l => match aFind a l with
    | some r => some (.seq r b)
    | none => aFind b l
  | .label l', l => if l' == l then some .skip else none
  | _, _ => none

def aGoto : ACode → Option Nat
  | .goto l => some l
  | .seq a b | .cond _ a b => match aGoto a with
    | some l => some l
    | none => aGoto b
  | .block _ b | .loop b => aGoto b
  | _ => none

def jumpOf (c : ACode) : Option (Nat × ACode) := (aGoto c).bind fun l => (aFind c l).map fun r => (l, r)

def cCode (acc : Nat → Bool) (keep : Nat → Option (List Nat)) : Code → Option ACode
  | .skip => some .skip
  | .region id ops draw => do
    let os ← ops.toList.mapM (cOper P acc draw ops)
    if draw then (if drawnOk ops then pure (.drawn os (ancs ops.toList) (keep id)) else none)
    else pure (.region os (keep id))
  | .seq a b => do pure (.seq (← cCode acc keep a) (← cCode acc keep b))
  | .cond c a b => do pure (.cond (← opd c) (← cCode acc keep a) (← cCode acc keep b))
  | .block id b => do pure (.block id (← cCode acc keep b))
  | .loop b => do pure (.loop (← cCode acc keep b))
  | .exit id => some (.exit id)
  | .label l => some (.label l)
  | .goto l => some (.goto l)
  | .scope b => do
    let ab ← cCode acc keep b
    pure (.scope ab (jumpOf ab))
  | .ret => some .ret
  | .rangeFunc f ps a b => do pure (.rangeFunc (← opd f) ps.toList (← cCode acc keep a) (← cCode acc keep b))
  | _ => none

def cRes : ResultVar → Option ARes
  | .tmp t => some (.tmp t)
  | .cell a t => do pure (.cell a (← aggT P t) (← sizeT P t))

def cFunc (acc : Nat → Bool) (keep : Nat → Option (List Nat)) (fn : Func) : Option AFunc := do
  let c ← fn.body
  if fn.name = "runtime.NumGoroutine" then none else
  pure { ntmps := fn.ntmps, nparams := fn.params.size + fn.nfree, results := ← fn.results.toList.mapM (cRes P), body := ← cCode P acc keep c }

end
end Go.AI

namespace Go.AI
open Go

/-- Where an object lies: a block, the cells of an element, how many elements there is room for. -/
structure Pl where
  blk : Nat
  sz : Nat
  cap : Nat

/-- Objects, in their versions, and their places; the blocks that no longer change. -/
structure Ren where
  loc : Nat → Nat → Option Pl
  fix : Nat → Prop
  code : ACode → Code → Prop

inductive R (ρ : Ren) (W : World) : D → Value → Prop
  | bool (b : Bool) : R ρ W (.bool b) (.bool b)
  | int (k : IntKind) (n : Int) : R ρ W (.int k n) (.int k n)
  | str (s : ByteArray) : R ρ W (.str s.data.toList) (.string s)
  | ptr {i off : Nat} {p : Pl} (h : ρ.loc i 0 = some p) : R ρ W (.ptr i off) (.pointer (some ⟨p.blk, off, none⟩))
  | rptr {i ver idx r : Nat} {p : Pl} (h : ρ.loc i ver = some p) : R ρ W (.rptr i ver idx r) (.pointer (some ⟨p.blk, idx * p.sz + r, none⟩))
  | tptr {cs : List D} {b off : Nat} {f : Nat → Value} (hf : ρ.fix b)
      (hc : ∀ j, j < cs.length → W.cell? ⟨b, off + j, none⟩ = some (f j))
      (hr : ∀ j d, cs[j]? = some d → R ρ W d (f j)) : R ρ W (.tptr cs) (.pointer (some ⟨b, off, none⟩))
  | nilptr : R ρ W .nilptr (.pointer none)
  | empty (a : Option Addr) : R ρ W .empty (.slice a 0 0)
  | slice0 (a : Option Addr) (c : Nat) : R ρ W (.slice []) (.slice a 0 c)
  | slice {es : List D} {b off n c sz : Nat} {f : Nat → Nat → Value} (hf : ρ.fix b) (hn : n = es.length) (hcap : n ≤ c)
      (hsz : ∀ (i : Nat) (e : D), es[i]? = some e → e.cells.length = sz)
      (hc : ∀ (i j : Nat) (e d : D), es[i]? = some e → e.cells[j]? = some d → W.cell? ⟨b, off + (i * sz + j), none⟩ = some (f i j))
      (hr : ∀ (i j : Nat) (e d : D), es[i]? = some e → e.cells[j]? = some d → R ρ W d (f i j)) : R ρ W (.slice es) (.slice (some ⟨b, off, none⟩) n c)
  | arr {i ver off n c : Nat} {p : Pl} (h : ρ.loc i ver = some p) (hn : n ≤ c) (hc : off + c ≤ p.cap) :
      R ρ W (.arr i ver off n) (.slice (some ⟨p.blk, off * p.sz, none⟩) n c)
  | arr0 (i : Nat) : R ρ W (.arr i 0 0 0) (.slice none 0 0)
  | map {i : Nat} {p : Pl} (h : ρ.loc i 0 = some p) : R ρ W (.map i) (.map (some p.blk))
  | nilmap : R ρ W .nilmap (.map none)
  | func {g : FuncId} {fs cs : List D} {fa ca : Array Value} (h1 : fa.size = fs.length) (h2 : ca.size = cs.length)
      (hf : ∀ j d, fs[j]? = some d → R ρ W d (fa.getD j undef)) (hc : ∀ j d, cs[j]? = some d → R ρ W d (ca.getD j undef)) :
      R ρ W (.func g fs cs) (.func (.func g) fa ca)
  | nilfunc : R ρ W .nilfunc .nilFunc
  | yield {i : Nat} {p : Pl} (h : ρ.loc i 0 = some p) : R ρ W (.yield i) (.func (.yield p.blk) #[] #[])
  | iface {t : TypeId} {d : D} {v : Value} (h : R ρ W d v) : R ρ W (.iface t d) (.iface t v)
  | niliface : R ρ W .niliface .nilIface
  | agg {cs : List D} {vs : Array Value} (h : vs.size = cs.length) (hr : ∀ j d, cs[j]? = some d → R ρ W d (vs.getD j undef)) : R ρ W (.agg cs) (.agg vs)
  | tuple {cs : List D} {vs : Array Value} (h : vs.size = cs.length) (hr : ∀ j d, cs[j]? = some d → R ρ W d (vs.getD j undef)) : R ρ W (.tuple cs) (.tuple vs)
  | undef : R ρ W .undef (.tuple #[])
  | any (v : Value) : R ρ W .any v

/-- What comes later: more places, more that no longer changes. -/
structure Later (ρ : Ren) (W : World) (ρ' : Ren) (W' : World) : Prop where
  loc : ∀ i v p, ρ.loc i v = some p → ρ'.loc i v = some p
  fix : ∀ b, ρ.fix b → ρ'.fix b
  heap : ∀ b, ρ.fix b → W'.heap[b]? = W.heap[b]?
  size : W.heap.size ≤ W'.heap.size
  os : W'.os = W.os
  tape : W'.tape = W.tape
  output : W'.output = W.output
  own : ∀ b, b < W.heap.size → (∀ i v p, ρ.loc i v = some p → p.blk ≠ b) → W'.heap[b]? = W.heap[b]?
  new : ∀ i v p, ρ'.loc i v = some p → (∃ j u q, ρ.loc j u = some q ∧ q.blk = p.blk) ∨ W.heap.size ≤ p.blk
  fixnew : ∀ b, ρ'.fix b → ρ.fix b ∨ (∃ j u q, ρ.loc j u = some q ∧ q.blk = b) ∨ W.heap.size ≤ b
  code : ρ'.code = ρ.code

theorem Later.refl (ρ : Ren) (W : World) : Later ρ W ρ W :=
  ⟨fun _ _ _ h => h, fun _ h => h, fun _ _ => rfl, Nat.le_refl _, rfl, rfl, rfl, fun _ _ _ => rfl, fun i v p h => .inl ⟨i, v, p, h, rfl⟩, fun _ h => .inl h, rfl⟩

theorem Later.trans {ρ ρ' ρ'' : Ren} {W W' W'' : World} (h : Later ρ W ρ' W') (k : Later ρ' W' ρ'' W'') : Later ρ W ρ'' W'' :=
  ⟨fun i v p x => k.loc i v p (h.loc i v p x), fun b x => k.fix b (h.fix b x), fun b x => (k.heap b (h.fix b x)).trans (h.heap b x),
   Nat.le_trans h.size k.size, k.os.trans h.os, k.tape.trans h.tape, k.output.trans h.output,
   fun b hb hn => (k.own b (Nat.lt_of_lt_of_le hb h.size) fun i v p hp he => by
     rcases h.new i v p hp with ⟨j, u, q, hq, he'⟩ | hge
     · exact hn j u q hq (he'.trans he)
     · omega).trans (h.own b hb hn),
   fun i v p hp => by
     rcases k.new i v p hp with ⟨j, u, q, hq, he⟩ | hge
     · rcases h.new j u q hq with ⟨j', u', q', hq', he'⟩ | hge
       · exact .inl ⟨j', u', q', hq', he'.trans he⟩
       · exact .inr (by omega)
     · exact .inr (Nat.le_trans h.size hge),
   fun b hb => by
     rcases k.fixnew b hb with hf | ⟨j, u, q, hq, he⟩ | hge
     · exact h.fixnew b hf
     · rcases h.new j u q hq with ⟨j', u', q', hq', he'⟩ | hge
       · exact .inr (.inl ⟨j', u', q', hq', he'.trans he⟩)
       · exact .inr (.inr (by omega))
     · exact .inr (.inr (Nat.le_trans h.size hge)),
   k.code.trans h.code⟩

theorem cell?_of_heap {W W' : World} {b : Nat} (h : W'.heap[b]? = W.heap[b]?) (o : Nat) : W'.cell? ⟨b, o, none⟩ = W.cell? ⟨b, o, none⟩ := by
  simp [World.cell?, h]

/-- What values ask of what comes later. -/
structure Soft (ρ : Ren) (W : World) (ρ' : Ren) (W' : World) : Prop where
  loc : ∀ i v p, ρ.loc i v = some p → ρ'.loc i v = some p
  fix : ∀ b, ρ.fix b → ρ'.fix b
  heap : ∀ b, ρ.fix b → W'.heap[b]? = W.heap[b]?
  code : ρ'.code = ρ.code

theorem Later.soft {ρ ρ' : Ren} {W W' : World} (h : Later ρ W ρ' W') : Soft ρ W ρ' W' := ⟨h.loc, h.fix, h.heap, h.code⟩

theorem R.soft {ρ ρ' : Ren} {W W' : World} (h : Soft ρ W ρ' W') {d : D} {v : Value} (r : R ρ W d v) : R ρ' W' d v := by
  induction r with
  | bool b => exact .bool b
  | int k n => exact .int k n
  | str s => exact .str s
  | ptr hp => exact .ptr (h.loc _ _ _ hp)
  | rptr hp => exact .rptr (h.loc _ _ _ hp)
  | tptr hf hc hr ih => exact .tptr (h.fix _ hf) (fun j hj => (cell?_of_heap (h.heap _ hf) _).trans (hc j hj)) ih
  | nilptr => exact .nilptr
  | empty a => exact .empty a
  | slice0 a c => exact .slice0 a c
  | slice hf hn hcap hsz hc hr ih => exact .slice (h.fix _ hf) hn hcap hsz (fun i j e d he hd => (cell?_of_heap (h.heap _ hf) _).trans (hc i j e d he hd)) ih
  | arr hp hn hc => exact .arr (h.loc _ _ _ hp) hn hc
  | arr0 i => exact .arr0 i
  | map hp => exact .map (h.loc _ _ _ hp)
  | nilmap => exact .nilmap
  | func h1 h2 hf hc ihf ihc => exact .func h1 h2 ihf ihc
  | nilfunc => exact .nilfunc
  | yield hp => exact .yield (h.loc _ _ _ hp)
  | iface _ ih => exact .iface ih
  | niliface => exact .niliface
  | agg hs hr ih => exact .agg hs ih
  | tuple hs hr ih => exact .tuple hs ih
  | undef => exact .undef
  | any v => exact .any v

theorem R.later {ρ ρ' : Ren} {W W' : World} (h : Later ρ W ρ' W') {d : D} {v : Value} (r : R ρ W d v) : R ρ' W' d v := r.soft h.soft

/-- A row of elements in its versions. -/
def RowR (ρ : Ren) (W : World) (i sz : Nat) (es : List D) (since : Nat) : Prop :=
  since ≤ es.length ∧ (∀ (k : Nat) (e : D), es[k]? = some e → e.cells.length = sz ∧ e.cells.all D.one = true) ∧ (∀ ver, es.length < ver → ρ.loc i ver = none) ∧
  ∀ ver, since ≤ ver → ver ≤ es.length →
    (ver = 0 ∧ ρ.loc i 0 = none) ∨
    ∃ (p : Pl) (c : Array Value) (ty : TypeId), ρ.loc i ver = some p ∧ p.sz = sz ∧ ver ≤ p.cap ∧ W.heap[p.blk]? = some (.cells c ty) ∧ c.size = p.cap * sz ∧
      ∀ (idx : Nat) (e : D) (j : Nat) (d : D), idx < ver → es[idx]? = some e → e.cells[j]? = some d → R ρ W d (c.getD (idx * sz + j) undef)

/-- A pending jump, as code. -/
def AJump.code : AJump → Code
  | .ret => .ret
  | .exit id => .exit id
  | .goto l => .goto l

def ObjR (ρ : Ren) (W : World) (i : Nat) : Obj → Prop
  | .loop n env ps as bd st pend => ∃ (p : Pl) (rec : Loop), ρ.loc i 0 = some p ∧ W.heap[p.blk]? = some (.loop rec) ∧ rec.state = st ∧ rec.pending = pend.map AJump.code ∧ rec.params.toList = ps ∧
      ρ.code as rec.assign ∧ ρ.code bd rec.body ∧ rec.tmps.size = n ∧ ∀ t, R ρ W (getE env t) (rec.tmps.getD t undef)
  | .box cs => ∃ (p : Pl) (c : Array Value) (ty : TypeId), ρ.loc i 0 = some p ∧ W.heap[p.blk]? = some (.cells c ty) ∧ c.size = cs.length ∧
      ∀ j d, cs[j]? = some d → R ρ W d (c.getD j undef)
  | .row sz es since => RowR ρ W i sz es since
  | .fro sz es since => RowR ρ W i sz es since ∧ ∀ ver p, ρ.loc i ver = some p → ρ.fix p.blk
  | .siter l pos => ∃ (p : Pl) (s : ByteArray), ρ.loc i 0 = some p ∧ W.heap[p.blk]? = some (.stringIter s pos) ∧ s.data.toList = l
  | .map kvs => ∃ (p : Pl) (ents : Array MapEntry) (clock : Nat), ρ.loc i 0 = some p ∧ W.heap[p.blk]? = some (.map ents clock) ∧ ents.size = kvs.length ∧
      ∀ (j : Nat) (k v : D), kvs[j]? = some (k, v) → ∃ e : MapEntry, ents[j]? = some e ∧ R ρ W k e.key ∧ R ρ W v e.val

def Obj.live : Obj → Bool
  | .fro .. => false
  | _ => true

structure Rel (ρ : Ren) (W : World) (σ : St) : Prop where
  obj : ∀ i o, σ[i]? = some o → ObjR ρ W i o
  blk : ∀ i v p, ρ.loc i v = some p → p.blk < W.heap.size ∧ i < σ.length
  inj : ∀ i v p j w q, ρ.loc i v = some p → ρ.loc j w = some q → p.blk = q.blk → i = j
  apart : ∀ i o v p, σ[i]? = some o → o.live = true → ρ.loc i v = some p → ¬ ρ.fix p.blk
  fixlt : ∀ b, ρ.fix b → b < W.heap.size

/-- An object, its own blocks as they were. -/
theorem ObjR.soft {ρ ρ' : Ren} {W W' : World} (h : Soft ρ W ρ' W') {i : Nat} {o : Obj} (hb : ∀ v p, ρ.loc i v = some p → W'.heap[p.blk]? = W.heap[p.blk]?)
    (hl : ∀ v, ρ'.loc i v = ρ.loc i v) (r : ObjR ρ W i o) : ObjR ρ' W' i o := by
  have row : ∀ sz es since, RowR ρ W i sz es since → RowR ρ' W' i sz es since := by
    rintro sz es since ⟨h1, h2, h4, h3⟩
    refine ⟨h1, h2, fun ver hv => by rw [hl]; exact h4 ver hv, fun ver hv hv' => ?_⟩
    rcases h3 ver hv hv' with ⟨rfl, hn⟩ | ⟨p, c, ty, hp, hs, hc, hh, hz, hr⟩
    · exact .inl ⟨rfl, by rw [hl]; exact hn⟩
    · exact .inr ⟨p, c, ty, by rw [hl]; exact hp, hs, hc, (hb _ _ hp).trans hh, hz, fun idx e j d hi he hd => (hr idx e j d hi he hd).soft h⟩
  cases o with
  | box cs =>
    obtain ⟨p, c, ty, hp, hh, hz, hr⟩ := r
    exact ⟨p, c, ty, by rw [hl]; exact hp, (hb _ _ hp).trans hh, hz, fun j d hd => (hr j d hd).soft h⟩
  | row sz es since => exact row _ _ _ r
  | fro sz es since => exact ⟨row _ _ _ r.1, fun ver p hp => h.fix _ (r.2 ver p (by rw [← hl]; exact hp))⟩
  | loop n env ps as bd st pend =>
    obtain ⟨p, rec, hp, hh, h1, h2, h3, h4, h5, h6, h7⟩ := r
    exact ⟨p, rec, by rw [hl]; exact hp, (hb _ _ hp).trans hh, h1, h2, h3, by rw [h.code]; exact h4, by rw [h.code]; exact h5, h6, fun t => (h7 t).soft h⟩
  | siter l pos =>
    obtain ⟨p, s, hp, hh, hs⟩ := r
    exact ⟨p, s, by rw [hl]; exact hp, (hb _ _ hp).trans hh, hs⟩
  | map kvs =>
    obtain ⟨p, ents, clock, hp, hh, hz, hr⟩ := r
    refine ⟨p, ents, clock, by rw [hl]; exact hp, (hb _ _ hp).trans hh, hz, fun j k v hj => ?_⟩
    obtain ⟨e, he, hk, hv⟩ := hr j k v hj
    exact ⟨e, he, hk.soft h, hv.soft h⟩

theorem ObjR.later {ρ ρ' : Ren} {W W' : World} (h : Later ρ W ρ' W') {i : Nat} {o : Obj} (hb : ∀ v p, ρ.loc i v = some p → W'.heap[p.blk]? = W.heap[p.blk]?)
    (hl : ∀ v, ρ'.loc i v = ρ.loc i v) (r : ObjR ρ W i o) : ObjR ρ' W' i o := r.soft h.soft hb hl

/-- A list of values. -/
def Rs (ρ : Ren) (W : World) (ds : List D) (vs : Array Value) : Prop := vs.size = ds.length ∧ ∀ j d, ds[j]? = some d → R ρ W d (vs.getD j undef)

theorem Rs.later {ρ ρ' : Ren} {W W' : World} (h : Later ρ W ρ' W') {ds : List D} {vs : Array Value} (r : Rs ρ W ds vs) : Rs ρ' W' ds vs :=
  ⟨r.1, fun j d hd => (r.2 j d hd).later h⟩

/-- The temporaries. -/
def RE (ρ : Ren) (W : World) (e : Env) (tmps : Array Value) : Prop := ∀ t, R ρ W (getE e t) (tmps.getD t undef)

theorem RE.later {ρ ρ' : Ren} {W W' : World} (h : Later ρ W ρ' W') {e : Env} {tmps : Array Value} (r : RE ρ W e tmps) : RE ρ' W' e tmps := fun t => (r t).later h

theorem getE_setE (e : Env) (s : Nat) (v : D) (t : Nat) : getE (setE e s v) t = if s = t then v else getE e t := by
  induction e with
  | nil => simp only [setE, getE]
  | cons x r ih =>
    obtain ⟨u, d⟩ := x
    simp only [setE]
    by_cases h : u = s
    · subst h
      simp only [if_true, getE]
      split <;> rfl
    · simp only [if_neg h, getE, ih]
      by_cases h' : u = t
      · subst h'
        rw [if_pos rfl, if_neg (fun x => h x.symm), if_pos rfl]
      · simp [h']

theorem getE_keepE {ρ : Ren} {W : World} {k : Option (List Nat)} {e : Env} {tmps : Array Value} (r : RE ρ W e tmps) : RE ρ W (keepE k e) tmps := by
  cases k with
  | none => exact r
  | some l =>
    intro t
    have : getE (keepE (some l) e) t = getE e t ∨ getE (keepE (some l) e) t = .any := by
      simp only [keepE]
      induction l with
      | nil => exact .inr rfl
      | cons x l ih =>
        simp only [List.map_cons, getE]
        by_cases h : x = t
        · subst h; simp
        · simp only [if_neg h]; exact ih
    rcases this with h | h
    · rw [h]; exact r t
    · rw [h]; exact .any _

theorem RE.put {ρ : Ren} {W : World} {n : Nat} {e e' : Env} {a : Act} {dst : Option Nat} {d : D} {v : Value} (r : RE ρ W e a.tmps) (hn : a.tmps.size = n)
    (hp : putE n e dst d = some e') (hd : R ρ W d v) : RE ρ W e' (a.put dst v).tmps ∧ (a.put dst v).tmps.size = n := by
  cases dst with
  | none => simp only [putE, Option.some.injEq] at hp; subst hp; exact ⟨r, hn⟩
  | some t =>
    simp only [putE] at hp
    split at hp
    · rename_i hlt
      simp only [Option.some.injEq] at hp
      subst hp
      refine ⟨fun s => ?_, by simp [Act.put, hn]⟩
      rw [getE_setE]
      by_cases h : t = s
      · subst h
        rw [if_pos rfl]
        simp only [Act.put]
        have : (a.tmps.setIfInBounds t v).getD t undef = v := by
          simp [Array.getD_eq_getD_getElem?, hn, hlt]
        rw [this]; exact hd
      · rw [if_neg h]
        have : (a.put (some t) v).tmps.getD s undef = a.tmps.getD s undef := by
          simp [Act.put, Array.getD_eq_getD_getElem?, h]
        rw [this]; exact r s
    · cases hp

end Go.AI

namespace Go.AI
open Go

theorem heap_alloc_old (W : World) (ob : Go.Obj) {b : Nat} (hb : b < W.heap.size) : (W.alloc ob).heap[b]? = W.heap[b]? := by
  show (W.heap.push ob)[b]? = W.heap[b]?
  rw [Array.getElem?_push_lt hb, Array.getElem?_eq_getElem hb]
theorem heap_alloc_at (W : World) (ob : Go.Obj) : (W.alloc ob).heap[W.heap.size]? = some ob := by
  show (W.heap.push ob)[W.heap.size]? = some ob
  simp

/-- One object changes, and its blocks with it; new blocks may come. -/
theorem Rel.change {ρ ρ' : Ren} {W W' : World} {σ : St} (hR : Rel ρ W σ) {i : Nat} {o o' : Obj} (ho : σ[i]? = some o) (hlive : o.live = true)
    (hsize : W.heap.size ≤ W'.heap.size) (hos : W'.os = W.os) (htape : W'.tape = W.tape) (hout : W'.output = W.output)
    (hheap : ∀ b, b < W.heap.size → (∀ v p, ρ.loc i v = some p → p.blk ≠ b) → W'.heap[b]? = W.heap[b]?)
    (hother : ∀ j v, j ≠ i → ρ'.loc j v = ρ.loc j v) (hown : ∀ v p, ρ.loc i v = some p → ρ'.loc i v = some p)
    (hnew : ∀ v p, ρ'.loc i v = some p → (∃ u q, ρ.loc i u = some q ∧ q.blk = p.blk) ∨ (W.heap.size ≤ p.blk ∧ p.blk < W'.heap.size))
    (hfix : ∀ b, ρ'.fix b ↔ ρ.fix b) (hcode : ρ'.code = ρ.code) (hobj : Later ρ W ρ' W' → ObjR ρ' W' i o') :
    Later ρ W ρ' W' ∧ Rel ρ' W' (σ.set i o') := by
  have hi : i < σ.length := (List.getElem?_eq_some_iff.1 ho).1
  have L : Later ρ W ρ' W' := by
    refine ⟨fun j v p hp => ?_, fun b hb => (hfix b).2 hb, fun b hb => hheap b (hR.fixlt b hb) (fun v p hp he => ?_), hsize, hos, htape, hout,
      fun b hb hn => hheap b hb (hn i), fun j v p hp => ?_, fun b hb => .inl ((hfix b).1 hb), hcode⟩
    · by_cases hj : j = i
      · subst hj; exact hown v p hp
      · rw [hother j v hj]; exact hp
    · exact hR.apart i o v p ho hlive hp (he ▸ hb)
    · by_cases hj : j = i
      · subst hj
        rcases hnew v p hp with ⟨u, q, hq, he⟩ | h
        · exact .inl ⟨j, u, q, hq, he⟩
        · exact .inr h.1
      · rw [hother j v hj] at hp; exact .inl ⟨j, v, p, hp, rfl⟩
  refine ⟨L, ⟨fun j oj hj => ?_, fun j v p hp => ?_, ?_, fun j oj v p hj hl hp => ?_, fun b hb => Nat.lt_of_lt_of_le (hR.fixlt b ((hfix b).1 hb)) hsize⟩⟩
  · by_cases hji : j = i
    · subst hji
      rw [List.getElem?_set_self (by simpa using hi)] at hj
      cases hj
      exact hobj L
    · rw [List.getElem?_set_ne (fun h => hji h.symm)] at hj
      refine (hR.obj j oj hj).later L (fun v p hp => hheap p.blk (hR.blk j v p hp).1 fun u q hq he => hji (hR.inj j v p i u q hp hq he.symm)) fun v => hother j v hji
  · by_cases hji : j = i
    · subst hji
      rcases hnew v p hp with ⟨u, q, hq, he⟩ | h
      · exact ⟨he ▸ Nat.lt_of_lt_of_le (hR.blk j u q hq).1 hsize, by simpa using hi⟩
      · exact ⟨h.2, by simpa using hi⟩
    · rw [hother j v hji] at hp
      exact ⟨Nat.lt_of_lt_of_le (hR.blk j v p hp).1 hsize, by simpa using (hR.blk j v p hp).2⟩
  · have key : ∀ j v p, ρ'.loc j v = some p → j ≠ i → ∀ w q, ρ'.loc i w = some q → p.blk ≠ q.blk := by
      intro j v p hp hji w q hq he
      rw [hother j v hji] at hp
      rcases hnew w q hq with ⟨u, q', hq', he'⟩ | h
      · exact hji (hR.inj j v p i u q' hp hq' (he.trans he'.symm))
      · have := (hR.blk j v p hp).1; omega
    intro j v p k w q hp hq he
    by_cases hji : j = i <;> by_cases hki : k = i
    · exact hji.trans hki.symm
    · subst hji; exact absurd he.symm (key k w q hq hki v p hp)
    · subst hki; exact absurd he (key j v p hp hji w q hq)
    · rw [hother j v hji] at hp; rw [hother k w hki] at hq; exact hR.inj j v p k w q hp hq he
  · rw [hfix]
    by_cases hji : j = i
    · subst hji
      rcases hnew v p hp with ⟨u, q, hq, he⟩ | h
      · exact he ▸ hR.apart j o u q ho hlive hq
      · exact fun hb => absurd (hR.fixlt _ hb) (by omega)
    · rw [hother j v hji] at hp
      rw [List.getElem?_set_ne (fun h => hji h.symm)] at hj
      exact hR.apart j oj v p hj hl hp

/-- A new object. -/
theorem Rel.push {ρ ρ' : Ren} {W W' : World} {σ : St} (hR : Rel ρ W σ) {o' : Obj}
    (hsize : W.heap.size ≤ W'.heap.size) (hos : W'.os = W.os) (htape : W'.tape = W.tape) (hout : W'.output = W.output)
    (hheap : ∀ b, b < W.heap.size → W'.heap[b]? = W.heap[b]?)
    (hother : ∀ j v, j ≠ σ.length → ρ'.loc j v = ρ.loc j v)
    (hnew : ∀ v p, ρ'.loc σ.length v = some p → W.heap.size ≤ p.blk ∧ p.blk < W'.heap.size)
    (hfix : ∀ b, ρ'.fix b ↔ ρ.fix b) (hcode : ρ'.code = ρ.code) (hobj : Later ρ W ρ' W' → ObjR ρ' W' σ.length o') :
    Later ρ W ρ' W' ∧ Rel ρ' W' (σ ++ [o']) := by
  have hnone : ∀ v, ρ.loc σ.length v = none := fun v => by
    cases h : ρ.loc σ.length v with
    | none => rfl
    | some p => exact absurd (hR.blk _ v p h).2 (by omega)
  have L : Later ρ W ρ' W' := by
    refine ⟨fun j v p hp => ?_, fun b hb => (hfix b).2 hb, fun b hb => hheap b (hR.fixlt b hb), hsize, hos, htape, hout,
      fun b hb _ => hheap b hb, fun j v p hp => ?_, fun b hb => .inl ((hfix b).1 hb), hcode⟩
    · by_cases hj : j = σ.length
      · subst hj; rw [hnone] at hp; cases hp
      · rw [hother j v hj]; exact hp
    · by_cases hj : j = σ.length
      · subst hj; exact .inr (hnew v p hp).1
      · rw [hother j v hj] at hp; exact .inl ⟨j, v, p, hp, rfl⟩
  have hlt : ∀ j oj, (σ ++ [o'])[j]? = some oj → j ≠ σ.length → σ[j]? = some oj := by
    intro j oj hj hne
    have : j < (σ ++ [o']).length := (List.getElem?_eq_some_iff.1 hj).1
    rw [List.getElem?_append_left (by simp at this; omega)] at hj
    exact hj
  refine ⟨L, ⟨fun j oj hj => ?_, fun j v p hp => ?_, ?_, fun j oj v p hj hl hp => ?_, fun b hb => Nat.lt_of_lt_of_le (hR.fixlt b ((hfix b).1 hb)) hsize⟩⟩
  · by_cases hji : j = σ.length
    · subst hji
      simp at hj
      subst hj
      exact hobj L
    · exact (hR.obj j oj (hlt j oj hj hji)).later L (fun v p hp => hheap p.blk (hR.blk j v p hp).1) fun v => hother j v hji
  · by_cases hji : j = σ.length
    · subst hji; exact ⟨(hnew v p hp).2, by simp⟩
    · rw [hother j v hji] at hp
      exact ⟨Nat.lt_of_lt_of_le (hR.blk j v p hp).1 hsize, by have := (hR.blk j v p hp).2; simp; omega⟩
  · intro j v p k w q hp hq he
    by_cases hji : j = σ.length <;> by_cases hki : k = σ.length
    · exact hji.trans hki.symm
    · subst hji
      rw [hother k w hki] at hq
      have := (hR.blk k w q hq).1; have := hnew v p hp; omega
    · subst hki
      rw [hother j v hji] at hp
      have := (hR.blk j v p hp).1; have := hnew w q hq; omega
    · rw [hother j v hji] at hp; rw [hother k w hki] at hq; exact hR.inj j v p k w q hp hq he
  · rw [hfix]
    by_cases hji : j = σ.length
    · subst hji
      exact fun hb => by have := hR.fixlt _ hb; have := hnew v p hp; omega
    · rw [hother j v hji] at hp
      exact hR.apart j oj v p (hlt j oj hj hji) hl hp

/-- The world grows by blocks that no longer change; no object changes. -/
theorem Rel.grow {ρ ρ' : Ren} {W W' : World} {σ : St} (hR : Rel ρ W σ)
    (hsize : W.heap.size ≤ W'.heap.size) (hos : W'.os = W.os) (htape : W'.tape = W.tape) (hout : W'.output = W.output)
    (hheap : ∀ b, b < W.heap.size → W'.heap[b]? = W.heap[b]?) (hloc : ρ'.loc = ρ.loc) (hcode : ρ'.code = ρ.code)
    (hfix : ∀ b, ρ'.fix b → ρ.fix b ∨ (W.heap.size ≤ b ∧ b < W'.heap.size)) (hfix' : ∀ b, ρ.fix b → ρ'.fix b) :
    Later ρ W ρ' W' ∧ Rel ρ' W' σ := by
  have L : Later ρ W ρ' W' := ⟨fun j v p hp => by rw [hloc]; exact hp, hfix', fun b hb => hheap b (hR.fixlt b hb), hsize, hos, htape, hout,
    fun b hb _ => hheap b hb, fun j v p hp => .inl ⟨j, v, p, by rw [← hloc]; exact hp, rfl⟩, fun b hb => (hfix b hb).imp id fun h => .inr h.1, hcode⟩
  refine ⟨L, ⟨fun j oj hj => (hR.obj j oj hj).later L (fun v p hp => hheap p.blk (hR.blk j v p hp).1) fun v => by rw [hloc],
    fun j v p hp => ?_, fun j v p k w q hp hq => by rw [hloc] at hp hq; exact hR.inj j v p k w q hp hq, fun j oj v p hj hl hp => ?_, fun b hb => ?_⟩⟩
  · rw [hloc] at hp
    exact ⟨Nat.lt_of_lt_of_le (hR.blk j v p hp).1 hsize, (hR.blk j v p hp).2⟩
  · rw [hloc] at hp
    intro hb
    rcases hfix _ hb with h | h
    · exact hR.apart j oj v p hj hl hp h
    · have := (hR.blk j v p hp).1; omega
  · rcases hfix b hb with h | h
    · exact Nat.lt_of_lt_of_le (hR.fixlt b h) hsize
    · exact h.2

/-- Nothing has changed but how much has been drawn. -/
theorem Rel.drew {ρ : Ren} {W : World} {σ : St} (hR : Rel ρ W σ) : Later ρ W ρ W.drew ∧ Rel ρ W.drew σ :=
  hR.grow (ρ' := ρ) (W' := W.drew) (Nat.le_refl _) rfl rfl rfl (fun _ _ => rfl) rfl rfl (fun _ h => .inl h) (fun _ h => h)

/-- A new block that is told as a tree. -/
theorem Rel.tree {ρ : Ren} {W : World} {σ : St} (hR : Rel ρ W σ) (ob : Go.Obj) :
    Later ρ W { ρ with fix := fun b => ρ.fix b ∨ b = W.heap.size } (W.alloc ob) ∧ Rel { ρ with fix := fun b => ρ.fix b ∨ b = W.heap.size } (W.alloc ob) σ :=
  hR.grow (by simp) rfl rfl rfl (fun b hb => heap_alloc_old W ob hb) rfl rfl
    (fun b hb => hb.imp id fun h => by subst h; simp) (fun b h => .inl h)

/-- Objects become frozen. -/
theorem Rel.freeze {ρ : Ren} {W : World} {σ : St} (hR : Rel ρ W σ) (l : List Nat) :
    Later ρ W { ρ with fix := fun b => ρ.fix b ∨ ∃ i sz es since v p, i ∈ l ∧ σ[i]? = some (.row sz es since) ∧ ρ.loc i v = some p ∧ b = p.blk } W ∧
    Rel { ρ with fix := fun b => ρ.fix b ∨ ∃ i sz es since v p, i ∈ l ∧ σ[i]? = some (.row sz es since) ∧ ρ.loc i v = some p ∧ b = p.blk } W (AI.freeze l σ) := by
  have hget : ∀ j : Nat, (AI.freeze l σ)[j]? = (σ[j]?).map fun o => if l.contains j then o.freeze else o := by
    intro j
    simp only [AI.freeze, List.getElem?_map, List.getElem?_zipIdx]
    cases σ[j]? <;> simp
  have L : Later ρ W { ρ with fix := fun b => ρ.fix b ∨ ∃ i sz es since v p, i ∈ l ∧ σ[i]? = some (.row sz es since) ∧ ρ.loc i v = some p ∧ b = p.blk } W :=
    ⟨fun _ _ _ h => h, fun b h => .inl h, fun _ _ => rfl, Nat.le_refl _, rfl, rfl, rfl, fun _ _ _ => rfl, fun i v p h => .inl ⟨i, v, p, h, rfl⟩,
     fun b h => h.imp id fun ⟨i, _, _, _, v, p, _, _, hp, he⟩ => .inl ⟨i, v, p, hp, he.symm⟩, rfl⟩
  refine ⟨L, ⟨fun j oj hj => ?_, fun j v p hp => ⟨(hR.blk j v p hp).1, by simpa [AI.freeze] using (hR.blk j v p hp).2⟩, hR.inj, fun j oj v p hj hl hp => ?_, fun b hb => ?_⟩⟩
  · rw [hget] at hj
    cases hs : σ[j]? with
    | none => rw [hs] at hj; cases hj
    | some o =>
      rw [hs] at hj
      simp only [Option.map_some, Option.some.injEq] at hj
      have h1 := (hR.obj j o hs).later L (fun _ _ _ => rfl) (fun _ => rfl)
      by_cases hc : l.contains j = true
      · rw [if_pos hc] at hj
        subst hj
        cases o with
        | row sz es since => exact ⟨h1, fun ver p hp => .inr ⟨j, sz, es, since, ver, p, by simpa using hc, hs, hp, rfl⟩⟩
        | _ => exact h1
      · rw [if_neg hc] at hj
        subst hj
        exact h1
  · rw [hget] at hj
    cases hs : σ[j]? with
    | none => rw [hs] at hj; cases hj
    | some o =>
      rw [hs] at hj
      simp only [Option.map_some, Option.some.injEq] at hj
      rintro (h | ⟨i, sz, es, since, u, q, hil, hi, hq, he⟩)
      · have ho : o.live = true := by
          by_cases hc : l.contains j = true
          · rw [if_pos hc] at hj; subst hj; cases o <;> simp_all [Obj.live, Obj.freeze]
          · rw [if_neg hc] at hj; subst hj; exact hl
        exact hR.apart j o v p hs ho hp h
      · have hji := hR.inj j v p i u q hp hq he
        subst hji
        rw [hs] at hi
        cases hi
        rw [if_pos (by simpa using hil)] at hj
        subst hj
        simp [Obj.live, Obj.freeze] at hl
  · rcases hb with h | ⟨i, sz, es, since, v, p, _, _, hp, rfl⟩
    · exact hR.fixlt b h
    · exact (hR.blk i v p hp).1

end Go.AI
