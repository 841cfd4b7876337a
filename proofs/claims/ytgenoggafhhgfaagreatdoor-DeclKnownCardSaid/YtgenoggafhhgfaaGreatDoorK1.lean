/- Texts of the proof: an interpreter over trees, proved to follow the model. No conditions of its own. -/
import Derived.WalkKit
import Derived.ChangeKeysEq
set_option linter.unusedVariables false
set_option linter.unusedSimpArgs false
namespace Go.AI
open Go
inductive D where
 |bool (b:Bool)
 |int (k:IntKind) (n:Int)
 |str (l:List UInt8)
 |ptr (i off:Nat)
 |rptr (i ver idx r:Nat)
 |tptr (cs:List D)
 |nilptr
 |empty
 |slice (es:List D)
 |arr (i ver off n:Nat)
 |map (i:Nat)
 |nilmap
 |func (f:FuncId) (first captured:List D)
 |nilfunc
 |yield (i:Nat)
 |iface (t:TypeId) (v:D)
 |niliface
 |agg (cs:List D)
 |tuple (vs:List D)
 |undef
 |any
 deriving Inhabited,Repr
def D.cells:D→List D
 | .agg cs=>cs
 |d=>[d]
def D.one:D→Bool
 | .agg _| .tuple _| .undef| .any=>false
 |_=>true
inductive AOpd where
 |tmp (t:Nat)
 |lit (d:D)
 |glob (g:Nat)
 deriving Inhabited,Repr
inductive ACallee where
 |fn (f:FuncId)
 |val (x:AOpd)
 deriving Inhabited,Repr
inductive EqC where
 |none|bool|agg (ks:List Nat) |ptr|iface|func|map|sc (k:Nat) |arr (n m:Nat) (c:EqC)
 deriving Inhabited,Repr,DecidableEq
inductive AOp where
 |mv (x:AOpd)
 |newrow (sz:Nat)
 |pick (c a b:AOpd)
 |alloc (zero:List D)
 |allocRow (sz:Nat)
 |box (x:AOpd)
 |build (zero:List D) (parts:List (Nat × Nat × AOpd))
 |buildSlice (sz len:Nat) (zero:List D) (parts:List (Nat × AOpd))
 |buildRow (sz len:Nat) (zero:List D) (parts:List (Nat × AOpd))
 |load (agg:Bool) (size:Nat) (x:AOpd)
 |store (size:Nat) (a v:AOpd)
 |nilCheck (x:AOpd)
 |arith (op:BinOp) (c:EqC) (x y:AOpd)
 |neg (x:AOpd)
 |not (x:AOpd)
 |toInt (k:IntKind) (x:AOpd)
 |toStr (x:AOpd)
 |same (x:AOpd)
 |mkIface (t:TypeId) (x:AOpd)
 |mkFunc (f:FuncId) (first captured:List AOpd)
 |mkMap
 |mkSlice (sz bytes:Nat) (zero:D) (len cap:AOpd)
 |sliceStr (x:AOpd) (lo hi:Option AOpd)
 |sliceRow (sz:Nat) (x:AOpd) (lo hi mx:Option AOpd)
 |addOff (off:Nat) (x:AOpd)
 |fieldOf (agg:Bool) (off size:Nat) (x:AOpd)
 |indexAddrS (sz:Nat) (x i:AOpd)
 |indexAddrA (len sz:Nat) (x i:AOpd)
 |indexA (agg:Bool) (len sz:Nat) (x i:AOpd)
 |indexStr (x i:AOpd)
 |lookup (kc:Nat) (zero:D) (commaOk:Bool) (x k:AOpd)
 |mapUpdate (kc:Nat) (m k v:AOpd)
 |rangeStr (x:AOpd)
 |nextStr (x:AOpd)
 |typeAssert (t:TypeId) (zero:D) (commaOk:Bool) (x:AOpd)
 |extract (x:AOpd) (i:Nat)
 |len (str:Bool) (x:AOpd)
 |append (sz bytes:Nat) (s x:AOpd)
 |copyAll (sz:Nat) (d x:AOpd)
 |max2 (xs:List AOpd)
 |min2 (xs:List AOpd)
 |call (c:ACallee) (args:List AOpd)
 |panic (x:AOpd)
 deriving Inhabited,Repr
structure AOper where
 dst:Option Nat
 op:AOp
 guard:Option (Nat × Bool)
 reads:List Nat
 deriving Inhabited,Repr
inductive ACode where
 |skip
 |region (ops:List AOper) (keep:Option (List Nat))
 |drawn (ops:List AOper) (anc:List Nat) (keep:Option (List Nat))
 |seq (a b:ACode)
 |cond (c:AOpd) (thn els:ACode)
 |block (id:Nat) (body:ACode)
 |loop (body:ACode)
 |exit (id:Nat)
 |label (l:Nat)
 |goto (l:Nat)
 |scope (body:ACode) (jump:Option (Nat × ACode))
 |rangeFunc (f:AOpd) (params:List Nat) (assign body:ACode)
 |ret
 deriving Inhabited,Repr
inductive ARes where
 |tmp (t:Nat)
 |cell (t:Nat) (agg:Bool) (size:Nat)
 deriving Inhabited,Repr
structure AFunc where
 ntmps:Nat
 nparams:Nat
 results:List ARes
 body:ACode
 deriving Inhabited,Repr
abbrev Env:=List (Nat × D)
inductive AJump where
 |ret
 |exit (id:Nat)
 |goto (l:Nat)
 deriving Inhabited,Repr,DecidableEq
deriving instance Repr for LoopState
inductive Obj where
 |box (cs:List D)
 |row (sz:Nat) (es:List D) (since:Nat)
 |fro (sz:Nat) (es:List D) (since:Nat)
 |siter (l:List UInt8) (pos:Nat)
 |map (kvs:List (D × D))
 |loop (n:Nat) (env:Env) (params:List Nat) (assign body:ACode) (state:LoopState) (pending:Option AJump)
 deriving Inhabited,Repr
abbrev St:=List Obj
def getE:Env→Nat→D
 | [],_=> .any
 | (t,d)::r,s=>if t=s then d else getE r s
def setE:Env→Nat→D→Env
 | [],s,v=>[(s,v)]
 | (t,d)::r,s,v=>if t=s then (t,v)::r else (t,d)::setE r s v
def keepE (keep:Option (List Nat)) (e:Env):Env:=
 match keep with
 |none=>e
 |some l=>l.map fun t=>(t,getE e t)
def rowOf (σ:St):D→Option (List D)
 | .slice es=>some es
 | .empty=>some []
 | .arr i ver off n=>
  match σ[i]? with
  |some (.row _ es since) |some (.fro _ es since)=>
   if since≤ver∧off+n≤ver∧ver≤es.length then some ((es.drop off).take n) else none
  |_=>none
 |_=>none
def cutCells (agg:Bool) (size:Nat) (cs:List D):Option D:=
 if agg then (if size≤cs.length then some (.agg (cs.take size)) else none)
 else if size=1 then cs.head? else none
def loadD (σ:St) (agg:Bool) (size:Nat):D→Option D
 | .ptr i off=>
  match σ[i]? with
  |some (.box cs)=>cutCells agg size (cs.drop off)
  |_=>none
 | .rptr i ver idx r=>
  match σ[i]? with
  |some (.row _ es since) |some (.fro _ es since)=>
   if since≤ver∧idx<ver∧ver≤es.length then
    match es[idx]? with
    |some e=>cutCells agg size (e.cells.drop r)
    |none=>none
   else none
  |_=>none
 | .tptr cs=>cutCells agg size cs
 |_=>none
mutual
def D.weak:D→D
 | .empty=> .slice []
 | .slice es=> .slice (weakL es)
 | .agg cs=> .agg (weakL cs)
 | .tuple vs=> .tuple (weakL vs)
 | .iface t v=> .iface t v.weak
 |d=>d
def weakL:List D→List D
 | []=>[]
 |d::r=>d.weak::weakL r
end
def putCells (cs:List D) (off:Nat) (vs:List D):Option (List D):=
 if off+vs.length≤cs.length∧vs.all D.one=true then some (cs.take off++vs++cs.drop (off+vs.length)) else none
def storeD (σ:St) (size:Nat) (v:D):D→Option St
 | .ptr i off=>
  match σ[i]? with
  |some (.box cs)=>if v.cells.length=size then (putCells cs off v.cells).map fun cs'=>σ.set i (.box cs') else none
  |_=>none
 | .rptr i ver idx r=>
  match σ[i]? with
  |some (.row sz es _)=>
   if ver=es.length∧idx<ver∧v.cells.length=size then
    match es[idx]? with
    |some (.agg cs)=>(putCells cs r v.cells).map fun cs'=>σ.set i (.row sz (es.set idx (.agg cs')) es.length)
    |some _=>if r=0∧v.one=true then some (σ.set i (.row sz (es.set idx v) es.length)) else none
    |none=>none
   else none
  |_=>none
 |_=>none
def D.kindEq:Nat→D→D→Option Bool
 |0, .bool a, .bool b=>some (a==b)
 |1, .int j a, .int k b=>if j=k then some (a==b) else none
 |2, .str a, .str b=>some (a==b)
 |_,_,_=>none
def flatEqs:List Nat→List D→List D→Option Bool
 | [],[],[]=>some true
 |k::ks,a::x,b::y=>match D.kindEq k a b with
  |some t=>(flatEqs ks x y).map (t&& ·)
  |none=>none
 |_,_,_=>none
def eqChunks (f:D→D→Option Bool) (p:List D→D) (m:Nat):Nat→List D→List D→Option Bool
 |0,_,_=>some true
 |n+1,x,y=>match f (p x) (p y) with
  |some t=>(eqChunks f p m n (x.drop m) (y.drop m)).map (t&& ·)
  |none=>none
def EqC.part (m:Nat) (x:List D):EqC→D
 | .arr .. => .agg (x.take m)
 |_=>x.headD .any
def eqDeep:EqC→D→D→Option Bool
 | .sc k,x,y=>D.kindEq k x y
 | .arr n m c, .agg x, .agg y=>if x.length=n*m∧y.length=n*m∧0<m then eqChunks (eqDeep c) (fun l=>c.part m l) m n x y else none
 |_,_,_=>none
def eqD:EqC→D→D→Option Bool
 | .arr n m c,x,y=>eqDeep (.arr n m c) x y
 | .bool, .bool a, .bool b=>some (a==b)
 | .agg ks, .agg x, .agg y=>flatEqs ks x y
 | .ptr, .nilptr, .nilptr=>some true
 | .ptr, .ptr _ _, .nilptr| .ptr, .nilptr, .ptr _ _| .ptr, .rptr .., .nilptr| .ptr, .nilptr, .rptr .. =>some false
 | .iface, .iface _ _, .niliface| .iface, .niliface, .iface _ _=>some false
 | .func, .nilfunc, .nilfunc=>some true
 | .func, .func .., .nilfunc| .func, .nilfunc, .func .. =>some false
 | .map, .nilmap, .nilmap=>some true
 | .map, .map _, .nilmap| .map, .nilmap, .map _=>some false
 |_,_,_=>none
def bytesLess:List UInt8→List UInt8→Bool:=Op.bytesLess
def intArith (op:BinOp) (k:IntKind) (a b:Int):Option D:=
 match op with
 | .add=>some (.int k (k.wrap (a+b)))
 | .sub=>some (.int k (k.wrap (a - b)))
 | .mul=>some (.int k (k.wrap (a*b)))
 | .quo=>if b=0 then none else some (.int k (k.wrap (a.tdiv b)))
 | .rem=>if b=0 then none else some (.int k (a.tmod b))
 | .and=>some (.int k (k.wrap ((BitVec.ofInt k.bits a&&& BitVec.ofInt k.bits b).toNat)))
 | .or=>some (.int k (k.wrap ((BitVec.ofInt k.bits a|||BitVec.ofInt k.bits b).toNat)))
 | .eql=>some (.bool (a==b))
 | .neq=>some (.bool (a != b))
 | .lss=>some (.bool (a<b))
 | .leq=>some (.bool (a≤b))
 | .gtr=>some (.bool (a>b))
 | .geq=>some (.bool (a≥b))
 |_=>none
def strArith (op:BinOp) (x y:List UInt8):Option D:=
 match op with
 | .add=>if x.length+y.length≤9223372036854775807 then some (.str (x++y)) else none
 | .eql=>some (.bool (x==y))
 | .neq=>some (.bool (!(x==y)))
 | .lss=>some (.bool (bytesLess x y))
 | .leq=>some (.bool (bytesLess x y||x==y))
 | .gtr=>some (.bool !(bytesLess x y||x==y))
 | .geq=>some (.bool !(bytesLess x y))
 |_=>none
def arithD (op:BinOp) (c:EqC) (x y:D):Option D:=
 match op,x,y with
 | .shl, .int k a, .int _ b=>if b<0 then none else some (.int k (k.wrap (a*2 ^ (min b.toNat k.bits))))
 | .shr, .int k a, .int _ b=>if b<0 then none else some (.int k (a.fdiv (2 ^ (min b.toNat k.bits))))
 |op, .int k a, .int k' b=>if k=k' then intArith op k a b else none
 |op, .str a, .str b=>strArith op a b
 | .eql,x,y=>(eqD c x y).map .bool
 | .neq,x,y=>(eqD c x y).map fun b=> .bool (!b)
 |_,_,_=>none
def fillD (cs:List D):List (Nat × Nat × D)→Option (List D)
 | []=>some cs
 | (off,size,v)::rest=>
  if v.cells.length=size then
   match putCells cs off v.cells with
   |some cs'=>fillD cs' rest
   |none=>none
  else none
def fillRow (sz:Nat) (es:List D):List (Nat × D)→Option (List D)
 | []=>some es
 | (i,v)::rest=>if v.cells.length=sz∧i<es.length∧v.cells.all D.one=true then fillRow sz (es.set i v) rest else none
def mapFind (kc:Nat) (k:D):List (D × D)→Option (Option D)
 | []=>some none
 | (k',v)::r=>match D.kindEq kc k k' with
  |some true=>some (some v)
  |some false=>mapFind kc k r
  |none=>none
def mapSet (kc:Nat) (k v:D):List (D × D)→Option (List (D × D))
 | []=>some [(k,v)]
 | (k',v')::r=>match D.kindEq kc k k' with
  |some true=>some ((k,v)::r)
  |some false=>(mapSet kc k v r).map ((k',v'):: ·)
  |none=>none
def bound (n:Nat) (dflt:Nat):Option D→Option Nat
 |none=>some dflt
 |some (.int _ i)=>if 0≤i∧i≤n then some i.toNat else none
 |some _=>none
inductive Nx where
 |value (d:D)
 |skip
 |enter (f:FuncId) (args:List D)
 |yield (i:Nat) (args:List D)
 |panic (d:D)
 deriving Inhabited,Repr
inductive FRes where
 |ret (d:D)
 |panic (d:D)
 deriving Inhabited,Repr
structure Gl where
 g:Nat→Option (List D)
 nat:FuncId→Option (List D→Option D)
 catches:FuncId→Option TypeId:=fun _=>none
 query:FuncId→Bool:=fun _=>false
 post:FuncId→St→Option (FRes × St)→Option (FRes × St):=fun _ _ x=>x
abbrev lookA (glob:Gl) (e:Env):AOpd→D
 | .tmp t=>getE e t
 | .lit d=>d
 | .glob g=>match glob.g g with|some cs=> .tptr cs|none=> .any
def val (d:Option D) (σ:St):Option (Nx × St):=d.map fun d=>(.value d,σ)
def stepOp (look:AOpd→D) (σ:St):AOp→Option (Nx × St)
 | .mv x=>some (.value (look x),σ)
 | .newrow sz=>some (.value (.arr σ.length 0 0 0),σ++[.row sz [] 0])
 | .pick c a b=>match look c with
  | .bool t=>some (.value (if t then look a else look b),σ)
  |_=>none
 | .alloc zero=>some (.value (.ptr σ.length 0),σ++[.box zero])
 | .allocRow sz=>some (.value (.ptr (σ.length+1) 0),σ++[.row sz [] 0, .box [.arr σ.length 0 0 0]])
 | .box x=>if (look x).cells.all D.one=true then some (.value (.ptr σ.length 0),σ++[.box (look x).cells]) else none
 | .build zero parts=>val ((fillD zero (parts.map fun (o,s,x)=>(o,s,look x))).map .agg) σ
 | .buildSlice sz len zero parts=>if zero.length=sz∧0<sz∧zero.all D.one=true then val ((fillRow sz (List.replicate len (if sz=1 then zero.headD .any else .agg zero)) (parts.map fun (i,x)=>(i,look x))).map fun es=>if len=0 then .empty else .slice es) σ else none
 | .buildRow sz len zero parts=>if zero.length=sz∧0<sz∧zero.all D.one=true then (fillRow sz (List.replicate len (if sz=1 then zero.headD .any else .agg zero)) (parts.map fun (i,x)=>(i,look x))).map fun es=>(.value (.arr σ.length es.length 0 es.length),σ++[.row sz es 0]) else none
 | .load agg size x=>val (loadD σ agg size (look x)) σ
 | .store size a v=>(storeD σ size (look v) (look a)).map fun σ'=>(.skip,σ')
 | .nilCheck x=>match look x with
  | .ptr i o=>some (.value (.ptr i o),σ)
  | .rptr i v x r=>some (.value (.rptr i v x r),σ)
  | .tptr cs=>some (.value (.tptr cs),σ)
  |_=>none
 | .arith op c x y=>val (arithD op c (look x) (look y)) σ
 | .neg x=>match look x with
  | .int k n=>some (.value (.int k (k.wrap (0 - n))),σ)
  |_=>none
 | .not x=>match look x with
  | .bool b=>some (.value (.bool !b),σ)
  |_=>none
 | .toInt k x=>match look x with
  | .int _ n=>some (.value (.int k (k.wrap n)),σ)
  |_=>none
 | .toStr x=>match look x with
  | .int _ n=>if 0≤n∧n<128 then some (.value (.str [UInt8.ofNat n.toNat]),σ) else none
  | .str l=>some (.value (.str l),σ)
  |_=>none
 | .same x=>some (.value (look x),σ)
 | .mkIface t x=>some (.value (.iface t (look x)),σ)
 | .mkFunc f first captured=>some (.value (.func f (first.map look) (captured.map look)),σ)
 | .mkMap=>some (.value (.map σ.length),σ++[.map []])
 | .mkSlice sz bytes zero len cap=>match look len,look cap with
  | .int .i64 n, .int .i64 c=>
   if 0≤n∧n≤c∧c.toNat*bytes≤140737488355328∧c.toNat≤140737488355328∧zero.cells.length=sz∧0<sz∧zero.cells.all D.one=true
   then some (.value (.arr σ.length n.toNat 0 n.toNat),σ++[.row sz (List.replicate n.toNat zero) 0]) else none
  |_,_=>none
 | .sliceStr x lo hi=>match look x with
  | .str l=>match bound l.length l.length (hi.map look) with
   |some h=>match bound h 0 (lo.map look) with
    |some b=>some (.value (.str ((l.take h).drop b)),σ)
    |none=>none
   |none=>none
  |_=>none
 | .sliceRow sz x lo hi mx=>match look x,mx with
  | .slice es,none=>match bound es.length es.length (hi.map look) with
   |some h=>match bound h 0 (lo.map look) with
    |some b=>if (es.all fun e=>e.cells.length==sz)=true then some (.value (.slice ((es.take h).drop b)),σ) else none
    |none=>none
   |none=>none
  | .arr i ver off n,none=>match σ[i]? with
   |some (.row sz' es since) |some (.fro sz' es since)=>
    if sz'=sz∧since≤ver∧ver≤es.length then
     match bound n n (hi.map look) with
     |some h=>match bound h 0 (lo.map look) with
      |some b=>some (.value (if b=h then .slice [] else .arr i ver (off+b) (h - b)),σ)
      |none=>none
     |none=>none
    else none
   |_=>none
  | .slice _,some m| .arr ..,some m| .empty,some m=>match (lo.map look),(hi.map look),look m with
   |none,some (.int _ 0), .int _ 0=>some (.value .empty,σ)
   |some (.int _ 0),some (.int _ 0), .int _ 0=>some (.value .empty,σ)
   |_,_,_=>none
  | .empty,none=>match bound 0 0 (hi.map look) with
   |some h=>match bound h 0 (lo.map look) with
    |some _=>some (.value .empty,σ)
    |none=>none
   |none=>none
  |_,_=>none
 | .addOff off x=>match look x with
  | .ptr i o=>some (.value (.ptr i (o+off)),σ)
  | .rptr i v idx r=>some (.value (.rptr i v idx (r+off)),σ)
  | .tptr cs=>some (.value (.tptr (cs.drop off)),σ)
  |_=>none
 | .fieldOf agg off size x=>match look x with
  | .agg cs=>if off+size≤cs.length then val (cutCells agg size (cs.drop off)) σ else none
  |_=>none
 | .indexAddrS sz x i=>match look x,look i with
  | .slice es, .int _ n=>if 0≤n∧n<es.length then
   match es[n.toNat]? with
   |some e=>if e.cells.length=sz then some (.value (.tptr e.cells),σ) else none
   |none=>none
   else none
  | .arr i ver off m, .int _ n=>if 0≤n∧n<m then
   match σ[i]? with
   |some (.row sz' es since) |some (.fro sz' es since)=>if sz'=sz∧since≤ver∧ver≤es.length then some (.value (.rptr i ver (off+n.toNat) 0),σ) else none
   |_=>none
   else none
  |_,_=>none
 | .indexAddrA len sz x i=>match look i with
  | .int _ n=>if 0≤n∧n<len then
   match look x with
   | .ptr i o=>some (.value (.ptr i (o+n.toNat*sz)),σ)
   | .rptr i v idx r=>some (.value (.rptr i v idx (r+n.toNat*sz)),σ)
   | .tptr cs=>some (.value (.tptr (cs.drop (n.toNat*sz))),σ)
   |_=>none
   else none
  |_=>none
 | .indexA agg len sz x i=>match look x,look i with
  | .agg cs, .int _ n=>if 0≤n∧n<len∧(n.toNat+1) *sz≤cs.length then val (cutCells agg sz (cs.drop (n.toNat*sz))) σ else none
  |_,_=>none
 | .indexStr x i=>match look x,look i with
  | .str l, .int _ n=>if 0≤n∧n<l.length then
   match l[n.toNat]? with
   |some b=>some (.value (.int .u8 b.toNat),σ)
   |none=>none
   else none
  |_,_=>none
 | .lookup kc zero commaOk x k=>
  match D.kindEq kc (look k) (look k) with
  |none=>none
  |some _=>
   match (match look x with
    | .nilmap=>some none
    | .map i=>match σ[i]? with
     |some (.map kvs)=>mapFind kc (look k) kvs
     |_=>none
    |_=>none) with
   |some r=>some (.value (if commaOk then .tuple [r.getD zero, .bool r.isSome] else r.getD zero),σ)
   |none=>none
 | .mapUpdate kc m k v=>match look m with
  | .map i=>match σ[i]? with
   |some (.map kvs)=>match D.kindEq kc (look k) (look k) with
    |none=>none
    |some _=>(mapSet kc (look k) (look v) kvs).map fun kvs'=>(.skip,σ.set i (.map kvs'))
   |_=>none
  |_=>none
 | .rangeStr x=>match look x with
  | .str l=>some (.value (.ptr σ.length 0),σ++[.siter l 0])
  |_=>none
 | .nextStr x=>match look x with
  | .ptr i 0=>match σ[i]? with
   |some (.siter l pos)=>
    if pos<l.length then
     let cw:=Utf8.decode ⟨l.toArray⟩ pos
     some (.value (.tuple [.bool true, .int .i64 pos, .int .i32 cw.1]),σ.set i (.siter l (pos+cw.2)))
    else some (.value (.tuple [.bool false]),σ)
   |_=>none
  |_=>none
 | .typeAssert t zero commaOk x=>match look x with
  | .iface t' v=>if t'=t then some (.value (if commaOk then .tuple [v, .bool true] else v),σ)
   else if commaOk then some (.value (.tuple [zero, .bool false]),σ) else none
  |_=>none
 | .extract x i=>match look x with
  | .tuple vs=>val vs[i]? σ
  |_=>none
 | .len str x=>match str,look x with
  |true, .str l=>some (.value (.int .i64 l.length),σ)
  |false, .slice es=>some (.value (.int .i64 es.length),σ)
  |false, .empty=>some (.value (.int .i64 0),σ)
  |false, .arr _ _ _ n=>some (.value (.int .i64 n),σ)
  |_,_=>none
 | .append sz bytes s x=>
  match rowOf σ (look x) with
  |some xs=>
   if (xs.all fun e=>e.cells.length==sz&&e.cells.all D.one)=true∧0<sz∧0<bytes then
    match look s with
    | .empty=>if xs.length*bytes≤140737488355328 then
     (if xs=[] then some (.value .empty,σ) else some (.value (.arr σ.length xs.length 0 xs.length),σ++[.row sz xs xs.length])) else none
    | .arr i ver off n=>match σ[i]? with
     |some (.row sz' es since)=>
      if ver=es.length∧off=0∧n=ver∧sz'=sz∧(ver+xs.length) *bytes≤140737488355328∧since≤ver then
       some (.value (.arr i (ver+xs.length) 0 (ver+xs.length)),σ.set i (.row sz (es++xs) since)) else none
     |_=>none
    |_=>none
   else none
  |none=>none
 | .copyAll sz d x=>match rowOf σ (look x) with
  |some xs=>
   if (xs.all fun e=>e.cells.length==sz&&e.cells.all D.one)=true∧0<sz then
    match look d with
    | .arr i ver off n=>
     if n=0∧xs=[] then some (.value (.int .i64 0),σ) else
     match σ[i]? with
     |some (.row sz' es _)=>if ver=es.length∧off=0∧n=ver∧sz'=sz∧xs.length=n then some (.value (.int .i64 n),σ.set i (.row sz xs n)) else none
     |_=>none
    |_=>none
   else none
  |none=>none
 | .max2 xs=>match xs.map look with
  | [.int k a, .int k' b]=>if k=k' then some (.value (.int k (if b>a then b else a)),σ) else none
  |_=>none
 | .min2 xs=>match xs.map look with
  | [.int k a, .int k' b]=>if k=k' then some (.value (.int k (if b<a then b else a)),σ) else none
  |_=>none
 | .call (.fn f) args=>some (.enter f (args.map look),σ)
 | .call (.val x) args=>match look x with
  | .func f first captured=>some (.enter f (first++args.map look++captured),σ)
  | .yield i=>some (.yield i (args.map look),σ)
  |_=>none
 | .panic x=>match look x with
  | .iface t v=>some (.panic (.iface t v),σ)
  |_=>none
mutual
def D.tree:D→Bool
 | .bool _| .int .. | .str _| .nilptr| .empty| .nilmap| .nilfunc| .niliface=>true
 | .slice es=>treeL es
 | .agg cs=>treeL cs
 | .tuple vs=>treeL vs
 | .iface _ v=>v.tree
 | .func _ a b=>treeL a&&treeL b
 |_=>false
def treeL:List D→Bool
 | []=>true
 |d::r=>d.tree&&treeL r
end
def D.flat:D→Bool
 | .bool _| .int .. | .str _| .niliface=>true
 | .tuple vs=>vs.all fun
  | .bool _| .int .. | .str _=>true
  |_=>false
 |_=>false
def strip:Nat→St→D→Option D
 |0,_,d=>if d.tree then some d else none
 |n+1,σ,d=>if d.tree then some d else match d with
  | .arr .. =>match rowOf σ d with
   |some es=>(es.mapM (strip n σ)).map .slice
   |none=>none
  | .slice es=>(es.mapM (strip n σ)).map .slice
  | .agg cs=>(cs.mapM (strip n σ)).map .agg
  | .tuple vs=>(vs.mapM (strip n σ)).map .tuple
  |_=>none
def leads:Nat→St→D→List Nat
 |0,_,_=>[]
 |n+1,σ,d=>if d.tree then [] else match d with
  | .arr i .. =>i::match rowOf σ d with
   |some es=>es.flatMap (leads n σ)
   |none=>[]
  | .slice es=>es.flatMap (leads n σ)
  | .agg cs=>cs.flatMap (leads n σ)
  | .tuple vs=>vs.flatMap (leads n σ)
  |_=>[]
def Obj.freeze:Obj→Obj
 | .row sz es since=> .fro sz es since
 |o=>o
def freeze (l:List Nat) (σ:St):St:=σ.zipIdx.map fun (o,i)=>if l.contains i then o.freeze else o
mutual
def D.eqb:D→D→Bool
 | .bool a, .bool b=>a==b
 | .int j a, .int k b=>j==k&&a==b
 | .str a, .str b=>a==b
 | .ptr i a, .ptr j b=>i==j&&a==b
 | .rptr i v x r, .rptr i' v' x' r'=>i==i'&&v==v'&&x==x'&&r==r'
 | .tptr a, .tptr b=>eqbL a b
 | .nilptr, .nilptr| .empty, .empty| .nilmap, .nilmap| .nilfunc, .nilfunc| .niliface, .niliface| .undef, .undef=>true
 | .slice a, .slice b=>eqbL a b
 | .arr i v o n, .arr i' v' o' n'=>i==i'&&v==v'&&o==o'&&n==n'
 | .map i, .map j=>i==j
 | .func f a b, .func g c d=>f==g&&eqbL a c&&eqbL b d
 | .iface t v, .iface u w=>t==u&&v.eqb w
 | .agg a, .agg b=>eqbL a b
 | .tuple a, .tuple b=>eqbL a b
 |_,_=>false
def eqbL:List D→List D→Bool
 | [],[]=>true
 |a::x,b::y=>a.eqb b&&eqbL x y
 |_,_=>false
end
inductive AExit where
 |normal
 |exit (id:Nat)
 |goto (l:Nat)
 |ret
 |panic (d:D)
 deriving Inhabited,Repr
inductive Tgt where
 |fn (f:FuncId)
 |round (i:Nat)
 deriving Inhabited,Repr
abbrev CallF:=Tgt→List D→St→Option (FRes × St)
def putE (n:Nat) (e:Env) (dst:Option Nat) (v:D):Option Env:=
 match dst with
 |none=>some e
 |some d=>if d<n then some (setE e d v) else none
inductive SV where
 |val (d:D)
 |panic (d:D)
 deriving Inhabited,Repr
def stepGo (callf:CallF) (glob:Gl) (o:AOp) (e:Env) (σ:St):Option (SV × St):=
 match stepOp (lookA glob e) σ o with
 |some (.value d,σ')=>some (.val d,σ')
 |some (.skip,σ')=>some (.val .undef,σ')
 |some (.enter f args,σ')=>match glob.nat f with
  |some h=>(h args).map fun d=>(.val d,σ')
  |none=>match callf (.fn f) args σ' with
   |some (.ret d,σ'')=>some (.val d,σ'')
   |some (.panic d,σ'')=>some (.panic d,σ'')
   |none=>none
 |some (.yield i args,σ')=>match callf (.round i) args σ' with
  |some (.ret d,σ'')=>some (.val d,σ'')
  |some (.panic d,σ'')=>some (.panic d,σ'')
  |none=>none
 |some (.panic d,σ')=>some (.panic d,σ')
 |none=>none
def stepVal (callf:CallF) (glob:Gl) (o:AOper) (e:Env) (σ:St):Option (SV × St):=
 match o.guard with
 |none=>stepGo callf glob o.op e σ
 |some (t,want)=>match getE e t with
  | .bool b=>if b=want then stepGo callf glob o.op e σ else some (.val .undef,σ)
  | .undef=>some (.val .undef,σ)
  |_=>none
def stepOper (callf:CallF) (glob:Gl) (n:Nat) (o:AOper) (e:Env) (σ:St):Option (Option D × Env × St):=
 match stepVal callf glob o e σ with
 |some (.val d,σ')=>(putE n e o.dst d).map fun e'=>(none,e',σ')
 |some (.panic d,σ')=>some (some d,e,σ')
 |none=>none
def runOps (callf:CallF) (glob:Gl) (n:Nat):List AOper→Env→St→Option (Option D × Env × St)
 | [],e,σ=>some (none,e,σ)
 |o::r,e,σ=>match stepOper callf glob n o e σ with
  |some (none,e',σ')=>runOps callf glob n r e' σ'
  |x=>x
def runReg (callf:CallF) (glob:Gl) (n:Nat) (ops:List AOper) (e:Env) (σ:St):Option (Option D × Env × St):=
 match ops with
 | []=>some (none,e,σ)
 |o::_=>if o.reads.all (fun m=>decide (m<n))=true then runOps callf glob n ops e σ else none
def AOp.quiet:AOp→Bool
 | .newrow _| .alloc _| .allocRow _| .box _| .buildRow .. | .store .. | .mkMap| .mkSlice .. | .mapUpdate .. | .rangeStr _| .nextStr _| .append .. | .copyAll .. | .panic _| .call .. =>false
 |_=>true
def quietAt (ext:FuncId→Bool) (glob:Gl) (o:AOp) (e:Env) (d:D):Bool:=
 match o with
 | .call (.fn f) args=>(glob.nat f).isSome|| (glob.query f&& !ext f) ||ext f&&(d.flat||treeL (args.map (lookA glob e)))
 |o=>o.quiet
abbrev Done:=Nat × AOper × Env × D
def hasN (m j:Nat):Bool:=m.testBit j
def sameAt (callf:CallF) (glob:Gl) (o:AOper) (e:Env) (σ:St) (d:D):Bool:=
 match stepVal callf glob o e σ with
 |some (.val d',_)=>d'.eqb d
 |_=>false
abbrev Hist:=List (Nat × AOper × Env × D × St)
def runAfter (callf:CallF) (ext:FuncId→Bool) (glob:Gl) (n j:Nat):List AOper→List Nat→List (Nat × St)→Env→St→Option Env
 | [],anc,_,e,_=>if anc.all (fun b=>hasN b j) then some e else none
 |o::r,anc,loud,e,σ=>
  if hasN (anc.headD 0) j then runAfter callf ext glob n j r anc.tail loud e σ
  else match stepVal callf glob o (keepE (some o.reads) e) σ with
   |some (.val d,_)=>match putE n e o.dst d with
    |some e'=>if quietAt ext glob o.op (keepE (some o.reads) e) d&&loud.all (fun (k,σk)=>hasN (anc.headD 0) k||sameAt callf glob o (keepE (some o.reads) e) σk d) then runAfter callf ext glob n j r anc.tail loud e' σ else none
    |none=>none
   |_=>none
def runDrawn (callf:CallF) (ext:FuncId→Bool) (glob:Gl) (n:Nat) (fin:Hist→Env→St→Option (Option D × Env × St)):
 Nat→List AOper→List Nat→List Done→List (Nat × St)→Hist→Env→St→Option (Option D × Env × St)
 |_,[],_,_,_,hist,e,σ=>fin hist e σ
 |j,o::r,anc,done,loud,hist,e,σ=>
  match stepVal callf glob o (keepE (some o.reads) e) σ with
  |some (.val d,σ')=>
   match putE n e o.dst d with
   |some e'=>
    if quietAt ext glob o.op (keepE (some o.reads) e) d then
     if loud.all (fun (k,σk)=>hasN (anc.headD 0) k||sameAt callf glob o (keepE (some o.reads) e) σk d) then
      runDrawn callf ext glob n fin (j+1) r anc.tail ((j,o,keepE (some o.reads) e,d)::done) loud ((j,o,keepE (some o.reads) e,d,σ)::hist) e' σ'
     else none
    else
     if loud.all (fun (k,_)=>hasN (anc.headD 0) k)&&done.all (fun (i,oi,ei,di)=>hasN (anc.headD 0) i||sameAt callf glob oi ei σ' di) then
      runDrawn callf ext glob n fin (j+1) r anc.tail done ((j,σ)::loud) ((j,o,keepE (some o.reads) e,d,σ)::hist) e' σ'
     else none
   |none=>none
  |some (.panic d,σ')=>if loud.all (fun (k,_)=>hasN (anc.headD 0) k)&&(runAfter callf ext glob n j r anc.tail loud e σ).isSome then some (some d,e,σ') else none
  |none=>none
def lastFree (ops:List AOper) (anc:List Nat):Option (AOper × Nat):=
 match ops.getLast?,anc.getLast? with
 |some s,some a=>match s.op,s.guard,s.dst with
  | .store ..,none,none=>if a+1=2 ^ (a+1).log2∧(a+1).log2+1<ops.length then some (s,(a+1).log2) else none
  |_,_,_=>none
 |_,_=>none
def freeAt (callf:CallF) (ext:FuncId→Bool) (glob:Gl) (a0 b:Nat) (ob:Obj) (hist:Hist) (σ:St):Nat × AOper × Env × D × St→Bool:=fun (j,o,e,d,_)=>
 j<a0||
  if quietAt ext glob o.op e d then hist.all (fun (k,_,_,_,σk)=>k<a0||sameAt callf glob o e (σk.set b ob) d)&&sameAt callf glob o e (σ.set b ob) d
  else o.guard==none&&match o.op with
   | .store _ a _=>match lookA glob e a with
    | .ptr i _| .rptr i _ _ _=>i != b
    |_=>false
   |_=>false
def finL (callf:CallF) (ext:FuncId→Bool) (glob:Gl) (s:AOper) (a0:Nat) (hist:Hist) (e:Env) (σ:St):Option (Option D × Env × St):=
 match s.op with
 | .store size a v=>match lookA glob (keepE (some s.reads) e) a with
  | .ptr b off=>match storeD σ size (lookA glob (keepE (some s.reads) e) v) (.ptr b off) with
   |some σ'=>match σ'[b]? with
    |some ob=>if hist.all (freeAt callf ext glob a0 b ob hist σ)=true then some (none,e,σ') else none
    |none=>none
   |none=>none
  |_=>none
 |_=>none
def iter (f:Env→St→Option (AExit × Env × St)):Nat→Env→St→Option (AExit × Env × St)
 |0,_,_=>none
 |k+1,e,σ=>match f e σ with
  |some (.normal,e',σ')=>iter f k e' σ'
  |x=>x
def iterG (l:Nat) (f:Env→St→Option (AExit × Env × St)):Nat→Env→St→Option (AExit × Env × St)
 |0,_,_=>none
 |k+1,e,σ=>match f e σ with
  |some (.goto l',e',σ')=>if l'=l then iterG l f k e' σ' else none
  |x=>x
def evalCode (callf:CallF) (ext:FuncId→Bool) (glob:Gl) (n k:Nat) (inR:Bool):ACode→Env→St→Option (AExit × Env × St)
 | .skip,e,σ=>some (.normal,e,σ)
 | .region ops keep,e,σ=>match runReg callf glob n ops e σ with
  |some (none,e',σ')=>some (.normal,keepE keep e',σ')
  |some (some d,e',σ')=>some (.panic d,e',σ')
  |none=>none
 | .drawn ops anc keep,e,σ=>match (match lastFree ops anc with
  |some (s,a0)=>runDrawn callf ext glob n (finL callf ext glob s a0) 0 ops.dropLast anc [] [] [] e σ
  |none=>runDrawn callf ext glob n (fun _ e σ=>some (none,e,σ)) 0 ops anc [] [] [] e σ) with
  |some (none,e',σ')=>some (.normal,keepE keep e',σ')
  |some (some d,e',σ')=>some (.panic d,e',σ')
  |none=>none
 | .seq a b,e,σ=>match evalCode callf ext glob n k inR a e σ with
  |some (.normal,e',σ')=>evalCode callf ext glob n k inR b e' σ'
  |x=>x
 | .cond c a b,e,σ=>match lookA glob e c with
  | .bool true=>evalCode callf ext glob n k inR a e σ
  | .bool false=>evalCode callf ext glob n k inR b e σ
  |_=>none
 | .block id body,e,σ=>match evalCode callf ext glob n k inR body e σ with
  |some (.exit id',e',σ')=>if id'=id then some (.normal,e',σ') else some (.exit id',e',σ')
  |x=>x
 | .loop body,e,σ=>iter (evalCode callf ext glob n k inR body) k e σ
 | .exit id,e,σ=>some (.exit id,e,σ)
 | .label _,e,σ=>some (.normal,e,σ)
 | .goto l,e,σ=>some (.goto l,e,σ)
 | .scope body none,e,σ=>match evalCode callf ext glob n k inR body e σ with
  |some (.goto _,_,_)=>none
  |x=>x
 | .scope body (some (l,rest)),e,σ=>match evalCode callf ext glob n k inR body e σ with
  |some (.goto l',e',σ')=>if l'=l then iterG l (evalCode callf ext glob n k inR rest) k e' σ' else none
  |x=>x
 | .rangeFunc f ps as bd,e,σ=>match lookA glob e f with
  | .func g first captured=>
   if inR then none else
   match callf (.fn g) (first++[.yield σ.length]++captured) (σ++[.loop n e ps as bd .ready none]) with
   |some (.ret _,σ')=>match σ'[σ.length]? with
    |some (.loop m e1 ps1 as1 bd1 st pend)=>
     if st= .busy then none else
     let σ2:=σ'.set σ.length (.loop m e1 ps1 as1 bd1 .exhausted pend)
     match pend with
     |none=>some (.normal,e,σ2)
     |some .ret=>some (.ret,e,σ2)
     |some (.exit id)=>some (.exit id,e,σ2)
     |some (.goto l)=>some (.goto l,e,σ2)
    |_=>none
   |some (.panic d,σ')=>some (.panic d,e,σ')
   |none=>none
  |_=>none
 | .ret,e,σ=>some (.ret,e,σ)
def resOf (e:Env) (σ:St):ARes→Option D
 | .tmp t=>some (getE e t)
 | .cell t agg size=>loadD σ agg size (getE e t)
def resultsOf (e:Env) (σ:St) (l:List ARes):Option D:=
 match l.mapM (resOf e σ) with
 |some [d]=>some d
 |some ds=>some (.tuple ds)
 |none=>none
def argsE:Nat→List D→Env
 |_,[]=>[]
 |i,d::r=>(i,d)::argsE (i+1) r
abbrev Ext:=FuncId→Option (List D→Option D)
def callExt (g:List D→Option D) (args:List D) (σ:St):Option (FRes × St):=
 if treeL args then (g args).map fun r=>(.ret r,σ)
 else match args.mapM (strip 16 σ) with
  |some as=>match g as with
   |some r=>if r.flat then some (.ret r,σ) else some (.ret r,freeze (args.flatMap (leads 16 σ)) σ)
   |none=>none
  |none=>none
def putParams (n:Nat):List Nat→List D→Env→Option Env
 | [],[],e=>some e
 |p::ps,d::ds,e=>match putE n e (some p) d with
  |some e'=>putParams n ps ds e'
  |none=>none
 |_,_,_=>none
def endR (i:Nat) (jump:Option AJump) (σ:St):Option (FRes × St):=
 match σ[i]? with
 |some (.loop n env ps as bd _ _)=>some (.ret (.bool jump.isNone),σ.set i (.loop n env ps as bd (if jump.isNone then .ready else .done) jump))
 |_=>none
def evalRound (ev:Nat→ACode→Env→St→Option (AExit × Env × St)) (i:Nat) (args:List D) (σ:St):Option (FRes × St):=
 match σ[i]? with
 |some (.loop n env ps as bd .ready none)=>match putParams n ps args env with
  |some e=>match ev n as e σ with
   |some (.normal,e1,σ1)=>match σ1[i]? with
    |some (.loop n1 env1 ps1 as1 bd1 .ready p1)=>match ev n bd e1 (σ1.set i (.loop n1 env1 ps1 as1 bd1 .busy p1)) with
     |some (.normal,_,σ2)=>endR i none σ2
     |some (.ret,_,σ2)=>endR i (some .ret) σ2
     |some (.exit id,_,σ2)=>endR i (some (.exit id)) σ2
     |some (.goto l,_,σ2)=>endR i (some (.goto l)) σ2
     |some (.panic d,_,σ2)=>some (.panic d,σ2)
     |_=>none
    |_=>none
   |_=>none
  |none=>none
 |_=>none
def evalCatch (callf:CallF) (ty:TypeId) (args:List D) (σ:St):Option (FRes × St):=
 match args with
 | [.func g first captured]=>
  match callf (.fn g) (first++captured) (σ++[.box [.int .i64 0]]) with
  |some (.ret _,σ')=>match σ'[σ.length]? with
   |some (.box [_])=>some (.ret (.int .i64 0),σ'.set σ.length (.box [.int .i64 0]))
   |_=>none
  |some (.panic (.iface t (.agg [.int .i64 n])),σ')=>match σ'[σ.length]? with
   |some (.box [_])=>if t=ty then some (.ret (.int .i64 n),σ'.set σ.length (.box [.int .i64 n])) else none
   |_=>none
  |_=>none
 |_=>none
def evalBody (callf:CallF) (ext:FuncId→Bool) (glob:Gl) (k:Nat) (af:AFunc) (args:List D) (σ:St):Option (FRes × St):=
 if args.length=af.nparams∧af.nparams≤af.ntmps then
  match evalCode callf ext glob af.ntmps k false af.body (argsE 0 args) σ with
  |some (.normal,e,σ') |some (.ret,e,σ')=>(resultsOf e σ' af.results).map fun d=>(.ret d,σ')
  |some (.panic d,_,σ')=>some (.panic d,σ')
  |_=>none
 else none
def evalFn (T:FuncId→Option AFunc) (ext:Ext) (glob:Gl):Nat→CallF
 |0,_,_,_=>none
 |k+1, .round i,args,σ=>evalRound (fun n=>evalCode (evalFn T ext glob k) (fun f=>(ext f).isSome) glob n k true) i args σ
 |k+1, .fn f,args,σ=>
  match ext f with
  |some g=>callExt g args σ
  |none=>glob.post f σ (match T f with
   |some af=>evalBody (evalFn T ext glob k) (fun f=>(ext f).isSome) glob k af args σ
   |none=>match glob.catches f with
    |some ty=>evalCatch (evalFn T ext glob k) ty args σ
    |none=>none)
def valD1:Value→Option D
 | .bool b=>some (.bool b)
 | .int k n=>some (.int k n)
 | .string s=>some (.str s.data.toList)
 | .pointer none=>some .nilptr
 | .slice none 0 0=>some .empty
 | .map none=>some .nilmap
 | .nilFunc=>some .nilfunc
 | .nilIface=>some .niliface
 |_=>none
def valD:Value→Option D
 | .agg cs=>(cs.toList.mapM valD1).map .agg
 | .tuple vs=>if vs.size=0 then some .undef else none
 |v=>valD1 v
def opd:Operand→Option AOpd
 | .tmp t=>some (.tmp t)
 | .const v=>(valD v).map .lit
 | .global g=>some (.glob g)
 | .func f=>some (.lit (.func f [] []))
def isEmptyLit:Operand→Bool
 | .const (.slice none 0 0)=>true
 |_=>false
def opdO:Option Operand→Option (Option AOpd)
 |none=>some none
 |some a=>(opd a).map some
section
variable (P:Program)
def sizeT (t:TypeId):Option Nat:=(P.info? t).map (·.size)
def bytesT (t:TypeId):Option Nat:=(P.info? t).map (·.bytes)
def aggT (t:TypeId):Option Bool:=match P.underlying t with
 |some (.struct _) |some (.array _ _)=>some true
 |some _=>some false
 |none=>none
def zeroT (t:TypeId):Option D:=match P.info? t with
 |some i=>match i.zero with
  |some v=>valD v
  |none=>none
 |none=>none
def scalarK (t:TypeId):Option Nat:=match P.underlying t with
 |some .bool=>some 0
 |some (.int _)=>some 1
 |some .string=>some 2
 |_=>none
def fieldKs:Nat→List Field→Option (List Nat)
 |_,[]=>some []
 |i,f::fs=>if f.name != "_" &&f.offset==i then do pure ((←scalarK P f.type)::(←fieldKs (i+1) fs)) else none
def eqA:Nat→TypeId→Option EqC
 |0,_=>none
 |d+1,t=>match scalarK P t with
  |some k=>some (.sc k)
  |none=>match P.underlying t with
   |some (.array n e)=>do pure (.arr n (←sizeT P e) (←eqA d e))
   |_=>none
def eqC (t:TypeId):EqC:=match P.underlying t with
 |some (.array _ _)=>match eqA P 4 t with
  |some (.arr n m c)=>if P.eqGuardType P.depth t then .none else .arr n m c
  |_=> .none
 |some .bool=> .bool
 |some (.struct fs)=>match fieldKs P 0 fs.toList with
  |some ks=>if P.stoodInHeld t||P.eqGuardType P.depth t then .none else .agg ks
  |none=> .none
 |some (.pointer _)=> .ptr
 |some (.interface _)=> .iface
 |some (.func ..)=> .func
 |some (.map ..)=> .map
 |_=> .none
def zeroW (P:Program) (wk:Bool) (t:TypeId):Option D:=(zeroT P t).map fun z=>if wk then z.weak else z
def cOp (acc:Nat→Bool) (o:Oper):Option AOp:=do
 match o.op with
 | .move x| .assign x=>
  if (o.dst.map acc).getD false&&isEmptyLit x then
   match P.underlying o.type with
   |some (.slice e)=>do pure (.newrow (←sizeT P e))
   |_=>none
  else do pure (.mv (←opd x))
 | .pick c a b=>do pure (.pick (←opd c) (←opd a) (←opd b))
 | .alloc elem=>
  if (o.dst.map acc).getD false then
   match P.underlying elem,zeroT P elem with
   |some (.slice e),some .empty=>do pure (.allocRow (←sizeT P e))
   |_,_=>none
  else do
   let z ←zeroT P elem
   if z.cells.all D.one then pure (.alloc z.cells) else none
 | .box _ x=>do pure (.box (←opd x))
 | .build t parts=>
  match P.underlying t with
  |some (.struct fs)=>do
   let places ←fs.toList.mapM fun f=>(P.info? f.type).map fun i=>(f.offset,i.size)
   let ps ←parts.toList.mapM fun (x:Nat × Operand)=>(places[x.1]?).bind fun q=>(opd x.2).map fun y=>(q.1,q.2,y)
   let z ←zeroW P ((o.dst.map acc).getD false) t
   if z.cells.all D.one then pure (.build z.cells ps) else none
  |some (.array _ e)=>do
   let sz ←sizeT P e
   let ps ←parts.toList.mapM fun (x:Nat × Operand)=>(opd x.2).map fun y=>(x.1*sz,sz,y)
   let z ←zeroW P ((o.dst.map acc).getD false) t
   if z.cells.all D.one then pure (.build z.cells ps) else none
  |_=>none
 | .buildSlice t len parts=>
  match P.underlying t with
  |some (.slice e)=>do
   let sz ←sizeT P e
   if len*sz>2 ^ 24 then none else
   let ps ←parts.toList.mapM fun (x:Nat × Operand)=>(opd x.2).map fun y=>(x.1,y)
   let z ←zeroT P e
   if z.cells.length=sz then
    if (o.dst.map acc).getD false then pure (.buildRow sz len z.cells ps) else pure (.buildSlice sz len z.cells ps)
   else none
  |_=>none
 | .load t x=>do pure (.load (←aggT P t) (←sizeT P t) (←opd x))
 | .store t a x=>do pure (.store (←sizeT P t) (←opd a) (←opd x))
 | .nilCheck x=>do pure (.nilCheck (←opd x))
 | .binOp op t x y _=>do pure (.arith op (eqC P t) (←opd x) (←opd y))
 | .unOp .neg _ x=>do pure (.neg (←opd x))
 | .unOp .not _ x=>do pure (.not (←opd x))
 | .convert s d x=>
  match P.underlying s,P.underlying d with
  |some (.int _),some (.int k)=>do pure (.toInt k (←opd x))
  |some (.int _),some .string=>do pure (.toStr (←opd x))
  |some .string,some .string=>do pure (.toStr (←opd x))
  |_,_=>none
 | .makeInterface t x=>
  match P.underlying t with
  |some (.interface _) |none=>none
  |_=>do pure (.mkIface t (←opd x))
 | .makeFunc (.func f) first captured=>do pure (.mkFunc f (←first.toList.mapM opd) (←captured.toList.mapM opd))
 | .makeMap _ none=>pure .mkMap
 | .makeSlice t l c=>
  match P.underlying t with
  |some (.slice e)=>do pure (.mkSlice (←sizeT P e) (←bytesT P e) (←zeroT P e) (←opd l) (←opd c))
  |_=>none
 | .slice t x lo hi mx=>
  match P.underlying t with
  |some .string=>if mx.isSome then none else do
   let x ←opd x
   let lo ←opdO lo
   let hi ←opdO hi
   pure (.sliceStr x lo hi)
  |some (.slice e)=>do
   let x ←opd x
   let lo ←opdO lo
   let hi ←opdO hi
   let mx ←opdO mx
   pure (.sliceRow (←sizeT P e) x lo hi mx)
  |_=>none
 | .fieldAddr s x f=>
  match P.underlying s with
  |some (.struct fs)=>do
   let f ←fs[f]?
   if (←sizeT P f.type)=0 then none else pure (.addOff f.offset (←opd x))
  |_=>none
 | .field t x f=>
  match P.underlying t with
  |some (.struct fs)=>do
   let f ←fs[f]?
   pure (.fieldOf (←aggT P f.type) f.offset (←sizeT P f.type) (←opd x))
  |_=>none
 | .indexAddr t x i=>
  match P.underlying t with
  |some (.slice e)=>do pure (.indexAddrS (←sizeT P e) (←opd x) (←opd i))
  |some (.array n e)=>do pure (.indexAddrA n (←sizeT P e) (←opd x) (←opd i))
  |_=>none
 | .index t x i=>
  match P.underlying t with
  |some (.array n e)=>do pure (.indexA (←aggT P e) n (←sizeT P e) (←opd x) (←opd i))
  |some .string=>do pure (.indexStr (←opd x) (←opd i))
  |_=>none
 | .lookup t x k ok=>
  match P.underlying t with
  |some (.map kt e)=>do pure (.lookup (←scalarK P kt) (←zeroT P e) ok (←opd x) (←opd k))
  |_=>none
 | .mapUpdate t m k v| .insert t m k v=>
  match P.underlying t with
  |some (.map kt _)=>do pure (.mapUpdate (←scalarK P kt) (←opd m) (←opd k) (←opd v))
  |_=>none
 | .range t x=>
  match P.underlying t with
  |some .string=>do pure (.rangeStr (←opd x))
  |_=>none
 | .next it true=>do pure (.nextStr (←opd it))
 | .typeAssert x _ t ok=>
  match P.underlying t with
  |some (.interface _) |none=>none
  |_=>do pure (.typeAssert t (←zeroT P t) ok (←opd x))
 | .extract x i=>do pure (.extract (←opd x) i)
 | .call c=>
  match c.callee with
  | .builtin .len=>match c.args.toList,c.argTypes.toList with
   | [x],[t]=>match P.underlying t with
    |some .string=>do pure (.len true (←opd x))
    |some (.slice _)=>do pure (.len false (←opd x))
    |_=>none
   |_,_=>none
  | .builtin .append=>match c.args.toList,c.argTypes.toList with
   | [s,x],[t,u]=>match P.underlying t,P.underlying u with
    |some (.slice e),some (.slice _)=>do
     let sz ←sizeT P e
     let z ←zeroT P e
     if z.cells.length=sz&&z.cells.all D.one then pure (.append sz (←bytesT P e) (←opd s) (←opd x)) else none
    |_,_=>none
   |_,_=>none
  | .builtin .copy=>match c.args.toList,c.argTypes.toList with
   | [d,x],[t,u]=>match P.underlying t,P.underlying u with
    |some (.slice e),some (.slice _)=>do pure (.copyAll (←sizeT P e) (←opd d) (←opd x))
    |_,_=>none
   |_,_=>none
  | .builtin .max=>do pure (.max2 (←c.args.toList.mapM opd))
  | .builtin .min=>do pure (.min2 (←c.args.toList.mapM opd))
  | .builtin .panic=>match c.args.toList with
   | [x]=>do pure (.panic (←opd x))
   |_=>none
  | .builtin _=>none
  | .invoke _ _=>none
  | .value (.func f)=>do pure (.call (.fn f) (←c.args.toList.mapM opd))
  | .value x=>do pure (.call (.val (←opd x)) (←c.args.toList.mapM opd))
 | .panic x=>do pure (.panic (←opd x))
 |_=>none
def cOper (acc:Nat→Bool) (draw:Bool) (ops:Array Oper) (o:Oper):Option AOper:=do
 let op ←cOp P acc o
 match o.guard with
 |none=>pure {dst:=o.dst,op,guard:=none,reads:=if draw then o.looksAt ops else []}
 |some (j,want)=>do
  let t ←(ops[j]?).bind (·.dst)
  pure {dst:=o.dst,op,guard:=some (t,want),reads:=if draw then o.looksAt ops else []}
def ancs (ops:List Oper):List Nat:=
 ops.foldl (init:=[]) fun acc o=>
  acc++[o.after.toList.foldl (fun m e=>if Region.binds .any e then m|||2 ^ e.on|||acc.getD e.on 0 else m) 0]
def drawnOk (ops:Array Oper):Bool:=
 let l:=ops.toList
 let a:=ancs l
 Region.noSelect ops&&
 (l.zipIdx.all fun (o,i)=>o.after.all fun e=> !Region.binds .any e||e.on<i)&&
 (l.zipIdx.all fun (o,i)=>l.zipIdx.all fun (p,j)=>i==j||match o.dst with
   |none=>true
   |some d=>p.dst != some d&&(!(p.looksAt ops).contains d|| (a.getD j 0).testBit i|| (a.getD i 0).testBit j))
def AOp.sub (f:AOpd→AOpd):AOp→AOp
 | .mv v0=> .mv (f v0)
 | .newrow v0=> .newrow v0
 | .pick v0 v1 v2=> .pick (f v0) (f v1) (f v2)
 | .alloc v0=> .alloc v0
 | .allocRow v0=> .allocRow v0
 | .box v0=> .box (f v0)
 | .build v0 v1=> .build v0 (v1.map fun p=>(p.1,p.2.1,f p.2.2))
 | .buildSlice v0 v1 v2 v3=> .buildSlice v0 v1 v2 (v3.map fun p=>(p.1,f p.2))
 | .buildRow v0 v1 v2 v3=> .buildRow v0 v1 v2 (v3.map fun p=>(p.1,f p.2))
 | .load v0 v1 v2=> .load v0 v1 (f v2)
 | .store v0 v1 v2=> .store v0 (f v1) (f v2)
 | .nilCheck v0=> .nilCheck (f v0)
 | .arith v0 v1 v2 v3=> .arith v0 v1 (f v2) (f v3)
 | .neg v0=> .neg (f v0)
 | .not v0=> .not (f v0)
 | .toInt v0 v1=> .toInt v0 (f v1)
 | .toStr v0=> .toStr (f v0)
 | .same v0=> .same (f v0)
 | .mkIface v0 v1=> .mkIface v0 (f v1)
 | .mkFunc v0 v1 v2=> .mkFunc v0 (v1.map f) (v2.map f)
 | .mkMap=> .mkMap
 | .mkSlice v0 v1 v2 v3 v4=> .mkSlice v0 v1 v2 (f v3) (f v4)
 | .sliceStr v0 v1 v2=> .sliceStr (f v0) (v1.map f) (v2.map f)
 | .sliceRow v0 v1 v2 v3 v4=> .sliceRow v0 (f v1) (v2.map f) (v3.map f) (v4.map f)
 | .addOff v0 v1=> .addOff v0 (f v1)
 | .fieldOf v0 v1 v2 v3=> .fieldOf v0 v1 v2 (f v3)
 | .indexAddrS v0 v1 v2=> .indexAddrS v0 (f v1) (f v2)
 | .indexAddrA v0 v1 v2 v3=> .indexAddrA v0 v1 (f v2) (f v3)
 | .indexA v0 v1 v2 v3 v4=> .indexA v0 v1 v2 (f v3) (f v4)
 | .indexStr v0 v1=> .indexStr (f v0) (f v1)
 | .lookup v0 v1 v2 v3 v4=> .lookup v0 v1 v2 (f v3) (f v4)
 | .mapUpdate v0 v1 v2 v3=> .mapUpdate v0 (f v1) (f v2) (f v3)
 | .rangeStr v0=> .rangeStr (f v0)
 | .nextStr v0=> .nextStr (f v0)
 | .typeAssert v0 v1 v2 v3=> .typeAssert v0 v1 v2 (f v3)
 | .extract v0 v1=> .extract (f v0) v1
 | .len v0 v1=> .len v0 (f v1)
 | .append v0 v1 v2 v3=> .append v0 v1 (f v2) (f v3)
 | .copyAll v0 v1 v2=> .copyAll v0 (f v1) (f v2)
 | .max2 v0=> .max2 (v0.map f)
 | .min2 v0=> .min2 (v0.map f)
 | .call v0 v1=> .call (match v0 with| .fn g=> .fn g| .val y=> .val (f y)) (v1.map f)
 | .panic v0=> .panic (f v0)
def AOpd.sub (s:List (Nat × AOpd)):AOpd→AOpd
 | .tmp t=>match s.lookup t with
  |some x=>x
  |none=> .tmp t
 |x=>x
def killS (d:Option Nat) (s:List (Nat × AOpd)):List (Nat × AOpd):=
 match d with
 |none=>s
 |some d=>s.filter (fun p=>p.1 != d)
def freeS (d:Nat) (x:AOpd) (r:List AOper):Bool:=
 r.all fun o=>(match o.guard with|some (t,_)=>t != d|none=>true)&&(match x with| .tmp u=>o.dst != some u|_=>true)
def okS (keep:List Nat) (d:Nat) (x:AOpd) (r:List AOper):Bool:= !keep.contains d&&freeS d x r&&(match x with| .tmp u=>u != d|_=>true)
def optGo (keep:List Nat):List (Nat × AOpd)→List AOper→List AOper
 |_,[]=>[]
 |s,o::r=>
  match o.op,o.dst,o.guard with
  | .mv x,some d,none=>
   if okS keep d (x.sub s) r then optGo keep ((d,x.sub s)::killS (some d) s) r
   else {o with op:= .mv (x.sub s)} ::optGo keep (killS (some d) s) r
  |op,dst,_=> {o with op:=op.sub (AOpd.sub s)} ::optGo keep (killS dst s) r
def swapGo (keep:List Nat):List AOper→List AOper
 |o::o2::r=>
  match o.dst,o2.op,o2.dst,o2.guard with
  |some a, .mv (.tmp t),some b,none=>
   if t=a∧a≠b∧okS keep a (.tmp b) r=true then {o with dst:=some b} ::⟨some a, .mv (.tmp b),none,[]⟩::swapGo keep r
   else o::swapGo keep (o2::r)
  |_,_,_,_=>o::swapGo keep (o2::r)
 |l=>l
def optR (keep:Option (List Nat)) (os:List AOper):List AOper:=
 match keep with
 |none=>os
 |some l=>
  let r:=optGo l [] (swapGo l os)
  if r.length=os.length then os
  else
   let m:=os.foldl (fun m o=>max m (o.dst.getD 0)) 0
   match r with
   | []=>[⟨some m, .mv (.tmp m),none,[]⟩]
   |o::t=> {o with reads:=[m]} ::t
def aFind:ACode→Nat→Option ACode
 | .seq a b,l=>match aFind a l with
  |some r=>some (.seq r b)
  |none=>aFind b l
 | .label l',l=>if l'==l then some .skip else none
 |_,_=>none
def aGoto:ACode→Option Nat
 | .goto l=>some l
 | .seq a b| .cond _ a b=>match aGoto a with
  |some l=>some l
  |none=>aGoto b
 | .block _ b| .loop b=>aGoto b
 |_=>none
def jumpOf (c:ACode):Option (Nat × ACode):=(aGoto c).bind fun l=>(aFind c l).map fun r=>(l,r)
def cCode (acc:Nat→Bool) (keep:Nat→Option (List Nat)):Code→Option ACode
 | .skip=>some .skip
 | .region id ops draw=>do
  let os ←ops.toList.mapM (cOper P acc draw ops)
  if draw then (if drawnOk ops then pure (.drawn os (ancs ops.toList) (keep id)) else none)
  else pure (.region (optR (keep id) os) (keep id))
 | .seq a b=>do pure (.seq (←cCode acc keep a) (←cCode acc keep b))
 | .cond c a b=>do pure (.cond (←opd c) (←cCode acc keep a) (←cCode acc keep b))
 | .block id b=>do pure (.block id (←cCode acc keep b))
 | .loop b=>do pure (.loop (←cCode acc keep b))
 | .exit id=>some (.exit id)
 | .label l=>some (.label l)
 | .goto l=>some (.goto l)
 | .scope b=>do
  let ab ←cCode acc keep b
  pure (.scope ab (jumpOf ab))
 | .ret=>some .ret
 | .rangeFunc f ps a b=>do pure (.rangeFunc (←opd f) ps.toList (←cCode acc keep a) (←cCode acc keep b))
 |_=>none
def cRes:ResultVar→Option ARes
 | .tmp t=>some (.tmp t)
 | .cell a t=>do pure (.cell a (←aggT P t) (←sizeT P t))
def cFunc (acc:Nat→Bool) (keep:Nat→Option (List Nat)) (fn:Func):Option AFunc:=do
 let c ←fn.body
 if fn.name= "runtime.NumGoroutine" then none else
 pure {ntmps:=fn.ntmps,nparams:=fn.params.size+fn.nfree,results:= ←fn.results.toList.mapM (cRes P),body:= ←cCode P acc keep c}
end
structure Pl where
 blk:Nat
 sz:Nat
 cap:Nat
structure Ren where
 loc:Nat→Nat→Option Pl
 fix:Nat→Prop
 code:ACode→Code→FuncId→Prop
 dom:Nat→Prop:=fun _=>False
inductive R (ρ:Ren) (W:World):D→Value→Prop
 |bool (b:Bool):R ρ W (.bool b) (.bool b)
 |int (k:IntKind) (n:Int):R ρ W (.int k n) (.int k n)
 |str (s:ByteArray):R ρ W (.str s.data.toList) (.string s)
 |ptr {i off:Nat} {p:Pl} (h:ρ.loc i 0=some p):R ρ W (.ptr i off) (.pointer (some ⟨p.blk,off,none⟩))
 |rptr {i ver idx r:Nat} {p:Pl} (h:ρ.loc i ver=some p):R ρ W (.rptr i ver idx r) (.pointer (some ⟨p.blk,idx*p.sz+r,none⟩))
 |tptr {cs:List D} {b off:Nat} {f:Nat→Value} (hf:ρ.fix b)
  (hc: ∀j,j<cs.length→W.cell? ⟨b,off+j,none⟩=some (f j))
  (hr: ∀j d,cs[j]? =some d→R ρ W d (f j)):R ρ W (.tptr cs) (.pointer (some ⟨b,off,none⟩))
 |nilptr:R ρ W .nilptr (.pointer none)
 |empty (a:Option Addr):R ρ W .empty (.slice a 0 0)
 |slice0 (a:Option Addr) (c:Nat):R ρ W (.slice []) (.slice a 0 c)
 |slice {es:List D} {b off n c sz:Nat} {f:Nat→Nat→Value} (hf:ρ.fix b) (hn:n=es.length) (hcap:n≤c)
  (hsz: ∀ (i:Nat) (e:D),es[i]? =some e→e.cells.length=sz)
  (hc: ∀ (i j:Nat) (e d:D),es[i]? =some e→e.cells[j]? =some d→W.cell? ⟨b,off+ (i*sz+j),none⟩=some (f i j))
  (hr: ∀ (i j:Nat) (e d:D),es[i]? =some e→e.cells[j]? =some d→R ρ W d (f i j)):R ρ W (.slice es) (.slice (some ⟨b,off,none⟩) n c)
 |arr {i ver off n c:Nat} {p:Pl} (h:ρ.loc i ver=some p) (hn:n≤c) (hc:off+c≤p.cap):
  R ρ W (.arr i ver off n) (.slice (some ⟨p.blk,off*p.sz,none⟩) n c)
 |arr0 {i:Nat} (h:ρ.dom i):R ρ W (.arr i 0 0 0) (.slice none 0 0)
 |map {i:Nat} {p:Pl} (h:ρ.loc i 0=some p):R ρ W (.map i) (.map (some p.blk))
 |nilmap:R ρ W .nilmap (.map none)
 |func {g:FuncId} {fs cs:List D} {fa ca:Array Value} (h1:fa.size=fs.length) (h2:ca.size=cs.length)
  (hf: ∀j d,fs[j]? =some d→R ρ W d (fa.getD j undef)) (hc: ∀j d,cs[j]? =some d→R ρ W d (ca.getD j undef)):
  R ρ W (.func g fs cs) (.func (.func g) fa ca)
 |nilfunc:R ρ W .nilfunc .nilFunc
 |yield {i:Nat} {p:Pl} (h:ρ.loc i 0=some p):R ρ W (.yield i) (.func (.yield p.blk) #[] #[])
 |iface {t:TypeId} {d:D} {v:Value} (h:R ρ W d v):R ρ W (.iface t d) (.iface t v)
 |niliface:R ρ W .niliface .nilIface
 |agg {cs:List D} {vs:Array Value} (h:vs.size=cs.length) (hr: ∀j d,cs[j]? =some d→R ρ W d (vs.getD j undef)):R ρ W (.agg cs) (.agg vs)
 |tuple {cs:List D} {vs:Array Value} (h:vs.size=cs.length) (hr: ∀j d,cs[j]? =some d→R ρ W d (vs.getD j undef)):R ρ W (.tuple cs) (.tuple vs)
 |undef:R ρ W .undef (.tuple #[])
 |any (v:Value):R ρ W .any v
structure Later (ρ:Ren) (W:World) (ρ':Ren) (W':World):Prop where
 loc: ∀i v p,ρ.loc i v=some p→ρ'.loc i v=some p
 fix: ∀b,ρ.fix b→ρ'.fix b
 heap: ∀b,ρ.fix b→W'.heap[b]? =W.heap[b]?
 size:W.heap.size≤W'.heap.size
 os:W'.os=W.os
 tape:W'.tape=W.tape
 output:W'.output=W.output
 own: ∀b,b<W.heap.size→(∀i v p,ρ.loc i v=some p→p.blk≠b)→W'.heap[b]? =W.heap[b]?
 new: ∀i v p,ρ'.loc i v=some p→(∃j u q,ρ.loc j u=some q∧q.blk=p.blk)∨W.heap.size≤p.blk
 fixnew: ∀b,ρ'.fix b→ρ.fix b∨(∃j u q,ρ.loc j u=some q∧q.blk=b)∨W.heap.size≤b
 code:ρ'.code=ρ.code
 dom: ∀i,ρ.dom i→ρ'.dom i
theorem Later.refl (ρ:Ren) (W:World):Later ρ W ρ W:=
 ⟨fun _ _ _ h=>h,fun _ h=>h,fun _ _=>rfl,Nat.le_refl _,rfl,rfl,rfl,fun _ _ _=>rfl,fun i v p h=> .inl ⟨i,v,p,h,rfl⟩,fun _ h=> .inl h,rfl,fun _ h=>h⟩
theorem Later.trans {ρ ρ' ρ'':Ren} {W W' W'':World} (h:Later ρ W ρ' W') (k:Later ρ' W' ρ'' W''):Later ρ W ρ'' W'':=
 ⟨fun i v p x=>k.loc i v p (h.loc i v p x),fun b x=>k.fix b (h.fix b x),fun b x=>(k.heap b (h.fix b x)).trans (h.heap b x),
  Nat.le_trans h.size k.size,k.os.trans h.os,k.tape.trans h.tape,k.output.trans h.output,
  fun b hb hn=>(k.own b (Nat.lt_of_lt_of_le hb h.size) fun i v p hp he=>by
   rcases h.new i v p hp with ⟨j,u,q,hq,he'⟩ |hge
   ·exact hn j u q hq (he'.trans he)
   ·omega).trans (h.own b hb hn),
  fun i v p hp=>by
   rcases k.new i v p hp with ⟨j,u,q,hq,he⟩ |hge
   ·rcases h.new j u q hq with ⟨j',u',q',hq',he'⟩ |hge
    ·exact .inl ⟨j',u',q',hq',he'.trans he⟩
    ·exact .inr (by omega)
   ·exact .inr (Nat.le_trans h.size hge),
  fun b hb=>by
   rcases k.fixnew b hb with hf| ⟨j,u,q,hq,he⟩ |hge
   ·exact h.fixnew b hf
   ·rcases h.new j u q hq with ⟨j',u',q',hq',he'⟩ |hge
    ·exact .inr (.inl ⟨j',u',q',hq',he'.trans he⟩)
    ·exact .inr (.inr (by omega))
   ·exact .inr (.inr (Nat.le_trans h.size hge)),
  k.code.trans h.code,fun i x=>k.dom i (h.dom i x)⟩
theorem cell?_of_heap {W W':World} {b:Nat} (h:W'.heap[b]? =W.heap[b]?) (o:Nat):W'.cell? ⟨b,o,none⟩=W.cell? ⟨b,o,none⟩:=by
 simp [World.cell?,h]
structure Soft (ρ:Ren) (W:World) (ρ':Ren) (W':World):Prop where
 loc: ∀i v p,ρ.loc i v=some p→ρ'.loc i v=some p
 fix: ∀b,ρ.fix b→ρ'.fix b
 heap: ∀b,ρ.fix b→W'.heap[b]? =W.heap[b]?
 code:ρ'.code=ρ.code
 dom: ∀i,ρ.dom i→ρ'.dom i
theorem Later.soft {ρ ρ':Ren} {W W':World} (h:Later ρ W ρ' W'):Soft ρ W ρ' W':=⟨h.loc,h.fix,h.heap,h.code,h.dom⟩
theorem R.soft {ρ ρ':Ren} {W W':World} (h:Soft ρ W ρ' W') {d:D} {v:Value} (r:R ρ W d v):R ρ' W' d v:=by
 induction r with
 |bool b=>exact .bool b
 |int k n=>exact .int k n
 |str s=>exact .str s
 |ptr hp=>exact .ptr (h.loc _ _ _ hp)
 |rptr hp=>exact .rptr (h.loc _ _ _ hp)
 |tptr hf hc hr ih=>exact .tptr (h.fix _ hf) (fun j hj=>(cell?_of_heap (h.heap _ hf) _).trans (hc j hj)) ih
 |nilptr=>exact .nilptr
 |empty a=>exact .empty a
 |slice0 a c=>exact .slice0 a c
 |slice hf hn hcap hsz hc hr ih=>exact .slice (h.fix _ hf) hn hcap hsz (fun i j e d he hd=>(cell?_of_heap (h.heap _ hf) _).trans (hc i j e d he hd)) ih
 |arr hp hn hc=>exact .arr (h.loc _ _ _ hp) hn hc
 |arr0 hi=>exact .arr0 (h.dom _ hi)
 |map hp=>exact .map (h.loc _ _ _ hp)
 |nilmap=>exact .nilmap
 |func h1 h2 hf hc ihf ihc=>exact .func h1 h2 ihf ihc
 |nilfunc=>exact .nilfunc
 |yield hp=>exact .yield (h.loc _ _ _ hp)
 |iface _ ih=>exact .iface ih
 |niliface=>exact .niliface
 |agg hs hr ih=>exact .agg hs ih
 |tuple hs hr ih=>exact .tuple hs ih
 |undef=>exact .undef
 |any v=>exact .any v
theorem R.later {ρ ρ':Ren} {W W':World} (h:Later ρ W ρ' W') {d:D} {v:Value} (r:R ρ W d v):R ρ' W' d v:=r.soft h.soft
def RowR (ρ:Ren) (W:World) (i sz:Nat) (es:List D) (since:Nat):Prop:=
 since≤es.length∧(∀ (k:Nat) (e:D),es[k]? =some e→e.cells.length=sz∧e.cells.all D.one=true)∧(∀ver,es.length<ver→ρ.loc i ver=none)∧
 ∀ver,since≤ver→ver≤es.length→
  (ver=0∧ρ.loc i 0=none)∨
  ∃ (p:Pl) (c:Array Value) (ty:TypeId),ρ.loc i ver=some p∧p.sz=sz∧ver≤p.cap∧W.heap[p.blk]? =some (.cells c ty)∧c.size=p.cap*sz∧
   ∀ (idx:Nat) (e:D) (j:Nat) (d:D),idx<ver→es[idx]? =some e→e.cells[j]? =some d→R ρ W d (c.getD (idx*sz+j) undef)
def AJump.code:AJump→Code
 | .ret=> .ret
 | .exit id=> .exit id
 | .goto l=> .goto l
def ObjR (ρ:Ren) (W:World) (i:Nat):Obj→Prop
 | .loop n env ps as bd st pend=> ∃ (p:Pl) (rec:Loop),ρ.loc i 0=some p∧W.heap[p.blk]? =some (.loop rec)∧rec.state=st∧rec.pending=pend.map AJump.code∧rec.params.toList=ps∧
  ρ.code as rec.assign rec.fn∧ρ.code bd rec.body rec.fn∧rec.tmps.size=n∧ ∀t,R ρ W (getE env t) (rec.tmps.getD t undef)
 | .box cs=> ∃ (p:Pl) (c:Array Value) (ty:TypeId),ρ.loc i 0=some p∧W.heap[p.blk]? =some (.cells c ty)∧c.size=cs.length∧
  ∀j d,cs[j]? =some d→R ρ W d (c.getD j undef)
 | .row sz es since=>RowR ρ W i sz es since
 | .fro sz es since=>RowR ρ W i sz es since∧ ∀ver p,ρ.loc i ver=some p→ρ.fix p.blk
 | .siter l pos=> ∃ (p:Pl) (s:ByteArray),ρ.loc i 0=some p∧W.heap[p.blk]? =some (.stringIter s pos)∧s.data.toList=l
 | .map kvs=> ∃ (p:Pl) (ents:Array MapEntry) (clock:Nat),ρ.loc i 0=some p∧W.heap[p.blk]? =some (.map ents clock)∧ents.size=kvs.length∧
  ∀ (j:Nat) (k v:D),kvs[j]? =some (k,v)→ ∃e:MapEntry,ents[j]? =some e∧R ρ W k e.key∧R ρ W v e.val
def Obj.live:Obj→Bool
 | .fro .. =>false
 |_=>true
structure Rel (ρ:Ren) (W:World) (σ:St):Prop where
 obj: ∀i o,σ[i]? =some o→ObjR ρ W i o
 blk: ∀i v p,ρ.loc i v=some p→p.blk<W.heap.size∧i<σ.length
 inj: ∀i v p j w q,ρ.loc i v=some p→ρ.loc j w=some q→p.blk=q.blk→i=j
 apart: ∀i o v p,σ[i]? =some o→o.live=true→ρ.loc i v=some p→ ¬ρ.fix p.blk
 fixlt: ∀b,ρ.fix b→b<W.heap.size
 dom: ∀i,ρ.dom i→i<σ.length
theorem ObjR.soft {ρ ρ':Ren} {W W':World} (h:Soft ρ W ρ' W') {i:Nat} {o:Obj} (hb: ∀v p,ρ.loc i v=some p→W'.heap[p.blk]? =W.heap[p.blk]?)
 (hl: ∀v,ρ'.loc i v=ρ.loc i v) (r:ObjR ρ W i o):ObjR ρ' W' i o:=by
 have row: ∀sz es since,RowR ρ W i sz es since→RowR ρ' W' i sz es since:=by
  rintro sz es since ⟨h1,h2,h4,h3⟩
  refine ⟨h1,h2,fun ver hv=>by rw [hl];exact h4 ver hv,fun ver hv hv'=> ?_⟩
  rcases h3 ver hv hv' with ⟨rfl,hn⟩ | ⟨p,c,ty,hp,hs,hc,hh,hz,hr⟩
  ·exact .inl ⟨rfl,by rw [hl];exact hn⟩
  ·exact .inr ⟨p,c,ty,by rw [hl];exact hp,hs,hc,(hb _ _ hp).trans hh,hz,fun idx e j d hi he hd=>(hr idx e j d hi he hd).soft h⟩
 cases o with
 |box cs=>
  obtain ⟨p,c,ty,hp,hh,hz,hr⟩:=r
  exact ⟨p,c,ty,by rw [hl];exact hp,(hb _ _ hp).trans hh,hz,fun j d hd=>(hr j d hd).soft h⟩
 |row sz es since=>exact row _ _ _ r
 |fro sz es since=>exact ⟨row _ _ _ r.1,fun ver p hp=>h.fix _ (r.2 ver p (by rw [←hl];exact hp))⟩
 |loop n env ps as bd st pend=>
  obtain ⟨p,rec,hp,hh,h1,h2,h3,h4,h5,h6,h7⟩:=r
  exact ⟨p,rec,by rw [hl];exact hp,(hb _ _ hp).trans hh,h1,h2,h3,by rw [h.code];exact h4,by rw [h.code];exact h5,h6,fun t=>(h7 t).soft h⟩
 |siter l pos=>
  obtain ⟨p,s,hp,hh,hs⟩:=r
  exact ⟨p,s,by rw [hl];exact hp,(hb _ _ hp).trans hh,hs⟩
 |map kvs=>
  obtain ⟨p,ents,clock,hp,hh,hz,hr⟩:=r
  refine ⟨p,ents,clock,by rw [hl];exact hp,(hb _ _ hp).trans hh,hz,fun j k v hj=> ?_⟩
  obtain ⟨e,he,hk,hv⟩:=hr j k v hj
  exact ⟨e,he,hk.soft h,hv.soft h⟩
theorem ObjR.later {ρ ρ':Ren} {W W':World} (h:Later ρ W ρ' W') {i:Nat} {o:Obj} (hb: ∀v p,ρ.loc i v=some p→W'.heap[p.blk]? =W.heap[p.blk]?)
 (hl: ∀v,ρ'.loc i v=ρ.loc i v) (r:ObjR ρ W i o):ObjR ρ' W' i o:=r.soft h.soft hb hl
def Rs (ρ:Ren) (W:World) (ds:List D) (vs:Array Value):Prop:=vs.size=ds.length∧ ∀j d,ds[j]? =some d→R ρ W d (vs.getD j undef)
theorem Rs.later {ρ ρ':Ren} {W W':World} (h:Later ρ W ρ' W') {ds:List D} {vs:Array Value} (r:Rs ρ W ds vs):Rs ρ' W' ds vs:=
 ⟨r.1,fun j d hd=>(r.2 j d hd).later h⟩
def RE (ρ:Ren) (W:World) (e:Env) (tmps:Array Value):Prop:= ∀t,R ρ W (getE e t) (tmps.getD t undef)
theorem RE.later {ρ ρ':Ren} {W W':World} (h:Later ρ W ρ' W') {e:Env} {tmps:Array Value} (r:RE ρ W e tmps):RE ρ' W' e tmps:=fun t=>(r t).later h
theorem getE_setE (e:Env) (s:Nat) (v:D) (t:Nat):getE (setE e s v) t=if s=t then v else getE e t:=by
 induction e with
 |nil=>simp only [setE,getE]
 |cons x r ih=>
  obtain ⟨u,d⟩:=x
  simp only [setE]
  by_cases h:u=s
  ·subst h
   simp only [if_true,getE]
   split<;>rfl
  ·simp only [if_neg h,getE,ih]
   by_cases h':u=t
   ·subst h'
    rw [if_pos rfl,if_neg (fun x=>h x.symm),if_pos rfl]
   ·simp [h']
theorem getE_keepE {ρ:Ren} {W:World} {k:Option (List Nat)} {e:Env} {tmps:Array Value} (r:RE ρ W e tmps):RE ρ W (keepE k e) tmps:=by
 cases k with
 |none=>exact r
 |some l=>
  intro t
  have:getE (keepE (some l) e) t=getE e t∨getE (keepE (some l) e) t= .any:=by
   simp only [keepE]
   induction l with
   |nil=>exact .inr rfl
   |cons x l ih=>
    simp only [List.map_cons,getE]
    by_cases h:x=t
    ·subst h;simp
    ·simp only [if_neg h];exact ih
  rcases this with h|h
  ·rw [h];exact r t
  ·rw [h];exact .any _
theorem RE.put {ρ:Ren} {W:World} {n:Nat} {e e':Env} {a:Act} {dst:Option Nat} {d:D} {v:Value} (r:RE ρ W e a.tmps) (hn:a.tmps.size=n)
 (hp:putE n e dst d=some e') (hd:R ρ W d v):RE ρ W e' (a.put dst v).tmps∧(a.put dst v).tmps.size=n:=by
 cases dst with
 |none=>simp only [putE,Option.some.injEq] at hp;subst hp;exact ⟨r,hn⟩
 |some t=>
  simp only [putE] at hp
  split at hp
  ·rename_i hlt
   simp only [Option.some.injEq] at hp
   subst hp
   refine ⟨fun s=> ?_,by simp [Act.put,hn]⟩
   rw [getE_setE]
   by_cases h:t=s
   ·subst h
    rw [if_pos rfl]
    simp only [Act.put]
    have: (a.tmps.setIfInBounds t v).getD t undef=v:=by
     simp [Array.getD_eq_getD_getElem?,hn,hlt]
    rw [this];exact hd
   ·rw [if_neg h]
    have: (a.put (some t) v).tmps.getD s undef=a.tmps.getD s undef:=by
     simp [Act.put,Array.getD_eq_getD_getElem?,h]
    rw [this];exact r s
  ·cases hp
theorem heap_alloc_old (W:World) (ob:Go.Obj) {b:Nat} (hb:b<W.heap.size): (W.alloc ob).heap[b]? =W.heap[b]? :=by
 show (W.heap.push ob)[b]? =W.heap[b]?
 rw [Array.getElem?_push_lt hb,Array.getElem?_eq_getElem hb]
theorem heap_alloc_at (W:World) (ob:Go.Obj): (W.alloc ob).heap[W.heap.size]? =some ob:=by
 show (W.heap.push ob)[W.heap.size]? =some ob
 simp
theorem Rel.change {ρ ρ':Ren} {W W':World} {σ:St} (hR:Rel ρ W σ) {i:Nat} {o o':Obj} (ho:σ[i]? =some o) (hlive:o.live=true)
 (hsize:W.heap.size≤W'.heap.size) (hos:W'.os=W.os) (htape:W'.tape=W.tape) (hout:W'.output=W.output)
 (hheap: ∀b,b<W.heap.size→(∀v p,ρ.loc i v=some p→p.blk≠b)→W'.heap[b]? =W.heap[b]?)
 (hother: ∀j v,j≠i→ρ'.loc j v=ρ.loc j v) (hown: ∀v p,ρ.loc i v=some p→ρ'.loc i v=some p)
 (hnew: ∀v p,ρ'.loc i v=some p→(∃u q,ρ.loc i u=some q∧q.blk=p.blk)∨(W.heap.size≤p.blk∧p.blk<W'.heap.size))
 (hfix: ∀b,ρ'.fix b↔ρ.fix b) (hcode:ρ'.code=ρ.code) (hobj:Later ρ W ρ' W'→ObjR ρ' W' i o') (hdom: ∀j,ρ'.dom j↔ρ.dom j:=by exact fun _=>Iff.rfl):
 Later ρ W ρ' W'∧Rel ρ' W' (σ.set i o'):=by
 have hi:i<σ.length:=(List.getElem?_eq_some_iff.1 ho).1
 have L:Later ρ W ρ' W':=by
  refine ⟨fun j v p hp=> ?_,fun b hb=>(hfix b).2 hb,fun b hb=>hheap b (hR.fixlt b hb) (fun v p hp he=> ?_),hsize,hos,htape,hout,
   fun b hb hn=>hheap b hb (hn i),fun j v p hp=> ?_,fun b hb=> .inl ((hfix b).1 hb),hcode,fun j hj=>(hdom j).2 hj⟩
  ·by_cases hj:j=i
   ·subst hj;exact hown v p hp
   ·rw [hother j v hj];exact hp
  ·exact hR.apart i o v p ho hlive hp (he ▸ hb)
  ·by_cases hj:j=i
   ·subst hj
    rcases hnew v p hp with ⟨u,q,hq,he⟩ |h
    ·exact .inl ⟨j,u,q,hq,he⟩
    ·exact .inr h.1
   ·rw [hother j v hj] at hp;exact .inl ⟨j,v,p,hp,rfl⟩
 refine ⟨L,⟨fun j oj hj=> ?_,fun j v p hp=> ?_, ?_,fun j oj v p hj hl hp=> ?_,fun b hb=>Nat.lt_of_lt_of_le (hR.fixlt b ((hfix b).1 hb)) hsize,fun j hj=>by simpa using hR.dom j ((hdom j).1 hj)⟩⟩
 ·by_cases hji:j=i
  ·subst hji
   rw [List.getElem?_set_self (by simpa using hi)] at hj
   cases hj
   exact hobj L
  ·rw [List.getElem?_set_ne (fun h=>hji h.symm)] at hj
   refine (hR.obj j oj hj).later L (fun v p hp=>hheap p.blk (hR.blk j v p hp).1 fun u q hq he=>hji (hR.inj j v p i u q hp hq he.symm)) fun v=>hother j v hji
 ·by_cases hji:j=i
  ·subst hji
   rcases hnew v p hp with ⟨u,q,hq,he⟩ |h
   ·exact ⟨he ▸ Nat.lt_of_lt_of_le (hR.blk j u q hq).1 hsize,by simpa using hi⟩
   ·exact ⟨h.2,by simpa using hi⟩
  ·rw [hother j v hji] at hp
   exact ⟨Nat.lt_of_lt_of_le (hR.blk j v p hp).1 hsize,by simpa using (hR.blk j v p hp).2⟩
 ·have key: ∀j v p,ρ'.loc j v=some p→j≠i→ ∀w q,ρ'.loc i w=some q→p.blk≠q.blk:=by
   intro j v p hp hji w q hq he
   rw [hother j v hji] at hp
   rcases hnew w q hq with ⟨u,q',hq',he'⟩ |h
   ·exact hji (hR.inj j v p i u q' hp hq' (he.trans he'.symm))
   ·have:=(hR.blk j v p hp).1;omega
  intro j v p k w q hp hq he
  by_cases hji:j=i<;>by_cases hki:k=i
  ·exact hji.trans hki.symm
  ·subst hji;exact absurd he.symm (key k w q hq hki v p hp)
  ·subst hki;exact absurd he (key j v p hp hji w q hq)
  ·rw [hother j v hji] at hp;rw [hother k w hki] at hq;exact hR.inj j v p k w q hp hq he
 ·rw [hfix]
  by_cases hji:j=i
  ·subst hji
   rcases hnew v p hp with ⟨u,q,hq,he⟩ |h
   ·exact he ▸ hR.apart j o u q ho hlive hq
   ·exact fun hb=>absurd (hR.fixlt _ hb) (by omega)
  ·rw [hother j v hji] at hp
   rw [List.getElem?_set_ne (fun h=>hji h.symm)] at hj
   exact hR.apart j oj v p hj hl hp
theorem Rel.push {ρ ρ':Ren} {W W':World} {σ:St} (hR:Rel ρ W σ) {o':Obj}
 (hsize:W.heap.size≤W'.heap.size) (hos:W'.os=W.os) (htape:W'.tape=W.tape) (hout:W'.output=W.output)
 (hheap: ∀b,b<W.heap.size→W'.heap[b]? =W.heap[b]?)
 (hother: ∀j v,j≠σ.length→ρ'.loc j v=ρ.loc j v)
 (hnew: ∀v p,ρ'.loc σ.length v=some p→W.heap.size≤p.blk∧p.blk<W'.heap.size)
 (hfix: ∀b,ρ'.fix b↔ρ.fix b) (hcode:ρ'.code=ρ.code) (hobj:Later ρ W ρ' W'→ObjR ρ' W' σ.length o')
 (hdom: ∀j,ρ'.dom j→ρ.dom j∨j=σ.length:=by exact fun _ h=> .inl h) (hdom': ∀j,ρ.dom j→ρ'.dom j:=by exact fun _ h=>h):
 Later ρ W ρ' W'∧Rel ρ' W' (σ++[o']):=by
 have hnone: ∀v,ρ.loc σ.length v=none:=fun v=>by
  cases h:ρ.loc σ.length v with
  |none=>rfl
  |some p=>exact absurd (hR.blk _ v p h).2 (by omega)
 have L:Later ρ W ρ' W':=by
  refine ⟨fun j v p hp=> ?_,fun b hb=>(hfix b).2 hb,fun b hb=>hheap b (hR.fixlt b hb),hsize,hos,htape,hout,
   fun b hb _=>hheap b hb,fun j v p hp=> ?_,fun b hb=> .inl ((hfix b).1 hb),hcode,hdom'⟩
  ·by_cases hj:j=σ.length
   ·subst hj;rw [hnone] at hp;cases hp
   ·rw [hother j v hj];exact hp
  ·by_cases hj:j=σ.length
   ·subst hj;exact .inr (hnew v p hp).1
   ·rw [hother j v hj] at hp;exact .inl ⟨j,v,p,hp,rfl⟩
 have hlt: ∀j oj,(σ++[o'])[j]? =some oj→j≠σ.length→σ[j]? =some oj:=by
  intro j oj hj hne
  have:j< (σ++[o']).length:=(List.getElem?_eq_some_iff.1 hj).1
  rw [List.getElem?_append_left (by simp at this;omega)] at hj
  exact hj
 refine ⟨L,⟨fun j oj hj=> ?_,fun j v p hp=> ?_, ?_,fun j oj v p hj hl hp=> ?_,fun b hb=>Nat.lt_of_lt_of_le (hR.fixlt b ((hfix b).1 hb)) hsize,fun j hj=>by
  rcases hdom j hj with h|h
  ·have:=hR.dom j h;simp;omega
  ·subst h;simp⟩⟩
 ·by_cases hji:j=σ.length
  ·subst hji
   simp at hj
   subst hj
   exact hobj L
  ·exact (hR.obj j oj (hlt j oj hj hji)).later L (fun v p hp=>hheap p.blk (hR.blk j v p hp).1) fun v=>hother j v hji
 ·by_cases hji:j=σ.length
  ·subst hji;exact ⟨(hnew v p hp).2,by simp⟩
  ·rw [hother j v hji] at hp
   exact ⟨Nat.lt_of_lt_of_le (hR.blk j v p hp).1 hsize,by have:=(hR.blk j v p hp).2;simp;omega⟩
 ·intro j v p k w q hp hq he
  by_cases hji:j=σ.length<;>by_cases hki:k=σ.length
  ·exact hji.trans hki.symm
  ·subst hji
   rw [hother k w hki] at hq
   have:=(hR.blk k w q hq).1;have:=hnew v p hp;omega
  ·subst hki
   rw [hother j v hji] at hp
   have:=(hR.blk j v p hp).1;have:=hnew w q hq;omega
  ·rw [hother j v hji] at hp;rw [hother k w hki] at hq;exact hR.inj j v p k w q hp hq he
 ·rw [hfix]
  by_cases hji:j=σ.length
  ·subst hji
   exact fun hb=>by have:=hR.fixlt _ hb;have:=hnew v p hp;omega
  ·rw [hother j v hji] at hp
   exact hR.apart j oj v p (hlt j oj hj hji) hl hp
theorem Rel.grow {ρ ρ':Ren} {W W':World} {σ:St} (hR:Rel ρ W σ)
 (hsize:W.heap.size≤W'.heap.size) (hos:W'.os=W.os) (htape:W'.tape=W.tape) (hout:W'.output=W.output)
 (hheap: ∀b,b<W.heap.size→W'.heap[b]? =W.heap[b]?) (hloc:ρ'.loc=ρ.loc) (hcode:ρ'.code=ρ.code)
 (hfix: ∀b,ρ'.fix b→ρ.fix b∨(W.heap.size≤b∧b<W'.heap.size)) (hfix': ∀b,ρ.fix b→ρ'.fix b) (hdom: ∀j,ρ'.dom j↔ρ.dom j:=by exact fun _=>Iff.rfl):
 Later ρ W ρ' W'∧Rel ρ' W' σ:=by
 have L:Later ρ W ρ' W':=⟨fun j v p hp=>by rw [hloc];exact hp,hfix',fun b hb=>hheap b (hR.fixlt b hb),hsize,hos,htape,hout,
  fun b hb _=>hheap b hb,fun j v p hp=> .inl ⟨j,v,p,by rw [←hloc];exact hp,rfl⟩,fun b hb=>(hfix b hb).imp id fun h=> .inr h.1,hcode,fun j hj=>(hdom j).2 hj⟩
 refine ⟨L,⟨fun j oj hj=>(hR.obj j oj hj).later L (fun v p hp=>hheap p.blk (hR.blk j v p hp).1) fun v=>by rw [hloc],
  fun j v p hp=> ?_,fun j v p k w q hp hq=>by rw [hloc] at hp hq;exact hR.inj j v p k w q hp hq,fun j oj v p hj hl hp=> ?_,fun b hb=> ?_,fun j hj=>hR.dom j ((hdom j).1 hj)⟩⟩
 ·rw [hloc] at hp
  exact ⟨Nat.lt_of_lt_of_le (hR.blk j v p hp).1 hsize,(hR.blk j v p hp).2⟩
 ·rw [hloc] at hp
  intro hb
  rcases hfix _ hb with h|h
  ·exact hR.apart j oj v p hj hl hp h
  ·have:=(hR.blk j v p hp).1;omega
 ·rcases hfix b hb with h|h
  ·exact Nat.lt_of_lt_of_le (hR.fixlt b h) hsize
  ·exact h.2
theorem Rel.drew {ρ:Ren} {W:World} {σ:St} (hR:Rel ρ W σ):Later ρ W ρ W.drew∧Rel ρ W.drew σ:=
 hR.grow (ρ':=ρ) (W':=W.drew) (Nat.le_refl _) rfl rfl rfl (fun _ _=>rfl) rfl rfl (fun _ h=> .inl h) (fun _ h=>h)
theorem Rel.tree {ρ:Ren} {W:World} {σ:St} (hR:Rel ρ W σ) (ob:Go.Obj):
 Later ρ W {ρ with fix:=fun b=>ρ.fix b∨b=W.heap.size} (W.alloc ob)∧Rel {ρ with fix:=fun b=>ρ.fix b∨b=W.heap.size} (W.alloc ob) σ:=
 hR.grow (by simp) rfl rfl rfl (fun b hb=>heap_alloc_old W ob hb) rfl rfl
  (fun b hb=>hb.imp id fun h=>by subst h;simp) (fun b h=> .inl h)
theorem Rel.freeze {ρ:Ren} {W:World} {σ:St} (hR:Rel ρ W σ) (l:List Nat):
 Later ρ W {ρ with fix:=fun b=>ρ.fix b∨ ∃i sz es since v p,i ∈ l∧σ[i]? =some (.row sz es since)∧ρ.loc i v=some p∧b=p.blk} W∧
 Rel {ρ with fix:=fun b=>ρ.fix b∨ ∃i sz es since v p,i ∈ l∧σ[i]? =some (.row sz es since)∧ρ.loc i v=some p∧b=p.blk} W (AI.freeze l σ):=by
 have hget: ∀j:Nat,(AI.freeze l σ)[j]? =(σ[j]?).map fun o=>if l.contains j then o.freeze else o:=by
  intro j
  simp only [AI.freeze,List.getElem?_map,List.getElem?_zipIdx]
  cases σ[j]? <;>simp
 have L:Later ρ W {ρ with fix:=fun b=>ρ.fix b∨ ∃i sz es since v p,i ∈ l∧σ[i]? =some (.row sz es since)∧ρ.loc i v=some p∧b=p.blk} W:=
  ⟨fun _ _ _ h=>h,fun b h=> .inl h,fun _ _=>rfl,Nat.le_refl _,rfl,rfl,rfl,fun _ _ _=>rfl,fun i v p h=> .inl ⟨i,v,p,h,rfl⟩,
   fun b h=>h.imp id fun ⟨i,_,_,_,v,p,_,_,hp,he⟩=> .inl ⟨i,v,p,hp,he.symm⟩,rfl,fun _ h=>h⟩
 refine ⟨L,⟨fun j oj hj=> ?_,fun j v p hp=>⟨(hR.blk j v p hp).1,by simpa [AI.freeze] using (hR.blk j v p hp).2⟩,hR.inj,fun j oj v p hj hl hp=> ?_,fun b hb=> ?_,fun j hj=>by simpa [AI.freeze] using hR.dom j hj⟩⟩
 ·rw [hget] at hj
  cases hs:σ[j]? with
  |none=>rw [hs] at hj;cases hj
  |some o=>
   rw [hs] at hj
   simp only [Option.map_some,Option.some.injEq] at hj
   have h1:=(hR.obj j o hs).later L (fun _ _ _=>rfl) (fun _=>rfl)
   by_cases hc:l.contains j=true
   ·rw [if_pos hc] at hj
    subst hj
    cases o with
    |row sz es since=>exact ⟨h1,fun ver p hp=> .inr ⟨j,sz,es,since,ver,p,by simpa using hc,hs,hp,rfl⟩⟩
    |_=>exact h1
   ·rw [if_neg hc] at hj
    subst hj
    exact h1
 ·rw [hget] at hj
  cases hs:σ[j]? with
  |none=>rw [hs] at hj;cases hj
  |some o=>
   rw [hs] at hj
   simp only [Option.map_some,Option.some.injEq] at hj
   rintro (h| ⟨i,sz,es,since,u,q,hil,hi,hq,he⟩)
   ·have ho:o.live=true:=by
     by_cases hc:l.contains j=true
     ·rw [if_pos hc] at hj;subst hj;cases o<;>simp_all [Obj.live,Obj.freeze]
     ·rw [if_neg hc] at hj;subst hj;exact hl
    exact hR.apart j o v p hs ho hp h
   ·have hji:=hR.inj j v p i u q hp hq he
    subst hji
    rw [hs] at hi
    cases hi
    rw [if_pos (by simpa using hil)] at hj
    subst hj
    simp [Obj.live,Obj.freeze] at hl
 ·rcases hb with h| ⟨i,sz,es,since,v,p,_,_,hp,rfl⟩
  ·exact hR.fixlt b h
  ·exact (hR.blk i v p hp).1
section
variable {P:Program} {ρ:Ren} {W:World}
theorem run_isAgg {t:TypeId} {b:Bool} (h:aggT P t=some b) (w:World): (isAgg t).run P w= .ok b w:=by
 unfold aggT at h
 cases hd:P.underlying t with
 |none=>simp [hd] at h
 |some d=>cases d<;>simp_all [isAgg,run_underlying hd]
theorem run_size {t:TypeId} {n:Nat} (h:sizeT P t=some n) (w:World): (sizeOf t).run P w= .ok n w:=by
 unfold sizeT at h
 obtain ⟨i,hi,rfl⟩:=Option.map_eq_some_iff.1 h
 simp [sizeOf,typeInfo,hi]
theorem R.one {d:D} {v:Value} (h:R ρ W d v) (ho:d.one=true):v.oneCell'=true∧v.cells= #[v]∧d.cells=[d]:=by
 cases h<;>first| (simp [D.one] at ho;done) |exact ⟨rfl,rfl,rfl⟩
theorem D.cells_all {cs:List D} (h: (D.agg cs).cells.all D.one=true) {j:Nat} {e:D} (he:cs[j]? =some e):e.one=true:=
 List.all_eq_true.1 h e (List.mem_of_getElem? he)
theorem R.cells {d:D} {v:Value} (h:R ρ W d v) (ho:d.cells.all D.one=true):
 v.cells.size=d.cells.length∧ ∀j e,d.cells[j]? =some e→R ρ W e (v.cells.getD j Go.undef)∧(v.cells.getD j Go.undef).oneCell'=true:=by
 by_cases hd: ∃cs,d= .agg cs
 ·obtain ⟨cs,rfl⟩:=hd
  cases h with
  |agg hs hr=>exact ⟨hs,fun j e he=>⟨hr j e he,((hr j e he).one (D.cells_all ho he)).1⟩⟩
 ·have hc:d.cells=[d]:=by cases d<;>first|rfl|exact absurd ⟨_,rfl⟩ hd
  rw [hc] at ho ⊢
  have h1:d.one=true:=by simpa using ho
  obtain ⟨a,b,_⟩:=h.one h1
  refine ⟨by simp [b],fun j e he=> ?_⟩
  cases j with
  |zero=>simp at he;subst he;simp only [b];exact ⟨h,a⟩
  |succ j=>simp at he
theorem R.cells_one {d:D} {v:Value} (h:R ρ W d v) (ho:d.cells.all D.one=true): ∀x ∈ v.cells.toList,x.oneCell'=true:=by
 intro x hx
 obtain ⟨j,hj,rfl⟩:=List.getElem_of_mem hx
 have hs:=(h.cells ho).1
 have hj':j<d.cells.length:=by simpa [hs] using hj
 have:=((h.cells ho).2 j _ (List.getElem?_eq_getElem hj')).2
 have hj2:j<v.cells.size:=by simpa using hj
 simpa [Array.getD_eq_getD_getElem?,Array.getElem?_eq_getElem hj2] using this
theorem add_none (b o n:Nat): (⟨b,o,none⟩:Addr).add n=⟨b,o+n,none⟩:=by
 unfold Addr.add;split<;>simp_all
theorem load_cells {t:TypeId} {agg:Bool} {size:Nat} (ha:aggT P t=some agg) (hs:sizeT P t=some size) {b o:Nat} {cs:List D} {d:D}
 (hc: ∀j e,cs[j]? =some e→ ∃v,W.cell? ⟨b,o+j,none⟩=some v∧R ρ W e v) (h:cutCells agg size cs=some d):
 ∃v,(loadVar t ⟨b,o,none⟩).run P W= .ok v W∧R ρ W d v:=by
 unfold cutCells at h
 cases agg with
 |true=>
  simp only [if_true] at h
  split at h
  ·rename_i hl
   cases h
   let f:Nat→Value:=fun j=>(W.cell? ⟨b,o+j,none⟩).getD Go.undef
   have hf: ∀j,j<size→W.cell? ((⟨b,o,none⟩:Addr).add j)=some (f j):=by
    intro j hj
    obtain ⟨v,hv,_⟩:=hc j _ (List.getElem?_eq_getElem (Nat.lt_of_lt_of_le hj hl))
    rw [add_none]
    simp [f,hv]
   refine ⟨.agg ((List.range size).map f).toArray, ?_, ?_⟩
   ·simp [loadVar,run_isAgg ha,run_size hs,run_loadCells W _ size f hf]
   ·refine .agg (by simp;omega) fun j e he=> ?_
    have hj:j<size:=by
     have:=(List.getElem?_eq_some_iff.1 he).1
     simp at this;omega
    rw [List.getElem?_take_of_lt hj] at he
    obtain ⟨v,hv,hr⟩:=hc j e he
    have: (((List.range size).map f).toArray).getD j Go.undef=v:=by simp [Array.getD_eq_getD_getElem?,hj,f,hv]
    rw [this];exact hr
  ·cases h
 |false=>
  simp only [Bool.false_eq_true,if_false] at h
  split at h
  ·cases cs with
   |nil=>cases h
   |cons x r=>
    simp only [List.head?_cons,Option.some.injEq] at h
    subst h
    obtain ⟨v,hv,hr⟩:=hc 0 x rfl
    simp only [Nat.add_zero] at hv
    exact ⟨v,by simp [loadVar,run_isAgg ha,hv],hr⟩
  ·cases h
theorem cell?_cells {w:World} {b o:Nat} {c:Array Value} {ty:TypeId} {fr:Nat × Nat} (h:w.heap[b]? =some (.cells c ty fr)):w.cell? ⟨b,o,none⟩=c[o]? :=by
 simp [World.cell?,h]
theorem mul_lt {i n s j:Nat} (hi:i<n) (hj:j<s):i*s+j<n*s:=by
 have: (i+1) *s≤n*s:=Nat.mul_le_mul_right s hi
 rw [Nat.succ_mul] at this
 omega
theorem RowR.elem {i sz:Nat} {es:List D} {since ver idx:Nat} {p:Pl} {e:D} (h:RowR ρ W i sz es since) (h1:since≤ver) (h2:ver≤es.length)
 (hp:ρ.loc i ver=some p) (hi:idx<ver) (he:es[idx]? =some e):
 p.sz=sz∧e.cells.length=sz∧ ∀j d,e.cells[j]? =some d→ ∃v,W.cell? ⟨p.blk,idx*sz+j,none⟩=some v∧R ρ W d v:=by
 obtain ⟨_,hz,_,hv⟩:=h
 rcases hv ver h1 h2 with ⟨rfl,hn⟩ | ⟨q,c,ty,hq,hs,hc,hh,hsz,hr⟩
 ·omega
 ·rw [hp] at hq;cases hq
  refine ⟨hs,(hz idx e he).1,fun j d hd=> ?_⟩
  have hj:j<sz:=by rw [←(hz idx e he).1];exact (List.getElem?_eq_some_iff.1 hd).1
  have hlt:idx*sz+j<c.size:=by rw [hsz];exact mul_lt (by omega) hj
  refine ⟨c[idx*sz+j], ?_, ?_⟩
  ·rw [cell?_cells hh];simp [hlt]
  ·have:=hr idx e j d hi he hd
   simpa [Array.getD_eq_getD_getElem?,hlt] using this
theorem load_sound {σ:St} (hR:Rel ρ W σ) {t:TypeId} {agg:Bool} {size:Nat} (ha:aggT P t=some agg) (hs:sizeT P t=some size) {x d:D} {vx:Value}
 (hx:R ρ W x vx) (h:loadD σ agg size x=some d): ∃v,(Instr.loadAt t vx).run P W= .ok v W∧R ρ W d v:=by
 cases hx<;>simp only [loadD] at h<;>try (cases h;done)
 case ptr i off p hp=>
  split at h
  ·rename_i cs hcs
   obtain ⟨q,c,ty,hq,hh,hz,hr⟩:=hR.obj i _ hcs
   rw [hp] at hq;cases hq
   have:=load_cells (P:=P) (ρ:=ρ) (W:=W) ha hs (b:=p.blk) (o:=off) (cs:=cs.drop off) (fun j e he=>by
    rw [List.getElem?_drop] at he
    have hlt:off+j<c.size:=by rw [hz];exact (List.getElem?_eq_some_iff.1 he).1
    refine ⟨c[off+j],by rw [cell?_cells hh];simp [hlt], ?_⟩
    have:=hr _ e he
    simpa [Array.getD_eq_getD_getElem?,hlt] using this) h
   obtain ⟨v,hv,hr'⟩:=this
   exact ⟨v,by simp [Instr.loadAt,Instr.sureAddr,hv],hr'⟩
  ·cases h
 case rptr i ver idx r p hp=>
  have key: ∀sz es since,RowR ρ W i sz es since→(if since≤ver∧idx<ver∧ver≤es.length then
   match es[idx]? with
   |some e=>cutCells agg size (e.cells.drop r)
   |none=>none else none)=some d→ ∃v,(Instr.loadAt t (.pointer (some ⟨p.blk,idx*p.sz+r,none⟩))).run P W= .ok v W∧R ρ W d v:=by
   intro sz es since hrow h
   split at h
   ·rename_i hcond
    split at h
    ·rename_i e he
     obtain ⟨e1,e2,e3⟩:=hrow.elem hcond.1 hcond.2.2 hp hcond.2.1 he
     have:=load_cells (P:=P) (ρ:=ρ) (W:=W) ha hs (b:=p.blk) (o:=idx*p.sz+r) (cs:=e.cells.drop r) (fun j d' hd'=>by
      rw [List.getElem?_drop] at hd'
      obtain ⟨v,hv,hr⟩:=e3 _ d' hd'
      exact ⟨v,by rw [e1,Nat.add_assoc];exact hv,hr⟩) h
     obtain ⟨v,hv,hr'⟩:=this
     exact ⟨v,by simp [Instr.loadAt,Instr.sureAddr,hv],hr'⟩
    ·cases h
   ·cases h
  split at h
  ·rename_i sz es since hes;exact key sz es since (hR.obj i _ hes) h
  ·rename_i sz es since hes;exact key sz es since (hR.obj i _ hes).1 h
  ·cases h
 case tptr cs b off f hf hc hr=>
  have:=load_cells (P:=P) (ρ:=ρ) (W:=W) ha hs (b:=b) (o:=off) (cs:=cs) (fun j e he=>⟨f j,hc j (List.getElem?_eq_some_iff.1 he).1,hr j e he⟩) h
  obtain ⟨v,hv,hr'⟩:=this
  exact ⟨v,by simp [Instr.loadAt,Instr.sureAddr,hv],hr'⟩
theorem putCells_some {cs cs' vs:List D} {off:Nat} (h:putCells cs off vs=some cs'):
 off+vs.length≤cs.length∧vs.all D.one=true∧cs'=cs.take off++vs++cs.drop (off+vs.length)∧cs'.length=cs.length:=by
 unfold putCells at h
 split at h
 ·rename_i hc
  cases h
  refine ⟨hc.1,hc.2,rfl, ?_⟩
  have:=hc.1
  simp;omega
 ·cases h
theorem getElem?_put {α:Type} (l m:List α) (o:Nat) (h:o+m.length≤l.length) (j:Nat):
 (l.take o++m++l.drop (o+m.length))[j]? =if j<o then l[j]? else if j<o+m.length then m[j - o]? else l[j]? :=by
 have h1: (l.take o).length=o:=by simp;omega
 by_cases h2:j<o
 ·rw [if_pos h2,List.append_assoc,List.getElem?_append_left (by omega),List.getElem?_take_of_lt h2]
 ·rw [if_neg h2]
  by_cases h3:j<o+m.length
  ·rw [if_pos h3,List.getElem?_append_left (by simp;omega),List.getElem?_append_right (by omega),h1]
  ·rw [if_neg h3,List.getElem?_append_right (by simp;omega),List.getElem?_drop]
   congr 1
   simp;omega
theorem run_storeVar {t:TypeId} {size:Nat} (hs:sizeT P t=some size) {b o:Nat} {c:Array Value} {ty:TypeId} {v:Value} (hh:W.heap[b]? =some (.cells c ty))
 (hv:v.cells.size=size) (h1: ∀x ∈ v.cells.toList,x.oneCell'=true) (hl:o+size≤c.size):
 (Instr.storeAt t (.pointer (some ⟨b,o,none⟩)) v).run P W= .ok () (W.setRow b (c.toList.take o++v.cells.toList++c.toList.drop (o+v.cells.toList.length)).toArray):=by
 have:=run_storeCells_at (P:=P) b o ty v.cells.toList 0 c W hh (by simpa [hv] using hl) h1
 simp only [Nat.add_zero] at this
 simp [Instr.storeAt,Instr.sureAddr,storeVar,run_size hs,hv,this]
end
section
variable {P:Program} {ρ:Ren} {W:World} {σ:St}
theorem getD_put {c:Array Value} {vs:List Value} {o:Nat} (h:o+vs.length≤c.size) (j:Nat):
 (c.toList.take o++vs++c.toList.drop (o+vs.length)).toArray.getD j undef=if j<o then c.getD j undef else if j<o+vs.length then vs.getD (j - o) undef else c.getD j undef:=by
 have e:=getElem?_put c.toList vs o (by simpa using h) j
 simp only [Array.getD_eq_getD_getElem?,List.getElem?_toArray,e,List.getD_eq_getElem?_getD]
 split
 ·simp
 ·split
  ·rfl
  ·simp
theorem size_put {c:Array Value} {vs:List Value} {o:Nat} (h:o+vs.length≤c.size): (c.toList.take o++vs++c.toList.drop (o+vs.length)).toArray.size=c.size:=by
 simp;omega
theorem setRow_change (hR:Rel ρ W σ) {i:Nat} {o o':Obj} (ho:σ[i]? =some o) (hlive:o.live=true) {ver:Nat} {p:Pl} (hp:ρ.loc i ver=some p) (cs:Array Value)
 (hobj:Later ρ W ρ (W.setRow p.blk cs)→ObjR ρ (W.setRow p.blk cs) i o'):Later ρ W ρ (W.setRow p.blk cs)∧Rel ρ (W.setRow p.blk cs) (σ.set i o'):=
 hR.change ho hlive (by simp) rfl rfl rfl (fun b _ hne=>setRow_other W p.blk b cs (fun h=>hne ver p hp h.symm)) (fun _ _ _=>rfl) (fun _ _ h=>h)
  (fun v q hq=> .inl ⟨v,q,hq,rfl⟩) (fun _=>Iff.rfl) rfl hobj
theorem store_sound (hR:Rel ρ W σ) {t:TypeId} {size:Nat} (hs:sizeT P t=some size) {a v:D} {va vv:Value} (ha:R ρ W a va) (hv:R ρ W v vv) {σ':St}
 (h:storeD σ size v a=some σ'): ∃W',(Instr.storeAt t va vv).run P W= .ok () W'∧Later ρ W ρ W'∧Rel ρ W' σ':=by
 cases ha<;>simp only [storeD] at h<;>try (cases h;done)
 case ptr i off p hp=>
  split at h
  ·rename_i cs hcs
   split at h
   ·rename_i hsz
    obtain ⟨cs',hput,rfl⟩:=Option.map_eq_some_iff.1 h
    obtain ⟨hl,hone,rfl,hlen⟩:=putCells_some hput
    obtain ⟨q,c,ty,hq,hh,hz,hr⟩:=hR.obj i _ hcs
    rw [hp] at hq;cases hq
    obtain ⟨hvs,hvr⟩:=hv.cells hone
    have hl':off+vv.cells.toList.length≤c.size:=by simp [hvs];omega
    refine ⟨_,run_storeVar hs hh (by rw [hvs,hsz]) (hv.cells_one hone) (by omega), ?_⟩
    have hg:=getD_put hl'
    have hgz:=size_put hl'
    have hlen2:vv.cells.toList.length=v.cells.length:=by simp [hvs]
    generalize (c.toList.take off++vv.cells.toList++c.toList.drop (off+vv.cells.toList.length)).toArray=cn at hg hgz ⊢
    rw [hlen2] at hg
    refine setRow_change hR hcs rfl hp _ fun L=>⟨p,cn,ty,hp,setRow_heap W p.blk c _ ty _ hh,by rw [hgz,hz,hlen],fun j d hd=> ?_⟩
    rw [hg]
    rw [getElem?_put _ _ _ hl] at hd
    split
    ·rename_i hj;rw [if_pos hj] at hd;exact (hr j d hd).later L
    ·rename_i hj
     rw [if_neg hj] at hd
     split
     ·rename_i hj2
      rw [if_pos hj2] at hd
      have:=((hvr _ d hd).1).later L
      simpa [Array.getD_eq_getD_getElem?,List.getD_eq_getElem?_getD] using this
     ·rename_i hj2;rw [if_neg hj2] at hd;exact (hr j d hd).later L
   ·cases h
  ·cases h
 case rptr i ver idx r p hp=>
  split at h
  ·rename_i sz es since hes
   split at h
   ·rename_i hcond
    obtain ⟨rfl,hidx,hsz⟩:=hcond
    obtain ⟨h1,h2,h4,h3⟩:=hR.obj i _ hes
    rcases h3 es.length h1 (Nat.le_refl _) with ⟨h0,_⟩ | ⟨q,c,ty,hq,hqs,hqc,hh,hcz,hr⟩
    ·omega
    rw [hp] at hq;cases hq
    have main: ∀ (e e':D) (cs:List D),es[idx]? =some e→e.cells=cs→e'.cells.length=sz→e'.cells.all D.one=true→v.cells.all D.one=true→r+v.cells.length≤sz→
     (∀j d,e'.cells[j]? =some d→if j<r then cs[j]? =some d else if j<r+v.cells.length then v.cells[j - r]? =some d else cs[j]? =some d)→
     ∃W',(Instr.storeAt t (.pointer (some ⟨p.blk,idx*p.sz+r,none⟩)) vv).run P W= .ok () W'∧Later ρ W ρ W'∧Rel ρ W' (σ.set i (.row sz (es.set idx e') es.length)):=by
     intro e e' cs he hec he' he1' hone hrl hcells
     obtain ⟨hvs,hvr⟩:=hv.cells hone
     have hb:idx*sz+sz≤c.size:=by
      rw [hcz]
      have: (idx+1) *sz≤p.cap*sz:=Nat.mul_le_mul_right sz (by omega)
      rwa [Nat.succ_mul] at this
     have hl':idx*p.sz+r+vv.cells.toList.length≤c.size:=by simp [hvs,hqs];omega
     refine ⟨_,run_storeVar hs hh (by rw [hvs,hsz]) (hv.cells_one hone) (by rw [hqs];omega), ?_⟩
     have hg:=getD_put hl'
     have hgz:=size_put hl'
     have hlen2:vv.cells.toList.length=v.cells.length:=by simp [hvs]
     generalize (c.toList.take (idx*p.sz+r)++vv.cells.toList++c.toList.drop (idx*p.sz+r+vv.cells.toList.length)).toArray=cn at hg hgz ⊢
     rw [hlen2,hqs] at hg
     refine setRow_change hR hes rfl hp _ fun L=>⟨by simp,fun k e1 hk=> ?_,fun ver hv=>h4 ver (by simpa using hv),fun ver hv1 hv2=> ?_⟩
     ·rw [List.getElem?_set] at hk
      by_cases hik:idx=k
      ·rw [if_pos hik] at hk
       rw [if_pos hidx] at hk
       cases hk;exact ⟨he',he1'⟩
      ·rw [if_neg hik] at hk;exact h2 k e1 hk
     ·simp only [List.length_set] at hv2
      have hver:ver=es.length:=by omega
      subst hver
      refine .inr ⟨p,cn,ty,hp,hqs,hqc,setRow_heap W p.blk c _ ty _ hh,by rw [hgz,hcz],fun k e1 j d hk he1 hd=> ?_⟩
      rw [hg]
      rw [List.getElem?_set] at he1
      by_cases hki:idx=k
      ·subst hki
       rw [if_pos rfl,if_pos hidx] at he1
       cases he1
       have:=hcells j d hd
       have hjsz:j<sz:=by rw [←he'];exact (List.getElem?_eq_some_iff.1 hd).1
       by_cases hj:j<r
       ·rw [if_pos hj] at this
        rw [if_pos (by omega)]
        exact (hr idx e j d hidx he (by rw [hec];exact this)).later L
       ·rw [if_neg hj] at this
        rw [if_neg (by omega)]
        by_cases hj2:j<r+v.cells.length
        ·rw [if_pos hj2] at this
         rw [if_pos (by omega)]
         have:=((hvr _ d this).1).later L
         have e3:idx*sz+j - (idx*sz+r)=j - r:=by omega
         rw [e3]
         simpa [Array.getD_eq_getD_getElem?,List.getD_eq_getElem?_getD] using this
        ·rw [if_neg hj2] at this
         rw [if_neg (by omega)]
         exact (hr idx e j d hidx he (by rw [hec];exact this)).later L
      ·rw [if_neg hki] at he1
       have hjsz:j<sz:=by rw [←(h2 k e1 he1).1];exact (List.getElem?_eq_some_iff.1 hd).1
       have hne:k*sz+j<idx*sz∨idx*sz+sz≤k*sz+j:=by
        rcases Nat.lt_or_gt_of_ne hki with hlt|hgt
        ·right
         have: (idx+1) *sz≤k*sz:=Nat.mul_le_mul_right sz hlt
         rw [Nat.succ_mul] at this;omega
        ·left
         have: (k+1) *sz≤idx*sz:=Nat.mul_le_mul_right sz hgt
         rw [Nat.succ_mul] at this;omega
       have old:=(hr k e1 j d hk he1 hd).later L
       split
       ·exact old
       ·split
        ·omega
        ·exact old
    split at h
    ·rename_i cs hidx'
     obtain ⟨cs',hput,rfl⟩:=Option.map_eq_some_iff.1 h
     obtain ⟨hl,hone,rfl,hlen⟩:=putCells_some hput
     have hcsz:cs.length=sz:=(h2 idx _ hidx').1
     have hcone:cs.all D.one=true:=(h2 idx _ hidx').2
     have hnone: (cs.take r++v.cells++cs.drop (r+v.cells.length)).all D.one=true:=by
      rw [List.all_append,List.all_append,hone]
      simp only [Bool.and_eq_true,List.all_eq_true,and_true] at hcone ⊢
      exact ⟨fun x hx=>hcone x (List.mem_of_mem_take hx),fun x hx=>hcone x (List.mem_of_mem_drop hx)⟩
     refine main (.agg cs) (.agg _) cs hidx' rfl (by rw [←hcsz];exact hlen) hnone hone (by omega) fun j d hd=> ?_
     have hd': (cs.take r++v.cells++cs.drop (r+v.cells.length))[j]? =some d:=hd
     rw [getElem?_put _ _ _ hl] at hd'
     split
     ·rename_i hj;rwa [if_pos hj] at hd'
     ·rename_i hj
      rw [if_neg hj] at hd'
      split
      ·rename_i hj2;rwa [if_pos hj2] at hd'
      ·rename_i hj2;rwa [if_neg hj2] at hd'
    ·rename_i e hne hidx'
     split at h
     ·rename_i hc
      cases h
      obtain ⟨rfl,hvo⟩:=hc
      have hec:e.cells=[e]:=by cases hx:e<;>first|rfl|exact absurd hx (by intro hx';exact hne _ hx')
      have hsz1:sz=1:=by rw [←(h2 idx e hidx').1,hec];rfl
      have hvc:v.cells=[v]:=(hv.one hvo).2.2
      refine main e v [e] hidx' hec (by rw [hvc,hsz1];rfl) (by rw [hvc];simpa using hvo) (by rw [hvc];simpa using hvo) (by rw [hvc,hsz1];simp) fun j d hd=> ?_
      rw [if_neg (by omega)]
      rw [hvc] at hd ⊢
      have:j<1:=(List.getElem?_eq_some_iff.1 hd).1
      rw [if_pos (by simpa using this)]
      exact hd
     ·cases h
    ·cases h
   ·cases h
  ·cases h
theorem newVar_sound (hR:Rel ρ W σ) (t:TypeId) {d:D} {v:Value} (hv:R ρ W d v) (ho:d.cells.all D.one=true):
 ∃ρ' W',(newVar t v).run P W= .ok ⟨W.heap.size,0,none⟩ W'∧Later ρ W ρ' W'∧Rel ρ' W' (σ++[.box d.cells])∧ ∃p,ρ'.loc σ.length 0=some p∧p.blk=W.heap.size:=by
 obtain ⟨hs,hr⟩:=hv.cells ho
 let p:Pl:=⟨W.heap.size,1,d.cells.length⟩
 let ρ':Ren:= {ρ with loc:=fun i v=>if i=σ.length then (if v=0 then some p else none) else ρ.loc i v}
 have:=hR.push (ρ':=ρ') (W':=W.alloc (.cells v.cells t)) (o':= .box d.cells) (by simp) rfl rfl rfl
  (fun b hb=>heap_alloc_old W _ hb) (fun j v hj=>by simp [ρ',hj]) (fun v q hq=>by
   simp only [ρ',if_true] at hq
   split at hq
   ·cases hq;simp [p]
   ·cases hq) (fun _=>Iff.rfl) rfl
  (fun L=>⟨p,v.cells,t,by simp [ρ'],heap_alloc_at W _,hs,fun j e he=>((hr j e he).1).later L⟩)
 exact ⟨ρ',_,by simp [newVar,newRow],this.1,this.2,p,by simp [ρ'],rfl⟩
end
theorem mapM_some {α β:Type} {f:α→Option β} : ∀ {l:List α} {r:List β},l.mapM f=some r→
 r.length=l.length∧ ∀ (j:Nat) (x:α),l[j]? =some x→ ∃y,f x=some y∧r[j]? =some y
 | [],r,h=>by simp at h;subst h;exact ⟨rfl,fun j x hx=>by simp at hx⟩
 |a::l,r,h=>by
  simp only [List.mapM_cons,Option.bind_eq_bind,Option.pure_def,Option.bind_eq_some_iff] at h
  obtain ⟨b,hb,r',hr',he⟩:=h
  cases he
  obtain ⟨h1,h2⟩:=mapM_some hr'
  refine ⟨by simp [h1],fun j x hx=> ?_⟩
  cases j with
  |zero=>simp at hx;subst hx;exact ⟨b,hb,rfl⟩
  |succ j=>exact h2 j x (by simpa using hx)
section
variable {P:Program} {ρ:Ren} {W:World} {σ:St}
theorem valD1_sound {v:Value} {d:D} (h:valD1 v=some d):R ρ W d v:=by
 unfold valD1 at h
 split at h<;>first| (cases h;done) | (cases h;constructor;done) |skip
 all_goals (cases h;exact .empty _)
theorem valD_sound {v:Value} {d:D} (h:valD v=some d):R ρ W d v:=by
 unfold valD at h
 split at h
 ·rename_i cs
  obtain ⟨ds,hm,rfl⟩:=Option.map_eq_some_iff.1 h
  obtain ⟨h1,h2⟩:=mapM_some hm
  refine .agg (by simp [h1]) fun j e he=> ?_
  have hj:j<cs.size:=by have:=(List.getElem?_eq_some_iff.1 he).1;simpa [h1] using this
  obtain ⟨y,hy,hy'⟩:=h2 j cs[j] (by simp [hj])
  rw [he] at hy'
  cases hy'
  have:=valD1_sound (ρ:=ρ) (W:=W) hy
  simpa [Array.getD_eq_getD_getElem?,hj] using this
 ·rename_i vs
  split at h
  ·rename_i hz
   cases h
   obtain rfl:vs= #[]:=Array.eq_empty_of_size_eq_zero hz
   exact .undef
  ·cases h
 ·exact valD1_sound h
def GlobR (ρ:Ren) (W:World) (glob:Gl):Prop:= ∀g cs,glob.g g=some cs→R ρ W (.tptr cs) (.pointer (some ⟨g,0,none⟩))∧ ∃c ty fz,W.heap[g]? =some (.cells c ty fz)∧c.size=cs.length
theorem GlobR.later {ρ':Ren} {W':World} {glob:Gl} (h:GlobR ρ W glob) (L:Later ρ W ρ' W'):GlobR ρ' W' glob:=fun g cs hg=>by
 obtain ⟨h1,h2⟩:=h g cs hg
 refine ⟨h1.later L, ?_⟩
 cases h1 with
 |tptr hf _ _=>rw [L.heap g hf];exact h2
theorem opd_sound {glob:Gl} {e:Env} {a:Act} (hE:RE ρ W e a.tmps) (hG:GlobR ρ W glob) {x:Operand} {ax:AOpd} (h:opd x=some ax):
 R ρ W (lookA glob e ax) (a.eval x):=by
 cases x with
 |tmp t=>cases h;exact hE t
 |const v=>
  obtain ⟨d,hd,rfl⟩:=Option.map_eq_some_iff.1 h
  exact valD_sound hd
 |global g=>
  cases h
  simp only [lookA,Act.eval]
  cases hg:glob.g g with
  |none=>exact .any _
  |some cs=>exact (hG g cs hg).1
 |func f=>cases h;exact .func rfl rfl (fun j d hd=>by simp at hd) (fun j d hd=>by simp at hd)
theorem opds_sound {glob:Gl} {e:Env} {a:Act} (hE:RE ρ W e a.tmps) (hG:GlobR ρ W glob) {xs:Array Operand} {axs:List AOpd} (h:xs.toList.mapM opd=some axs):
 Rs ρ W (axs.map (lookA glob e)) (xs.map a.eval):=by
 obtain ⟨h1,h2⟩:=mapM_some h
 refine ⟨by simp [h1],fun j d hd=> ?_⟩
 rw [List.getElem?_map] at hd
 obtain ⟨ax,hax,rfl⟩:=Option.map_eq_some_iff.1 hd
 have hj:j<xs.size:=by have:=(List.getElem?_eq_some_iff.1 hax).1;simpa [h1] using this
 obtain ⟨y,hy,hy'⟩:=h2 j xs[j] (by simp [hj])
 rw [hax] at hy'
 cases hy'
 have:=opd_sound hE hG hy
 simpa [Array.getD_eq_getD_getElem?,hj] using this
theorem bytes_beq (a b:ByteArray): (a==b)=(a.data.toList==b.data.toList):=by
 rw [beq_toListBytes,ByteArray.toList_eq,ByteArray.toList_eq]
theorem kindEq_sound {t:TypeId} {k:Nat} (hk:scalarK P t=some k) {x y:D} {vx vy:Value} (hx:R ρ W x vx) (hy:R ρ W y vy) {b:Bool} (h:D.kindEq k x y=some b)
 (d:Nat) (w:World): (Op.equalIn (d+1) t vx vy).run P w= .ok b w:=by
 unfold scalarK at hk
 cases hd:P.underlying t with
 |none=>simp [hd] at hk
 |some u=>
  rw [hd] at hk
  cases u<;>simp only [Option.some.injEq,reduceCtorEq] at hk<;>subst hk<;>cases hx<;>simp only [D.kindEq] at h<;>try (cases h;done)
  all_goals (cases hy<;>simp only at h<;>try (cases h;done))
  ·cases h;exact run_equalIn_bool w d t _ _ hd
  ·split at h
   ·rename_i hjk;subst hjk;cases h;exact run_equalIn_int w d t _ _ _ _ hd
   ·cases h
  ·cases h
   rw [run_equalIn_string w d t _ _ hd,ByteArray.toList_eq,ByteArray.toList_eq]
theorem aggT_scalar {t:TypeId} {k:Nat} (hk:scalarK P t=some k):aggT P t=some false:=by
 unfold scalarK at hk
 unfold aggT
 cases hd:P.underlying t with
 |none=>simp [hd] at hk
 |some u=>rw [hd] at hk;cases u<;>simp_all
theorem eqFields_sound {xs ys:Array Value} : ∀ (fs:List Field) (i:Nat) (ks:List Nat) (x y:List D),fieldKs P i fs=some ks→
 (∀j d,x[j]? =some d→ ∃v,xs[i+j]? =some v∧R ρ W d v)→(∀j d,y[j]? =some d→ ∃v,ys[i+j]? =some v∧R ρ W d v)→
 ∀b,flatEqs ks x y=some b→ ∀ (d:Nat) (w:World),(Op.eqFields (d+1) xs ys fs).run P w= .ok b w
 | [],i,ks,x,y,hk,_,_,b,h,d,w=>by
  cases hk
  cases x<;>cases y<;>simp only [flatEqs] at h<;>first| (cases h;done) | (cases h;rfl)
 |f::fs,i,ks,x,y,hk,hx,hy,b,h,d,w=>by
  simp only [fieldKs] at hk
  split at hk
  ·rename_i hc
   simp only [Bool.and_eq_true,bne_iff_ne,ne_eq,beq_iff_eq] at hc
   simp only [Option.bind_eq_bind,Option.pure_def,Option.bind_eq_some_iff] at hk
   obtain ⟨k,hk1,ks',hk2,he⟩:=hk
   cases he
   cases x with
   |nil=>simp [flatEqs] at h
   |cons a x=>
    cases y with
    |nil=>simp [flatEqs] at h
    |cons c y=>
     simp only [flatEqs] at h
     split at h
     ·rename_i t ht
      obtain ⟨b',hb',rfl⟩:=Option.map_eq_some_iff.1 h
      obtain ⟨va,hva,ra⟩:=hx 0 a rfl
      obtain ⟨vc,hvc,rc⟩:=hy 0 c rfl
      simp only [Nat.add_zero] at hva hvc
      have ih:=eqFields_sound fs (i+1) ks' x y hk2 (fun j d hd=>by have:=hx (j+1) d (by simpa using hd);rwa [show i+ (j+1)=i+1+j by omega] at this)
       (fun j d hd=>by have:=hy (j+1) d (by simpa using hd);rwa [show i+ (j+1)=i+1+j by omega] at this) b' hb' d
      have p1: ∀w,(part f.type xs f.offset).run P w= .ok va w:=fun w=>by simp [part,run_isAgg (aggT_scalar hk1),hc.2,hva]
      have p2: ∀w,(part f.type ys f.offset).run P w= .ok vc w:=fun w=>by simp [part,run_isAgg (aggT_scalar hk1),hc.2,hvc]
      simp only [Op.eqFields,ne_eq,hc.1,not_false_eq_true,if_true,Sem.run_bind,p1,p2,Result.andThen_ok,kindEq_sound hk1 ra rc ht d]
      cases t
      ·simp
      ·simp [ih]
     ·cases h
  ·cases hk
end
section
variable {P:Program} {ρ:Ren} {W:World} {σ:St}
theorem intArith_sound {op:BinOp} (hs:op≠ .shl∧op≠ .shr) {k:IntKind} {a b:Int} {d:D} (h:intArith op k a b=some d) (t:TypeId):
 ∃v,(binOp op t (.int k a) (.int k b)).run P W= .ok v W∧R ρ W d v:=by
 cases op<;>simp only [intArith] at h<;>first
  | (cases h;done)
  |exact absurd rfl hs.1
  |exact absurd rfl hs.2
  | (cases h;exact ⟨_,by simp [binOp,Op.intArith,Op.intBits,Op.intCmp], .int _ _⟩)
  | (cases h;exact ⟨_,by simp [binOp,Op.intCmp], .bool _⟩)
  | (split at h
     ·cases h
     ·rename_i hb;cases h;exact ⟨_,by simp [binOp,Op.intDiv,hb], .int _ _⟩)
theorem toList_data (s:ByteArray):s.toList=s.data.toList:=ByteArray.toList_eq s
theorem strArith_sound {op:BinOp} {a b:ByteArray} {d:D} (h:strArith op a.data.toList b.data.toList=some d) (t:TypeId):
 ∃v,(binOp op t (.string a) (.string b)).run P W= .ok v W∧R ρ W d v:=by
 cases op<;>simp only [strArith] at h<;>first
  | (cases h;done)
  | (cases h;exact ⟨_,by simp [binOp,Op.stringOp,toList_data,bytesLess], .bool _⟩)
  |skip
 split at h
 ·rename_i hl
  cases h
  refine ⟨.string (a++b), ?_, ?_⟩
  ·have hm:IntKind.i64.max=9223372036854775807:=rfl
   have: ¬(((a.size+b.size:Nat):Int) >IntKind.i64.max):=by
    rw [hm]
    have h1:a.size=a.data.toList.length:=(Array.length_toList (xs:=a.data)).symm
    have h2:b.size=b.data.toList.length:=(Array.length_toList (xs:=b.data)).symm
    omega
   simp only [binOp,Op.stringOp,this,if_false,Sem.run_pure]
  ·have: (a++b).data.toList=a.data.toList++b.data.toList:=by simp
   rw [←this]
   exact .str _
 ·cases h
theorem partA_sound {f:Nat} {e:TypeId} {c:EqC} (hc:eqA P f e=some c) {m:Nat} (hm:sizeT P e=some m) {x:List D} {vs:Array Value} (h1:vs.size=x.length) (hr: ∀j d,x[j]? =some d→R ρ W d (vs.getD j Go.undef))
 {o:Nat} (ho:o+m≤x.length) (h0:0<m): ∃v,(∀w,(part e vs o).run P w= .ok v w)∧R ρ W (c.part m (x.drop o)) v:=by
 cases f with
 |zero=>cases hc
 |succ f=>
  cases hk:scalarK P e with
  |some k=>
   rw [eqA,hk] at hc
   cases hc
   have hlt:o<vs.size:=by omega
   refine ⟨vs[o],fun w=>by simp [part,run_isAgg (aggT_scalar hk),hlt], ?_⟩
   have:=hr o (x[o]'(by omega)) (by simp)
   simp only [EqC.part,List.headD_eq_head?_getD,List.head?_drop]
   rw [List.getElem?_eq_getElem (by omega)]
   simpa [Array.getD_eq_getD_getElem?,hlt] using this
  |none=>
   rw [eqA,hk] at hc
   simp only at hc
   split at hc
   ·rename_i n e' hu
    simp only [Option.bind_eq_bind,Option.pure_def,Option.bind_eq_some_iff,Option.some.injEq] at hc
    obtain ⟨m',hm',c',hc',rfl⟩:=hc
    have hag:aggT P e=some true:=by simp [aggT,hu]
    have hsz:P.cellsOf e=m:=by unfold sizeT at hm;simp [Program.cellsOf,hm]
    obtain ⟨i,hi⟩:=info_of_underlying hu
    refine ⟨.agg (vs.extract o (o+m)),fun w=> ?_, ?_⟩
    ·simp [part,run_isAgg hag,run_sizeOf w hi,hsz]
    ·simp only [EqC.part]
     refine .agg (by simp;omega) fun j d hd=> ?_
     rw [List.getElem?_take] at hd
     split at hd
     ·rename_i hj
      rw [List.getElem?_drop] at hd
      have:=hr (o+j) d hd
      have hlt:o+j<vs.size:=by omega
      have he: (vs.extract o (o+m))[j]? =vs[o+j]? :=by rw [Array.getElem?_extract,if_pos (by omega)]
      rw [Array.getD_eq_getD_getElem?,he]
      rwa [Array.getD_eq_getD_getElem?] at this
     ·cases hd
   ·cases hc
theorem eqA_sound: ∀ (f:Nat) (t:TypeId) (c:EqC),eqA P f t=some c→ ∀ (d:Nat),f≤d→ ∀ (x y:D) (vx vy:Value),R ρ W x vx→R ρ W y vy→ ∀b,eqDeep c x y=some b→ ∀w,(Op.equalIn d t vx vy).run P w= .ok b w
 |0,t,c,h,_,_,_,_,_,_,_,_,_,_,_=>by cases h
 |f+1,t,c,h,0,hd,_,_,_,_,_,_,_,_,_=>by omega
 |f+1,t,c,h,d+1,hd,x,y,vx,vy,hx,hy,b,hb,w=>by
  cases hk:scalarK P t with
  |some k=>
   rw [eqA,hk] at h
   cases h
   exact kindEq_sound hk hx hy hb d w
  |none=>
   have h':=h
   rw [eqA,hk] at h'
   simp only at h'
   split at h'
   ·simp only [Option.bind_eq_bind,Option.pure_def,Option.bind_eq_some_iff,Option.some.injEq] at h'
    obtain ⟨m,hm,c',hc,rfl⟩:=h'
    rename_i n e hu
    cases hx<;>try (simp [eqDeep] at hb;done)
    cases hy<;>try (simp [eqDeep] at hb;done)
    rename_i xs vs h1 r1 ys vs' h2 r2
    simp only [eqDeep] at hb
    split at hb
    ·rename_i hl
     obtain ⟨l1,l2,l3⟩:=hl
     obtain ⟨i,hi⟩: ∃i,P.info? e=some i:=by
      unfold sizeT at hm
      cases hi:P.info? e with
      |none=>rw [hi] at hm;cases hm
      |some i=>exact ⟨i,rfl⟩
     have hsz:P.cellsOf e=m:=by unfold sizeT at hm;simp [Program.cellsOf,hm]
     rw [run_equalIn_array w d _ _ hu hi,hsz,List.range_eq_range']
     have items: ∀ (k i:Nat),i+k=n→ ∀b,eqChunks (eqDeep c') (fun l=>c'.part m l) m k (xs.drop (i*m)) (ys.drop (i*m))=some b→(Op.eqItems d e m vs vs' (List.range' i k)).run P w= .ok b w:=by
      intro k
      induction k with
      |zero=>intro i _ b hb;cases hb;rfl
      |succ k ih=>
       intro i hik b hb
       simp only [eqChunks] at hb
       have hle:i*m+m≤n*m:=by rw [←Nat.succ_mul];exact Nat.mul_le_mul_right m (by omega)
       obtain ⟨va,pa,ra⟩:=partA_sound (ρ:=ρ) (W:=W) hc hm h1 r1 (o:=i*m) (by omega) l3
       obtain ⟨vb,pb,rb⟩:=partA_sound (ρ:=ρ) (W:=W) hc hm h2 r2 (o:=i*m) (by omega) l3
       split at hb
       ·rename_i t' ht
        obtain ⟨b',hb',rfl⟩:=Option.map_eq_some_iff.1 hb
        rw [List.drop_drop,List.drop_drop,←Nat.succ_mul] at hb'
        rw [List.range'_succ]
        simp only [Op.eqItems,Sem.run_bind,pa,pb,Result.andThen_ok,eqA_sound f e c' hc d (by omega) _ _ va vb ra rb t' ht w]
        cases t'
        ·simp
        ·simp [ih (i+1) (by omega) b' hb']
       ·cases hb
     exact items n 0 (by omega) b (by simpa using hb)
    ·cases hb
   ·cases h'
theorem eqD_sound {t:TypeId} {x y:D} {vx vy:Value} (hx:R ρ W x vx) (hy:R ρ W y vy) {b:Bool} (h:eqD (eqC P t) x y=some b):
 (Op.equal t vx vy).run P W= .ok b W:=by
 obtain ⟨n,hn⟩: ∃n,Op.maxDepth=n+1+1:=⟨9998,rfl⟩
 unfold Op.equal
 rw [hn]
 unfold eqC at h
 cases hd:P.underlying t with
 |none=>rw [hd] at h;simp [eqD] at h
 |some u=>
  rw [hd] at h
  cases u<;>try (simp [eqD] at h;done)
  case struct fs=>
   cases hks:fieldKs P 0 fs.toList with
   |none=>simp [hks,eqD] at h
   |some ks=>
    simp only [hks] at h
    by_cases hc: (P.stoodInHeld t||P.eqGuardType P.depth t)=true
    ·simp [hc,eqD] at h
    ·rw [if_neg hc] at h
     simp only [Bool.or_eq_true,not_or,Bool.not_eq_true] at hc
     cases hx<;>simp only [eqD] at h<;>try (cases h;done)
     cases hy<;>simp only at h<;>try (cases h;done)
     rename_i xs vs h1 r1 ys vs' h2 r2
     have hf:P.fieldsOf t=fs:=by simp [Program.fieldsOf,hd]
     rw [run_equalIn_struct W _ t _ _ (by rw [hf];exact hd) hc.1,hf]
     refine eqFields_sound (ρ:=ρ) (W:=W) fs.toList 0 ks xs ys hks (fun j d hj=> ?_) (fun j d hj=> ?_) b h _ _
     ·have hlt:j<vs.size:=by rw [h1];exact (List.getElem?_eq_some_iff.1 hj).1
      exact ⟨vs[j],by simp [hlt],by have:=r1 j d hj;simpa [Array.getD_eq_getD_getElem?,hlt] using this⟩
     ·have hlt:j<vs'.size:=by rw [h2];exact (List.getElem?_eq_some_iff.1 hj).1
      exact ⟨vs'[j],by simp [hlt],by have:=r2 j d hj;simpa [Array.getD_eq_getD_getElem?,hlt] using this⟩
  case array n' e=>
   simp only at h
   split at h
   ·rename_i n2 m c hc
    split at h
    ·simp [eqD] at h
    ·simp only [eqD] at h
     exact eqA_sound 4 t _ hc (n+1+1) (by have h0:Op.maxDepth=10000:=rfl;omega) x y vx vy hx hy b h W
   ·simp [eqD] at h
  all_goals
   simp only [eqD] at h
   split at h<;>first| (cases h;done) |skip
   all_goals (rename_i heq;first| (cases heq;done) |skip)
   all_goals (cases h;cases hx;cases hy;unfold Op.equalIn;rw [Sem.run_bind,run_underlying hd,Result.andThen_ok];rfl)
end
section
variable {P:Program} {ρ:Ren} {W:World} {σ:St}
theorem eqGuard_plain {t:TypeId} {vx vy:Value} (h1: ∀a b,¬(vx= .agg a∧vy= .agg b)) (h2: ¬(vx= .nilIface∧vy= .nilIface)) (op:BinOp) (xo yo:Operand):
 (eqGuard op t xo yo vx vy).run P W= .ok () W:=by
 have key: ∀s:Sem Unit,(match vx,vy with
  | .nilIface, .nilIface=>s
  | .agg _, .agg _=>do
   if !(←program).eqGuardType (←program).depth t then return
   if ←Op.eqGuardIn Op.maxDepth t vx vy then unsupported (.noEntry "binop/eql: two nil values of an interface type with methods, in a part of a struct or an array")
  |_,_=>pure ()).run P W= .ok () W:=by
  intro s
  split
  ·exact absurd ⟨rfl,rfl⟩ h2
  ·exact absurd ⟨rfl,rfl⟩ (h1 _ _)
  ·rfl
 cases op<;>first|rfl|exact key _
theorem eqGuard_ok {t:TypeId} {x y:D} {vx vy:Value} (hx:R ρ W x vx) (hy:R ρ W y vy) {b:Bool} (h:eqD (eqC P t) x y=some b) (op:BinOp) (xo yo:Operand):
 (eqGuard op t xo yo vx vy).run P W= .ok () W:=by
 by_cases hg: ∃xs ys,x= .agg xs∧y= .agg ys
 ·obtain ⟨xs,ys,rfl,rfl⟩:=hg
  cases hx;cases hy
  refine run_eqGuard_agg W op t xo yo _ _ ?_
  unfold eqC at h
  cases hd:P.underlying t with
  |none=>simp [hd,eqD] at h
  |some u=>
   rw [hd] at h
   cases u<;>try (simp [eqD] at h;done)
   case struct fs=>
    cases hks:fieldKs P 0 fs.toList with
    |none=>simp [hks,eqD] at h
    |some ks=>
     simp only [hks] at h
     by_cases hc: (P.stoodInHeld t||P.eqGuardType P.depth t)=true
     ·simp [hc,eqD] at h
     ·simp only [Bool.or_eq_true,not_or,Bool.not_eq_true] at hc
      exact hc.2
   case array n e=>
    simp only at h
    split at h
    ·split at h
     ·simp [eqD] at h
     ·rename_i hg
      simpa using hg
    ·simp [eqD] at h
 ·refine eqGuard_plain (fun a b hab=> ?_) (fun hab=> ?_) op xo yo
  ·obtain ⟨rfl,rfl⟩:=hab
   generalize eqC P t=c at h
   cases hx<;>cases hy<;>first
    |exact absurd ⟨_,_,rfl,rfl⟩ hg
    | (exfalso;cases c<;>simp [eqD,eqDeep] at h;done)
  ·obtain ⟨rfl,rfl⟩:=hab
   generalize eqC P t=c at h
   cases hx<;>cases hy<;>(exfalso;cases c<;>simp [eqD,eqDeep] at h;done)
theorem arithD_sound {op:BinOp} {t:TypeId} {x y d:D} {vx vy:Value} (hx:R ρ W x vx) (hy:R ρ W y vy) (h:arithD op (eqC P t) x y=some d) (xo yo:Operand):
 ∃v,(do eqGuard op t xo yo vx vy;binOp op t vx vy:Sem Value).run P W= .ok v W∧R ρ W d v:=by
 unfold arithD at h
 split at h
 ·cases hx;cases hy
  split at h
  ·cases h
  ·rename_i hb
   cases h
   exact ⟨_,by rw [Sem.run_bind,eqGuard_plain (by simp) (by simp),Result.andThen_ok];simp [binOp,Op.shift,hb], .int _ _⟩
 ·cases hx;cases hy
  split at h
  ·cases h
  ·rename_i hb
   cases h
   exact ⟨_,by rw [Sem.run_bind,eqGuard_plain (by simp) (by simp),Result.andThen_ok];simp [binOp,Op.shift,hb], .int _ _⟩
 ·rename_i op k a k' b h1 h2
  cases hx;cases hy
  split at h
  ·rename_i hk
   subst hk
   obtain ⟨v,hv,hr⟩:=intArith_sound (ρ:=ρ) (W:=W) (P:=P) ⟨fun e=>h1 e,fun e=>h2 e⟩ h t
   exact ⟨v,by rw [Sem.run_bind,eqGuard_plain (by simp) (by simp),Result.andThen_ok];exact hv,hr⟩
  ·cases h
 ·cases hx;cases hy
  obtain ⟨v,hv,hr⟩:=strArith_sound (ρ:=ρ) (W:=W) (P:=P) h t
  exact ⟨v,by rw [Sem.run_bind,eqGuard_plain (by simp) (by simp),Result.andThen_ok];exact hv,hr⟩
 ·obtain ⟨b,hb,rfl⟩:=Option.map_eq_some_iff.1 h
  refine ⟨.bool b, ?_, .bool b⟩
  rw [Sem.run_bind,eqGuard_ok hx hy hb,Result.andThen_ok]
  have he:=eqD_sound (P:=P) hx hy hb
  generalize eqC P t=c at hb
  cases hx<;>cases hy<;>first
   | (simp [binOp,he];done)
   | (exfalso;cases c<;>simp [eqD,eqDeep] at hb)
 ·obtain ⟨b,hb,rfl⟩:=Option.map_eq_some_iff.1 h
  refine ⟨.bool (!b), ?_, .bool _⟩
  rw [Sem.run_bind,eqGuard_ok hx hy hb,Result.andThen_ok]
  have he:=eqD_sound (P:=P) hx hy hb
  generalize eqC P t=c at hb
  cases hx<;>cases hy<;>first
   | (simp [binOp,he];done)
   | (exfalso;cases c<;>simp [eqD,eqDeep] at hb)
 ·cases h
end
section
variable {P:Program} {ρ:Ren} {W:World} {σ:St}
def CellsR (ρ:Ren) (W:World) (ds:List D) (vs:Array Value):Prop:=vs.size=ds.length∧ ∀j d,ds[j]? =some d→R ρ W d (vs.getD j undef)
theorem foldl_set (off:Nat): ∀ (l:List Value) (n:Nat) (cs:Array Value),off+n+l.length≤cs.size→
 ((l.zipIdx n).foldl (fun cs (c:Value × Nat)=>cs.setIfInBounds (off+c.2) c.1) cs).size=cs.size∧
 ∀j,((l.zipIdx n).foldl (fun cs (c:Value × Nat)=>cs.setIfInBounds (off+c.2) c.1) cs).getD j undef=
  if off+n≤j∧j<off+n+l.length then l.getD (j - (off+n)) undef else cs.getD j undef
 | [],n,cs,_=>⟨rfl,fun j=>by simp;omega⟩
 |x::l,n,cs,h=>by
  simp only [List.zipIdx_cons,List.foldl_cons]
  have hl: (x::l).length=l.length+1:=rfl
  obtain ⟨h1,h2⟩:=foldl_set off l (n+1) (cs.setIfInBounds (off+n) x) (by simp only [Array.size_setIfInBounds];omega)
  refine ⟨by rw [h1];simp,fun j=> ?_⟩
  rw [h2]
  by_cases hj:off+ (n+1)≤j∧j<off+ (n+1) +l.length
  ·rw [if_pos hj,if_pos (by omega)]
   have:j - (off+n)=(j - (off+ (n+1))) +1:=by omega
   rw [this];rfl
  ·rw [if_neg hj]
   by_cases hj2:j=off+n
   ·subst hj2
    rw [if_pos (by omega)]
    have:off+n<cs.size:=by omega
    simp [Array.getD_eq_getD_getElem?,this]
   ·rw [if_neg (by omega)]
    simp [Array.getD_eq_getD_getElem?,Ne.symm hj2]
def PartsR (ρ:Ren) (W:World) (place:Nat→Option (Nat × Nat)):List (Nat × Value)→List (Nat × Nat × D)→Prop
 | [],[]=>True
 | (i,v)::l,(off,size,d)::m=>place i=some (off,size)∧R ρ W d v∧PartsR ρ W place l m
 |_,_=>False
theorem fill_sound (place:Nat→Option (Nat × Nat)): ∀ (l:List (Nat × Value)) (m:List (Nat × Nat × D)) (ds ds':List D) (cs:Array Value),
 PartsR ρ W place l m→CellsR ρ W ds cs→fillD ds m=some ds'→ ∃cs',Instr.fill place cs l=some cs'∧CellsR ρ W ds' cs'
 | [],[],ds,ds',cs,_,hc,h=>by cases h;exact ⟨cs,rfl,hc⟩
 | [],_::_,_,_,_,hp,_,_=>hp.elim
 |_::_,[],_,_,_,hp,_,_=>hp.elim
 | (i,v)::l,(off,size,d)::m,ds,ds',cs,hp,hc,h=>by
  obtain ⟨h1,h2,h3⟩:=hp
  simp only [fillD] at h
  split at h
  ·rename_i hsz
   split at h
   ·rename_i ds1 hput
    obtain ⟨hl,hone,rfl,hlen⟩:=putCells_some hput
    obtain ⟨hvs,hvr⟩:=h2.cells hone
    have hsz':v.cells.size=size:=by rw [hvs,hsz]
    have hfit:off+v.cells.size≤cs.size:=by rw [hvs,hc.1];exact hl
    have hfold:=foldl_set off v.cells.toList 0 cs (by simpa using hfit)
    have hz:v.cells.zipIdx.foldl (fun cs (c:Value × Nat)=>cs.setIfInBounds (off+c.2) c.1) cs=(v.cells.toList.zipIdx 0).foldl (fun cs (c:Value × Nat)=>cs.setIfInBounds (off+c.2) c.1) cs:=by
     rw [←Array.foldl_toList];simp
    rw [←hz] at hfold
    simp only [Nat.add_zero,Array.length_toList] at hfold
    generalize hg:v.cells.zipIdx.foldl (fun cs (c:Value × Nat)=>cs.setIfInBounds (off+c.2) c.1) cs=cs1 at hfold
    have hc1:CellsR ρ W (ds.take off++d.cells++ds.drop (off+d.cells.length)) cs1:=by
     refine ⟨by rw [hfold.1,hc.1,hlen],fun j e he=> ?_⟩
     rw [hfold.2 j]
     rw [getElem?_put _ _ _ hl] at he
     by_cases hj:j<off
     ·rw [if_pos hj] at he;rw [if_neg (by omega)];exact hc.2 j e he
     ·rw [if_neg hj] at he
      by_cases hj2:j<off+d.cells.length
      ·rw [if_pos hj2] at he
       rw [if_pos (by omega)]
       have:=(hvr _ e he).1
       simpa [Array.getD_eq_getD_getElem?,List.getD_eq_getElem?_getD] using this
      ·rw [if_neg hj2] at he;rw [if_neg (by omega)];exact hc.2 j e he
    obtain ⟨cs',hcs',hr'⟩:=fill_sound place l m _ ds' cs1 h3 hc1 h
    refine ⟨cs', ?_,hr'⟩
    simp only [Instr.fill,h1]
    rw [if_neg (by simp [hsz'];omega)]
    have hg':Array.foldl (fun cs (x:Value × Nat)=>match x with| (c,j)=>cs.setIfInBounds (off+j) c) cs v.cells.zipIdx=cs1:=hg
    rw [hg']
    exact hcs'
   ·cases h
  ·cases h
theorem part_sound {t:TypeId} {agg:Bool} {off size:Nat} (ha:aggT P t=some agg) (hs:sizeT P t=some size) {cs:List D} {vs:Array Value} (hc:CellsR ρ W cs vs)
 (hl:off+size≤cs.length) {d:D} (h:cutCells agg size (cs.drop off)=some d): ∃v,(part t vs off).run P W= .ok v W∧R ρ W d v:=by
 unfold cutCells at h
 cases agg with
 |true=>
  simp only [if_true] at h
  split at h
  ·cases h
   refine ⟨.agg (vs.extract off (off+size)),by simp [part,run_isAgg ha,run_size hs], .agg ?_ fun j e he=> ?_⟩
   ·have:=hc.1;simp;omega
   ·have hj:j<size:=by
     have:=(List.getElem?_eq_some_iff.1 he).1
     simp at this;omega
    rw [List.getElem?_take_of_lt hj,List.getElem?_drop] at he
    have:=hc.2 _ e he
    have e1: (vs.extract off (off+size)).getD j undef=vs.getD (off+j) undef:=by
     have h2:=hc.1
     simp only [Array.getD_eq_getD_getElem?]
     have h3:off+j<vs.size:=by omega
     rw [Array.getElem?_extract_of_lt (by omega),Array.getElem?_eq_getElem h3]
    rw [e1];exact this
  ·cases h
 |false=>
  simp only [Bool.false_eq_true,if_false] at h
  split at h
  ·rename_i h1
   subst h1
   have hlt:off<vs.size:=by rw [hc.1];omega
   rw [List.head?_drop] at h
   have:=hc.2 _ d h
   refine ⟨vs[off],by simp [part,run_isAgg ha,hlt], ?_⟩
   simpa [Array.getD_eq_getD_getElem?,hlt] using this
  ·cases h
theorem agg_cells {cs:List D} {v:Value} (h:R ρ W (.agg cs) v): ∃vs,v= .agg vs∧CellsR ρ W cs vs:=by
 cases h with
 |agg hs hr=>exact ⟨_,rfl,hs,hr⟩
def OptR (ρ:Ren) (W:World):Option D→Option Value→Prop
 |none,none=>True
 |some d,some v=>R ρ W d v
 |_,_=>False
theorem bound_sound {n dflt:Nat} {d:Option D} {m:Nat} (h:bound n dflt d=some m) {v:Option Value} (hv:OptR ρ W d v) {N:Nat} (hN:n≤N):
 (d=none∧v=none∧m=dflt)∨(∃x,v=some x∧m≤n∧ ∀code w,(Instr.sliceBound x N code).run P w= .ok m w):=by
 cases d with
 |none=>
  cases v with
  |none=>simp only [bound,Option.some.injEq] at h;exact .inl ⟨rfl,rfl,h.symm⟩
  |some v=>exact hv.elim
 |some d=>
  cases v with
  |none=>exact hv.elim
  |some v=>
   simp only [OptR] at hv
   cases hv<;>simp only [bound] at h<;>try (cases h;done)
   split at h
   ·rename_i hc
    cases h
    rename_i k i
    refine .inr ⟨_,rfl,by omega,fun code w=> ?_⟩
    have hc2:0≤i∧i≤(N:Int):=⟨hc.1,by have:=hc.2;omega⟩
    simp [Instr.sliceBound,asIntOf,hc2]
   ·cases h
theorem bounds_sound {len cap:Nat} {lo hi:Option D} {b h:Nat} {vlo vhi:Option Value} (h1:bound len len hi=some h) (h2:bound h 0 lo=some b) (hlo:OptR ρ W lo vlo) (hhi:OptR ρ W hi vhi)
 (hcap:len≤cap) (isSlice:Bool) (w:World): (Instr.sliceBounds isSlice len cap vlo vhi none).run P w= .ok (b,h,cap) w∧b≤h∧h≤len:=by
 rcases bound_sound (P:=P) h1 hhi hcap with ⟨rfl,rfl,rfl⟩ | ⟨x,rfl,hl,hx⟩
 ·rcases bound_sound (P:=P) h2 hlo (Nat.le_refl _) with ⟨rfl,rfl,rfl⟩ | ⟨y,rfl,hl2,hy⟩
  ·exact ⟨by simp [Instr.sliceBounds],by omega,Nat.le_refl _⟩
  ·exact ⟨by simp [Instr.sliceBounds,hy],hl2,Nat.le_refl _⟩
 ·rcases bound_sound (P:=P) h2 hlo (Nat.le_refl _) with ⟨rfl,rfl,rfl⟩ | ⟨y,rfl,hl2,hy⟩
  ·exact ⟨by simp [Instr.sliceBounds,hx],by omega,hl⟩
  ·exact ⟨by simp [Instr.sliceBounds,hx,hy],hl2,hl⟩
end
end Go.AI
