/- Texts of the proof: an interpreter over trees, proved to follow the model. No conditions of its own. -/
import Derived.Test.YtgenoggafhhgfaaGreatDoorE4
set_option linter.unusedVariables false
set_option linter.unusedSimpArgs false
namespace Go.AI
open Go
def z192:List D:=List.replicate 192 (.int .i64 0)
@[reducible,simp] def z14:List D:=[(.str []),(.int .i64 0),(.int .i64 0),(.str []), .empty, .empty,(.int .i64 0),(.int .i64 0),(.int .i64 0),(.str []), .empty, .empty,(.int .i64 0),(.bool false)]
@[reducible,simp] def z9:List D:=[(.int .i64 0),(.int .i64 0),(.int .i64 0),(.int .i64 0),(.int .i64 0),(.int .i64 0),(.bool false),(.int .i64 0),(.int .i64 0)]
@[reducible,simp] def z7:List D:=[(.int .i64 0),(.int .i64 0),(.int .i64 0),(.int .i64 0),(.bool false),(.int .i64 0),(.int .i64 0)]
@[reducible,simp] def z10:List D:=[.empty, .empty, .empty,(.int .i64 0),(.int .i64 0),(.str []),(.str []), .empty, .empty, .empty]
@[reducible,simp] def z9a:List D:=[(.str []), .empty,(.int .i64 0),(.int .i64 0),(.str []),(.str []), .empty, .empty, .empty]
@[reducible,simp] def z8:List D:=[(.int .i64 0),(.int .i64 0),(.str []), .empty, .empty,(.int .i64 0), .empty, .empty]
@[reducible,simp] def z8a:List D:=[(.str []),(.int .i64 0),(.int .i64 0),(.str []),(.str []), .empty, .empty, .empty]
@[reducible,simp] def z7a:List D:=[(.int .i64 0),(.int .i64 0),(.str []),(.str []), .empty, .empty, .empty]
@[reducible,simp] def z6:List D:=[(.int .i64 0),(.int .i64 0),(.str []), .empty, .empty,(.int .i64 0)]
@[reducible,simp] def z2:List D:=[(.int .i64 0),(.int .i64 0)]
@[reducible,simp] def z3:List D:=[(.str []), .empty, .empty]
@[reducible,simp] def z2a:List D:=[(.str []), .empty]
@[reducible,simp] def gt (d g:Nat) (o:AOp) (r:List Nat):AOper:=⟨some d,o,some (g,true),r⟩
@[reducible,simp] def gf (d g:Nat) (o:AOp) (r:List Nat):AOper:=⟨some d,o,some (g,false),r⟩
@[reducible,simp] def ar (o:BinOp) (a b:AOpd):AOp:= .arith o .none a b
@[reducible,simp] def l1 (a:AOpd):AOp:= .load false 1 a
def Z0 (_:Nat):Bool:=false
theorem mkG {P:Program} {f:FuncId} {fn:Func} {af:AFunc} (acc:Nat→Bool) (k:List (Nat × List Nat)) (h:P.funcs[f]? =some fn) (hc:cFunc P acc (keepL k) fn=some af):Good P (f,af):=⟨fn,acc,keepL k,h,hc⟩
theorem gc {P:Program} {x:FuncId × AFunc} {l:List (FuncId × AFunc)} (h:Good P x) (hl: ∀y ∈ l,Good P y): ∀y ∈ x::l,Good P y:=List.forall_mem_cons.2 ⟨h,hl⟩
end Go.AI
