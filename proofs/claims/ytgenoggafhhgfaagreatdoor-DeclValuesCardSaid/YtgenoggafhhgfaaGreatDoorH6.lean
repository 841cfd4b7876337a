/- Texts of the proof: what functions of the program compute, step by step. No conditions of its own. -/
import Derived.Test.YtgenoggafhhgfaaGreatDoorH4
import Derived.Test.YtgenoggafhhgfaaGreatDoorChecked
import Derived.KernelRfl
set_option linter.unusedVariables false
set_option linter.unusedSimpArgs false
namespace Go.AI
open Go
@[reducible,simp] def z14:List D:=[(.str []),(.int .i64 0),(.int .i64 0),(.str []), .empty, .empty,(.int .i64 0),(.int .i64 0),(.int .i64 0),(.str []), .empty, .empty,(.int .i64 0),(.bool false)]
@[reducible,simp] def z9:List D:=[(.int .i64 0),(.int .i64 0),(.int .i64 0),(.int .i64 0),(.int .i64 0),(.int .i64 0),(.bool false),(.int .i64 0),(.int .i64 0)]
@[reducible,simp] def z7:List D:=[(.int .i64 0),(.int .i64 0),(.int .i64 0),(.int .i64 0),(.bool false),(.int .i64 0),(.int .i64 0)]
@[reducible,simp] def z10:List D:=[.empty, .empty, .empty,(.int .i64 0),(.int .i64 0),(.str []),(.str []), .empty, .empty, .empty]
@[reducible,simp] def z9a:List D:=[(.str []), .empty,(.int .i64 0),(.int .i64 0),(.str []),(.str []), .empty, .empty, .empty]
@[reducible,simp] def z8:List D:=[(.int .i64 0),(.int .i64 0),(.str []), .empty, .empty,(.int .i64 0), .empty, .empty]
@[reducible,simp] def z8a:List D:=[(.str []),(.int .i64 0),(.int .i64 0),(.str []),(.str []), .empty, .empty, .empty]
@[reducible,simp] def z7a:List D:=[(.int .i64 0),(.int .i64 0),(.str []),(.str []), .empty, .empty, .empty]
@[reducible,simp] def z6:List D:=[(.int .i64 0),(.int .i64 0),(.str []), .empty, .empty,(.int .i64 0)]
@[reducible,simp] def z2:List D:=[(.int .i64 0),(.int .i64 0)]
@[reducible,simp] def z3:List D:=[(.str []), .empty, .empty]
@[reducible,simp] def z2a:List D:=[(.str []), .empty]
@[reducible,simp] def gt (d g:Nat) (o:AOp) (r:List Nat):bz:=⟨some d,o,some (g,true),r⟩
@[reducible,simp] def gf (d g:Nat) (o:AOp) (r:List Nat):bz:=⟨some d,o,some (g,false),r⟩
@[reducible,simp] def ar (o:BinOp) (a b:bB):AOp:= .arith o .none a b
@[reducible,simp] def l1 (a:bB):AOp:= .load false 1 a
def Z0 (_:Nat):Bool:=false
theorem gc {P:Program} {x:FuncId × aF} {l:List (FuncId × aF)} (h:Good P x) (hl: ∀y ∈ l,Good P y): ∀y ∈ x::l,Good P y:=List.forall_mem_cons.2 ⟨h,hl⟩
def wI:Code->List Nat
 | .region id _ _=>[id]
 | .seq a b=>wI a++wI b
 | .cond _ a b=>wI a++wI b
 | .block _ b=>wI b
 | .loop b=>wI b
 | .scope b=>wI b
 | .rangeFunc _ _ a b=>wI a++wI b
 |_=>[]
def jz:aK->List (List Nat)
 | .region _ (some k)=>[k]
 | .drawn _ _ (some k)=>[k]
 | .seq a b=>jz a++jz b
 | .cond _ a b=>jz a++jz b
 | .block _ b=>jz b
 | .loop b=>jz b
 | .scope b _=>jz b
 | .rangeFunc _ _ a b=>jz a++jz b
 |_=>[]
def RQ (fn:Func) (af:aF):List (Nat × List Nat):=match fn.body with
 |some c=>(wI c).zip (jz af.body)
 |none=>[]
theorem mkK {P:Program} {f:FuncId} {fn:Func} {af:aF} (acc:Nat->Bool) (h:P.funcs[f]? =some fn) (hc:rQ P acc (Jq (RQ fn af)) fn=some af):Good P (f,af):=⟨fn,acc,_,h,hc⟩
def cZ (P:Program) (acc:Nat->Bool) (fn:Func):aF:=match rQ P acc (fun _=>none) fn with
 |some a=>a
 |none=>⟨0,0,[], .skip⟩
theorem mkC {P:Program} {f:FuncId} {fn:Func} (acc:Nat->Bool) (h:P.funcs[f]? =some fn) (hc: (rQ P acc (fun _=>none) fn).isSome=true):Good P (f,cZ P acc fn):=by
 refine ⟨fn,acc,fun _=>none,h, ?_⟩
 show rQ P acc (fun _=>none) fn=some (cZ P acc fn)
 unfold cZ
 cases hx:rQ P acc (fun _=>none) fn with
 |some a=>rfl
 |none=>rw [hx] at hc;cases hc
end Go.AI
namespace Go.AI
open Go Go.Proofs
set_option maxRecDepth 100000
def af9:aF:=⟨60,3,[.tmp 6],
 (.seq (rg [oq 3 (.box (tm 0)) [6],op 4 (.box (tm 1))] [2,3,4])
 (.seq (rg [oq 14 (.load true 10 (tm 3)) [19],op 15 (.load true 6 (tm 4)),op 13 (.call (.fn 22) [(tm 14),(tm 15),(tm 2)]),op 18 (.extract (tm 13) 0),op 19 (.extract (tm 13) 1),op 7 (.mv (tm 18)),op 8 (.mv (tm 19))] [2,3,4,7,8])
 (.seq (rg [oq 21 (.load true 10 (tm 3)) [26],op 22 (.load true 6 (tm 4)),op 20 (.call (.fn 44) [(tm 21),(tm 22),(tm 2)]),op 25 (.extract (tm 20) 0),op 26 (.extract (tm 20) 1),op 9 (.mv (tm 25)),op 10 (.mv (tm 26))] [2,3,4,7,8,9,10])
 (.seq (.seq (rg [oq 30 (ar .neq (tm 7) (tm 9)) [34],gf 31 30 (.mv (tm 8)) [],gf 32 30 (.mv (tm 10)) [],gf 33 30 (ar .neq (tm 31) (tm 32)) [],op 34 (.pick (tm 30) (.lit (.bool true)) (tm 33))] [2,3,4,34])
 (.cond (tm 34) (.seq (rg [op 6 (.mv (.lit (.bool false)))] [6])
 .ret)
 .skip))
 (.seq (rg [oq 36 (.load true 10 (tm 3)) [41],op 37 (.load true 6 (tm 4)),op 35 (.call (.fn 24) [(tm 36),(tm 37),(tm 2)]),op 40 (.extract (tm 35) 0),op 41 (.extract (tm 35) 1),op 11 (.mv (tm 40)),op 8 (.mv (tm 41))] [2,3,4,8,11])
 (.seq (rg [oq 43 (.load true 10 (tm 3)) [48],op 44 (.load true 6 (tm 4)),op 42 (.call (.fn 45) [(tm 43),(tm 44),(tm 2)]),op 47 (.extract (tm 42) 0),op 48 (.extract (tm 42) 1),op 12 (.mv (tm 47)),op 10 (.mv (tm 48))] [8,10,11,12])
 (.seq (rg [oq 52 (.call (.fn 25) [(tm 11),(tm 12)]) [59],gt 53 52 (.mv (tm 8)) [],gt 54 52 (.mv (tm 10)) [],gt 55 52 (ar .eql (tm 53) (tm 54)) [],op 57 (.pick (tm 52) (tm 55) (.lit (.bool false))),gt 58 57 (.call (.fn 16) []) [],op 6 (.pick (tm 57) (tm 58) (.lit (.bool false)))] [6])
 .ret)))))))⟩
theorem P7:Good Tryz.prog (9,af9):=mkK Z0 Tryz.func9 (by kernel_rfl)
noncomputable def P8:aF:=cZ Tryz.prog Z0 Tryz.f14
theorem Lc:Good Tryz.prog (14,P8):=mkC Z0 Tryz.func14 (by kernel_rfl)
noncomputable def P9:aF:=cZ Tryz.prog (fun t=>t==6) Tryz.f15
theorem Ld:Good Tryz.prog (15,P9):=mkC (fun t=>t==6) Tryz.func15 (by kernel_rfl)
noncomputable def Qa:aF:=cZ Tryz.prog Z0 Tryz.f16
theorem Le:Good Tryz.prog (16,Qa):=mkC Z0 Tryz.func16 (by kernel_rfl)
noncomputable def Qb:aF:=cZ Tryz.prog Z0 Tryz.f17
theorem Lf:Good Tryz.prog (17,Qb):=mkC Z0 Tryz.func17 (by kernel_rfl)
noncomputable def Qc:aF:=cZ Tryz.prog Z0 Tryz.f18
theorem Lh:Good Tryz.prog (18,Qc):=mkC Z0 Tryz.func18 (by kernel_rfl)
noncomputable def Qd:aF:=cZ Tryz.prog Z0 Tryz.f19
theorem Li:Good Tryz.prog (19,Qd):=mkC Z0 Tryz.func19 (by kernel_rfl)
noncomputable def Qe:aF:=cZ Tryz.prog Z0 Tryz.f20
theorem Lj:Good Tryz.prog (20,Qe):=mkC Z0 Tryz.func20 (by kernel_rfl)
def DV:aF:=⟨14,3,[.cell 6 false 1,.tmp 7],
 (.seq (rg [oq 3 (.box (tm 0)) [7],op 4 (.box (tm 1)),op 5 (.box (tm 2)),op 6 (.alloc [(.int .i64 0)])] [3,4,5,6])
 (.seq (rg [oq 8 (.mkFunc 68 [] [(tm 3),(tm 4),(tm 5),(tm 6)]) [9],op 7 (.call (.fn 54) [(tm 8)])] [6,7])
 (.seq (.seq (rg [oq 11 (ar .neq (tm 7) (zi 0)) [11]] [6,7,11])
 (.cond (tm 11) (.seq (rg [op 12 (.mv (tm 7)),on (.store 1 (tm 6) (zi 0)),op 7 (.mv (tm 12))] [6,7])
 .ret)
 .skip))
 (.seq (rg [ld 13 6,on (.store 1 (tm 6) (tm 13)),op 7 (.mv (zi 0))] [6,7])
 .ret))))⟩
theorem Ll:Good Tryz.prog (22,DV):=mkK Z0 Tryz.func22 (by kernel_rfl)
def zS:aF:=⟨25,2,[.tmp 4],
 (.seq (rg [oq 2 (.box (tm 0)) [4],op 3 (.box (tm 1))] [2,3])
 (.seq (rg [oq 6 (.load true 10 (tm 2)) [7],op 5 (.call (.fn 29) [(tm 6)])] [2,3,5])
 (.seq (.seq (rg [oq 9 (ar .eql (tm 5) (zi 0)) [9]] [2,3,5,9])
 (.cond (tm 9) (rg [oq 10 (.load true 6 (tm 3)) [11],op 5 (.call (.fn 71) [(tm 10)])] [2,3,5])
 .skip))
 (.seq (.seq (rg [oq 14 (ar .eql (tm 5) (zi 0)) [18],gt 15 14 (.load true 6 (tm 3)) [],gt 16 14 (.call (.fn 72) [(tm 15)]) [],gt 17 14 (.not (tm 16)) [],op 18 (.pick (tm 14) (tm 17) (.lit (.bool false)))] [2,3,5,18])
 (.cond (tm 18) (rg [op 5 (.mv (zi 1))] [2,3,5])
 .skip))
 (.seq (.seq (rg [oq 20 (ar .eql (tm 5) (zi 0)) [20]] [2,3,5,20])
 (.cond (tm 20) (rg [oq 21 (.load true 10 (tm 2)) [23],op 22 (.load true 6 (tm 3)),op 5 (.call (.fn 73) [(tm 21),(.lit .empty),(tm 22)])] [5])
 .skip))
 (.seq (rg [oq 4 (.mv (tm 5)) [24]] [4])
 .ret))))))⟩
theorem Lm:Good Tryz.prog (23,zS):=mkK Z0 Tryz.func23 (by kernel_rfl)
def BZ:aF:=⟨14,3,[.cell 6 false 1,.tmp 7],
 (.seq (rg [oq 3 (.box (tm 0)) [7],op 4 (.box (tm 1)),op 5 (.box (tm 2)),op 6 (.allocRow 7)] [3,4,5,6])
 (.seq (rg [oq 8 (.mkFunc 74 [] [(tm 3),(tm 4),(tm 5),(tm 6)]) [9],op 7 (.call (.fn 54) [(tm 8)])] [6,7])
 (.seq (.seq (rg [oq 11 (ar .neq (tm 7) (zi 0)) [11]] [6,7,11])
 (.cond (tm 11) (.seq (rg [op 12 (.mv (tm 7)),on (.store 1 (tm 6) (.lit .empty)),op 7 (.mv (tm 12))] [6,7])
 .ret)
 .skip))
 (.seq (rg [ld 13 6,on (.store 1 (tm 6) (tm 13)),op 7 (.mv (zi 0))] [6,7])
 .ret))))⟩
theorem Ln:Good Tryz.prog (24,BZ):=mkK (fun t=>t==6) Tryz.func24 (by kernel_rfl)
def yT:aK:=
 (.seq (.seq (rg [oq 14 (.len false (tm 0)) [18],op 16 (ar .lss (tm 6) (tm 14)),gt 17 16 (.mv (tm 5)) [],op 18 (.pick (tm 16) (tm 17) (.lit (.bool false)))] [0,1,5,6,18])
 (.cond (tm 18) .skip
 (.exit 0)))
 (.seq (.block 1 (dr [oq 21 (.mv (tm 0)) [0],oq 22 (.mv (tm 6)) [6],oq 23 (.aj 7 (tm 21) (tm 22)) [21,22],oq 24 (.load true 7 (tm 23)) [23],oq 25 (.mv (tm 1)) [1],oq 26 (.mv (tm 6)) [6],oq 27 (.aj 7 (tm 25) (tm 26)) [25,26],oq 28 (.load true 7 (tm 27)) [27],oq 29 (.call (.fn 51) [(tm 24),(tm 28)]) [24,28],oq 5 (.mv (tm 29)) [29]] [0,0,3,7,0,0,48,112,255,511] [0,1,5,6]))
 (rg [oq 19 (.mv (tm 6)) [20],op 6 (ar .add (tm 19) (zi 1))] [0,1,5,6])))
def Gy:aF:=⟨31,2,[.tmp 4],
 (.seq (rg [op 4 (.mv (tm 4))] [0,1])
 (.seq (rg [oq 8 (.len false (tm 0)) [11],op 10 (.len false (tm 1)),op 5 (ar .eql (tm 8) (tm 10))] [0,1,5])
 (.seq (.seq (rg [op 6 (.mv (zi 0))] [0,1,5,6])
 (.block 0 (.loop yT)))
 (.seq (rg [oq 4 (.mv (tm 5)) [30]] [4])
 .ret))))⟩
theorem Lo:Good Tryz.prog (25,Gy):=mkK Z0 Tryz.func25 (by kernel_rfl)
noncomputable def Qf:aF:=cZ Tryz.prog Z0 Tryz.f26
theorem Lp:Good Tryz.prog (26,Qf):=mkC Z0 Tryz.func26 (by kernel_rfl)
def zN:aF:=⟨20,1,[.tmp 2],
 (.seq (rg [oq 1 (.box (tm 0)) [2]] [1])
 (.seq (rg [oq 4 (.aB 0 (tm 1)) [10],ld 5 4,ao 6 1 1,ld 7 6,op 8 (.build [(.int .i64 0),(.int .i64 0),(.str []),(.str []),(.slice []),(.slice []),(.slice [])] [(0,1,(zi 3))]),op 9 (.build [(.slice []),(.slice []),(.slice []),(.int .i64 0),(.int .i64 0),(.str []),(.str []),(.slice []),(.slice []),(.slice [])] [(0,1,(tm 5)),(1,1,(tm 7)),(3,7,(tm 8))]),op 3 (.call (.fn 84) [(tm 9)])] [1,3])
 (.seq (.seq (rg [oq 12 (ar .eql (tm 3) (zi 0)) [12]] [1,3,12])
 (.cond (tm 12) (rg [oq 13 (.load true 10 (tm 1)) [14],op 3 (.call (.fn 85) [(tm 13)])] [1,3])
 .skip))
 (.seq (.seq (rg [oq 16 (ar .eql (tm 3) (zi 0)) [16]] [1,3,16])
 (.cond (tm 16) (rg [oq 17 (.load true 10 (tm 1)) [18],op 3 (.call (.fn 86) [(tm 17)])] [3])
 .skip))
 (.seq (rg [oq 2 (.mv (tm 3)) [19]] [2])
 .ret)))))⟩
theorem Lq:Good Tryz.prog (29,zN):=mkK (fun t=>t==8||t==9) Tryz.func29 (by kernel_rfl)
noncomputable def Qg:aF:=cZ Tryz.prog Z0 Tryz.f30
theorem Lr:Good Tryz.prog (30,Qg):=mkC Z0 Tryz.func30 (by kernel_rfl)
noncomputable def Qh:aF:=cZ Tryz.prog Z0 Tryz.f32
theorem Ls:Good Tryz.prog (32,Qh):=mkC Z0 Tryz.func32 (by kernel_rfl)
def D9:aF:=⟨16,2,[.tmp 4,.tmp 5],
 (.seq (rg [oq 2 (.box (tm 0)) [5],op 3 (.box (tm 1))] [2,3])
 (.seq (.seq (rg [oq 7 (.aB 1 (tm 2)) [10],ld 8 7,op 9 (.mkFunc 93 [] [(tm 3)]),op 6 (.call (.fn 92) [(tm 8),(tm 9)])] [3,6])
 (.seq (rg [oq 12 (ar .geq (tm 6) (zi 0)) [12]] [3,6,12])
 (.cond (tm 12) (.seq (rg [oq 4 (.mv (tm 6)) [13],op 5 (.mv (zi 0))] [4,5])
 .ret)
 .skip)))
 (.seq (.seq (rg [ld 14 3,op 15 (ar .eql (tm 14) (.lit (.str [73,79])))] [15])
 (.cond (tm 15) (.seq (rg [op 4 (.mv (zi (-1))),op 5 (.mv (zi 0))] [4,5])
 .ret)
 .skip))
 (.seq (rg [op 4 (.mv (zi 0)),op 5 (.mv (zi 6))] [4,5])
 .ret))))⟩
theorem Lt:Good Tryz.prog (34,D9):=mkK Z0 Tryz.func34 (by kernel_rfl)
def ya:aK:=
 (.seq (.seq (rg [oq 8 (.aB 1 (tm 2)) [11],ld 9 8,op 10 (.len false (tm 9)),op 11 (ar .lss (tm 6) (tm 10))] [1,2,6,11])
 (.cond (tm 11) .skip
 (.exit 0)))
 (.seq (.block 1 (.seq (rg [oq 14 (.aB 1 (tm 2)) [21],ld 15 14,op 17 (.aj 2 (tm 15) (tm 6)),ao 18 0 17,ld 19 18,op 21 (ar .eql (tm 19) (tm 1))] [1,2,6,21])
 (.cond (tm 21) (.seq (rg [oq 4 (.mv (tm 6)) [22],op 5 (.mv (zi 0))] [4,5])
 .ret)
 .skip)))
 (rg [oq 12 (.mv (tm 6)) [13],op 6 (ar .add (tm 12) (zi 1))] [1,2,6])))
def Ew:aF:=⟨25,2,[.tmp 4,.tmp 5],
 (.seq (rg [oq 2 (.box (tm 0)) [5]] [1,2])
 (.seq (.seq (rg [op 6 (.mv (zi 0))] [1,2,6])
 (.block 0 (.loop ya)))
 (.seq (.seq (rg [oq 24 (ar .eql (tm 1) (.lit (.str [73,79]))) [24]] [24])
 (.cond (tm 24) (.seq (rg [op 4 (.mv (zi (-1))),op 5 (.mv (zi 0))] [4,5])
 .ret)
 .skip))
 (.seq (rg [op 4 (.mv (zi 0)),op 5 (.mv (zi 6))] [4,5])
 .ret))))⟩
theorem Lu:Good Tryz.prog (35,Ew):=mkK Z0 Tryz.func35 (by kernel_rfl)
noncomputable def Qi:aF:=cZ Tryz.prog Z0 Tryz.f36
theorem Lv:Good Tryz.prog (36,Qi):=mkC Z0 Tryz.func36 (by kernel_rfl)
noncomputable def Qj:aF:=cZ Tryz.prog Z0 Tryz.f38
theorem Lw:Good Tryz.prog (38,Qj):=mkC Z0 Tryz.func38 (by kernel_rfl)
noncomputable def Qk:aF:=cZ Tryz.prog Z0 Tryz.f40
theorem Ly:Good Tryz.prog (40,Qk):=mkC Z0 Tryz.func40 (by kernel_rfl)
def yA:aK:=
 (.seq (.seq (rg [oq 20 (ar .leq (tm 10) (tm 2)) [20]] [2,3,4,9,10,20])
 (.cond (tm 20) .skip
 (.exit 0)))
 (.seq (.block 1 (rg [oq 23 (.mv (tm 9)) [29],op 24 (.load true 10 (tm 3)),op 25 (.load true 6 (tm 4)),op 26 (.build [(.int .i64 0),(.int .i64 0),(.str []),(.slice []),(.slice []),(.int .i64 0),(.slice []),(.slice [])] [(0,6,(tm 25))]),op 28 (.call (.fn 106) [(tm 24),(tm 26),(tm 10)]),op 9 (ar .add (tm 23) (tm 28))] [2,3,4,9,10]))
 (rg [oq 21 (.mv (tm 10)) [22],op 10 (ar .add (tm 21) (zi 1))] [2,3,4,9,10])))
def DX:aF:=⟨31,3,[.tmp 6,.tmp 7],
 (.seq (rg [oq 3 (.box (tm 0)) [7],op 4 (.box (tm 1))] [2,3,4])
 (.seq (rg [oq 11 (.load true 10 (tm 3)) [14],op 12 (.load true 6 (tm 4)),op 8 (.call (.fn 105) [(tm 11),(tm 12),(tm 2)])] [2,3,4,8])
 (.seq (.seq (rg [oq 16 (ar .neq (tm 8) (zi 0)) [16]] [2,3,4,8,16])
 (.cond (tm 16) (.seq (rg [oq 6 (.mv (zi 0)) [17],op 7 (.mv (tm 8))] [6,7])
 .ret)
 .skip))
 (.seq (rg [op 9 (.mv (zi 0))] [2,3,4,9])
 (.seq (.seq (rg [op 10 (.mv (zi 1))] [2,3,4,9,10])
 (.block 0 (.loop yA)))
 (.seq (rg [oq 6 (.mv (tm 9)) [30],op 7 (.mv (zi 0))] [6,7])
 .ret))))))⟩
theorem Lz:Good Tryz.prog (44,DX):=mkK (fun t=>t==26) Tryz.func44 (by kernel_rfl)
def yE:aK:=
 (.seq (.seq (rg [oq 30 (ar .leq (tm 11) (tm 2)) [30]] [2,3,4,10,11,30])
 (.cond (tm 30) .skip
 (.exit 0)))
 (.seq (.block 1 (rg [oq 33 (.mv (tm 10)) [39],op 34 (.load true 10 (tm 3)),op 35 (.load true 6 (tm 4)),op 36 (.build [(.int .i64 0),(.int .i64 0),(.str []),(.slice []),(.slice []),(.int .i64 0),(.slice []),(.slice [])] [(0,6,(tm 35))]),op 38 (.call (.fn 107) [(tm 34),(tm 36),(tm 11)]),op 10 (.append 7 120 (tm 33) (tm 38))] [2,3,4,10,11]))
 (rg [oq 31 (.mv (tm 11)) [32],op 11 (ar .add (tm 31) (zi 1))] [2,3,4,10,11])))
def Av:aF:=⟨41,3,[.tmp 6,.tmp 7],
 (.seq (rg [oq 3 (.box (tm 0)) [7],op 4 (.box (tm 1))] [2,3,4])
 (.seq (rg [oq 13 (.load true 10 (tm 3)) [18],op 14 (.load true 6 (tm 4)),op 12 (.call (.fn 44) [(tm 13),(tm 14),(tm 2)]),op 17 (.extract (tm 12) 0),op 18 (.extract (tm 12) 1),op 8 (.mv (tm 17)),op 9 (.mv (tm 18))] [2,3,4,8,9])
 (.seq (.seq (rg [oq 21 (ar .eql (tm 9) (zi 0)) [24],gt 22 21 (.mv (tm 8)) [],gt 23 21 (ar .gtr (tm 22) (zi 500)) [],op 24 (.pick (tm 21) (tm 23) (.lit (.bool false)))] [2,3,4,9,24])
 (.cond (tm 24) (rg [op 9 (.mv (zi 3))] [2,3,4,9])
 .skip))
 (.seq (.seq (rg [oq 26 (ar .neq (tm 9) (zi 0)) [26]] [2,3,4,9,26])
 (.cond (tm 26) (.seq (rg [oq 6 (.mv (.lit .empty)) [27],op 7 (.mv (tm 9))] [6,7])
 .ret)
 .skip))
 (.seq (rg [op 10 (.newrow 7)] [2,3,4,10])
 (.seq (.seq (rg [op 11 (.mv (zi 1))] [2,3,4,10,11])
 (.block 0 (.loop yE)))
 (.seq (rg [oq 6 (.mv (tm 10)) [40],op 7 (.mv (zi 0))] [6,7])
 .ret)))))))⟩
theorem LA:Good Tryz.prog (45,Av):=mkK (fun t=>t==10||t==36) Tryz.func45 (by kernel_rfl)
noncomputable def Ql:aF:=cZ Tryz.prog Z0 Tryz.f46
theorem LB:Good Tryz.prog (46,Ql):=mkC Z0 Tryz.func46 (by kernel_rfl)
noncomputable def Qm:aF:=cZ Tryz.prog Z0 Tryz.f47
theorem LC:Good Tryz.prog (47,Qm):=mkC Z0 Tryz.func47 (by kernel_rfl)
noncomputable def Qn:aF:=cZ Tryz.prog Z0 Tryz.f48
theorem LF:Good Tryz.prog (48,Qn):=mkC Z0 Tryz.func48 (by kernel_rfl)
noncomputable def Qo:aF:=cZ Tryz.prog Z0 Tryz.f49
theorem LG:Good Tryz.prog (49,Qo):=mkC Z0 Tryz.func49 (by kernel_rfl)
noncomputable def Qp:aF:=cZ Tryz.prog Z0 Tryz.f50
theorem LH:Good Tryz.prog (50,Qp):=mkC Z0 Tryz.func50 (by kernel_rfl)
def yS:aK:=
 (.seq (.seq (rg [oq 60 (.aB 5 (tm 2)) [63],ld 61 60,op 62 (.len false (tm 61)),op 63 (ar .lss (tm 5) (tm 62))] [2,3,5,63])
 (.cond (tm 63) .skip
 (.exit 0)))
 (.seq (.block 1 (.seq (dr [aq 66 5 2,lq 67 66,oq 68 (.mv (tm 5)) [5],oq 69 (.aj 7 (tm 67) (tm 68)) [67,68],oq 70 (.load true 7 (tm 69)) [69],aq 71 5 3,lq 72 71,oq 73 (.mv (tm 5)) [5],oq 74 (.aj 7 (tm 72) (tm 73)) [72,73],oq 75 (.load true 7 (tm 74)) [74],oq 76 (.call (.fn 51) [(tm 70),(tm 75)]) [70,75],oq 77 (.not (tm 76)) [76]] [0,1,0,7,15,0,32,0,224,480,1023,2047] [2,3,5,77])
 (.cond (tm 77) (.seq (rg [op 4 (.mv (.lit (.bool false)))] [4])
 .ret)
 .skip)))
 (rg [oq 64 (.mv (tm 5)) [65],op 5 (ar .add (tm 64) (zi 1))] [2,3,5])))
def B0:aK:=
 (.seq (.seq (rg [oq 79 (.aB 6 (tm 2)) [82],ld 80 79,op 81 (.len false (tm 80)),op 82 (ar .lss (tm 6) (tm 81))] [2,3,6,82])
 (.cond (tm 82) .skip
 (.exit 2)))
 (.seq (.block 3 (.seq (dr [aq 85 6 2,lq 86 85,oq 87 (.mv (tm 6)) [6],oq 88 (.aj 9 (tm 86) (tm 87)) [86,87],aq 89 0 88,lq 90 89,aq 91 6 3,lq 92 91,oq 93 (.mv (tm 6)) [6],oq 94 (.aj 9 (tm 92) (tm 93)) [92,93],aq 95 0 94,lq 96 95,oq 97 (ar .neq (tm 90) (tm 96)) [90,96],oq 98 (.mv (tm 97)) [97],gf 99 98 (.aB 6 (tm 2)) [2,98],gf 100 98 (l1 (tm 99)) [99,98],gf 101 98 (.mv (tm 6)) [6,98],gf 102 98 (.aj 9 (tm 100) (tm 101)) [100,101,98],gf 103 98 (.aB 1 (tm 102)) [102,98],gf 104 98 (l1 (tm 103)) [103,98],gf 105 98 (.aB 6 (tm 3)) [3,98],gf 106 98 (l1 (tm 105)) [105,98],gf 107 98 (.mv (tm 6)) [6,98],gf 108 98 (.aj 9 (tm 106) (tm 107)) [106,107,98],gf 109 98 (.aB 1 (tm 108)) [108,98],gf 110 98 (l1 (tm 109)) [109,98],gf 111 98 (.call (.fn 108) [(tm 104),(tm 110)]) [104,110,98],gf 112 98 (.not (tm 111)) [111,98],oq 113 (.pick (tm 98) (.lit (.bool true)) (tm 112)) [98,112],oq 114 (.mv (tm 113)) [113],gf 115 114 (.aB 6 (tm 2)) [2,114],gf 116 114 (l1 (tm 115)) [115,114],gf 117 114 (.mv (tm 6)) [6,114],gf 118 114 (.aj 9 (tm 116) (tm 117)) [116,117,114],gf 119 114 (.aB 2 (tm 118)) [118,114],gf 120 114 (.load true 7 (tm 119)) [119,114],gf 121 114 (.aB 6 (tm 3)) [3,114],gf 122 114 (l1 (tm 121)) [121,114],gf 123 114 (.mv (tm 6)) [6,114],gf 124 114 (.aj 9 (tm 122) (tm 123)) [122,123,114],gf 125 114 (.aB 2 (tm 124)) [124,114],gf 126 114 (.load true 7 (tm 125)) [125,114],gf 127 114 (.call (.fn 51) [(tm 120),(tm 126)]) [120,126,114],gf 128 114 (.not (tm 127)) [127,114],oq 129 (.pick (tm 114) (.lit (.bool true)) (tm 128)) [114,128]] [0,1,0,7,15,31,0,64,0,448,960,1984,4095,8191,16383,32767,16383,131071,262143,524287,16383,1064959,16383,7356415,15745023,32522239,67108863,134217727,268435455,536870911,1073741823,2147483647,1073741823,8589934591,17179869183,34359738367,1073741823,69793218559,1073741823,482110078975,1031865892863,2131377520639,4398046511103,8796093022207,17592186044415] [2,3,6,129])
 (.cond (tm 129) (.seq (rg [op 4 (.mv (.lit (.bool false)))] [4])
 .ret)
 .skip)))
 (rg [oq 83 (.mv (tm 6)) [84],op 6 (ar .add (tm 83) (zi 1))] [2,3,6])))
def Fe:aF:=⟨130,2,[.tmp 4],
 (.seq (rg [oq 2 (.box (tm 0)) [4],op 3 (.box (tm 1))] [2,3])
 (.seq (.seq (rg [oq 7 (.aB 0 (tm 2)) [58],ld 8 7,ao 9 0 3,ld 10 9,op 12 (ar .neq (tm 8) (tm 10)),gf 13 12 (.aB 1 (tm 2)) [],gf 14 12 (l1 (tm 13)) [],gf 15 12 (.aB 1 (tm 3)) [],gf 16 12 (l1 (tm 15)) [],gf 17 12 (ar .neq (tm 14) (tm 16)) [],op 19 (.pick (tm 12) (.lit (.bool true)) (tm 17)),gf 20 19 (.aB 2 (tm 2)) [],gf 21 19 (l1 (tm 20)) [],gf 22 19 (.aB 2 (tm 3)) [],gf 23 19 (l1 (tm 22)) [],gf 24 19 (ar .neq (tm 21) (tm 23)) [],op 26 (.pick (tm 19) (.lit (.bool true)) (tm 24)),gf 27 26 (.aB 3 (tm 2)) [],gf 28 26 (l1 (tm 27)) [],gf 29 26 (.aB 3 (tm 3)) [],gf 30 26 (l1 (tm 29)) [],gf 31 26 (ar .neq (tm 28) (tm 30)) [],op 33 (.pick (tm 26) (.lit (.bool true)) (tm 31)),gf 34 33 (.aB 4 (tm 2)) [],gf 35 33 (l1 (tm 34)) [],gf 36 33 (.aB 4 (tm 3)) [],gf 37 33 (l1 (tm 36)) [],gf 38 33 (.call (.fn 108) [(tm 35),(tm 37)]) [],gf 39 33 (.not (tm 38)) [],op 41 (.pick (tm 33) (.lit (.bool true)) (tm 39)),gf 42 41 (.aB 5 (tm 2)) [],gf 43 41 (l1 (tm 42)) [],gf 44 41 (.len false (tm 43)) [],gf 45 41 (.aB 5 (tm 3)) [],gf 46 41 (l1 (tm 45)) [],gf 47 41 (.len false (tm 46)) [],gf 48 41 (ar .neq (tm 44) (tm 47)) [],op 50 (.pick (tm 41) (.lit (.bool true)) (tm 48)),gf 51 50 (.aB 6 (tm 2)) [],gf 52 50 (l1 (tm 51)) [],gf 53 50 (.len false (tm 52)) [],gf 54 50 (.aB 6 (tm 3)) [],gf 55 50 (l1 (tm 54)) [],gf 56 50 (.len false (tm 55)) [],gf 57 50 (ar .neq (tm 53) (tm 56)) [],op 58 (.pick (tm 50) (.lit (.bool true)) (tm 57))] [2,3,58])
 (.cond (tm 58) (.seq (rg [op 4 (.mv (.lit (.bool false)))] [4])
 .ret)
 .skip))
 (.seq (.seq (rg [op 5 (.mv (zi 0))] [2,3,5])
 (.block 0 (.loop yS)))
 (.seq (.seq (rg [op 6 (.mv (zi 0))] [2,3,6])
 (.block 2 (.loop B0)))
 (.seq (rg [op 4 (.mv (.lit (.bool true)))] [4])
 .ret)))))⟩
theorem LI:Good Tryz.prog (51,Fe):=mkK Z0 Tryz.func51 (by kernel_rfl)
def qV:aK:=
 (.seq (.seq (rg [oq 10 (.aB 6 (tm 1)) [13],ld 11 10,op 12 (.len false (tm 11)),op 13 (ar .lss (tm 4) (tm 12))] [1,3,4,13])
 (.cond (tm 13) .skip
 (.exit 0)))
 (.seq (.block 1 (rg [oq 16 (.mv (tm 3)) [24],ao 17 6 1,ld 18 17,op 20 (.aj 9 (tm 18) (tm 4)),ao 21 2 20,op 22 (.load true 7 (tm 21)),op 23 (.buildSlice 7 1 z7a [(0,(tm 22))]),op 3 (.append 7 120 (tm 16) (tm 23))] [1,3,4]))
 (rg [oq 14 (.mv (tm 4)) [15],op 4 (ar .add (tm 14) (zi 1))] [1,3,4])))
def EB:aF:=⟨26,1,[.tmp 2],
 (.seq (rg [oq 1 (.box (tm 0)) [2]] [1])
 (.seq (rg [oq 5 (.buildRow 7 0 [(.int .i64 0),(.int .i64 0),(.str []),(.str []),.empty,.empty,.empty] []) [8],ao 6 5 1,ld 7 6,op 3 (.append 7 120 (tm 5) (tm 7))] [1,3])
 (.seq (.seq (rg [op 4 (.mv (zi 0))] [1,3,4])
 (.block 0 (.loop qV)))
 (.seq (rg [oq 2 (.mv (tm 3)) [25]] [2])
 .ret))))⟩
theorem LJ:Good Tryz.prog (52,EB):=mkK (fun t=>t==5) Tryz.func52 (by kernel_rfl)
noncomputable def Qq:aF:=cZ Tryz.prog Z0 Tryz.f53
theorem LK:Good Tryz.prog (53,Qq):=mkC Z0 Tryz.func53 (by kernel_rfl)
def oI:aK:=
 (.seq (rg [op 26 (ar .lss (tm 25) (tm 24))] [3,4,15,16,17,23,24,25,26])
 (.seq (.cond (tm 26) .skip
 (.exit 2))
 (.seq (.block 3 (.seq (rg [oq 28 (.aj 2 (tm 23) (tm 25)) [29],op 29 (.load true 2 (tm 28)),op 7 (.alloc z2a),op 6 (.mv (tm 25)),on (.store 2 (tm 7) (tm 29))] [3,4,6,7,15,16,17,23,24,25])
 (.seq (dr [oq 31 (.mv (tm 3)) [3],oq 32 (.nilCheck (tm 31)) [31],aq 33 10 32,lq 34 33,aq 35 0 7,lq 36 35,oq 37 (.lookup 2 (.agg z2) true (tm 34) (tm 36)) [34,36],oq 30 (.mv (tm 37)) [37],oq 38 (.extract (tm 30) 0) [30],oq 39 (.extract (tm 30) 1) [30],op 8 (.alloc z2),om (.store 2 (tm 8) (tm 38)) [8,38],oq 9 (.mv (tm 39)) [39]] [0,1,3,7,0,16,63,127,255,255,0,1535,4095] [3,4,6,7,9,15,16,17,23,24,25])
 (.seq (rg [oq 41 (.not (tm 9)) [41]] [3,4,6,7,15,16,17,23,24,25,41])
 (.cond (tm 41) (dr [oq 42 (.mv (tm 3)) [3],oq 43 (.nilCheck (tm 42)) [42],aq 44 10 43,lq 45 44,aq 46 0 7,lq 47 46,oq 48 (.mv (tm 4)) [4],oq 49 (.mv (tm 6)) [6],oq 50 (.build z2 [(0,1,(tm 48)),(1,1,(tm 49))]) [48,49],om (.mapUpdate 2 (tm 45) (tm 47) (tm 50)) [45,47,50]] [0,1,3,7,0,16,0,0,192,511] [3,4,15,16,17,23,24,25])
 .skip)))))
 (rg [oq 25 (ar .add (tm 25) (zi 1)) [51]] [3,4,15,16,17,23,24,25]))))
def vI:aK:=
 (.seq (rg [op 18 (ar .lss (tm 17) (tm 16))] [3,15,16,17,18])
 (.seq (.cond (tm 18) .skip
 (.exit 0))
 (.seq (.block 1 (.seq (rg [oq 20 (.aj 3 (tm 15) (tm 17)) [21],op 21 (.load true 3 (tm 20)),op 5 (.alloc z3),op 4 (.mv (tm 17)),on (.store 3 (tm 5) (tm 21))] [3,4,5,15,16,17])
 (.seq (rg [ao 22 2 5,ld 23 22,op 24 (.len false (tm 23)),op 25 (.mv (zi 0))] [3,4,15,16,17,23,24,25])
 (.block 2 (.loop oI)))))
 (rg [oq 17 (ar .add (tm 17) (zi 1)) [52]] [3,15,16,17]))))
def FD:aF:=⟨54,1,[.tmp 2],
 (.seq (rg [oq 1 (.box (tm 0)) [2]] [1])
 (.seq (rg [oq 10 (.load true 10 (tm 1)) [13],op 11 (.mkMap),op 12 (.build [.empty,.empty,.empty,(.int .i64 0),(.int .i64 0),(.str []),(.str []),.empty,.empty,.empty,.cH] [(0,10,(tm 10)),(10,1,(tm 11))]),op 3 (.box (tm 12))] [1,3])
 (.seq (.seq (rg [ao 14 0 1,ld 15 14,op 16 (.len false (tm 15)),op 17 (.mv (zi 0))] [3,15,16,17])
 (.block 0 (.loop vI)))
 (.seq (rg [oq 2 (.mv (tm 3)) [53]] [2])
 .ret))))⟩
theorem LM:Good Tryz.prog (55,FD):=mkK Z0 Tryz.func55 (by kernel_rfl)
def rL:aK:=
 (.seq (rg [op 62 (ar .lss (tm 61) (tm 60))] [0,2,3,4,6,37,38,39,48,49,50,59,60,61,62])
 (.seq (.cond (tm 62) .skip
 (.exit 4))
 (.seq (.block 5 (.seq (rg [op 63 (.aj 6 (tm 59) (tm 61)),op 64 (.load true 6 (tm 63)),op 10 (.alloc z6),on (.store 6 (tm 10) (tm 64))] [0,2,3,4,6,10,37,38,39,48,49,50,59,60,61])
 (rg [oq 66 (.load true 6 (tm 10)) [69],ao 67 1 6,ld 68 67,op 69 (.call (.fn 112) [(tm 0),(tm 66),(tm 68)])] [0,2,3,4,6,37,38,39,48,49,50,59,60,61])))
 (rg [oq 61 (ar .add (tm 61) (zi 1)) [70]] [0,2,3,4,6,37,38,39,48,49,50,59,60,61]))))
def oJ:aK:=
 (.seq (rg [op 51 (ar .lss (tm 50) (tm 49))] [0,2,3,4,6,37,38,39,48,49,50,51])
 (.seq (.cond (tm 51) .skip
 (.exit 2))
 (.seq (.block 3 (.seq (rg [op 52 (.aj 2 (tm 48) (tm 50)),op 53 (.load true 2 (tm 52)),op 8 (.alloc z2a),on (.store 2 (tm 8) (tm 53))] [0,2,3,4,6,8,37,38,39,48,49,50])
 (.seq (rg [oq 55 (.aB 0 (tm 8)) [57],ld 56 55,op 57 (.call (.val (tm 4)) [(tm 3),(tm 56)])] [0,2,3,4,6,8,37,38,39,48,49,50])
 (.seq (rg [ao 58 1 8,ld 59 58,op 60 (.len false (tm 59)),op 61 (.mv (zi 0))] [0,2,3,4,6,37,38,39,48,49,50,59,60,61])
 (.block 4 (.loop rL))))))
 (rg [oq 50 (ar .add (tm 50) (zi 1)) [71]] [0,2,3,4,6,37,38,39,48,49,50]))))
def oK:aK:=
 (.seq (rg [op 40 (ar .lss (tm 39) (tm 38))] [0,2,3,4,37,38,39,40])
 (.seq (.cond (tm 40) .skip
 (.exit 0))
 (.seq (.block 1 (.seq (rg [op 41 (.aj 3 (tm 37) (tm 39)),op 42 (.load true 3 (tm 41)),op 6 (.alloc z3),on (.store 3 (tm 6) (tm 42))] [0,2,3,4,6,37,38,39])
 (.seq (rg [oq 44 (.aB 0 (tm 6)) [46],ld 45 44,op 46 (.call (.val (tm 4)) [(tm 2),(tm 45)])] [0,2,3,4,6,37,38,39])
 (.seq (rg [ao 47 2 6,ld 48 47,op 49 (.len false (tm 48)),op 50 (.mv (zi 0))] [0,2,3,4,6,37,38,39,48,49,50])
 (.block 2 (.loop oJ))))))
 (rg [oq 39 (ar .add (tm 39) (zi 1)) [72]] [0,2,3,4,37,38,39]))))
def mo:aK:=
 (.seq (rg [op 93 (ar .lss (tm 92) (tm 91))] [0,4,11,12,79,80,81,90,91,92,93])
 (.seq (.cond (tm 93) .skip
 (.exit 8))
 (.seq (.block 9 (.seq (rg [op 94 (.aj 14 (tm 90) (tm 92)),op 95 (.load true 14 (tm 94)),op 16 (.alloc z14),on (.store 14 (tm 16) (tm 95))] [0,4,11,12,16,79,80,81,90,91,92])
 (.seq (rg [oq 97 (.aB 0 (tm 16)) [99],ld 98 97,op 99 (.call (.val (tm 4)) [(tm 12),(tm 98)])] [0,4,11,12,16,79,80,81,90,91,92])
 (.seq (rg [oq 101 (.aB 1 (tm 16)) [103],op 102 (.load true 6 (tm 101)),op 103 (.call (.fn 112) [(tm 0),(tm 102),(.lit .empty)])] [0,4,11,12,16,79,80,81,90,91,92])
 (rg [oq 105 (.aB 7 (tm 16)) [107],op 106 (.load true 6 (tm 105)),op 107 (.call (.fn 112) [(tm 0),(tm 106),(.lit .empty)])] [0,4,11,12,79,80,81,90,91,92])))))
 (rg [oq 92 (ar .add (tm 92) (zi 1)) [108]] [0,4,11,12,79,80,81,90,91,92]))))
def oL:aK:=
 (.seq (rg [op 82 (ar .lss (tm 81) (tm 80))] [0,4,11,12,79,80,81,82])
 (.seq (.cond (tm 82) .skip
 (.exit 6))
 (.seq (.block 7 (.seq (rg [op 83 (.aj 2 (tm 79) (tm 81)),op 84 (.load true 2 (tm 83)),op 14 (.alloc z2a),on (.store 2 (tm 14) (tm 84))] [0,4,11,12,14,79,80,81])
 (.seq (rg [oq 86 (.aB 0 (tm 14)) [88],ld 87 86,op 88 (.call (.val (tm 4)) [(tm 11),(tm 87)])] [0,4,11,12,14,79,80,81])
 (.seq (rg [ao 89 1 14,ld 90 89,op 91 (.len false (tm 90)),op 92 (.mv (zi 0))] [0,4,11,12,79,80,81,90,91,92])
 (.block 8 (.loop mo))))))
 (rg [oq 81 (ar .add (tm 81) (zi 1)) [109]] [0,4,11,12,79,80,81]))))
def A8:aF:=⟨110,1,[],
 (.seq (dr [oq 17 (.mv (tm 0)) [0],oq 18 (.nilCheck (tm 17)) [17],aq 19 0 18,aq 20 0 19,lq 21 20,oq 22 (.mv (tm 0)) [0],oq 23 (.nilCheck (tm 22)) [22],aq 24 0 23,aq 25 1 24,lq 26 25,op 27 (.build [(.int .i64 0),(.int .i64 0),(.str []),(.str []),(.slice []),(.slice []),(.slice [])] [(0,1,(zi 3))]),oq 28 (.build [(.slice []),(.slice []),(.slice []),(.int .i64 0),(.int .i64 0),(.str []),(.str []),(.slice []),(.slice []),(.slice [])] [(0,1,(tm 21)),(1,1,(tm 26)),(3,7,(tm 27))]) [21,26,27],oq 29 (.call (.fn 95) [(tm 28)]) [28],oq 30 (.call (.fn 59) [(tm 29)]) [29]] [0,1,3,7,15,0,32,96,224,480,0,2047,4095,8191] [0])
 (.seq (rg [op 31 (.buildRow 1 3 [(.str [])] [(0,(.lit (.str [73,110,116]))),(1,(.lit (.str [66,111,111,108]))),(2,(.lit (.str [85,110,105,116])))]),op 32 (.buildRow 1 0 [(.str [])] []),op 2 (.alloc [.empty]),op 3 (.alloc [.empty]),on (.store 1 (tm 2) (tm 31)),on (.store 1 (tm 3) (tm 32))] [0,2,3])
 (.seq (rg [op 4 (.mv (.lit (.func 110 [] [])))] [0,2,3,4])
 (.seq (.seq (rg [oq 34 (.nilCheck (tm 0)) [39],ao 35 0 34,ao 36 0 35,ld 37 36,op 38 (.len false (tm 37)),op 39 (.mv (zi 0))] [0,2,3,4,37,38,39])
 (.block 0 (.loop oK)))
 (.seq (rg [op 73 (.buildRow 1 1 [(.str [])] [(0,(.lit (.str [73,79])))]),op 74 (.buildRow 1 2 [(.str [])] [(0,(.lit (.str [112,114,105,110,116]))),(1,(.lit (.str [114,101,97,100])))]),op 11 (.alloc [.empty]),op 12 (.alloc [.empty]),on (.store 1 (tm 11) (tm 73)),on (.store 1 (tm 12) (tm 74))] [0,4,11,12])
 (.seq (rg [oq 76 (.nilCheck (tm 0)) [81],ao 77 0 76,ao 78 1 77,ld 79 78,op 80 (.len false (tm 79)),op 81 (.mv (zi 0))] [0,4,11,12,79,80,81])
 (.block 6 (.loop oL))))))))⟩
theorem LN:Good Tryz.prog (56,A8):=mkK (fun t=>t==27||t==28||t==31||t==32||t==73||t==74) Tryz.func56 (by kernel_rfl)
noncomputable def Qr:aF:=cZ Tryz.prog Z0 Tryz.f57
theorem LO:Good Tryz.prog (57,Qr):=mkC Z0 Tryz.func57 (by kernel_rfl)
def GO:aF:=⟨5,1,[],
 (rg [oq 3 (.build [(.int .i64 0)] [(0,1,(tm 0))]) [4],op 4 (.mkIface 154 (tm 3)),on (.panic (tm 4))] [])⟩
theorem LP:Good Tryz.prog (58,GO):=mkK Z0 Tryz.func58 (by kernel_rfl)
def FE:aF:=⟨6,1,[],
 (.seq (rg [oq 3 (ar .neq (tm 0) (zi 0)) [3]] [0,3])
 (.cond (tm 3) (rg [oq 5 (.call (.fn 58) [(tm 0)]) [5]] [])
 .skip))⟩
theorem LQ:Good Tryz.prog (59,FE):=mkK Z0 Tryz.func59 (by kernel_rfl)
def Ea:aF:=⟨10,1,[.tmp 2],
 (.seq (rg [oq 1 (.box (tm 0)) [2]] [1])
 (.seq (rg [op 4 (.build z2 [(0,1,(zi 3000))]),op 3 (.alloc z2),on (.store 2 (tm 3) (tm 4))] [1,3])
 (.seq (.seq (rg [op 5 (.load true 6 (tm 1)),op 6 (.call (.fn 113) [(tm 3),(tm 5),(zi 1)]),op 7 (.not (tm 6))] [1,7])
 (.cond (tm 7) (.seq (rg [op 2 (.mv (zi 3))] [2])
 .ret)
 .skip))
 (.seq (rg [oq 8 (.load true 6 (tm 1)) [9],op 2 (.call (.fn 114) [(tm 8)])] [2])
 .ret))))⟩
theorem LR:Good Tryz.prog (60,Ea):=mkK Z0 Tryz.func60 (by kernel_rfl)
noncomputable def Qs:aF:=cZ Tryz.prog Z0 Tryz.f61
theorem LS:Good Tryz.prog (61,Qs):=mkC Z0 Tryz.func61 (by kernel_rfl)
noncomputable def Qt:aF:=cZ Tryz.prog Z0 Tryz.f62
theorem LU:Good Tryz.prog (62,Qt):=mkC Z0 Tryz.func62 (by kernel_rfl)
noncomputable def Qu:aF:=cZ Tryz.prog Z0 Tryz.f63
theorem LV:Good Tryz.prog (63,Qu):=mkC Z0 Tryz.func63 (by kernel_rfl)
noncomputable def Qv:aF:=cZ Tryz.prog Z0 Tryz.f64
theorem LW:Good Tryz.prog (64,Qv):=mkC Z0 Tryz.func64 (by kernel_rfl)
def zR:aF:=⟨16,2,[],
 (.seq (rg [op 3 (.box (tm 1))] [0,3])
 (.seq (rg [oq 5 (.call (.fn 56) [(tm 0)]) [5]] [0,3])
 (.seq (rg [op 6 (.load true 6 (tm 3)),op 7 (.call (.fn 60) [(tm 6)]),op 8 (.call (.fn 59) [(tm 7)])] [0,3])
 (.seq (.seq (rg [op 9 (.load true 6 (tm 3)),op 10 (.call (.fn 116) [(tm 9)]),op 11 (.not (tm 10))] [0,3,11])
 (.cond (tm 11) (rg [op 12 (.call (.fn 58) [(zi 1)])] [0,3])
 .skip))
 (rg [oq 14 (.load true 6 (tm 3)) [15],op 15 (.call (.fn 112) [(tm 0),(tm 14),(.lit .empty)])] [])))))⟩
theorem LX:Good Tryz.prog (65,zR):=mkK Z0 Tryz.func65 (by kernel_rfl)
noncomputable def Qw:aF:=cZ Tryz.prog Z0 Tryz.f66
theorem LY:Good Tryz.prog (66,Qw):=mkC Z0 Tryz.func66 (by kernel_rfl)
noncomputable def Qx:aF:=cZ Tryz.prog Z0 Tryz.f67
theorem LZ:Good Tryz.prog (67,Qx):=mkC Z0 Tryz.func67 (by kernel_rfl)
def DU:aF:=⟨11,4,[],
 (dr [oq 4 (.load true 10 (tm 0)) [0],oq 5 (.load true 6 (tm 1)) [1],lq 6 2,oq 7 (.call (.fn 69) [(tm 4),(tm 5),(tm 6)]) [4,5,6],oq 8 (.load true 6 (tm 1)) [1],lq 9 2,oq 10 (.call (.fn 70) [(tm 7),(tm 8),(tm 9)]) [7,8,9],om (.store 1 (tm 3) (tm 10)) [3,10]] [0,0,0,7,0,0,63,127] [])⟩
theorem L4:Good Tryz.prog (68,DU):=mkK Z0 Tryz.func68 (by kernel_rfl)
def Am:aF:=⟨27,3,[.tmp 6],
 (.seq (rg [oq 3 (.box (tm 0)) [6],op 4 (.box (tm 1))] [2,3,4])
 (.seq (rg [oq 8 (.load true 10 (tm 3)) [9],op 7 (.call (.fn 55) [(tm 8)])] [2,4,7])
 (.seq (rg [oq 11 (.load true 6 (tm 4)) [12],op 12 (.call (.fn 65) [(tm 7),(tm 11)])] [2,4,7])
 (.seq (.seq (rg [oq 15 (ar .lss (tm 2) (zi 0)) [18],gf 16 15 (.mv (tm 2)) [],gf 17 15 (ar .gtr (tm 16) (zi 7)) [],op 18 (.pick (tm 15) (.lit (.bool true)) (tm 17))] [4,7,18])
 (.cond (tm 18) (rg [op 19 (.call (.fn 58) [(zi 1)])] [4,7])
 .skip))
 (.seq (.seq (rg [oq 21 (.load true 6 (tm 4)) [24],op 22 (.build [(.int .i64 0),(.int .i64 0),(.int .i64 0),(.int .i64 0),(.int .i64 0),(.int .i64 0),(.int .i64 0),(.int .i64 0),(.int .i64 0),(.int .i64 0),(.int .i64 0),(.int .i64 0)] []),op 23 (.box (tm 22)),op 24 (.call (.fn 118) [(tm 7),(tm 21),(tm 23)])] [7,24])
 (.cond (tm 24) (rg [op 25 (.call (.fn 58) [(zi 8)])] [7])
 .skip))
 (.seq (rg [oq 6 (.mv (tm 7)) [26]] [6])
 .ret))))))⟩
theorem L5:Good Tryz.prog (69,Am):=mkK Z0 Tryz.func69 (by kernel_rfl)
def yw:aK:=
 (.seq (rg [op 12 (ar .lss (tm 11) (tm 10))] [0,4,7,10,11,12])
 (.seq (.cond (tm 12) .skip
 (.exit 0))
 (.seq (.block 1 (.seq (rg [oq 8 (.mv (tm 11)) [13]] [0,4,7,8,10,11])
 (rg [oq 14 (.mv (tm 7)) [20],op 16 (.load true 6 (tm 4)),op 17 (.build [(.int .i64 0),(.int .i64 0),(.str []),.empty,.empty,(.int .i64 0),.bL] [(0,6,(tm 16))]),op 19 (.call (.fn 119) [(tm 0),(tm 17),(tm 8)]),op 7 (ar .add (tm 14) (tm 19))] [0,4,7,10,11])))
 (rg [oq 11 (ar .add (tm 11) (zi 1)) [21]] [0,4,7,10,11]))))
def EL:aF:=⟨23,3,[.tmp 6],
 (.seq (rg [oq 4 (.box (tm 1)) [6]] [0,2,4])
 (.seq (rg [op 7 (.mv (zi 0))] [0,2,4,7])
 (.seq (.seq (rg [oq 10 (ar .add (tm 2) (zi 1)) [11],op 11 (.mv (zi 0))] [0,4,7,10,11])
 (.block 0 (.loop yw)))
 (.seq (rg [oq 6 (.mv (tm 7)) [22]] [6])
 .ret))))⟩
theorem L6:Good Tryz.prog (70,EL):=mkK Z0 Tryz.func70 (by kernel_rfl)
def DK:aF:=⟨8,1,[.tmp 2],
 (.seq (rg [oq 1 (.box (tm 0)) [2]] [1])
 (.seq (.seq (rg [op 3 (.load true 6 (tm 1)),op 4 (.call (.fn 120) [(tm 3),(zi 3000),(zi 200)]),op 5 (ar .lss (tm 4) (zi 0))] [1,5])
 (.cond (tm 5) (.seq (rg [op 2 (.mv (zi 3))] [2])
 .ret)
 .skip))
 (.seq (rg [oq 6 (.load true 6 (tm 1)) [7],op 2 (.call (.fn 121) [(tm 6)])] [2])
 .ret)))⟩
theorem L7:Good Tryz.prog (71,DK):=mkK Z0 Tryz.func71 (by kernel_rfl)
def yg:aK:=
 (.seq (.seq (rg [oq 21 (.aB 4 (tm 1)) [25],ao 22 0 21,ld 23 22,op 24 (.len false (tm 23)),op 25 (ar .lss (tm 4) (tm 24))] [1,3,4,25])
 (.cond (tm 25) .skip
 (.exit 0)))
 (.seq (.block 1 (rg [oq 29 (.mv (tm 3)) [38],gt 30 29 (.aB 4 (tm 1)) [],gt 31 29 (.aB 0 (tm 30)) [],gt 32 29 (l1 (tm 31)) [],gt 33 29 (.mv (tm 4)) [],gt 34 29 (.aj 2 (tm 32) (tm 33)) [],gt 35 29 (.aB 1 (tm 34)) [],gt 36 29 (l1 (tm 35)) [],gt 37 29 (ar .eql (tm 36) (zi 0)) [],op 3 (.pick (tm 29) (tm 37) (.lit (.bool false)))] [1,3,4]))
 (rg [oq 26 (.mv (tm 4)) [27],op 4 (ar .add (tm 26) (zi 1))] [1,3,4])))
def q4:aK:=
 (.seq (.seq (rg [oq 40 (.aB 3 (tm 1)) [46],ld 41 40,op 42 (.len false (tm 41)),op 44 (ar .lss (tm 5) (tm 42)),gt 45 44 (.mv (tm 3)) [],op 46 (.pick (tm 44) (tm 45) (.lit (.bool false)))] [1,3,5,46])
 (.cond (tm 46) .skip
 (.exit 2)))
 (.seq (.block 3 (rg [oq 49 (.aB 3 (tm 1)) [54],ld 50 49,op 52 (.aj 6 (tm 50) (tm 5)),op 53 (.load true 6 (tm 52)),op 3 (.call (.fn 72) [(tm 53)])] [1,3,5]))
 (rg [oq 47 (.mv (tm 5)) [48],op 5 (ar .add (tm 47) (zi 1))] [1,3,5])))
def yh:aF:=⟨56,1,[.tmp 2],
 (.seq (rg [oq 1 (.box (tm 0)) [2]] [1])
 (.seq (rg [oq 6 (.aB 0 (tm 1)) [19],ld 7 6,op 9 (ar .neq (tm 7) (zi 0)),gt 10 9 (.aB 0 (tm 1)) [],gt 11 9 (l1 (tm 10)) [],gt 12 9 (ar .neq (tm 11) (zi 5)) [],gt 13 9 (.mv (tm 12)) [],gf 14 13 (.aB 4 (tm 1)) [],gf 15 13 (.aB 1 (tm 14)) [],gf 16 13 (l1 (tm 15)) [],gf 17 13 (ar .eql (tm 16) (zi (-1))) [],gt 18 9 (.pick (tm 13) (.lit (.bool true)) (tm 17)) [],op 3 (.pick (tm 9) (tm 18) (.lit (.bool false)))] [1,3])
 (.seq (.seq (rg [op 4 (.mv (zi 0))] [1,3,4])
 (.block 0 (.loop yg)))
 (.seq (.seq (rg [op 5 (.mv (zi 0))] [1,3,5])
 (.block 2 (.loop q4)))
 (.seq (rg [oq 2 (.mv (tm 3)) [55]] [2])
 .ret)))))⟩
theorem L8:Good Tryz.prog (72,yh):=mkK Z0 Tryz.func72 (by kernel_rfl)
def qN:aK:=
 (.seq (.seq (rg [oq 44 (.aB 4 (tm 5)) [48],ao 45 0 44,ld 46 45,op 47 (.len false (tm 46)),op 48 (ar .lss (tm 8) (tm 47))] [1,3,5,8,48])
 (.cond (tm 48) .skip
 (.exit 0)))
 (.seq (.block 1 (.seq (dr [oq 52 (.load true 10 (tm 3)) [3],aq 53 4 5,aq 54 0 53,lq 55 54,oq 56 (.mv (tm 8)) [8],oq 57 (.aj 2 (tm 55) (tm 56)) [55,56],aq 58 0 57,lq 59 58,oq 60 (.call (.fn 35) [(tm 52),(tm 59)]) [52,59],oq 51 (.mv (tm 60)) [60],oq 61 (.extract (tm 51) 0) [51],oq 62 (.extract (tm 51) 1) [51],oq 9 (.mv (tm 61)) [61],oq 10 (.mv (tm 62)) [62]] [0,0,2,6,0,30,62,126,255,511,1023,1023,2047,8191] [1,3,5,8,10])
 (.seq (rg [oq 64 (ar .neq (tm 10) (zi 0)) [64]] [1,3,5,8,10,64])
 (.cond (tm 64) (.seq (rg [oq 6 (.mv (tm 10)) [65]] [6])
 .ret)
 .skip))))
 (rg [oq 49 (.mv (tm 8)) [50],op 8 (ar .add (tm 49) (zi 1))] [1,3,5,8])))
def qO:aK:=
 (.seq (.seq (rg [oq 67 (.aB 3 (tm 5)) [70],ld 68 67,op 69 (.len false (tm 68)),op 70 (ar .lss (tm 11) (tm 69))] [1,3,5,11,70])
 (.cond (tm 70) .skip
 (.exit 2)))
 (.seq (.block 3 (.seq (dr [oq 73 (.load true 10 (tm 3)) [3],oq 74 (.mv (tm 1)) [1],aq 75 3 5,lq 76 75,oq 77 (.mv (tm 11)) [11],oq 78 (.aj 6 (tm 76) (tm 77)) [76,77],oq 79 (.load true 6 (tm 78)) [78],oq 80 (.call (.fn 73) [(tm 73),(tm 74),(tm 79)]) [73,74,79],oq 12 (.mv (tm 80)) [80]] [0,0,0,4,0,28,60,127,255] [1,3,5,11,12])
 (.seq (rg [oq 82 (ar .neq (tm 12) (zi 0)) [82]] [1,3,5,11,12,82])
 (.cond (tm 82) (.seq (rg [oq 6 (.mv (tm 12)) [83]] [6])
 .ret)
 .skip))))
 (rg [oq 71 (.mv (tm 11)) [72],op 11 (ar .add (tm 71) (zi 1))] [1,3,5,11])))
def lG:aF:=⟨84,3,[.tmp 6],
 (.seq (rg [oq 3 (.box (tm 0)) [6],op 5 (.box (tm 2))] [1,3,5])
 (.seq (.seq (rg [oq 13 (.aB 0 (tm 5)) [22],ld 14 13,op 16 (ar .eql (tm 14) (zi 1)),gt 17 16 (.mv (tm 1)) [],gt 18 16 (.aB 2 (tm 5)) [],gt 19 16 (l1 (tm 18)) [],gt 20 16 (.call (.fn 122) [(tm 17),(tm 19)]) [],gt 21 16 (.not (tm 20)) [],op 22 (.pick (tm 16) (tm 21) (.lit (.bool false)))] [1,3,5,22])
 (.cond (tm 22) (.seq (rg [op 6 (.mv (zi 6))] [6])
 .ret)
 .skip))
 (.seq (.seq (rg [ao 23 0 5,ld 24 23,op 25 (ar .eql (tm 24) (zi 6))] [1,3,5,25])
 (.cond (tm 25) (.seq (rg [oq 26 (.load true 10 (tm 3)) [29],ao 27 2 5,ld 28 27,op 7 (.call (.fn 123) [(tm 26),(tm 28)])] [1,3,5,7])
 (.seq (.seq (rg [oq 31 (ar .lss (tm 7) (zi 0)) [31]] [1,3,5,7,31])
 (.cond (tm 31) (.seq (rg [op 6 (.mv (zi 6))] [6])
 .ret)
 .skip))
 (.seq (dr [aq 32 3 5,lq 33 32,oq 34 (.len false (tm 33)) [33],aq 35 0 3,lq 36 35,oq 37 (.mv (tm 7)) [7],oq 38 (.aj 3 (tm 36) (tm 37)) [36,37],aq 39 1 38,lq 40 39,oq 41 (.len false (tm 40)) [40],oq 42 (ar .neq (tm 34) (tm 41)) [34,41]] [0,1,3,0,8,0,56,120,248,504,1023] [1,3,5,42])
 (.cond (tm 42) (.seq (rg [op 6 (.mv (zi 7))] [6])
 .ret)
 .skip))))
 .skip))
 (.seq (.seq (rg [op 8 (.mv (zi 0))] [1,3,5,8])
 (.block 0 (.loop qN)))
 (.seq (.seq (rg [op 11 (.mv (zi 0))] [1,3,5,11])
 (.block 2 (.loop qO)))
 (.seq (rg [op 6 (.mv (zi 0))] [6])
 .ret))))))⟩
theorem L9:Good Tryz.prog (73,lG):=mkK Z0 Tryz.func73 (by kernel_rfl)
def yO:aK:=
 (.seq (rg [op 36 (ar .lss (tm 35) (tm 34))] [1,3,4,20,21,33,34,35,36])
 (.seq (.cond (tm 36) .skip
 (.exit 2))
 (.seq (.block 3 (.seq (rg [op 37 (.aj 7 (tm 33) (tm 35)),op 38 (.load true 7 (tm 37)),op 8 (.alloc z7a),on (.store 7 (tm 8) (tm 38))] [1,3,4,8,20,21,33,34,35])
 (dr [lq 39 3,oq 40 (.load true 7 (tm 8)) [8],oq 41 (.call (.fn 78) [(tm 40)]) [40],oq 42 (.len false (tm 39)) [39],op 43 (.buildSlice 7 1 z7a [(0,(.lit (.agg z7a)))]),oq 44 (.append 7 120 (tm 39) (tm 43)) [39,43],oq 45 (.aj 7 (tm 44) (tm 42)) [44,42],om (.store 7 (tm 45) (tm 41)) [45,41],om (.store 1 (tm 3) (tm 44)) [3,44]] [0,0,2,1,0,31,63,127,63] [1,3,4,20,21,33,34,35])))
 (rg [oq 35 (ar .add (tm 35) (zi 1)) [46]] [1,3,4,20,21,33,34,35]))))
def yQ:aK:=
 (.seq (rg [op 22 (ar .lss (tm 21) (tm 20))] [1,3,4,20,21,22])
 (.seq (.cond (tm 22) .skip
 (.exit 0))
 (.seq (.block 1 (.seq (rg [oq 5 (.mv (tm 21)) [23]] [1,3,4,5,20,21])
 (.seq (rg [oq 25 (.load true 6 (tm 1)) [28],op 26 (.build [(.int .i64 0),(.int .i64 0),(.str []),.empty,.empty,(.int .i64 0),.bL] [(0,6,(tm 25))]),op 6 (.call (.fn 75) [(tm 4),(tm 26),(tm 5)])] [1,3,4,6,20,21])
 (.seq (rg [oq 31 (.mkFunc 77 [(tm 4)] []) [32],op 32 (.call (.fn 76) [(tm 6),(tm 31)])] [1,3,4,6,20,21])
 (.seq (rg [op 33 (.mv (tm 6)),op 34 (.len false (tm 33)),op 35 (.mv (zi 0))] [1,3,4,20,21,33,34,35])
 (.block 2 (.loop yO)))))))
 (rg [oq 21 (ar .add (tm 21) (zi 1)) [47]] [1,3,4,20,21]))))
def BY:aF:=⟨48,4,[],
 (.seq (rg [oq 9 (.load true 10 (tm 0)) [12],op 10 (.load true 6 (tm 1)),ld 11 2,op 4 (.call (.fn 69) [(tm 9),(tm 10),(tm 11)])] [1,2,3,4])
 (.seq (.seq (rg [oq 14 (.load true 6 (tm 1)) [17],ld 15 2,op 16 (.call (.fn 70) [(tm 4),(tm 14),(tm 15)]),op 17 (ar .gtr (tm 16) (zi 500))] [1,2,3,4,17])
 (.cond (tm 17) (rg [op 18 (.call (.fn 58) [(zi 3)])] [1,2,3,4])
 .skip))
 (.seq (rg [ld 19 2,op 20 (ar .add (tm 19) (zi 1)),op 21 (.mv (zi 0))] [1,3,4,20,21])
 (.block 0 (.loop yQ)))))⟩
theorem Ma:Good Tryz.prog (74,BY):=mkK Z0 Tryz.func74 (by kernel_rfl)
def uX:aK:=
 (.seq (rg [op 35 (ar .lss (tm 34) (tm 33))] [6,7,33,34,35])
 (.seq (.cond (tm 35) .skip
 (.exit 1))
 (.seq (.block 2 (.seq (rg [oq 8 (.mv (tm 34)) [36]] [6,7,8,33,34])
 (rg [oq 37 (.mv (tm 6)) [42],op 40 (.build [(.int .i64 0),(.int .i64 0),(.str []),(.str []),(.slice []),(.slice []),(.slice [])] [(0,1,(tm 7)),(1,1,(tm 8))]),op 41 (.buildSlice 7 1 z7a [(0,(tm 40))]),op 6 (.append 7 120 (tm 37) (tm 41))] [6,7,33,34])))
 (rg [oq 34 (ar .add (tm 34) (zi 1)) [43]] [6,7,33,34]))))
def yG:aK:=
 (.seq (rg [op 66 (ar .lss (tm 65) (tm 64))] [0,2,6,10,12,51,52,53,63,64,65,66])
 (.seq (.cond (tm 66) .skip
 (.exit 5))
 (.seq (.block 6 (.seq (rg [oq 67 (.aj 1 (tm 63) (tm 65)) [68],ld 14 67] [0,2,6,10,12,14,51,52,53,63,64,65])
 (rg [oq 69 (.mv (tm 6)) [75],ao 70 0 12,ld 71 70,op 73 (.build [(.int .i64 0),(.int .i64 0),(.str []),(.str []),(.slice []),(.slice []),(.slice [])] [(0,1,(zi 10)),(2,1,(tm 71)),(5,1,(tm 14))]),op 74 (.buildSlice 7 1 z7a [(0,(tm 73))]),op 6 (.append 7 120 (tm 69) (tm 74))] [0,2,6,10,12,51,52,53,63,64,65])))
 (rg [oq 65 (ar .add (tm 65) (zi 1)) [76]] [0,2,6,10,12,51,52,53,63,64,65]))))
def uV:aK:=
 (.seq (rg [op 54 (ar .lss (tm 53) (tm 52))] [0,2,6,10,51,52,53,54])
 (.seq (.cond (tm 54) .skip
 (.exit 3))
 (.seq (.block 4 (.seq (rg [op 55 (.aj 2 (tm 51) (tm 53)),op 56 (.load true 2 (tm 55)),op 12 (.alloc z2a),on (.store 2 (tm 12) (tm 56))] [0,2,6,10,12,51,52,53])
 (.seq (rg [oq 58 (.aB 1 (tm 12)) [65],ld 59 58,op 62 (ar .sub (tm 2) (zi 1)),op 63 (.call (.fn 126) [(tm 0),(tm 59),(tm 10),(tm 62)]),op 64 (.len false (tm 63)),op 65 (.mv (zi 0))] [0,2,6,10,12,51,52,53,63,64,65])
 (.block 5 (.loop yG)))))
 (rg [oq 53 (ar .add (tm 53) (zi 1)) [77]] [0,2,6,10,51,52,53]))))
def wu:aF:=⟨79,3,[.tmp 6],
 (.seq (rg [op 4 (.box (tm 1)),op 6 (.newrow 7)] [0,2,4,6])
 (.seq (rg [op 15 (.load true 7 (tm 4)),op 16 (.call (.fn 124) [(tm 15)]),on (.store 7 (tm 4) (tm 16))] [0,2,4,6])
 (.seq (.seq (rg [ao 17 0 4,ao 18 0 17,ld 19 18] [0,2,4,6,19])
 (.block 0 (.seq (.seq (rg [oq 20 (ar .eql (tm 19) (zi 2)) [21]] [0,2,4,6,19,20])
 (.cond (tm 20) .skip
 (.seq (rg [oq 20 (ar .eql (tm 19) (zi 3)) [22]] [0,2,4,6,19,20])
 (.cond (tm 20) .skip
 (rg [oq 20 (ar .eql (tm 19) (zi 4)) [23]] [0,2,4,6,20])))))
 (.cond (tm 20) (.seq (rg [oq 24 (.mkMap) [29],on (.mapUpdate 1 (tm 24) (zi 2) (zi 1)),on (.mapUpdate 1 (tm 24) (zi 3) (zi 2)),on (.mapUpdate 1 (tm 24) (zi 4) (zi 3)),ao 26 0 4,ao 27 0 26,ld 28 27,op 7 (.lookup 1 (.int .i64 0) false (tm 24) (tm 28))] [0,2,4,6,7])
 (.seq (.seq (rg [oq 31 (.load true 7 (tm 4)) [34],op 33 (.call (.fn 119) [(tm 0),(tm 31),(tm 2)]),op 34 (.mv (zi 0))] [6,7,33,34])
 (.block 1 (.loop uX)))
 (.seq (rg [oq 6 (.mv (tm 6)) [44]] [6])
 .ret)))
 .skip))))
 (.seq (rg [oq 47 (.load true 7 (tm 4)) [50],op 45 (.call (.fn 125) [(tm 0),(tm 47)]),op 49 (.extract (tm 45) 0),op 50 (.extract (tm 45) 1),op 9 (.mv (tm 49)),op 10 (.mv (tm 50))] [0,2,6,9,10])
 (.seq (.seq (rg [op 51 (.mv (tm 9)),op 52 (.len false (tm 51)),op 53 (.mv (zi 0))] [0,2,6,10,51,52,53])
 (.block 3 (.loop uV)))
 (.seq (rg [oq 6 (.mv (tm 6)) [78]] [6])
 .ret))))))⟩
theorem Mb:Good Tryz.prog (75,wu):=mkK (fun t=>t==6||t==40||t==73) Tryz.func75 (by kernel_rfl)
def Gt:aF:=⟨9,2,[],
 (rg [oq 6 (.len false (tm 0)) [8],op 8 (.call (.fn 127) [(tm 0),(tm 6),(tm 1)])] [])⟩
theorem Mc:Good Tryz.prog (76,Gt):=mkK Z0 Tryz.func76 (by kernel_rfl)
def u0:aK:=
 (.seq (rg [op 55 (ar .lss (tm 54) (tm 53))] [0,4,5,53,54,55])
 (.seq (.cond (tm 55) .skip
 (.exit 0))
 (.seq (.block 1 (.seq (rg [oq 8 (.mv (tm 54)) [56]] [0,4,5,8,53,54])
 (.seq (dr [oq 57 (.mv (tm 0)) [0],aq 58 5 4,lq 59 58,oq 60 (.mv (tm 8)) [8],oq 61 (.aj 7 (tm 59) (tm 60)) [59,60],oq 62 (.load true 7 (tm 61)) [61],aq 63 5 5,lq 64 63,oq 65 (.mv (tm 8)) [8],oq 66 (.aj 7 (tm 64) (tm 65)) [64,65],oq 67 (.load true 7 (tm 66)) [66],oq 68 (.call (.fn 77) [(tm 57),(tm 62),(tm 67)]) [57,62,67],oq 9 (.mv (tm 68)) [68]] [0,0,2,0,14,30,0,64,0,448,960,2047,4095] [0,4,5,9,53,54])
 (.seq (rg [oq 70 (ar .neq (tm 9) (zi 0)) [70]] [0,4,5,9,53,54,70])
 (.cond (tm 70) (.seq (rg [oq 6 (.mv (tm 9)) [71]] [6])
 .ret)
 .skip)))))
 (rg [oq 54 (ar .add (tm 54) (zi 1)) [72]] [0,4,5,53,54]))))
def AA:aF:=⟨73,3,[.tmp 6],
 (.seq (rg [oq 4 (.box (tm 1)) [6],op 5 (.box (tm 2))] [0,4,5])
 (.seq (.seq (dr [oq 10 (.load true 7 (tm 4)) [4],oq 11 (.call (.fn 128) [(tm 10)]) [10],oq 12 (.load true 7 (tm 5)) [5],oq 13 (.call (.fn 128) [(tm 12)]) [12],oq 14 (ar .sub (tm 11) (tm 13)) [11,13],oq 7 (.mv (tm 14)) [14]] [0,1,0,7,15,31] [0,4,5,7])
 (.seq (rg [oq 16 (ar .neq (tm 7) (zi 0)) [16]] [0,4,5,7,16])
 (.cond (tm 16) (.seq (rg [oq 6 (.mv (tm 7)) [17]] [6])
 .ret)
 .skip)))
 (.seq (.seq (rg [oq 18 (.aB 0 (tm 4)) [27],ld 19 18,op 21 (ar .neq (tm 19) (zi 10)),gf 22 21 (.aB 2 (tm 4)) [],gf 23 21 (l1 (tm 22)) [],gf 24 21 (.aB 2 (tm 5)) [],gf 25 21 (l1 (tm 24)) [],gf 26 21 (ar .neq (tm 23) (tm 25)) [],op 27 (.pick (tm 21) (.lit (.bool true)) (tm 26))] [0,4,5,27])
 (.cond (tm 27) (.seq (dr [aq 28 1 4,lq 29 28,aq 30 1 5,lq 31 30,oq 32 (ar .sub (tm 29) (tm 31)) [29,31],oq 33 (.mv (tm 0)) [0],oq 34 (.nilCheck (tm 33)) [33],aq 35 10 34,lq 36 35,aq 37 2 4,lq 38 37,oq 39 (.lookup 2 (.agg z2) false (tm 36) (tm 38)) [36,38],oq 40 (.fieldOf false 1 1 (tm 39)) [39],oq 41 (ar .add (tm 32) (tm 40)) [32,40],oq 42 (.mv (tm 0)) [0],oq 43 (.nilCheck (tm 42)) [42],aq 44 10 43,lq 45 44,aq 46 2 5,lq 47 46,oq 48 (.lookup 2 (.agg z2) false (tm 45) (tm 47)) [45,47],oq 49 (.fieldOf false 1 1 (tm 48)) [48],oq 50 (ar .sub (tm 41) (tm 49)) [41,49],oq 6 (.mv (tm 50)) [50]] [0,1,0,4,15,0,32,96,224,0,512,2016,4064,8191,0,16384,49152,114688,0,262144,1032192,2080768,4194303,8388607] [6])
 .ret)
 .skip))
 (.seq (.seq (rg [ao 51 5 4,ld 52 51,op 53 (.len false (tm 52)),op 54 (.mv (zi 0))] [0,4,5,53,54])
 (.block 0 (.loop u0)))
 (.seq (rg [op 6 (.mv (zi 0))] [6])
 .ret)))))⟩
theorem Md:Good Tryz.prog (77,AA):=mkK Z0 Tryz.func77 (by kernel_rfl)
def u6:aK:=
 (.seq (rg [op 12 (ar .lss (tm 11) (tm 10))] [1,2,9,10,11,12])
 (.seq (.cond (tm 12) .skip
 (.exit 0))
 (.seq (.block 1 (.seq (rg [op 13 (.aj 7 (tm 9) (tm 11)),op 14 (.load true 7 (tm 13)),op 5 (.alloc z7a),on (.store 7 (tm 5) (tm 14))] [1,2,5,9,10,11])
 (dr [aq 15 5 1,lq 16 15,oq 17 (.load true 7 (tm 5)) [5],oq 18 (.call (.fn 78) [(tm 17)]) [17],oq 19 (.buildSlice 7 1 z7a [(0,(tm 18))]) [18],oq 20 (.append 7 120 (tm 16) (tm 19)) [16,19],aq 21 5 1,om (.store 1 (tm 21) (tm 20)) [21,20]] [0,1,0,4,12,31,63,127] [1,2,9,10,11])))
 (rg [oq 11 (ar .add (tm 11) (zi 1)) [22]] [1,2,9,10,11]))))
def E7:aF:=⟨24,1,[.cell 2 true 7],
 (.seq (rg [op 1 (.box (tm 0)),op 2 (.alloc z7a)] [1,2])
 (.seq (rg [oq 6 (.aB 5 (tm 1)) [7],ld 3 6] [1,2,3])
 (.seq (rg [ao 8 5 1,on (.store 1 (tm 8) (.lit .empty))] [1,2,3])
 (.seq (.seq (rg [op 9 (.mv (tm 3)),op 10 (.len false (tm 9)),op 11 (.mv (zi 0))] [1,2,9,10,11])
 (.block 0 (.loop u6)))
 (.seq (rg [op 23 (.load true 7 (tm 1)),on (.store 7 (tm 2) (tm 23))] [2])
 .ret)))))⟩
theorem Me:Good Tryz.prog (78,E7):=mkK Z0 Tryz.func78 (by kernel_rfl)
noncomputable def Qy:aF:=cZ Tryz.prog Z0 Tryz.f79
theorem Mf:Good Tryz.prog (79,Qy):=mkC Z0 Tryz.func79 (by kernel_rfl)
noncomputable def Qz:aF:=cZ Tryz.prog Z0 Tryz.f80
theorem Mg:Good Tryz.prog (80,Qz):=mkC Z0 Tryz.func80 (by kernel_rfl)
noncomputable def QA:aF:=cZ Tryz.prog Z0 Tryz.f81
theorem Mh:Good Tryz.prog (81,QA):=mkC Z0 Tryz.func81 (by kernel_rfl)
noncomputable def QB:aF:=cZ Tryz.prog Z0 Tryz.f82
theorem Mi:Good Tryz.prog (82,QB):=mkC Z0 Tryz.func82 (by kernel_rfl)
def qW:aK:=
 (.seq (.seq (rg [oq 30 (.aB 0 (tm 1)) [33],ld 31 30,op 32 (.len false (tm 31)),op 33 (ar .lss (tm 3) (tm 32))] [1,3,33])
 (.cond (tm 33) .skip
 (.exit 0)))
 (.seq (.block 1 (.seq (rg [oq 36 (.aB 0 (tm 1)) [41],ld 37 36,op 39 (.aj 3 (tm 37) (tm 3)),op 40 (.load true 3 (tm 39)),op 4 (.call (.fn 133) [(tm 40)])] [1,3,4])
 (.seq (rg [oq 43 (ar .neq (tm 4) (zi 0)) [43]] [1,3,4,43])
 (.cond (tm 43) (.seq (rg [oq 2 (.mv (tm 4)) [44]] [2])
 .ret)
 .skip))))
 (rg [oq 34 (.mv (tm 3)) [35],op 3 (ar .add (tm 34) (zi 1))] [1,3])))
def qX:aK:=
 (.seq (.seq (rg [oq 46 (.aB 1 (tm 1)) [49],ld 47 46,op 48 (.len false (tm 47)),op 49 (ar .lss (tm 5) (tm 48))] [1,5,49])
 (.cond (tm 49) .skip
 (.exit 2)))
 (.seq (.block 3 (.seq (rg [oq 52 (.aB 1 (tm 1)) [57],ld 53 52,op 55 (.aj 2 (tm 53) (tm 5)),op 56 (.load true 2 (tm 55)),op 6 (.call (.fn 134) [(tm 56)])] [1,5,6])
 (.seq (rg [oq 59 (ar .neq (tm 6) (zi 0)) [59]] [1,5,6,59])
 (.cond (tm 59) (.seq (rg [oq 2 (.mv (tm 6)) [60]] [2])
 .ret)
 .skip))))
 (rg [oq 50 (.mv (tm 5)) [51],op 5 (ar .add (tm 50) (zi 1))] [1,5])))
def uv:aK:=
 (.seq (.seq (rg [oq 62 (.aB 2 (tm 1)) [65],ld 63 62,op 64 (.len false (tm 63)),op 65 (ar .leq (tm 8) (tm 64))] [1,7,8,65])
 (.cond (tm 65) .skip
 (.exit 4)))
 (.seq (.block 5 (.seq (rg [oq 68 (.aB 3 (tm 1)) [71],op 69 (.load true 7 (tm 68)),op 71 (ar .sub (zi 200) (tm 8)),op 9 (.alloc z7a),on (.store 7 (tm 9) (tm 69)),op 10 (.mv (tm 71))] [1,7,8,9,10])
 (.seq (.seq (rg [oq 73 (.aB 2 (tm 1)) [76],ld 74 73,op 75 (.len false (tm 74)),op 76 (ar .lss (tm 8) (tm 75))] [1,7,8,9,10,76])
 (.cond (tm 76) (.seq (rg [oq 77 (.aB 2 (tm 1)) [84],ld 78 77,op 80 (.aj 8 (tm 78) (tm 8)),ao 81 1 80,op 82 (.load true 7 (tm 81)),op 83 (.mv (tm 10)),op 84 (ar .sub (tm 83) (zi 1)),on (.store 7 (tm 9) (tm 82)),op 10 (.mv (tm 84))] [1,7,8,9,10])
 (rg [oq 85 (.mv (tm 7)) [86],op 7 (ar .sub (tm 85) (zi 1))] [1,7,8,9,10]))
 .skip))
 (.seq (rg [oq 87 (.load true 7 (tm 9)) [90],op 88 (.mv (tm 7)),op 7 (.call (.fn 132) [(tm 87),(tm 88),(tm 10)])] [1,7,8])
 (.seq (rg [oq 92 (ar .lss (tm 7) (zi 0)) [92]] [1,7,8,92])
 (.cond (tm 92) (.seq (rg [op 2 (.mv (zi 3))] [2])
 .ret)
 .skip))))))
 (rg [oq 66 (.mv (tm 8)) [67],op 8 (ar .add (tm 66) (zi 1))] [1,7,8])))
def BJ:aK:=
 (.seq (.seq (rg [oq 94 (.aB 2 (tm 1)) [97],ld 95 94,op 96 (.len false (tm 95)),op 97 (ar .lss (tm 11) (tm 96))] [1,11,97])
 (.cond (tm 97) .skip
 (.exit 6)))
 (.seq (.block 7 (.seq (.seq (rg [oq 100 (.aB 2 (tm 1)) [107],ld 101 100,op 103 (.aj 8 (tm 101) (tm 11)),ao 104 0 103,ld 105 104,op 106 (.call (.fn 135) [(tm 105)]),op 107 (.not (tm 106))] [1,11,107])
 (.cond (tm 107) (.seq (rg [op 2 (.mv (zi 4))] [2])
 .ret)
 .skip))
 (.seq (rg [oq 108 (.aB 2 (tm 1)) [114],ld 109 108,op 111 (.aj 8 (tm 109) (tm 11)),ao 112 1 111,op 113 (.load true 7 (tm 112)),op 12 (.call (.fn 136) [(tm 113)])] [1,11,12])
 (.seq (rg [oq 116 (ar .neq (tm 12) (zi 0)) [116]] [1,11,12,116])
 (.cond (tm 116) (.seq (rg [oq 2 (.mv (tm 12)) [117]] [2])
 .ret)
 .skip)))))
 (rg [oq 98 (.mv (tm 11)) [99],op 11 (ar .add (tm 98) (zi 1))] [1,11])))
def wq:aF:=⟨121,1,[.tmp 2],
 (.seq (rg [oq 1 (.box (tm 0)) [2]] [1])
 (.seq (.seq (rg [oq 13 (.aB 0 (tm 1)) [28],ld 14 13,op 15 (.len false (tm 14)),op 17 (ar .gtr (tm 15) (zi 12)),gf 18 17 (.aB 1 (tm 1)) [],gf 19 17 (l1 (tm 18)) [],gf 20 17 (.len false (tm 19)) [],gf 21 17 (ar .gtr (tm 20) (zi 12)) [],op 23 (.pick (tm 17) (.lit (.bool true)) (tm 21)),gf 24 23 (.aB 2 (tm 1)) [],gf 25 23 (l1 (tm 24)) [],gf 26 23 (.len false (tm 25)) [],gf 27 23 (ar .gtr (tm 26) (zi 60)) [],op 28 (.pick (tm 23) (.lit (.bool true)) (tm 27))] [1,28])
 (.cond (tm 28) (.seq (rg [op 2 (.mv (zi 3))] [2])
 .ret)
 .skip))
 (.seq (.seq (rg [op 3 (.mv (zi 0))] [1,3])
 (.block 0 (.loop qW)))
 (.seq (.seq (rg [op 5 (.mv (zi 0))] [1,5])
 (.block 2 (.loop qX)))
 (.seq (rg [op 7 (.mv (zi 3000))] [1,7])
 (.seq (.seq (rg [op 8 (.mv (zi 0))] [1,7,8])
 (.block 4 (.loop uv)))
 (.seq (.seq (rg [op 11 (.mv (zi 0))] [1,11])
 (.block 6 (.loop BJ)))
 (.seq (rg [oq 118 (.aB 3 (tm 1)) [120],op 119 (.load true 7 (tm 118)),op 2 (.call (.fn 136) [(tm 119)])] [2])
 .ret))))))))⟩
theorem Mj:Good Tryz.prog (84,wq):=mkK Z0 Tryz.func84 (by kernel_rfl)
def qY:aK:=
 (.seq (.seq (rg [oq 61 (.aB 2 (tm 6)) [68],ld 62 61,op 64 (.aj 2 (tm 62) (tm 7)),ao 65 1 64,ld 66 65,op 67 (.len false (tm 66)),op 68 (ar .lss (tm 8) (tm 67))] [1,3,4,5,6,7,8,68])
 (.cond (tm 68) .skip
 (.exit 4)))
 (.seq (.block 5 (.seq (dr [oq 71 (.load true 10 (tm 1)) [1],aq 72 1 6,lq 73 72,aq 74 2 6,lq 75 74,oq 76 (.mv (tm 7)) [7],oq 77 (.aj 2 (tm 75) (tm 76)) [75,76],aq 78 1 77,lq 79 78,oq 80 (.mv (tm 8)) [8],oq 81 (.aj 6 (tm 79) (tm 80)) [79,80],oq 82 (.load true 6 (tm 81)) [81],oq 83 (.call (.fn 73) [(tm 71),(tm 73),(tm 82)]) [71,73,82],oq 9 (.mv (tm 83)) [83]] [0,0,2,0,8,0,56,120,248,0,1016,2040,4095,8191] [1,3,4,5,6,7,8,9])
 (.seq (rg [oq 85 (ar .neq (tm 9) (zi 0)) [85]] [1,3,4,5,6,7,8,9,85])
 (.cond (tm 85) (.seq (rg [oq 2 (.mv (tm 9)) [86]] [2])
 .ret)
 .skip))))
 (rg [oq 69 (.mv (tm 8)) [70],op 8 (ar .add (tm 69) (zi 1))] [1,3,4,5,6,7,8])))
def nK:aK:=
 (.seq (.seq (rg [oq 37 (.aB 2 (tm 6)) [40],ld 38 37,op 39 (.len false (tm 38)),op 40 (ar .lss (tm 7) (tm 39))] [1,3,4,5,6,7,40])
 (.cond (tm 40) .skip
 (.exit 2)))
 (.seq (.block 3 (.seq (.seq (rg [oq 44 (.aB 2 (tm 6)) [50],ld 45 44,op 47 (.aj 2 (tm 45) (tm 7)),ao 48 0 47,ld 49 48,op 50 (.call (.fn 122) [(tm 4),(tm 49)])] [1,3,4,5,6,7,50])
 (.cond (tm 50) (.seq (rg [op 2 (.mv (zi 5))] [2])
 .ret)
 .skip))
 (.seq (rg [oq 51 (.mv (tm 4)) [59],ao 52 2 6,ld 53 52,op 55 (.aj 2 (tm 53) (tm 7)),ao 56 0 55,ld 57 56,op 58 (.buildSlice 1 1 [(.str [])] [(0,(tm 57))]),op 4 (.append 1 16 (tm 51) (tm 58))] [1,3,4,5,6,7])
 (.seq (rg [op 8 (.mv (zi 0))] [1,3,4,5,6,7,8])
 (.block 4 (.loop qY))))))
 (rg [oq 41 (.mv (tm 7)) [42],op 7 (ar .add (tm 41) (zi 1))] [1,3,4,5,6,7])))
def lJ:aK:=
 (.seq (.seq (rg [oq 11 (.aB 0 (tm 1)) [14],ld 12 11,op 13 (.len false (tm 12)),op 14 (ar .lss (tm 5) (tm 13))] [1,3,4,5,14])
 (.cond (tm 14) .skip
 (.exit 0)))
 (.seq (.block 1 (.seq (rg [oq 17 (.aB 0 (tm 1)) [21],ld 18 17,op 20 (.aj 3 (tm 18) (tm 5)),op 21 (.load true 3 (tm 20)),op 6 (.alloc z3),on (.store 3 (tm 6) (tm 21))] [1,3,4,5,6])
 (.seq (.seq (rg [oq 22 (.aB 0 (tm 6)) [30],ld 23 22,op 25 (.call (.fn 137) [(tm 23)]),gf 26 25 (.mv (tm 3)) [],gf 27 25 (.aB 0 (tm 6)) [],gf 28 25 (l1 (tm 27)) [],gf 29 25 (.call (.fn 122) [(tm 26),(tm 28)]) [],op 30 (.pick (tm 25) (.lit (.bool true)) (tm 29))] [1,3,4,5,6,30])
 (.cond (tm 30) (.seq (rg [op 2 (.mv (zi 5))] [2])
 .ret)
 .skip))
 (.seq (rg [oq 31 (.mv (tm 3)) [35],ao 32 0 6,ld 33 32,op 34 (.buildSlice 1 1 [(.str [])] [(0,(tm 33))]),op 3 (.append 1 16 (tm 31) (tm 34))] [1,3,4,5,6])
 (.seq (rg [op 7 (.mv (zi 0))] [1,3,4,5,6,7])
 (.block 2 (.loop nK)))))))
 (rg [oq 15 (.mv (tm 5)) [16],op 5 (ar .add (tm 15) (zi 1))] [1,3,4,5])))
def DL:aF:=⟨87,1,[.tmp 2],
 (.seq (rg [oq 1 (.box (tm 0)) [2]] [1])
 (.seq (rg [op 3 (.newrow 1),op 4 (.newrow 1)] [1,3,4])
 (.seq (.seq (rg [op 5 (.mv (zi 0))] [1,3,4,5])
 (.block 0 (.loop lJ)))
 (.seq (rg [op 2 (.mv (zi 0))] [2])
 .ret))))⟩
theorem Mk:Good Tryz.prog (85,DL):=mkK (fun t=>t==3||t==4) Tryz.func85 (by kernel_rfl)
def lK:aK:=
 (.seq (.seq (rg [oq 34 (.aB 1 (tm 6)) [37],ld 35 34,op 36 (.len false (tm 35)),op 37 (ar .lss (tm 7) (tm 36))] [1,3,4,5,6,7,37])
 (.cond (tm 37) .skip
 (.exit 2)))
 (.seq (.block 3 (.seq (rg [oq 40 (.aB 1 (tm 6)) [44],ld 41 40,op 43 (.aj 14 (tm 41) (tm 7)),op 44 (.load true 14 (tm 43)),op 8 (.alloc z14),on (.store 14 (tm 8) (tm 44))] [1,3,4,5,6,7,8])
 (.seq (.seq (rg [oq 46 (.aB 0 (tm 8)) [48],ld 47 46,op 48 (.call (.fn 122) [(tm 4),(tm 47)])] [1,3,4,5,6,7,8,48])
 (.cond (tm 48) (.seq (rg [op 2 (.mv (zi 5))] [2])
 .ret)
 .skip))
 (.seq (rg [oq 49 (.mv (tm 4)) [53],ao 50 0 8,ld 51 50,op 52 (.buildSlice 1 1 [(.str [])] [(0,(tm 51))]),op 4 (.append 1 16 (tm 49) (tm 52))] [1,3,4,5,6,7,8])
 (.seq (rg [oq 54 (.load true 10 (tm 1)) [57],ao 55 1 8,op 56 (.load true 6 (tm 55)),op 9 (.call (.fn 73) [(tm 54),(.lit .empty),(tm 56)])] [1,3,4,5,6,7,8,9])
 (.seq (.seq (rg [oq 59 (ar .eql (tm 9) (zi 0)) [59]] [1,3,4,5,6,7,8,9,59])
 (.cond (tm 59) (rg [oq 60 (.load true 10 (tm 1)) [63],ao 61 7 8,op 62 (.load true 6 (tm 61)),op 9 (.call (.fn 73) [(tm 60),(.lit .empty),(tm 62)])] [1,3,4,5,6,7,9])
 .skip))
 (.seq (rg [oq 65 (ar .neq (tm 9) (zi 0)) [65]] [1,3,4,5,6,7,9,65])
 (.cond (tm 65) (.seq (rg [oq 2 (.mv (tm 9)) [66]] [2])
 .ret)
 .skip))))))))
 (rg [oq 38 (.mv (tm 7)) [39],op 7 (ar .add (tm 38) (zi 1))] [1,3,4,5,6,7])))
def nL:aK:=
 (.seq (.seq (rg [oq 13 (.aB 1 (tm 1)) [16],ld 14 13,op 15 (.len false (tm 14)),op 16 (ar .lss (tm 5) (tm 15))] [1,3,4,5,16])
 (.cond (tm 16) .skip
 (.exit 0)))
 (.seq (.block 1 (.seq (rg [oq 19 (.aB 1 (tm 1)) [23],ld 20 19,op 22 (.aj 2 (tm 20) (tm 5)),op 23 (.load true 2 (tm 22)),op 6 (.alloc z2a),on (.store 2 (tm 6) (tm 23))] [1,3,4,5,6])
 (.seq (.seq (rg [oq 25 (.aB 0 (tm 6)) [27],ld 26 25,op 27 (.call (.fn 122) [(tm 3),(tm 26)])] [1,3,4,5,6,27])
 (.cond (tm 27) (.seq (rg [op 2 (.mv (zi 5))] [2])
 .ret)
 .skip))
 (.seq (rg [oq 28 (.mv (tm 3)) [32],ao 29 0 6,ld 30 29,op 31 (.buildSlice 1 1 [(.str [])] [(0,(tm 30))]),op 3 (.append 1 16 (tm 28) (tm 31))] [1,3,4,5,6])
 (.seq (rg [op 7 (.mv (zi 0))] [1,3,4,5,6,7])
 (.block 2 (.loop lK)))))))
 (rg [oq 17 (.mv (tm 5)) [18],op 5 (ar .add (tm 17) (zi 1))] [1,3,4,5])))
def DM:aF:=⟨67,1,[.tmp 2],
 (.seq (rg [oq 1 (.box (tm 0)) [2]] [1])
 (.seq (rg [op 10 (.buildRow 1 1 [(.str [])] [(0,(.lit (.str [73,79])))]),op 11 (.buildRow 1 2 [(.str [])] [(0,(.lit (.str [112,114,105,110,116]))),(1,(.lit (.str [114,101,97,100])))]),op 3 (.mv (tm 10)),op 4 (.mv (tm 11))] [1,3,4])
 (.seq (.seq (rg [op 5 (.mv (zi 0))] [1,3,4,5])
 (.block 0 (.loop nL)))
 (.seq (rg [op 2 (.mv (zi 0))] [2])
 .ret))))⟩
theorem Ml:Good Tryz.prog (86,DM):=mkK (fun t=>t==10||t==11) Tryz.func86 (by kernel_rfl)
noncomputable def QC:aF:=cZ Tryz.prog Z0 Tryz.f87
theorem Mm:Good Tryz.prog (87,QC):=mkC Z0 Tryz.func87 (by kernel_rfl)
noncomputable def QD:aF:=cZ Tryz.prog Z0 Tryz.f88
theorem Mn:Good Tryz.prog (88,QD):=mkC Z0 Tryz.func88 (by kernel_rfl)
def kI:aK:=
 (.seq (rg [op 9 (ar .lss (tm 8) (tm 7))] [0,1,7,8,9])
 (.seq (.cond (tm 9) .skip
 (.exit 0))
 (.seq (.block 1 (.seq (rg [oq 5 (.mv (tm 8)) [10]] [0,1,5,7,8])
 (.seq (rg [oq 14 (.aj 1 (tm 0) (tm 5)) [16],ld 15 14,op 16 (ar .eql (tm 1) (tm 15))] [0,1,5,7,8,16])
 (.cond (tm 16) (.seq (rg [oq 4 (.mv (tm 5)) [17]] [4])
 .ret)
 .skip))))
 (rg [oq 8 (ar .add (tm 8) (zi 1)) [18]] [0,1,7,8]))))
def Eb:aF:=⟨19,2,[.tmp 4],
 (.seq (rg [op 4 (.mv (tm 4))] [0,1])
 (.seq (.seq (rg [oq 7 (.len false (tm 0)) [8],op 8 (.mv (zi 0))] [0,1,7,8])
 (.block 0 (.loop kI)))
 (.seq (rg [op 4 (.mv (zi (-1)))] [4])
 .ret)))⟩
theorem Mo:Good Tryz.prog (89,Eb):=mkK Z0 Tryz.func89 (by kernel_rfl)
noncomputable def QE:aF:=cZ Tryz.prog (fun t=>t==5) Tryz.f90
theorem Mp:Good Tryz.prog (90,QE):=mkC (fun t=>t==5) Tryz.func90 (by kernel_rfl)
def GP:aF:=⟨8,2,[.tmp 4],
 (.seq (rg [op 4 (.mv (tm 4))] [0,1])
 (.seq (rg [oq 4 (.call (.fn 139) [(tm 0),(tm 1)]) [7]] [4])
 .ret))⟩
theorem Mq:Good Tryz.prog (92,GP):=mkK Z0 Tryz.func92 (by kernel_rfl)
def FF:aF:=⟨8,2,[.tmp 3],
 (.seq (rg [oq 2 (.box (tm 0)) [3]] [1,2])
 (.seq (rg [oq 4 (.aB 0 (tm 2)) [7],ld 5 4,ld 6 1,op 3 (ar .eql (tm 5) (tm 6))] [3])
 .ret))⟩
theorem Mr:Good Tryz.prog (93,FF):=mkK Z0 Tryz.func93 (by kernel_rfl)
noncomputable def QF:aF:=cZ Tryz.prog Z0 Tryz.f94
theorem Ms:Good Tryz.prog (94,QF):=mkC Z0 Tryz.func94 (by kernel_rfl)
def vJ:aK:=
 (.seq (rg [op 33 (ar .lss (tm 32) (tm 31))] [1,30,31,32,33])
 (.seq (.cond (tm 33) .skip
 (.exit 0))
 (.seq (.block 1 (.seq (rg [op 34 (.aj 3 (tm 30) (tm 32)),op 35 (.load true 3 (tm 34)),op 4 (.alloc z3),on (.store 3 (tm 4) (tm 35))] [1,4,30,31,32])
 (.seq (rg [oq 36 (.load true 3 (tm 4)) [37],op 5 (.call (.fn 140) [(tm 36)])] [1,5,30,31,32])
 (.seq (rg [oq 39 (ar .neq (tm 5) (zi 0)) [39]] [1,5,30,31,32,39])
 (.cond (tm 39) (.seq (rg [oq 2 (.mv (tm 5)) [40]] [2])
 .ret)
 .skip)))))
 (rg [oq 32 (ar .add (tm 32) (zi 1)) [41]] [1,30,31,32]))))
def vK:aK:=
 (.seq (rg [op 46 (ar .lss (tm 45) (tm 44))] [1,43,44,45,46])
 (.seq (.cond (tm 46) .skip
 (.exit 2))
 (.seq (.block 3 (.seq (rg [op 47 (.aj 2 (tm 43) (tm 45)),op 48 (.load true 2 (tm 47)),op 7 (.alloc z2a),on (.store 2 (tm 7) (tm 48))] [1,7,43,44,45])
 (.seq (rg [oq 49 (.load true 2 (tm 7)) [50],op 8 (.call (.fn 141) [(tm 49)])] [1,8,43,44,45])
 (.seq (rg [oq 52 (ar .neq (tm 8) (zi 0)) [52]] [1,8,43,44,45,52])
 (.cond (tm 52) (.seq (rg [oq 2 (.mv (tm 8)) [53]] [2])
 .ret)
 .skip)))))
 (rg [oq 45 (ar .add (tm 45) (zi 1)) [54]] [1,43,44,45]))))
def rM:aK:=
 (.seq (rg [op 64 (ar .lss (tm 63) (tm 62))] [1,61,62,63,64])
 (.seq (.cond (tm 64) .skip
 (.exit 4))
 (.seq (.block 5 (.seq (rg [op 65 (.aj 8 (tm 61) (tm 63)),op 66 (.load true 8 (tm 65)),op 11 (.alloc z8a),on (.store 8 (tm 11) (tm 66))] [1,11,61,62,63])
 (.seq (.seq (rg [ao 67 0 11,ld 68 67,op 69 (.call (.fn 143) [(tm 68),(zi 1)]),op 70 (.not (tm 69))] [1,11,61,62,63,70])
 (.cond (tm 70) (.seq (rg [op 2 (.mv (zi 4))] [2])
 .ret)
 .skip))
 (.seq (rg [oq 71 (.aB 1 (tm 11)) [73],op 72 (.load true 7 (tm 71)),op 12 (.call (.fn 131) [(tm 72)])] [1,12,61,62,63])
 (.seq (rg [oq 75 (ar .neq (tm 12) (zi 0)) [75]] [1,12,61,62,63,75])
 (.cond (tm 75) (.seq (rg [oq 2 (.mv (tm 12)) [76]] [2])
 .ret)
 .skip))))))
 (rg [oq 63 (ar .add (tm 63) (zi 1)) [77]] [1,61,62,63]))))
def s4:aF:=⟨81,1,[.tmp 2],
 (.seq (rg [oq 1 (.box (tm 0)) [2]] [1])
 (.seq (.seq (rg [oq 13 (.aB 0 (tm 1)) [28],ld 14 13,op 15 (.len false (tm 14)),op 17 (ar .gtr (tm 15) (zi 12)),gf 18 17 (.aB 1 (tm 1)) [],gf 19 17 (l1 (tm 18)) [],gf 20 17 (.len false (tm 19)) [],gf 21 17 (ar .gtr (tm 20) (zi 12)) [],op 23 (.pick (tm 17) (.lit (.bool true)) (tm 21)),gf 24 23 (.aB 2 (tm 1)) [],gf 25 23 (l1 (tm 24)) [],gf 26 23 (.len false (tm 25)) [],gf 27 23 (ar .gtr (tm 26) (zi 60)) [],op 28 (.pick (tm 23) (.lit (.bool true)) (tm 27))] [1,28])
 (.cond (tm 28) (.seq (rg [op 2 (.mv (zi 3))] [2])
 .ret)
 .skip))
 (.seq (.seq (rg [ao 29 0 1,ld 30 29,op 31 (.len false (tm 30)),op 32 (.mv (zi 0))] [1,30,31,32])
 (.block 0 (.loop vJ)))
 (.seq (.seq (rg [ao 42 1 1,ld 43 42,op 44 (.len false (tm 43)),op 45 (.mv (zi 0))] [1,43,44,45])
 (.block 2 (.loop vK)))
 (.seq (rg [op 55 (.build z2 [(0,1,(zi 3000))]),op 9 (.alloc z2),on (.store 2 (tm 9) (tm 55))] [1,9])
 (.seq (.seq (rg [op 56 (.load true 10 (tm 1)),op 57 (.call (.fn 142) [(tm 56)]),op 58 (.call (.fn 130) [(tm 9),(tm 57),(zi 1)]),op 59 (.not (tm 58))] [1,59])
 (.cond (tm 59) (.seq (rg [op 2 (.mv (zi 3))] [2])
 .ret)
 .skip))
 (.seq (.seq (rg [ao 60 2 1,ld 61 60,op 62 (.len false (tm 61)),op 63 (.mv (zi 0))] [1,61,62,63])
 (.block 4 (.loop rM)))
 (.seq (rg [oq 78 (.aB 3 (tm 1)) [80],op 79 (.load true 7 (tm 78)),op 2 (.call (.fn 131) [(tm 79)])] [2])
 .ret))))))))⟩
theorem Mu:Good Tryz.prog (95,s4):=mkK Z0 Tryz.func95 (by kernel_rfl)
noncomputable def QG:aF:=cZ Tryz.prog Z0 Tryz.f96
theorem Mv:Good Tryz.prog (96,QG):=mkC Z0 Tryz.func96 (by kernel_rfl)
noncomputable def QH:aF:=cZ Tryz.prog Z0 Tryz.f98
theorem Mw:Good Tryz.prog (98,QH):=mkC Z0 Tryz.func98 (by kernel_rfl)
noncomputable def Jz:aF:=cZ Tryz.prog Z0 Tryz.f100
theorem GQ:Good Tryz.prog (100,Jz):=mkC Z0 Tryz.func100 (by kernel_rfl)
def uP:aF:=⟨26,3,[.tmp 6],
 (.seq (rg [oq 3 (.box (tm 0)) [6],op 4 (.box (tm 1))] [2,3,4])
 (.seq (rg [oq 8 (.load true 10 (tm 3)) [10],op 9 (.load true 6 (tm 4)),op 7 (.call (.fn 23) [(tm 8),(tm 9)])] [2,3,4,7])
 (.seq (.seq (rg [oq 13 (ar .eql (tm 7) (zi 0)) [17],gt 14 13 (.mv (tm 2)) [],gt 15 13 (.call (.fn 157) [(tm 14),(zi 0),(zi 7)]) [],gt 16 13 (.not (tm 15)) [],op 17 (.pick (tm 13) (tm 16) (.lit (.bool false)))] [3,4,7,17])
 (.cond (tm 17) (rg [op 7 (.mv (zi 1))] [3,4,7])
 .skip))
 (.seq (.seq (rg [oq 20 (ar .eql (tm 7) (zi 0)) [24],gt 21 20 (.load true 10 (tm 3)) [],gt 22 20 (.load true 6 (tm 4)) [],gt 23 20 (.call (.fn 158) [(tm 21),(tm 22)]) [],op 24 (.pick (tm 20) (tm 23) (.lit (.bool false)))] [7,24])
 (.cond (tm 24) (rg [op 7 (.mv (zi 8))] [7])
 .skip))
 (.seq (rg [oq 6 (.mv (tm 7)) [25]] [6])
 .ret)))))⟩
theorem GR:Good Tryz.prog (105,uP):=mkK Z0 Tryz.func105 (by kernel_rfl)
def pT:aK:=
 (.seq (.seq (rg [oq 39 (.aB 2 (tm 8)) [42],ld 40 39,op 41 (.len false (tm 40)),op 42 (ar .lss (tm 9) (tm 41))] [2,3,4,7,8,9,42])
 (.cond (tm 42) .skip
 (.exit 1)))
 (.seq (.block 2 (dr [oq 45 (.mv (tm 7)) [7],oq 46 (.load true 10 (tm 3)) [3],oq 47 (.load true 10 (tm 3)) [3],oq 48 (.load true 8 (tm 4)) [4],oq 49 (.mv (tm 9)) [9],oq 50 (.call (.fn 156) [(tm 47),(tm 48),(tm 49)]) [47,48,49],oq 51 (.mv (tm 2)) [2],oq 52 (ar .sub (tm 51) (zi 1)) [51],oq 53 (.call (.fn 159) [(tm 46),(tm 50),(tm 52)]) [46,50,52],oq 54 (ar .add (tm 45) (tm 53)) [45,53],oq 7 (.mv (tm 54)) [54]] [0,0,0,0,0,28,0,64,254,511,1023] [2,3,4,7,8,9]))
 (rg [oq 43 (.mv (tm 9)) [44],op 9 (ar .add (tm 43) (zi 1))] [2,3,4,7,8,9])))
def si:aF:=⟨56,3,[.tmp 6],
 (.seq (rg [oq 3 (.box (tm 0)) [6],op 4 (.box (tm 1))] [2,3,4])
 (.seq (rg [op 10 (.load true 8 (tm 4)),op 11 (.call (.fn 155) [(tm 10)]),on (.store 8 (tm 4) (tm 11))] [2,3,4])
 (.seq (.seq (rg [oq 13 (ar .lss (tm 2) (zi 1)) [13]] [2,3,4,13])
 (.cond (tm 13) (.seq (rg [op 6 (.mv (zi 0))] [6])
 .ret)
 .skip))
 (.seq (rg [op 7 (.mv (zi 0))] [2,3,4,7])
 (.seq (.seq (rg [ao 14 0 4,ao 15 0 14,ld 16 15] [2,3,4,7,16])
 (.block 0 (.seq (.seq (rg [oq 17 (ar .eql (tm 16) (zi 2)) [18]] [2,3,4,7,16,17])
 (.cond (tm 17) .skip
 (rg [oq 17 (ar .eql (tm 16) (zi 3)) [19]] [2,3,4,7,16,17])))
 (.cond (tm 17) (rg [op 7 (.mv (zi 2))] [2,3,4,7])
 (.seq (rg [oq 20 (ar .eql (tm 16) (zi 4)) [21]] [2,3,4,7,20])
 (.cond (tm 20) (rg [op 7 (.mv (zi 1))] [2,3,4,7])
 .skip))))))
 (.seq (.seq (rg [ao 22 0 4,ao 23 0 22,ld 24 23,op 25 (ar .neq (tm 24) (zi 6))] [2,3,4,7,25])
 (.cond (tm 25) (.seq (.seq (rg [oq 27 (ar .gtr (tm 2) (zi 1)) [27]] [7,27])
 (.cond (tm 27) (.seq (rg [op 6 (.mv (zi 0))] [6])
 .ret)
 .skip))
 (.seq (rg [oq 6 (.mv (tm 7)) [28]] [6])
 .ret))
 .skip))
 (.seq (dr [aq 29 0 3,lq 30 29,oq 31 (.load true 10 (tm 3)) [3],aq 32 0 4,aq 33 2 32,lq 34 33,oq 35 (.call (.fn 123) [(tm 31),(tm 34)]) [31,34],oq 36 (.aj 3 (tm 30) (tm 35)) [30,35],oq 37 (.load true 3 (tm 36)) [36],op 8 (.alloc z3),om (.store 3 (tm 8) (tm 37)) [8,37]] [0,1,0,0,8,24,60,127,255,0,1023] [2,3,4,7,8])
 (.seq (.seq (rg [op 9 (.mv (zi 0))] [2,3,4,7,8,9])
 (.block 1 (.loop pT)))
 (.seq (rg [oq 6 (.mv (tm 7)) [55]] [6])
 .ret)))))))))⟩
theorem GS:Good Tryz.prog (106,si):=mkK Z0 Tryz.func106 (by kernel_rfl)
def p7:aK:=
 (.seq (.seq (rg [oq 61 (.len false (tm 10)) [62],op 62 (ar .lss (tm 11) (tm 61))] [2,3,4,7,8,9,10,11,62])
 (.cond (tm 62) .skip
 (.exit 3)))
 (.seq (.block 4 (dr [oq 65 (.mv (tm 8)) [8],aq 66 2 7,lq 67 66,oq 68 (.mv (tm 9)) [9],oq 69 (.aj 2 (tm 67) (tm 68)) [67,68],aq 70 0 69,lq 71 70,oq 72 (.mv (tm 10)) [10],oq 73 (.mv (tm 11)) [11],oq 74 (.aj 1 (tm 72) (tm 73)) [72,73],lq 75 74,oq 76 (.build [(.int .i64 0),(.int .i64 0),(.str []),(.str []),(.slice []),(.slice []),(.slice [])] [(0,1,(zi 10)),(2,1,(tm 71)),(5,1,(tm 75))]) [71,75],oq 77 (.buildSlice 7 1 z7a [(0,(tm 76))]) [76],oq 78 (.append 7 120 (tm 65) (tm 77)) [65,77],oq 8 (.mv (tm 78)) [78]] [0,0,2,0,14,30,62,0,0,384,896,2046,4094,8191,16383] [2,3,4,7,8,9,10,11]))
 (rg [oq 63 (.mv (tm 11)) [64],op 11 (ar .add (tm 63) (zi 1))] [2,3,4,7,8,9,10,11])))
def p8:aK:=
 (.seq (.seq (rg [oq 45 (.aB 2 (tm 7)) [48],ld 46 45,op 47 (.len false (tm 46)),op 48 (ar .lss (tm 9) (tm 47))] [2,3,4,7,8,9,48])
 (.cond (tm 48) .skip
 (.exit 1)))
 (.seq (.block 2 (.seq (dr [oq 51 (.load true 10 (tm 3)) [3],oq 52 (.load true 10 (tm 3)) [3],oq 53 (.load true 8 (tm 4)) [4],oq 54 (.mv (tm 9)) [9],oq 55 (.call (.fn 156) [(tm 52),(tm 53),(tm 54)]) [52,53,54],oq 56 (.mv (tm 2)) [2],oq 57 (ar .sub (tm 56) (zi 1)) [56],oq 58 (.call (.fn 160) [(tm 51),(tm 55),(tm 57)]) [51,55,57],oq 10 (.mv (tm 58)) [58]] [0,0,0,0,14,0,32,127,255] [2,3,4,7,8,9,10])
 (.seq (rg [op 11 (.mv (zi 0))] [2,3,4,7,8,9,10,11])
 (.block 3 (.loop p7)))))
 (rg [oq 49 (.mv (tm 9)) [50],op 9 (ar .add (tm 49) (zi 1))] [2,3,4,7,8,9])))
def nu:aF:=⟨80,3,[.tmp 6],
 (.seq (rg [oq 3 (.box (tm 0)) [6],op 4 (.box (tm 1))] [2,3,4])
 (.seq (rg [op 12 (.load true 8 (tm 4)),op 13 (.call (.fn 155) [(tm 12)]),on (.store 8 (tm 4) (tm 13))] [2,3,4])
 (.seq (.seq (rg [ao 14 0 4,ao 15 0 14,ld 16 15,op 17 (ar .neq (tm 16) (zi 6))] [2,3,4,17])
 (.cond (tm 17) (.seq (.seq (rg [oq 19 (ar .neq (tm 2) (zi 1)) [19]] [4,19])
 (.cond (tm 19) (.seq (rg [op 6 (.mv (.lit .empty))] [6])
 .ret)
 .skip))
 (.seq (.seq (rg [ao 20 0 4,ao 21 0 20,ld 22 21] [22])
 (.block 0 (.seq (rg [oq 23 (ar .eql (tm 22) (zi 2)) [24]] [22,23])
 (.cond (tm 23) (.seq (rg [oq 25 (.build [(.int .i64 0),(.int .i64 0),(.str []),(.str []),(.slice []),(.slice []),(.slice [])] [(0,1,(zi 1)),(1,1,(zi 0))]) [27],op 26 (.build [(.int .i64 0),(.int .i64 0),(.str []),(.str []),(.slice []),(.slice []),(.slice [])] [(0,1,(zi 1)),(1,1,(zi 1))]),op 6 (.buildSlice 7 2 z7a [(0,(tm 25)),(1,(tm 26))])] [6])
 .ret)
 (.seq (rg [oq 28 (ar .eql (tm 22) (zi 3)) [29]] [28])
 (.cond (tm 28) (.seq (rg [oq 30 (.build [(.int .i64 0),(.int .i64 0),(.str []),(.str []),(.slice []),(.slice []),(.slice [])] [(0,1,(zi 2)),(1,1,(zi 0))]) [32],op 31 (.build [(.int .i64 0),(.int .i64 0),(.str []),(.str []),(.slice []),(.slice []),(.slice [])] [(0,1,(zi 2)),(1,1,(zi 1))]),op 6 (.buildSlice 7 2 z7a [(0,(tm 30)),(1,(tm 31))])] [6])
 .ret)
 .skip))))))
 (.seq (rg [oq 33 (.build [(.int .i64 0),(.int .i64 0),(.str []),(.str []),(.slice []),(.slice []),(.slice [])] [(0,1,(zi 3))]) [34],op 6 (.buildSlice 7 1 z7a [(0,(tm 33))])] [6])
 .ret)))
 .skip))
 (.seq (dr [aq 35 0 3,lq 36 35,oq 37 (.load true 10 (tm 3)) [3],aq 38 0 4,aq 39 2 38,lq 40 39,oq 41 (.call (.fn 123) [(tm 37),(tm 40)]) [37,40],oq 42 (.aj 3 (tm 36) (tm 41)) [36,41],oq 43 (.load true 3 (tm 42)) [42],op 7 (.alloc z3),om (.store 3 (tm 7) (tm 43)) [7,43]] [0,1,0,0,8,24,60,127,255,0,1023] [2,3,4,7])
 (.seq (rg [op 8 (.newrow 7)] [2,3,4,7,8])
 (.seq (.seq (rg [op 9 (.mv (zi 0))] [2,3,4,7,8,9])
 (.block 1 (.loop p8)))
 (.seq (rg [oq 6 (.mv (tm 8)) [79]] [6])
 .ret)))))))⟩
theorem GU:Good Tryz.prog (107,nu):=mkK (fun t=>t==8||t==25||t==26||t==30||t==31||t==33||t==76) Tryz.func107 (by kernel_rfl)
def yR:aK:=
 (.seq (.seq (rg [oq 13 (.len false (tm 0)) [14],op 14 (ar .lss (tm 5) (tm 13))] [0,1,5,14])
 (.cond (tm 14) .skip
 (.exit 0)))
 (.seq (.block 1 (.seq (dr [oq 17 (.mv (tm 0)) [0],oq 18 (.mv (tm 5)) [5],oq 19 (.aj 1 (tm 17) (tm 18)) [17,18],lq 20 19,oq 21 (.mv (tm 1)) [1],oq 22 (.mv (tm 5)) [5],oq 23 (.aj 1 (tm 21) (tm 22)) [21,22],lq 24 23,oq 25 (ar .neq (tm 20) (tm 24)) [20,24]] [0,0,3,7,0,0,48,112,255] [0,1,5,25])
 (.cond (tm 25) (.seq (rg [op 4 (.mv (.lit (.bool false)))] [4])
 .ret)
 .skip)))
 (rg [oq 15 (.mv (tm 5)) [16],op 5 (ar .add (tm 15) (zi 1))] [0,1,5])))
def Da:aF:=⟨26,2,[.tmp 4],
 (.seq (rg [op 4 (.mv (tm 4))] [0,1])
 (.seq (.seq (rg [oq 7 (.len false (tm 0)) [10],op 9 (.len false (tm 1)),op 10 (ar .neq (tm 7) (tm 9))] [0,1,10])
 (.cond (tm 10) (.seq (rg [op 4 (.mv (.lit (.bool false)))] [4])
 .ret)
 .skip))
 (.seq (.seq (rg [op 5 (.mv (zi 0))] [0,1,5])
 (.block 0 (.loop yR)))
 (.seq (rg [op 4 (.mv (.lit (.bool true)))] [4])
 .ret))))⟩
theorem GV:Good Tryz.prog (108,Da):=mkK Z0 Tryz.func108 (by kernel_rfl)
def vL:aF:=⟨18,2,[],
 (.seq (.seq (rg [oq 5 (.nilCheck (tm 0)) [8],ld 6 5,op 8 (.call (.fn 111) [(tm 6),(tm 1)])] [0,1,8])
 (.cond (tm 8) (rg [op 9 (.call (.fn 58) [(zi 5)])] [0,1])
 .skip))
 (rg [oq 12 (.nilCheck (tm 0)) [17],ld 13 12,op 15 (.buildSlice 1 1 [(.str [])] [(0,(tm 1))]),op 16 (.append 1 16 (tm 13) (tm 15)),op 17 (.nilCheck (tm 0)),on (.store 1 (tm 17) (tm 16))] []))⟩
theorem GW:Good Tryz.prog (110,vL):=mkK Z0 Tryz.func110 (by kernel_rfl)
def xO:aF:=⟨9,2,[.tmp 4],
 (.seq (rg [op 4 (.mv (tm 4))] [0,1])
 (.seq (rg [oq 7 (.call (.fn 89) [(tm 0),(tm 1)]) [8],op 4 (ar .geq (tm 7) (zi 0))] [4])
 .ret))⟩
theorem GX:Good Tryz.prog (111,xO):=mkK Z0 Tryz.func111 (by kernel_rfl)
def mY:aK:=
 (.seq (rg [op 54 (ar .lss (tm 53) (tm 52))] [0,2,4,51,52,53,54])
 (.seq (.cond (tm 54) .skip
 (.exit 1))
 (.seq (.block 2 (.seq (rg [op 55 (.aj 2 (tm 51) (tm 53)),op 56 (.load true 2 (tm 55)),op 8 (.alloc [(.str []),(.int .i64 0)]),on (.store 2 (tm 8) (tm 56))] [0,2,4,8,51,52,53])
 (.seq (dr [oq 58 (.mv (tm 0)) [0],oq 59 (.nilCheck (tm 58)) [58],aq 60 0 59,oq 61 (.load true 10 (tm 60)) [60],aq 62 0 8,lq 63 62,oq 64 (.call (.fn 34) [(tm 61),(tm 63)]) [61,63],oq 57 (.mv (tm 64)) [64],oq 65 (.extract (tm 57) 0) [57],oq 66 (.extract (tm 57) 1) [57],oq 9 (.mv (tm 65)) [65],oq 10 (.mv (tm 66)) [66]] [0,1,3,7,0,16,63,127,255,255,511,2047] [0,2,4,10,51,52,53])
 (rg [oq 68 (.call (.fn 59) [(tm 10)]) [68]] [0,2,4,51,52,53]))))
 (rg [oq 53 (ar .add (tm 53) (zi 1)) [69]] [0,2,4,51,52,53]))))
def kJ:aK:=
 (.seq (rg [op 74 (ar .lss (tm 73) (tm 72))] [0,2,71,72,73,74])
 (.seq (.cond (tm 74) .skip
 (.exit 3))
 (.seq (.block 4 (.seq (rg [op 75 (.aj 6 (tm 71) (tm 73)),op 76 (.load true 6 (tm 75)),op 12 (.alloc z6),on (.store 6 (tm 12) (tm 76))] [0,2,12,71,72,73])
 (rg [oq 78 (.load true 6 (tm 12)) [80],op 80 (.call (.fn 112) [(tm 0),(tm 78),(tm 2)])] [0,2,71,72,73])))
 (rg [oq 73 (ar .add (tm 73) (zi 1)) [81]] [0,2,71,72,73]))))
def gC:aF:=⟨82,3,[],
 (.seq (rg [op 4 (.box (tm 1))] [0,2,4])
 (.seq (.seq (rg [ao 13 0 4,ld 14 13] [0,2,4,14])
 (.block 0 (.seq (rg [oq 15 (ar .eql (tm 14) (zi 1)) [16]] [0,2,4,14,15])
 (.cond (tm 15) (.seq (rg [oq 18 (.aB 2 (tm 4)) [21],ld 19 18,op 20 (.call (.fn 111) [(tm 2),(tm 19)]),op 21 (.not (tm 20))] [0,2,4,21])
 (.cond (tm 21) (rg [op 22 (.call (.fn 58) [(zi 6)])] [0,2,4])
 .skip))
 (.seq (rg [oq 23 (ar .eql (tm 14) (zi 6)) [24]] [0,2,4,14,23])
 (.cond (tm 23) (.seq (rg [oq 26 (.aB 2 (tm 4)) [28],ld 27 26,op 6 (.call (.fn 117) [(tm 0),(tm 27)])] [0,2,4,6])
 (.seq (.seq (rg [oq 30 (ar .lss (tm 6) (zi 0)) [30]] [0,2,4,6,30])
 (.cond (tm 30) (rg [op 31 (.call (.fn 58) [(zi 6)])] [0,2,4,6])
 .skip))
 (.seq (dr [oq 32 (.mv (tm 0)) [0],oq 33 (.nilCheck (tm 32)) [32],aq 34 0 33,aq 35 0 34,lq 36 35,oq 37 (.mv (tm 6)) [6],oq 38 (.aj 3 (tm 36) (tm 37)) [36,37],aq 39 1 38,lq 40 39,oq 41 (.len false (tm 40)) [40],aq 42 3 4,lq 43 42,oq 44 (.len false (tm 43)) [43],oq 45 (ar .neq (tm 41) (tm 44)) [41,44]] [0,1,3,7,15,0,63,127,255,511,0,1024,3072,8191] [0,2,4,45])
 (.cond (tm 45) (rg [op 46 (.call (.fn 58) [(zi 7)])] [0,2,4])
 .skip))))
 (.seq (rg [oq 47 (ar .eql (tm 14) (zi 5)) [48]] [0,2,4,47])
 (.cond (tm 47) (.seq (rg [ao 49 4 4,ao 50 0 49,ld 51 50,op 52 (.len false (tm 51)),op 53 (.mv (zi 0))] [0,2,4,51,52,53])
 (.block 1 (.loop mY)))
 .skip))))))))
 (.seq (rg [ao 70 3 4,ld 71 70,op 72 (.len false (tm 71)),op 73 (.mv (zi 0))] [0,2,71,72,73])
 (.block 3 (.loop kJ)))))⟩
theorem GY:Good Tryz.prog (112,gC):=mkK Z0 Tryz.func112 (by kernel_rfl)
def sM:aF:=⟨35,3,[.tmp 6],
 (.seq (rg [oq 3 (.box (tm 0)) [6],op 4 (.box (tm 1)),op 5 (.box (tm 2))] [3,4,5])
 (.seq (rg [ld 7 3,op 8 (.nilCheck (tm 7)),ao 9 0 8,ld 10 9,op 11 (ar .sub (tm 10) (zi 1)),op 12 (.nilCheck (tm 7)),ao 13 0 12,on (.store 1 (tm 13) (tm 11))] [3,4,5])
 (.seq (.seq (rg [oq 14 (l1 (tm 3)) [29],op 15 (.nilCheck (tm 14)),ao 16 0 15,ld 17 16,op 19 (ar .lss (tm 17) (zi 0)),gf 20 19 (l1 (tm 5)) [],gf 21 19 (ar .gtr (tm 20) (zi 200)) [],op 23 (.pick (tm 19) (.lit (.bool true)) (tm 21)),gf 24 23 (.aB 4 (tm 4)) [],gf 25 23 (.aB 0 (tm 24)) [],gf 26 23 (l1 (tm 25)) [],gf 27 23 (.len false (tm 26)) [],gf 28 23 (ar .gtr (tm 27) (zi 24)) [],op 29 (.pick (tm 23) (.lit (.bool true)) (tm 28))] [3,4,5,29])
 (.cond (tm 29) (.seq (rg [op 6 (.mv (.lit (.bool false)))] [6])
 .ret)
 .skip))
 (.seq (rg [oq 30 (.aB 3 (tm 4)) [34],ld 31 30,op 32 (.mkFunc 162 [] [(tm 3),(tm 5)]),op 33 (.call (.fn 161) [(tm 31),(tm 32)]),op 6 (.not (tm 33))] [6])
 .ret))))⟩
theorem GZ:Good Tryz.prog (113,sM):=mkK Z0 Tryz.func113 (by kernel_rfl)
def mZ:aK:=
 (.seq (.seq (rg [oq 8 (.aB 3 (tm 1)) [15],ld 9 8,op 10 (.len false (tm 9)),op 12 (ar .lss (tm 4) (tm 10)),gt 13 12 (.mv (tm 3)) [],gt 14 12 (ar .eql (tm 13) (zi 0)) [],op 15 (.pick (tm 12) (tm 14) (.lit (.bool false)))] [1,3,4,15])
 (.cond (tm 15) .skip
 (.exit 0)))
 (.seq (.block 1 (rg [oq 18 (.aB 3 (tm 1)) [23],ld 19 18,op 21 (.aj 6 (tm 19) (tm 4)),op 22 (.load true 6 (tm 21)),op 3 (.call (.fn 114) [(tm 22)])] [1,3,4]))
 (rg [oq 16 (.mv (tm 4)) [17],op 4 (ar .add (tm 16) (zi 1))] [1,3,4])))
def A9:aF:=⟨25,1,[.tmp 2],
 (.seq (rg [oq 1 (.box (tm 0)) [2]] [1])
 (.seq (rg [oq 5 (.load true 6 (tm 1)) [6],op 3 (.call (.fn 163) [(tm 5)])] [1,3])
 (.seq (.seq (rg [op 4 (.mv (zi 0))] [1,3,4])
 (.block 0 (.loop mZ)))
 (.seq (rg [oq 2 (.mv (tm 3)) [24]] [2])
 .ret))))⟩
theorem G0:Good Tryz.prog (114,A9):=mkK Z0 Tryz.func114 (by kernel_rfl)
noncomputable def JA:aF:=cZ Tryz.prog Z0 Tryz.f115
theorem G1:Good Tryz.prog (115,JA):=mkC Z0 Tryz.func115 (by kernel_rfl)
def pq:aK:=
 (.seq (rg [op 26 (ar .lss (tm 25) (tm 24))] [1,23,24,25,26])
 (.seq (.cond (tm 26) .skip
 (.exit 0))
 (.seq (.block 1 (.seq (rg [op 27 (.aj 2 (tm 23) (tm 25)),op 28 (.load true 2 (tm 27)),op 4 (.alloc [(.str []),(.int .i64 0)]),on (.store 2 (tm 4) (tm 28))] [1,4,23,24,25])
 (.seq (rg [ao 29 1 4,ld 30 29,op 31 (ar .neq (tm 30) (zi 0))] [1,23,24,25,31])
 (.cond (tm 31) (.seq (rg [op 2 (.mv (.lit (.bool false)))] [2])
 .ret)
 .skip))))
 (rg [oq 25 (ar .add (tm 25) (zi 1)) [32]] [1,23,24,25]))))
def tf:aK:=
 (.seq (rg [op 37 (ar .lss (tm 36) (tm 35))] [34,35,36,37])
 (.seq (.cond (tm 37) .skip
 (.exit 2))
 (.seq (.block 3 (.seq (rg [op 38 (.aj 6 (tm 34) (tm 36)),op 39 (.load true 6 (tm 38)),op 6 (.alloc z6),on (.store 6 (tm 6) (tm 39))] [6,34,35,36])
 (.seq (rg [op 40 (.load true 6 (tm 6)),op 41 (.call (.fn 116) [(tm 40)]),op 42 (.not (tm 41))] [34,35,36,42])
 (.cond (tm 42) (.seq (rg [op 2 (.mv (.lit (.bool false)))] [2])
 .ret)
 .skip))))
 (rg [oq 36 (ar .add (tm 36) (zi 1)) [43]] [34,35,36]))))
def jJ:aF:=⟨44,1,[.tmp 2],
 (.seq (rg [oq 1 (.box (tm 0)) [2]] [1])
 (.seq (.seq (rg [oq 7 (.aB 0 (tm 1)) [20],ld 8 7,op 10 (ar .eql (tm 8) (zi 0)),gf 11 10 (.aB 0 (tm 1)) [],gf 12 10 (l1 (tm 11)) [],gf 13 10 (ar .eql (tm 12) (zi 5)) [],gf 14 10 (.mv (tm 13)) [],gt 15 14 (.aB 4 (tm 1)) [],gt 16 14 (.aB 1 (tm 15)) [],gt 17 14 (l1 (tm 16)) [],gt 18 14 (ar .neq (tm 17) (zi (-1))) [],gf 19 10 (.pick (tm 14) (tm 18) (.lit (.bool false))) [],op 20 (.pick (tm 10) (.lit (.bool true)) (tm 19))] [1,20])
 (.cond (tm 20) (.seq (rg [op 2 (.mv (.lit (.bool false)))] [2])
 .ret)
 .skip))
 (.seq (.seq (rg [ao 21 4 1,ao 22 0 21,ld 23 22,op 24 (.len false (tm 23)),op 25 (.mv (zi 0))] [1,23,24,25])
 (.block 0 (.loop pq)))
 (.seq (.seq (rg [ao 33 3 1,ld 34 33,op 35 (.len false (tm 34)),op 36 (.mv (zi 0))] [34,35,36])
 (.block 2 (.loop tf)))
 (.seq (rg [op 2 (.mv (.lit (.bool true)))] [2])
 .ret)))))⟩
theorem G2:Good Tryz.prog (116,jJ):=mkK Z0 Tryz.func116 (by kernel_rfl)
def Ba:aF:=⟨12,2,[.tmp 4],
 (.seq (rg [oq 3 (.box (tm 1)) [4]] [0,3])
 (.seq (rg [oq 6 (.nilCheck (tm 0)) [11],ao 7 0 6,ao 8 0 7,ld 9 8,op 10 (.mkFunc 165 [] [(tm 3)]),op 4 (.call (.fn 164) [(tm 9),(tm 10)])] [4])
 .ret))⟩
theorem G3:Good Tryz.prog (117,Ba):=mkK Z0 Tryz.func117 (by kernel_rfl)
def pP:aK:=
 (.seq (rg [op 21 (ar .lss (tm 20) (tm 19))] [0,2,4,18,19,20,21])
 (.seq (.cond (tm 21) .skip
 (.exit 0))
 (.seq (.block 1 (.seq (rg [op 22 (.aj 6 (tm 18) (tm 20)),op 23 (.load true 6 (tm 22)),op 8 (.alloc z6),on (.store 6 (tm 8) (tm 23))] [0,2,4,8,18,19,20])
 (.seq (rg [oq 25 (.load true 6 (tm 8)) [27],op 27 (.call (.fn 118) [(tm 0),(tm 25),(tm 2)])] [0,2,4,18,19,20,27])
 (.cond (tm 27) (.seq (rg [op 6 (.mv (.lit (.bool true)))] [6])
 .ret)
 .skip))))
 (rg [oq 20 (ar .add (tm 20) (zi 1)) [28]] [0,2,4,18,19,20]))))
def pQ:aK:=
 (.seq (rg [op 64 (ar .lss (tm 63) (tm 62))] [0,2,54,55,56,61,62,63,64])
 (.seq (.cond (tm 64) .skip
 (.exit 4))
 (.seq (.block 5 (.seq (rg [op 65 (.aj 6 (tm 61) (tm 63)),op 66 (.load true 6 (tm 65)),op 13 (.alloc z6),on (.store 6 (tm 13) (tm 66))] [0,2,13,54,55,56,61,62,63])
 (.seq (rg [oq 68 (.load true 6 (tm 13)) [70],op 70 (.call (.fn 118) [(tm 0),(tm 68),(tm 2)])] [0,2,54,55,56,61,62,63,70])
 (.cond (tm 70) (.seq (rg [op 6 (.mv (.lit (.bool true)))] [6])
 .ret)
 .skip))))
 (rg [oq 63 (ar .add (tm 63) (zi 1)) [71]] [0,2,54,55,56,61,62,63]))))
def pR:aK:=
 (.seq (rg [op 57 (ar .lss (tm 56) (tm 55))] [0,2,54,55,56,57])
 (.seq (.cond (tm 57) .skip
 (.exit 2))
 (.seq (.block 3 (.seq (rg [op 58 (.aj 2 (tm 54) (tm 56)),op 59 (.load true 2 (tm 58)),op 11 (.alloc z2a),on (.store 2 (tm 11) (tm 59))] [0,2,11,54,55,56])
 (.seq (rg [ao 60 1 11,ld 61 60,op 62 (.len false (tm 61)),op 63 (.mv (zi 0))] [0,2,54,55,56,61,62,63])
 (.block 4 (.loop pQ)))))
 (rg [oq 56 (ar .add (tm 56) (zi 1)) [72]] [0,2,54,55,56]))))
def nt:aF:=⟨73,3,[.tmp 6],
 (.seq (rg [oq 4 (.box (tm 1)) [6]] [0,2,4])
 (.seq (.seq (rg [ao 14 0 4,ld 15 14,op 16 (ar .eql (tm 15) (zi 5))] [0,2,4,16])
 (.cond (tm 16) (.seq (rg [op 6 (.mv (.lit (.bool true)))] [6])
 .ret)
 .skip))
 (.seq (.seq (rg [ao 17 3 4,ld 18 17,op 19 (.len false (tm 18)),op 20 (.mv (zi 0))] [0,2,4,18,19,20])
 (.block 0 (.loop pP)))
 (.seq (.seq (rg [ao 29 0 4,ld 30 29,op 31 (ar .neq (tm 30) (zi 6))] [0,2,4,31])
 (.cond (tm 31) (.seq (rg [op 6 (.mv (.lit (.bool false)))] [6])
 .ret)
 .skip))
 (.seq (rg [oq 33 (.aB 2 (tm 4)) [35],ld 34 33,op 9 (.call (.fn 117) [(tm 0),(tm 34)])] [0,2,9])
 (.seq (.seq (rg [oq 38 (.nilCheck (tm 2)) [41],op 39 (.indexAddrA 12 1 (tm 38) (tm 9)),ld 40 39,op 41 (ar .eql (tm 40) (zi 1))] [0,2,9,41])
 (.cond (tm 41) (.seq (rg [op 6 (.mv (.lit (.bool false)))] [6])
 .ret)
 .skip))
 (.seq (rg [oq 44 (.nilCheck (tm 2)) [45],op 45 (.indexAddrA 12 1 (tm 44) (tm 9)),on (.store 1 (tm 45) (zi 1))] [0,2,9])
 (.seq (.seq (rg [oq 47 (.nilCheck (tm 0)) [56],ao 48 0 47,ao 49 0 48,ld 50 49,op 52 (.aj 3 (tm 50) (tm 9)),ao 53 2 52,ld 54 53,op 55 (.len false (tm 54)),op 56 (.mv (zi 0))] [0,2,54,55,56])
 (.block 2 (.loop pR)))
 (.seq (rg [op 6 (.mv (.lit (.bool false)))] [6])
 .ret)))))))))⟩
theorem G4:Good Tryz.prog (118,nt):=mkK Z0 Tryz.func118 (by kernel_rfl)
def pN:aK:=
 (.seq (rg [op 37 (ar .lss (tm 36) (tm 35))] [0,2,8,9,34,35,36,37])
 (.seq (.cond (tm 37) .skip
 (.exit 1))
 (.seq (.block 2 (.seq (rg [op 38 (.aj 2 (tm 34) (tm 36)),op 39 (.load true 2 (tm 38)),op 11 (.alloc z2a),on (.store 2 (tm 11) (tm 39))] [0,2,8,9,11,34,35,36])
 (rg [oq 40 (.mv (tm 9)) [48],ao 42 1 11,ld 43 42,op 46 (ar .sub (tm 2) (zi 1)),op 47 (.call (.fn 166) [(tm 0),(tm 43),(tm 8),(tm 46)]),op 9 (ar .add (tm 40) (tm 47))] [0,2,8,9,34,35,36])))
 (rg [oq 36 (ar .add (tm 36) (zi 1)) [49]] [0,2,8,9,34,35,36]))))
def pO:aF:=⟨51,3,[.tmp 6],
 (.seq (rg [oq 4 (.box (tm 1)) [6]] [0,2,4])
 (.seq (rg [op 12 (.load true 7 (tm 4)),op 13 (.call (.fn 124) [(tm 12)]),on (.store 7 (tm 4) (tm 13))] [0,2,4])
 (.seq (.seq (rg [ao 14 0 4,ao 15 0 14,ld 16 15,op 17 (ar .neq (tm 16) (zi 6))] [0,2,4,17])
 (.cond (tm 17) (.seq (.block 0 (.seq (rg [oq 18 (ar .neq (tm 2) (zi 1)) [20]] [4,18])
 (.cond (tm 18) (.seq (rg [op 6 (.mv (zi 0))] [6])
 .ret)
 (.seq (rg [oq 22 (.aB 0 (tm 4)) [25],ao 23 0 22,ld 24 23,op 21 (ar .eql (tm 24) (zi 4))] [21])
 (.cond (tm 21) (.seq (rg [op 6 (.mv (zi 1))] [6])
 .ret)
 .skip)))))
 (.seq (rg [op 6 (.mv (zi 2))] [6])
 .ret))
 .skip))
 (.seq (.seq (rg [oq 27 (ar .lss (tm 2) (zi 1)) [27]] [0,2,4,27])
 (.cond (tm 27) (.seq (rg [op 6 (.mv (zi 0))] [6])
 .ret)
 .skip))
 (.seq (rg [oq 30 (.load true 7 (tm 4)) [33],op 28 (.call (.fn 125) [(tm 0),(tm 30)]),op 32 (.extract (tm 28) 0),op 33 (.extract (tm 28) 1),op 7 (.mv (tm 32)),op 8 (.mv (tm 33))] [0,2,7,8])
 (.seq (rg [op 9 (.mv (zi 0))] [0,2,7,8,9])
 (.seq (.seq (rg [op 34 (.mv (tm 7)),op 35 (.len false (tm 34)),op 36 (.mv (zi 0))] [0,2,8,9,34,35,36])
 (.block 1 (.loop pN)))
 (.seq (rg [oq 6 (.mv (tm 9)) [50]] [6])
 .ret))))))))⟩
theorem G5:Good Tryz.prog (119,pO):=mkK Z0 Tryz.func119 (by kernel_rfl)
def o5:aK:=
 (.seq (.seq (rg [oq 20 (.aB 3 (tm 3)) [27],ld 21 20,op 22 (.len false (tm 21)),op 24 (ar .lss (tm 7) (tm 22)),gt 25 24 (.mv (tm 1)) [],gt 26 24 (ar .geq (tm 25) (zi 0)) [],op 27 (.pick (tm 24) (tm 26) (.lit (.bool false)))] [1,2,3,7,27])
 (.cond (tm 27) .skip
 (.exit 0)))
 (.seq (.block 1 (rg [oq 30 (.aB 3 (tm 3)) [38],ld 31 30,op 33 (.aj 6 (tm 31) (tm 7)),op 34 (.load true 6 (tm 33)),op 35 (.mv (tm 1)),op 37 (ar .sub (tm 2) (zi 1)),op 1 (.call (.fn 120) [(tm 34),(tm 35),(tm 37)])] [1,2,3,7]))
 (rg [oq 28 (.mv (tm 7)) [29],op 7 (ar .add (tm 28) (zi 1))] [1,2,3,7])))
def uf:aF:=⟨40,3,[.tmp 6],
 (.seq (rg [oq 3 (.box (tm 0)) [6]] [1,2,3])
 (.seq (rg [oq 8 (.mv (tm 1)) [9],op 1 (ar .sub (tm 8) (zi 1))] [1,2,3])
 (.seq (.seq (rg [oq 12 (ar .lss (tm 2) (zi 1)) [18],gf 13 12 (.aB 4 (tm 3)) [],gf 14 12 (.aB 0 (tm 13)) [],gf 15 12 (l1 (tm 14)) [],gf 16 12 (.len false (tm 15)) [],gf 17 12 (ar .gtr (tm 16) (zi 24)) [],op 18 (.pick (tm 12) (.lit (.bool true)) (tm 17))] [1,2,3,18])
 (.cond (tm 18) (.seq (rg [op 6 (.mv (zi (-1)))] [6])
 .ret)
 .skip))
 (.seq (.seq (rg [op 7 (.mv (zi 0))] [1,2,3,7])
 (.block 0 (.loop o5)))
 (.seq (rg [oq 6 (.mv (tm 1)) [39]] [6])
 .ret)))))⟩
theorem G6:Good Tryz.prog (120,uf):=mkK Z0 Tryz.func120 (by kernel_rfl)
def o6:aK:=
 (.seq (.seq (rg [oq 110 (.aB 3 (tm 1)) [113],ld 111 110,op 112 (.len false (tm 111)),op 113 (ar .lss (tm 5) (tm 112))] [1,5,113])
 (.cond (tm 113) .skip
 (.exit 0)))
 (.seq (.block 1 (.seq (rg [oq 116 (.aB 3 (tm 1)) [121],ld 117 116,op 119 (.aj 6 (tm 117) (tm 5)),op 120 (.load true 6 (tm 119)),op 6 (.call (.fn 121) [(tm 120)])] [1,5,6])
 (.seq (rg [oq 123 (ar .neq (tm 6) (zi 0)) [123]] [1,5,6,123])
 (.cond (tm 123) (.seq (rg [oq 2 (.mv (tm 6)) [124]] [2])
 .ret)
 .skip))))
 (rg [oq 114 (.mv (tm 5)) [115],op 5 (ar .add (tm 114) (zi 1))] [1,5])))
def dP:aF:=⟨125,1,[.tmp 2],
 (.seq (rg [oq 1 (.box (tm 0)) [2]] [1])
 (.seq (.seq (rg [oq 7 (.aB 0 (tm 1)) [26],ld 8 7,op 9 (.call (.fn 157) [(tm 8),(zi 0),(zi 6)]),op 11 (.not (tm 9)),gf 12 11 (.aB 1 (tm 1)) [],gf 13 11 (l1 (tm 12)) [],gf 14 11 (.call (.fn 157) [(tm 13),(zi 0),(zi 999999999)]) [],gf 15 11 (.not (tm 14)) [],op 17 (.pick (tm 11) (.lit (.bool true)) (tm 15)),gf 18 17 (.aB 0 (tm 1)) [],gf 19 17 (l1 (tm 18)) [],gf 20 17 (ar .neq (tm 19) (zi 0)) [],gf 21 17 (.mv (tm 20)) [],gt 22 21 (.aB 1 (tm 1)) [],gt 23 21 (l1 (tm 22)) [],gt 24 21 (ar .neq (tm 23) (zi 0)) [],gf 25 17 (.pick (tm 21) (tm 24) (.lit (.bool false))) [],op 26 (.pick (tm 17) (.lit (.bool true)) (tm 25))] [1,26])
 (.cond (tm 26) (.seq (rg [op 2 (.mv (zi 1))] [2])
 .ret)
 .skip))
 (.seq (rg [op 3 (.mv (zi 0))] [1,3])
 (.seq (.seq (rg [ao 27 0 1,ld 28 27,op 29 (ar .eql (tm 28) (zi 1))] [1,3,29])
 (.cond (tm 29) (rg [op 3 (.mv (zi 1))] [1,3])
 .skip))
 (.seq (.seq (rg [ao 30 0 1,ld 31 30,op 32 (ar .eql (tm 31) (zi 6))] [1,3,32])
 (.cond (tm 32) (rg [op 3 (.mv (zi 2))] [1,3])
 .skip))
 (.seq (.seq (rg [oq 33 (.aB 2 (tm 1)) [47],ld 34 33,op 36 (.call (.fn 167) [(tm 34),(tm 3)]),op 38 (.not (tm 36)),gf 39 38 (.aB 0 (tm 1)) [],gf 40 38 (l1 (tm 39)) [],gf 41 38 (ar .eql (tm 40) (zi 6)) [],gf 42 38 (.mv (tm 41)) [],gt 43 42 (.aB 2 (tm 1)) [],gt 44 42 (l1 (tm 43)) [],gt 45 42 (.call (.fn 168) [(tm 44)]) [],gf 46 38 (.pick (tm 42) (tm 45) (.lit (.bool false))) [],op 47 (.pick (tm 38) (.lit (.bool true)) (tm 46))] [1,47])
 (.cond (tm 47) (.seq (rg [op 2 (.mv (zi 4))] [2])
 .ret)
 .skip))
 (.seq (.seq (rg [oq 48 (.aB 0 (tm 1)) [83],ld 49 48,op 51 (ar .eql (tm 49) (zi 5)),gt 52 51 (.aB 3 (tm 1)) [],gt 53 51 (l1 (tm 52)) [],gt 54 51 (.len false (tm 53)) [],gt 55 51 (ar .neq (tm 54) (zi 2)) [],op 57 (.pick (tm 51) (tm 55) (.lit (.bool false))),gf 58 57 (.aB 0 (tm 1)) [],gf 59 57 (l1 (tm 58)) [],gf 60 57 (ar .eql (tm 59) (zi 6)) [],gf 61 57 (.mv (tm 60)) [],gt 62 61 (.aB 3 (tm 1)) [],gt 63 61 (l1 (tm 62)) [],gt 64 61 (.len false (tm 63)) [],gt 65 61 (ar .gtr (tm 64) (zi 4)) [],gf 66 57 (.pick (tm 61) (tm 65) (.lit (.bool false))) [],op 68 (.pick (tm 57) (.lit (.bool true)) (tm 66)),gf 69 68 (.aB 0 (tm 1)) [],gf 70 68 (l1 (tm 69)) [],gf 71 68 (ar .neq (tm 70) (zi 5)) [],gf 72 68 (.mv (tm 71)) [],gt 73 72 (.aB 0 (tm 1)) [],gt 74 72 (l1 (tm 73)) [],gt 75 72 (ar .neq (tm 74) (zi 6)) [],gf 76 68 (.pick (tm 72) (tm 75) (.lit (.bool false))) [],gf 77 68 (.mv (tm 76)) [],gt 78 77 (.aB 3 (tm 1)) [],gt 79 77 (l1 (tm 78)) [],gt 80 77 (.len false (tm 79)) [],gt 81 77 (ar .gtr (tm 80) (zi 0)) [],gf 82 68 (.pick (tm 77) (tm 81) (.lit (.bool false))) [],op 83 (.pick (tm 68) (.lit (.bool true)) (tm 82))] [1,83])
 (.cond (tm 83) (.seq (rg [op 2 (.mv (zi 7))] [2])
 .ret)
 .skip))
 (.seq (.seq (rg [oq 84 (.aB 0 (tm 1)) [99],ld 85 84,op 87 (ar .neq (tm 85) (zi 5)),gt 88 87 (.aB 4 (tm 1)) [],gt 89 87 (.aB 0 (tm 88)) [],gt 90 87 (l1 (tm 89)) [],gt 91 87 (.len false (tm 90)) [],gt 92 87 (ar .gtr (tm 91) (zi 0)) [],gt 93 87 (.mv (tm 92)) [],gf 94 93 (.aB 4 (tm 1)) [],gf 95 93 (.aB 1 (tm 94)) [],gf 96 93 (l1 (tm 95)) [],gf 97 93 (ar .neq (tm 96) (zi 0)) [],gt 98 87 (.pick (tm 93) (.lit (.bool true)) (tm 97)) [],op 99 (.pick (tm 87) (tm 98) (.lit (.bool false)))] [1,99])
 (.cond (tm 99) (.seq (rg [op 2 (.mv (zi 1))] [2])
 .ret)
 .skip))
 (.seq (.seq (rg [ao 100 0 1,ld 101 100,op 102 (ar .eql (tm 101) (zi 5))] [1,102])
 (.cond (tm 102) (.seq (rg [oq 103 (.aB 4 (tm 1)) [105],op 104 (.load true 2 (tm 103)),op 4 (.call (.fn 169) [(tm 104)])] [1,4])
 (.seq (rg [oq 107 (ar .neq (tm 4) (zi 0)) [107]] [1,4,107])
 (.cond (tm 107) (.seq (rg [oq 2 (.mv (tm 4)) [108]] [2])
 .ret)
 .skip)))
 .skip))
 (.seq (.seq (rg [op 5 (.mv (zi 0))] [1,5])
 (.block 0 (.loop o6)))
 (.seq (rg [op 2 (.mv (zi 0))] [2])
 .ret)))))))))))⟩
theorem G7:Good Tryz.prog (121,dP):=mkK Z0 Tryz.func121 (by kernel_rfl)
def wU:aF:=⟨9,2,[.tmp 4],
 (.seq (rg [op 4 (.mv (tm 4))] [0,1])
 (.seq (rg [oq 7 (.call (.fn 152) [(tm 0),(tm 1)]) [8],op 4 (ar .geq (tm 7) (zi 0))] [4])
 .ret))⟩
theorem G8:Good Tryz.prog (122,wU):=mkK Z0 Tryz.func122 (by kernel_rfl)
def s9:aK:=
 (.seq (.seq (rg [oq 7 (.aB 0 (tm 2)) [10],ld 8 7,op 9 (.len false (tm 8)),op 10 (ar .lss (tm 5) (tm 9))] [1,2,5,10])
 (.cond (tm 10) .skip
 (.exit 0)))
 (.seq (.block 1 (.seq (rg [oq 13 (.aB 0 (tm 2)) [20],ld 14 13,op 16 (.aj 3 (tm 14) (tm 5)),ao 17 0 16,ld 18 17,op 20 (ar .eql (tm 18) (tm 1))] [1,2,5,20])
 (.cond (tm 20) (.seq (rg [oq 4 (.mv (tm 5)) [21]] [4])
 .ret)
 .skip)))
 (rg [oq 11 (.mv (tm 5)) [12],op 5 (ar .add (tm 11) (zi 1))] [1,2,5])))
def wS:aF:=⟨22,2,[.tmp 4],
 (.seq (rg [oq 2 (.box (tm 0)) [4]] [1,2])
 (.seq (.seq (rg [op 5 (.mv (zi 0))] [1,2,5])
 (.block 0 (.loop s9)))
 (.seq (rg [op 4 (.mv (zi (-1)))] [4])
 .ret)))⟩
theorem G9:Good Tryz.prog (123,wS):=mkK Z0 Tryz.func123 (by kernel_rfl)
def pH:aK:=
 (.seq (.seq (rg [ao 3 0 1,ao 4 0 3,ld 5 4,op 6 (ar .eql (tm 5) (zi 1))] [1,2,6])
 (.cond (tm 6) .skip
 (.exit 0)))
 (.block 1 (dr [aq 7 6 1,lq 8 7,oq 9 (.nilCheck (tm 8)) [8],aq 10 1 9,lq 11 10,aq 12 6 1,lq 13 12,oq 14 (.nilCheck (tm 13)) [13],aq 15 0 14,lq 16 15,aq 17 0 1,aq 18 2 17,lq 19 18,oq 20 (.call (.fn 89) [(tm 16),(tm 19)]) [16,19],oq 21 (.aj 7 (tm 11) (tm 20)) [11,20],oq 22 (.load true 7 (tm 21)) [21],om (.store 7 (tm 1) (tm 22)) [1,22]] [0,1,3,7,15,0,32,96,224,480,0,1024,3072,8160,16383,32767,65535] [1,2])))
def Af:aF:=⟨24,1,[.cell 2 true 7],
 (.seq (rg [op 1 (.box (tm 0)),op 2 (.alloc [(.int .i64 0),(.int .i64 0),(.str []),.empty,.empty,(.int .i64 0),.bL])] [1,2])
 (.seq (.block 0 (.loop pH))
 (.seq (rg [op 23 (.load true 7 (tm 1)),on (.store 7 (tm 2) (tm 23))] [2])
 .ret)))⟩
theorem He:Good Tryz.prog (124,Af):=mkK Z0 Tryz.func124 (by kernel_rfl)
def pI:aK:=
 (.seq (rg [op 31 (ar .lss (tm 30) (tm 29))] [3,6,7,28,29,30,31])
 (.seq (.cond (tm 31) .skip
 (.exit 0))
 (.seq (.block 1 (.seq (rg [op 32 (.aj 6 (tm 28) (tm 30)),op 33 (.load true 6 (tm 32)),op 9 (.alloc z6),on (.store 6 (tm 9) (tm 33))] [3,6,7,9,28,29,30])
 (dr [oq 34 (.mv (tm 7)) [7],oq 35 (.mv (tm 7)) [7],oq 36 (.nilCheck (tm 35)) [35],aq 37 1 36,lq 38 37,oq 39 (.load true 6 (tm 9)) [9],aq 40 6 3,lq 41 40,oq 42 (.build [(.int .i64 0),(.int .i64 0),(.str []),.empty,.empty,(.int .i64 0),.bL] [(0,6,(tm 39)),(6,1,(tm 41))]) [39,41],oq 43 (.call (.fn 124) [(tm 42)]) [42],oq 44 (.buildSlice 7 1 [(.int .i64 0),(.int .i64 0),(.str []),.empty,.empty,(.int .i64 0),.bL] [(0,(tm 43))]) [43],oq 45 (.append 7 96 (tm 38) (tm 44)) [38,44],oq 46 (.nilCheck (tm 34)) [34],aq 47 1 46,om (.store 1 (tm 47) (tm 45)) [47,45]] [0,0,2,6,14,0,0,64,224,480,992,2046,4095,8191,16383] [3,6,7,28,29,30])))
 (rg [oq 30 (ar .add (tm 30) (zi 1)) [48]] [3,6,7,28,29,30]))))
def CQ:aF:=⟨52,2,[.tmp 4,.tmp 5],
 (.seq (rg [oq 3 (.box (tm 1)) [5]] [0,3])
 (.seq (dr [oq 10 (.mv (tm 0)) [0],oq 11 (.nilCheck (tm 10)) [10],aq 12 0 11,aq 13 0 12,lq 14 13,oq 15 (.mv (tm 0)) [0],aq 16 0 3,aq 17 2 16,lq 18 17,oq 19 (.call (.fn 117) [(tm 15),(tm 18)]) [15,18],oq 20 (.aj 3 (tm 14) (tm 19)) [14,19],oq 21 (.load true 3 (tm 20)) [20],op 6 (.alloc z3),om (.store 3 (tm 6) (tm 21)) [6,21]] [0,1,3,7,15,0,0,64,192,480,1023,2047,0,8191] [3,6])
 (.seq (rg [oq 22 (.aB 1 (tm 6)) [25],ld 23 22,op 24 (.build [.empty,.empty] [(0,1,(tm 23))]),op 7 (.box (tm 24))] [3,6,7])
 (.seq (.seq (rg [ao 26 0 3,ao 27 3 26,ld 28 27,op 29 (.len false (tm 28)),op 30 (.mv (zi 0))] [3,6,7,28,29,30])
 (.block 0 (.loop pI)))
 (.seq (rg [oq 49 (.aB 2 (tm 6)) [51],ld 50 49,op 4 (.mv (tm 50)),op 5 (.mv (tm 7))] [4,5])
 .ret)))))⟩
theorem Hf:Good Tryz.prog (125,CQ):=mkK Z0 Tryz.func125 (by kernel_rfl)
end Go.AI
