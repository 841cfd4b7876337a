/- Texts of the proof: what functions of the program compute, step by step. No conditions of its own. -/
import Derived.Test.YtgenoggafhhgfaaGreatDoorF4
import Derived.Test.YtgenoggafhhgfaaGreatDoorChecked
import Derived.KernelRfl
set_option linter.unusedVariables false
set_option linter.unusedSimpArgs false
namespace Go.AI
open Go
def z192:List D:=List.replicate 192 (.int .i64 0)
@[reducible,simp] def z14:List D:=[(.str []),(.int .i64 0),(.int .i64 0),(.str []), .empty, .empty,(.int .i64 0),(.int .i64 0),(.int .i64 0),(.str []), .empty, .empty,(.int .i64 0),(.bool false)]
@[reducible,simp] def z9:List D:=[(.int .i64 0),(.int .i64 0),(.int .i64 0),(.int .i64 0),(.int .i64 0),(.int .i64 0),(.bool false),(.int .i64 0),(.int .i64 0)]
@[reducible,simp] def z7:List D:=[(.int .i64 0),(.int .i64 0),(.int .i64 0),(.int .i64 0),(.bool false),(.int .i64 0),(.int .i64 0)]
@[reducible,simp] def z10:List D:=[.empty, .empty, .empty,(.int .i64 0),(.int .i64 0),(.str []),(.str []), .empty, .empty, .empty]
@[reducible,simp] def z9a:List D:=[(.str []), .empty,(.int .i64 0),(.int .i64 0),(.str []),(.str []), .empty, .empty, .empty]
@[reducible,simp] def z8:List D:=[(.int .i64 0),(.int .i64 0),(.str []), .empty, .empty,(.int .i64 0), .empty, .empty]
@[reducible,simp] def z8a:List D:=[(.str []),(.int .i64 0),(.int .i64 0),(.str []),(.str []), .empty, .empty, .empty]
@[reducible,simp] def z7a:List D:=[(.int .i64 0),(.int .i64 0),(.str []),(.str []), .empty, .empty, .empty]
@[reducible,simp] def z6:List D:=[(.int .i64 0),(.int .i64 0),(.str []), .empty, .empty,(.int .i64 0)]
@[reducible,simp] def z2:List D:=[(.int .i64 0),(.int .i64 0)]
@[reducible,simp] def z3:List D:=[(.str []), .empty, .empty]
@[reducible,simp] def z2a:List D:=[(.str []), .empty]
@[reducible,simp] def gt (d g:Nat) (o:AOp) (r:List Nat):AOper:=⟨some d,o,some (g,true),r⟩
@[reducible,simp] def gf (d g:Nat) (o:AOp) (r:List Nat):AOper:=⟨some d,o,some (g,false),r⟩
@[reducible,simp] def ar (o:BinOp) (a b:AOpd):AOp:= .arith o .none a b
@[reducible,simp] def l1 (a:AOpd):AOp:= .load false 1 a
def Z0 (_:Nat):Bool:=false
theorem gc {P:Program} {x:FuncId × AFunc} {l:List (FuncId × AFunc)} (h:Good P x) (hl: ∀y ∈ l,Good P y): ∀y ∈ x::l,Good P y:=List.forall_mem_cons.2 ⟨h,hl⟩
def idsZ:Code→List Nat
 | .region id _ _=>[id]
 | .seq a b=>idsZ a++idsZ b
 | .cond _ a b=>idsZ a++idsZ b
 | .block _ b=>idsZ b
 | .loop b=>idsZ b
 | .scope b=>idsZ b
 | .rangeFunc _ _ a b=>idsZ a++idsZ b
 |_=>[]
def keepsZ:ACode→List (List Nat)
 | .region _ (some k)=>[k]
 | .drawn _ _ (some k)=>[k]
 | .seq a b=>keepsZ a++keepsZ b
 | .cond _ a b=>keepsZ a++keepsZ b
 | .block _ b=>keepsZ b
 | .loop b=>keepsZ b
 | .scope b _=>keepsZ b
 | .rangeFunc _ _ a b=>keepsZ a++keepsZ b
 |_=>[]
def zipK (fn:Func) (af:AFunc):List (Nat × List Nat):=match fn.body with
 |some c=>(idsZ c).zip (keepsZ af.body)
 |none=>[]
theorem mkK {P:Program} {f:FuncId} {fn:Func} {af:AFunc} (acc:Nat→Bool) (h:P.funcs[f]? =some fn) (hc:cFunc P acc (keepL (zipK fn af)) fn=some af):Good P (f,af):=⟨fn,acc,_,h,hc⟩
def cZ (P:Program) (acc:Nat→Bool) (fn:Func):AFunc:=match cFunc P acc (fun _=>none) fn with
 |some a=>a
 |none=>⟨0,0,[], .skip⟩
theorem mkC {P:Program} {f:FuncId} {fn:Func} (acc:Nat→Bool) (h:P.funcs[f]? =some fn) (hc: (cFunc P acc (fun _=>none) fn).isSome=true):Good P (f,cZ P acc fn):=by
 refine ⟨fn,acc,fun _=>none,h, ?_⟩
 show cFunc P acc (fun _=>none) fn=some (cZ P acc fn)
 unfold cZ
 cases hx:cFunc P acc (fun _=>none) fn with
 |some a=>rfl
 |none=>rw [hx] at hc;cases hc
end Go.AI
namespace Go.AI
open Go Go.Proofs
set_option maxRecDepth 100000
def af8:AFunc:=⟨56,3,[.tmp 6],
 (.seq (rg [oq 3 (.box (tm 0)) [6],op 4 (.box (tm 1)),op 5 (.box (tm 2))] [3,4,5])
 (.seq (rg [oq 12 (.load true 10 (tm 3)) [16],op 13 (.load true 6 (tm 4)),op 11 (.call (.fn 20) [(tm 12),(tm 13)]),op 15 (.extract (tm 11) 0),op 16 (.extract (tm 11) 1),op 7 (.mv (tm 15)),op 8 (.mv (tm 16))] [3,4,5,7,8])
 (.seq (rg [oq 18 (.load true 10 (tm 3)) [22],op 19 (.load true 6 (tm 4)),op 17 (.call (.fn 42) [(tm 18),(tm 19)]),op 21 (.extract (tm 17) 0),op 22 (.extract (tm 17) 1),op 9 (.mv (tm 21)),op 10 (.mv (tm 22))] [3,4,5,7,8,9,10])
 (.seq (.seq (rg [oq 26 (.arith .neq .bool (tm 7) (tm 9)) [30],gf 27 26 (.mv (tm 8)) [],gf 28 26 (.mv (tm 10)) [],gf 29 26 (ar .neq (tm 27) (tm 28)) [],op 30 (.pick (tm 26) (.lit (.bool true)) (tm 29))] [3,4,5,30])
 (.cond (tm 30) (.seq (rg [op 6 (.mv (.lit (.bool false)))] [6])
 .ret)
 .skip))
 (.seq (rg [oq 32 (.load true 10 (tm 3)) [37],op 33 (.load true 6 (tm 4)),op 34 (.load true 7 (tm 5)),op 31 (.call (.fn 26) [(tm 32),(tm 33),(tm 34)]),op 36 (.extract (tm 31) 0),op 37 (.extract (tm 31) 1),op 7 (.mv (tm 36)),op 8 (.mv (tm 37))] [3,4,5,7,8])
 (.seq (rg [oq 39 (.load true 10 (tm 3)) [44],op 40 (.load true 6 (tm 4)),op 41 (.load true 7 (tm 5)),op 38 (.call (.fn 43) [(tm 39),(tm 40),(tm 41)]),op 43 (.extract (tm 38) 0),op 44 (.extract (tm 38) 1),op 9 (.mv (tm 43)),op 10 (.mv (tm 44))] [7,8,9,10])
 (.seq (rg [oq 48 (.arith .eql .bool (tm 7) (tm 9)) [55],gt 49 48 (.mv (tm 8)) [],gt 50 48 (.mv (tm 10)) [],gt 51 48 (ar .eql (tm 49) (tm 50)) [],op 53 (.pick (tm 48) (tm 51) (.lit (.bool false))),gt 54 53 (.call (.fn 16) []) [],op 6 (.pick (tm 53) (tm 54) (.lit (.bool false)))] [6])
 .ret)))))))⟩
theorem good8:Good Tryz.prog (8,af8):=mkK Z0 Tryz.func8 (by kernel_rfl)
noncomputable def af14:AFunc:=cZ Tryz.prog Z0 Tryz.f14
theorem good14:Good Tryz.prog (14,af14):=mkC Z0 Tryz.func14 (by kernel_rfl)
noncomputable def af15:AFunc:=cZ Tryz.prog (fun t=>t==6) Tryz.f15
theorem good15:Good Tryz.prog (15,af15):=mkC (fun t=>t==6) Tryz.func15 (by kernel_rfl)
noncomputable def af16:AFunc:=cZ Tryz.prog Z0 Tryz.f16
theorem good16:Good Tryz.prog (16,af16):=mkC Z0 Tryz.func16 (by kernel_rfl)
noncomputable def af17:AFunc:=cZ Tryz.prog Z0 Tryz.f17
theorem good17:Good Tryz.prog (17,af17):=mkC Z0 Tryz.func17 (by kernel_rfl)
noncomputable def af18:AFunc:=cZ Tryz.prog Z0 Tryz.f18
theorem good18:Good Tryz.prog (18,af18):=mkC Z0 Tryz.func18 (by kernel_rfl)
noncomputable def af19:AFunc:=cZ Tryz.prog Z0 Tryz.f19
theorem good19:Good Tryz.prog (19,af19):=mkC Z0 Tryz.func19 (by kernel_rfl)
def af20:AFunc:=⟨14,2,[.cell 4 false 1,.tmp 5],
 (.seq (rg [oq 2 (.box (tm 0)) [5],op 3 (.box (tm 1)),op 4 (.alloc [(.bool false)])] [2,3,4])
 (.seq (rg [oq 6 (.mkFunc 64 [] [(tm 2),(tm 3),(tm 4)]) [7],op 5 (.call (.fn 54) [(tm 6)])] [4,5])
 (.seq (rg [oq 9 (l1 (tm 4)) [13],gt 10 9 (.mv (tm 5)) [],gt 11 9 (ar .eql (tm 10) (zi 0)) [],op 12 (.pick (tm 9) (tm 11) (.lit (.bool false))),op 13 (.mv (tm 5)),on (.store 1 (tm 4) (tm 12)),op 5 (.mv (tm 13))] [4,5])
 .ret)))⟩
theorem good20:Good Tryz.prog (20,af20):=mkK Z0 Tryz.func20 (by kernel_rfl)
noncomputable def af22:AFunc:=cZ Tryz.prog Z0 Tryz.f22
theorem good22:Good Tryz.prog (22,af22):=mkC Z0 Tryz.func22 (by kernel_rfl)
def af23:AFunc:=⟨25,2,[.tmp 4],
 (.seq (rg [oq 2 (.box (tm 0)) [4],op 3 (.box (tm 1))] [2,3])
 (.seq (rg [oq 6 (.load true 10 (tm 2)) [7],op 5 (.call (.fn 29) [(tm 6)])] [2,3,5])
 (.seq (.seq (rg [oq 9 (ar .eql (tm 5) (zi 0)) [9]] [2,3,5,9])
 (.cond (tm 9) (rg [oq 10 (.load true 6 (tm 3)) [11],op 5 (.call (.fn 71) [(tm 10)])] [2,3,5])
 .skip))
 (.seq (.seq (rg [oq 14 (ar .eql (tm 5) (zi 0)) [18],gt 15 14 (.load true 6 (tm 3)) [],gt 16 14 (.call (.fn 72) [(tm 15)]) [],gt 17 14 (.not (tm 16)) [],op 18 (.pick (tm 14) (tm 17) (.lit (.bool false)))] [2,3,5,18])
 (.cond (tm 18) (rg [op 5 (.mv (zi 1))] [2,3,5])
 .skip))
 (.seq (.seq (rg [oq 20 (ar .eql (tm 5) (zi 0)) [20]] [2,3,5,20])
 (.cond (tm 20) (rg [oq 21 (.load true 10 (tm 2)) [23],op 22 (.load true 6 (tm 3)),op 5 (.call (.fn 73) [(tm 21),(.lit .empty),(tm 22)])] [5])
 .skip))
 (.seq (rg [oq 4 (.mv (tm 5)) [24]] [4])
 .ret))))))⟩
theorem good23:Good Tryz.prog (23,af23):=mkK Z0 Tryz.func23 (by kernel_rfl)
noncomputable def af24:AFunc:=cZ Tryz.prog (fun t=>t==6) Tryz.f24
theorem good24:Good Tryz.prog (24,af24):=mkC (fun t=>t==6) Tryz.func24 (by kernel_rfl)
def af26:AFunc:=⟨16,3,[.cell 6 false 1,.tmp 7],
 (.seq (rg [oq 3 (.box (tm 0)) [7],op 4 (.box (tm 1)),op 5 (.box (tm 2)),op 6 (.alloc [(.bool false)])] [3,4,5,6])
 (.seq (rg [oq 8 (.mkFunc 79 [] [(tm 3),(tm 4),(tm 5),(tm 6)]) [9],op 7 (.call (.fn 54) [(tm 8)])] [6,7])
 (.seq (rg [oq 11 (l1 (tm 6)) [15],gt 12 11 (.mv (tm 7)) [],gt 13 11 (ar .eql (tm 12) (zi 0)) [],op 14 (.pick (tm 11) (tm 13) (.lit (.bool false))),op 15 (.mv (tm 7)),on (.store 1 (tm 6) (tm 14)),op 7 (.mv (tm 15))] [6,7])
 .ret)))⟩
theorem good26:Good Tryz.prog (26,af26):=mkK Z0 Tryz.func26 (by kernel_rfl)
def af29:AFunc:=⟨20,1,[.tmp 2],
 (.seq (rg [oq 1 (.box (tm 0)) [2]] [1])
 (.seq (rg [oq 4 (.addOff 0 (tm 1)) [10],ld 5 4,ao 6 1 1,ld 7 6,op 8 (.build [(.int .i64 0),(.int .i64 0),(.str []),(.str []),(.slice []),(.slice []),(.slice [])] [(0,1,(zi 3))]),op 9 (.build [(.slice []),(.slice []),(.slice []),(.int .i64 0),(.int .i64 0),(.str []),(.str []),(.slice []),(.slice []),(.slice [])] [(0,1,(tm 5)),(1,1,(tm 7)),(3,7,(tm 8))]),op 3 (.call (.fn 84) [(tm 9)])] [1,3])
 (.seq (.seq (rg [oq 12 (ar .eql (tm 3) (zi 0)) [12]] [1,3,12])
 (.cond (tm 12) (rg [oq 13 (.load true 10 (tm 1)) [14],op 3 (.call (.fn 85) [(tm 13)])] [1,3])
 .skip))
 (.seq (.seq (rg [oq 16 (ar .eql (tm 3) (zi 0)) [16]] [1,3,16])
 (.cond (tm 16) (rg [oq 17 (.load true 10 (tm 1)) [18],op 3 (.call (.fn 86) [(tm 17)])] [3])
 .skip))
 (.seq (rg [oq 2 (.mv (tm 3)) [19]] [2])
 .ret)))))⟩
theorem good29:Good Tryz.prog (29,af29):=mkK (fun t=>t==8||t==9) Tryz.func29 (by kernel_rfl)
noncomputable def af30:AFunc:=cZ Tryz.prog Z0 Tryz.f30
theorem good30:Good Tryz.prog (30,af30):=mkC Z0 Tryz.func30 (by kernel_rfl)
def lp31_0:ACode:=
 (.seq (.seq (rg [oq 17 (.addOff 0 (tm 2)) [24],ld 18 17,op 20 (.indexAddrS 3 (tm 18) (tm 7)),ao 21 2 20,ld 22 21,op 23 (.len false (tm 22)),op 24 (ar .lss (tm 8) (tm 23))] [1,2,7,8,24])
 (.cond (tm 24) .skip
 (.exit 2)))
 (.seq (.block 3 (.seq (rg [oq 27 (.addOff 0 (tm 2)) [38],ld 28 27,op 30 (.indexAddrS 3 (tm 28) (tm 7)),ao 31 2 30,ld 32 31,op 34 (.indexAddrS 2 (tm 32) (tm 8)),ao 35 0 34,ld 36 35,op 38 (ar .eql (tm 36) (tm 1))] [1,2,7,8,38])
 (.cond (tm 38) (.seq (rg [oq 4 (.mv (tm 7)) [40],op 5 (.mv (tm 8)),op 6 (.mv (zi 0))] [4,5,6])
 .ret)
 .skip)))
 (rg [oq 25 (.mv (tm 8)) [26],op 8 (ar .add (tm 25) (zi 1))] [1,2,7,8])))
def lp31_1:ACode:=
 (.seq (.seq (rg [oq 10 (.addOff 0 (tm 2)) [13],ld 11 10,op 12 (.len false (tm 11)),op 13 (ar .lss (tm 7) (tm 12))] [1,2,7,13])
 (.cond (tm 13) .skip
 (.exit 0)))
 (.seq (.block 1 (.seq (rg [op 8 (.mv (zi 0))] [1,2,7,8])
 (.block 2 (.loop lp31_0))))
 (rg [oq 14 (.mv (tm 7)) [15],op 7 (ar .add (tm 14) (zi 1))] [1,2,7])))
def af31:AFunc:=⟨41,2,[.tmp 4,.tmp 5,.tmp 6],
 (.seq (rg [oq 2 (.box (tm 0)) [6]] [1,2])
 (.seq (.seq (rg [op 7 (.mv (zi 0))] [1,2,7])
 (.block 0 (.loop lp31_1)))
 (.seq (rg [op 4 (.mv (zi 0)),op 5 (.mv (zi 0)),op 6 (.mv (zi 6))] [4,5,6])
 .ret)))⟩
theorem good31:Good Tryz.prog (31,af31):=mkK Z0 Tryz.func31 (by kernel_rfl)
noncomputable def af32:AFunc:=cZ Tryz.prog Z0 Tryz.f32
theorem good32:Good Tryz.prog (32,af32):=mkC Z0 Tryz.func32 (by kernel_rfl)
def af34:AFunc:=⟨16,2,[.tmp 4,.tmp 5],
 (.seq (rg [oq 2 (.box (tm 0)) [5],op 3 (.box (tm 1))] [2,3])
 (.seq (.seq (rg [oq 7 (.addOff 1 (tm 2)) [10],ld 8 7,op 9 (.mkFunc 93 [] [(tm 3)]),op 6 (.call (.fn 92) [(tm 8),(tm 9)])] [3,6])
 (.seq (rg [oq 12 (ar .geq (tm 6) (zi 0)) [12]] [3,6,12])
 (.cond (tm 12) (.seq (rg [oq 4 (.mv (tm 6)) [13],op 5 (.mv (zi 0))] [4,5])
 .ret)
 .skip)))
 (.seq (.seq (rg [ld 14 3,op 15 (ar .eql (tm 14) (.lit (.str [73,79])))] [15])
 (.cond (tm 15) (.seq (rg [op 4 (.mv (zi (-1))),op 5 (.mv (zi 0))] [4,5])
 .ret)
 .skip))
 (.seq (rg [op 4 (.mv (zi 0)),op 5 (.mv (zi 6))] [4,5])
 .ret))))⟩
theorem good34:Good Tryz.prog (34,af34):=mkK Z0 Tryz.func34 (by kernel_rfl)
def lp35_0:ACode:=
 (.seq (.seq (rg [oq 8 (.addOff 1 (tm 2)) [11],ld 9 8,op 10 (.len false (tm 9)),op 11 (ar .lss (tm 6) (tm 10))] [1,2,6,11])
 (.cond (tm 11) .skip
 (.exit 0)))
 (.seq (.block 1 (.seq (rg [oq 14 (.addOff 1 (tm 2)) [21],ld 15 14,op 17 (.indexAddrS 2 (tm 15) (tm 6)),ao 18 0 17,ld 19 18,op 21 (ar .eql (tm 19) (tm 1))] [1,2,6,21])
 (.cond (tm 21) (.seq (rg [oq 4 (.mv (tm 6)) [22],op 5 (.mv (zi 0))] [4,5])
 .ret)
 .skip)))
 (rg [oq 12 (.mv (tm 6)) [13],op 6 (ar .add (tm 12) (zi 1))] [1,2,6])))
def af35:AFunc:=⟨25,2,[.tmp 4,.tmp 5],
 (.seq (rg [oq 2 (.box (tm 0)) [5]] [1,2])
 (.seq (.seq (rg [op 6 (.mv (zi 0))] [1,2,6])
 (.block 0 (.loop lp35_0)))
 (.seq (.seq (rg [oq 24 (ar .eql (tm 1) (.lit (.str [73,79]))) [24]] [24])
 (.cond (tm 24) (.seq (rg [op 4 (.mv (zi (-1))),op 5 (.mv (zi 0))] [4,5])
 .ret)
 .skip))
 (.seq (rg [op 4 (.mv (zi 0)),op 5 (.mv (zi 6))] [4,5])
 .ret))))⟩
theorem good35:Good Tryz.prog (35,af35):=mkK Z0 Tryz.func35 (by kernel_rfl)
noncomputable def af36:AFunc:=cZ Tryz.prog Z0 Tryz.f36
theorem good36:Good Tryz.prog (36,af36):=mkC Z0 Tryz.func36 (by kernel_rfl)
noncomputable def af38:AFunc:=cZ Tryz.prog Z0 Tryz.f38
theorem good38:Good Tryz.prog (38,af38):=mkC Z0 Tryz.func38 (by kernel_rfl)
noncomputable def af40:AFunc:=cZ Tryz.prog Z0 Tryz.f40
theorem good40:Good Tryz.prog (40,af40):=mkC Z0 Tryz.func40 (by kernel_rfl)
def af42:AFunc:=⟨18,2,[.tmp 4,.tmp 5],
 (.seq (rg [oq 2 (.box (tm 0)) [5],op 3 (.box (tm 1))] [2,3])
 (.seq (rg [oq 7 (.load true 10 (tm 2)) [9],op 8 (.load true 6 (tm 3)),op 6 (.call (.fn 23) [(tm 7),(tm 8)])] [2,3,6])
 (.seq (.seq (rg [oq 11 (ar .neq (tm 6) (zi 0)) [11]] [2,3,6,11])
 (.cond (tm 11) (.seq (rg [oq 4 (.mv (.lit (.bool false))) [12],op 5 (.mv (tm 6))] [4,5])
 .ret)
 .skip))
 (.seq (dr [oq 13 (.load true 10 (tm 2)) [2],oq 14 (.load true 6 (tm 3)) [3],oq 15 (.load true 10 (tm 2)) [2],oq 16 (.call (.fn 103) [(tm 15)]) [15],oq 17 (.call (.fn 102) [(tm 13),(tm 14),(.lit .empty),(zi 0),(tm 16)]) [13,14,16],oq 4 (.mv (tm 17)) [17],op 5 (.mv (zi 0))] [0,0,0,4,15,31,63] [4,5])
 .ret))))⟩
theorem good42:Good Tryz.prog (42,af42):=mkK Z0 Tryz.func42 (by kernel_rfl)
def af43:AFunc:=⟨24,3,[.tmp 6,.tmp 7],
 (.seq (rg [oq 3 (.box (tm 0)) [7],op 4 (.box (tm 1)),op 5 (.box (tm 2))] [3,4,5])
 (.seq (rg [oq 9 (.load true 10 (tm 3)) [11],op 10 (.load true 6 (tm 4)),op 8 (.call (.fn 23) [(tm 9),(tm 10)])] [3,4,5,8])
 (.seq (.seq (rg [oq 13 (ar .eql (tm 8) (zi 0)) [13]] [3,4,5,8,13])
 (.cond (tm 13) (rg [oq 14 (.load true 7 (tm 5)) [15],op 8 (.call (.fn 99) [(tm 14)])] [3,4,5,8])
 .skip))
 (.seq (.seq (rg [oq 17 (ar .neq (tm 8) (zi 0)) [17]] [3,4,5,8,17])
 (.cond (tm 17) (.seq (rg [oq 6 (.mv (.lit (.bool false))) [18],op 7 (.mv (tm 8))] [6,7])
 .ret)
 .skip))
 (.seq (rg [oq 19 (.load true 10 (tm 3)) [23],op 20 (.load true 6 (tm 4)),op 21 (.build [(.int .i64 0),(.int .i64 0),(.str []),(.slice []),(.slice []),(.int .i64 0),(.slice []),(.slice [])] [(0,6,(tm 20))]),op 22 (.load true 7 (tm 5)),op 6 (.call (.fn 104) [(tm 19),(tm 21),(tm 22)]),op 7 (.mv (zi 0))] [6,7])
 .ret)))))⟩
theorem good43:Good Tryz.prog (43,af43):=mkK (fun t=>t==21) Tryz.func43 (by kernel_rfl)
noncomputable def af46:AFunc:=cZ Tryz.prog Z0 Tryz.f46
theorem good46:Good Tryz.prog (46,af46):=mkC Z0 Tryz.func46 (by kernel_rfl)
noncomputable def af47:AFunc:=cZ Tryz.prog Z0 Tryz.f47
theorem good47:Good Tryz.prog (47,af47):=mkC Z0 Tryz.func47 (by kernel_rfl)
noncomputable def af48:AFunc:=cZ Tryz.prog Z0 Tryz.f48
theorem good48:Good Tryz.prog (48,af48):=mkC Z0 Tryz.func48 (by kernel_rfl)
noncomputable def af49:AFunc:=cZ Tryz.prog Z0 Tryz.f49
theorem good49:Good Tryz.prog (49,af49):=mkC Z0 Tryz.func49 (by kernel_rfl)
noncomputable def af50:AFunc:=cZ Tryz.prog Z0 Tryz.f50
theorem good50:Good Tryz.prog (50,af50):=mkC Z0 Tryz.func50 (by kernel_rfl)
noncomputable def af51:AFunc:=cZ Tryz.prog Z0 Tryz.f51
theorem good51:Good Tryz.prog (51,af51):=mkC Z0 Tryz.func51 (by kernel_rfl)
def lp52_0:ACode:=
 (.seq (.seq (rg [oq 10 (.addOff 6 (tm 1)) [13],ld 11 10,op 12 (.len false (tm 11)),op 13 (ar .lss (tm 4) (tm 12))] [1,3,4,13])
 (.cond (tm 13) .skip
 (.exit 0)))
 (.seq (.block 1 (rg [oq 16 (.mv (tm 3)) [24],ao 17 6 1,ld 18 17,op 20 (.indexAddrS 9 (tm 18) (tm 4)),ao 21 2 20,op 22 (.load true 7 (tm 21)),op 23 (.buildSlice 7 1 z7a [(0,(tm 22))]),op 3 (.append 7 120 (tm 16) (tm 23))] [1,3,4]))
 (rg [oq 14 (.mv (tm 4)) [15],op 4 (ar .add (tm 14) (zi 1))] [1,3,4])))
def af52:AFunc:=⟨26,1,[.tmp 2],
 (.seq (rg [oq 1 (.box (tm 0)) [2]] [1])
 (.seq (rg [oq 5 (.buildRow 7 0 [(.int .i64 0),(.int .i64 0),(.str []),(.str []),.empty,.empty,.empty] []) [8],ao 6 5 1,ld 7 6,op 3 (.append 7 120 (tm 5) (tm 7))] [1,3])
 (.seq (.seq (rg [op 4 (.mv (zi 0))] [1,3,4])
 (.block 0 (.loop lp52_0)))
 (.seq (rg [oq 2 (.mv (tm 3)) [25]] [2])
 .ret))))⟩
theorem good52:Good Tryz.prog (52,af52):=mkK (fun t=>t==5) Tryz.func52 (by kernel_rfl)
noncomputable def af53:AFunc:=cZ Tryz.prog Z0 Tryz.f53
theorem good53:Good Tryz.prog (53,af53):=mkC Z0 Tryz.func53 (by kernel_rfl)
def lp55_0:ACode:=
 (.seq (rg [op 26 (ar .lss (tm 25) (tm 24))] [3,4,15,16,17,23,24,25,26])
 (.seq (.cond (tm 26) .skip
 (.exit 2))
 (.seq (.block 3 (.seq (rg [oq 28 (.indexAddrS 2 (tm 23) (tm 25)) [29],op 29 (.load true 2 (tm 28)),op 7 (.alloc z2a),op 6 (.mv (tm 25)),on (.store 2 (tm 7) (tm 29))] [3,4,6,7,15,16,17,23,24,25])
 (.seq (dr [oq 31 (.mv (tm 3)) [3],oq 32 (.nilCheck (tm 31)) [31],aq 33 10 32,lq 34 33,aq 35 0 7,lq 36 35,oq 37 (.lookup 2 (.agg z2) true (tm 34) (tm 36)) [34,36],oq 30 (.mv (tm 37)) [37],oq 38 (.extract (tm 30) 0) [30],oq 39 (.extract (tm 30) 1) [30],op 8 (.alloc z2),om (.store 2 (tm 8) (tm 38)) [8,38],oq 9 (.mv (tm 39)) [39]] [0,1,3,7,0,16,63,127,255,255,0,1535,4095] [3,4,6,7,9,15,16,17,23,24,25])
 (.seq (rg [oq 41 (.not (tm 9)) [41]] [3,4,6,7,15,16,17,23,24,25,41])
 (.cond (tm 41) (dr [oq 42 (.mv (tm 3)) [3],oq 43 (.nilCheck (tm 42)) [42],aq 44 10 43,lq 45 44,aq 46 0 7,lq 47 46,oq 48 (.mv (tm 4)) [4],oq 49 (.mv (tm 6)) [6],oq 50 (.build z2 [(0,1,(tm 48)),(1,1,(tm 49))]) [48,49],om (.mapUpdate 2 (tm 45) (tm 47) (tm 50)) [45,47,50]] [0,1,3,7,0,16,0,0,192,511] [3,4,15,16,17,23,24,25])
 .skip)))))
 (rg [oq 25 (ar .add (tm 25) (zi 1)) [51]] [3,4,15,16,17,23,24,25]))))
def lp55_1:ACode:=
 (.seq (rg [op 18 (ar .lss (tm 17) (tm 16))] [3,15,16,17,18])
 (.seq (.cond (tm 18) .skip
 (.exit 0))
 (.seq (.block 1 (.seq (rg [oq 20 (.indexAddrS 3 (tm 15) (tm 17)) [21],op 21 (.load true 3 (tm 20)),op 5 (.alloc z3),op 4 (.mv (tm 17)),on (.store 3 (tm 5) (tm 21))] [3,4,5,15,16,17])
 (.seq (rg [ao 22 2 5,ld 23 22,op 24 (.len false (tm 23)),op 25 (.mv (zi 0))] [3,4,15,16,17,23,24,25])
 (.block 2 (.loop lp55_0)))))
 (rg [oq 17 (ar .add (tm 17) (zi 1)) [52]] [3,15,16,17]))))
def af55:AFunc:=⟨54,1,[.tmp 2],
 (.seq (rg [oq 1 (.box (tm 0)) [2]] [1])
 (.seq (rg [oq 10 (.load true 10 (tm 1)) [13],op 11 (.mkMap),op 12 (.build [.empty,.empty,.empty,(.int .i64 0),(.int .i64 0),(.str []),(.str []),.empty,.empty,.empty,.nilmap] [(0,10,(tm 10)),(10,1,(tm 11))]),op 3 (.box (tm 12))] [1,3])
 (.seq (.seq (rg [ao 14 0 1,ld 15 14,op 16 (.len false (tm 15)),op 17 (.mv (zi 0))] [3,15,16,17])
 (.block 0 (.loop lp55_1)))
 (.seq (rg [oq 2 (.mv (tm 3)) [53]] [2])
 .ret))))⟩
theorem good55:Good Tryz.prog (55,af55):=mkK Z0 Tryz.func55 (by kernel_rfl)
def lp56_0:ACode:=
 (.seq (rg [op 62 (ar .lss (tm 61) (tm 60))] [0,2,3,4,6,37,38,39,48,49,50,59,60,61,62])
 (.seq (.cond (tm 62) .skip
 (.exit 4))
 (.seq (.block 5 (.seq (rg [op 63 (.indexAddrS 6 (tm 59) (tm 61)),op 64 (.load true 6 (tm 63)),op 10 (.alloc z6),on (.store 6 (tm 10) (tm 64))] [0,2,3,4,6,10,37,38,39,48,49,50,59,60,61])
 (rg [oq 66 (.load true 6 (tm 10)) [69],ao 67 1 6,ld 68 67,op 69 (.call (.fn 112) [(tm 0),(tm 66),(tm 68)])] [0,2,3,4,6,37,38,39,48,49,50,59,60,61])))
 (rg [oq 61 (ar .add (tm 61) (zi 1)) [70]] [0,2,3,4,6,37,38,39,48,49,50,59,60,61]))))
def lp56_1:ACode:=
 (.seq (rg [op 51 (ar .lss (tm 50) (tm 49))] [0,2,3,4,6,37,38,39,48,49,50,51])
 (.seq (.cond (tm 51) .skip
 (.exit 2))
 (.seq (.block 3 (.seq (rg [op 52 (.indexAddrS 2 (tm 48) (tm 50)),op 53 (.load true 2 (tm 52)),op 8 (.alloc z2a),on (.store 2 (tm 8) (tm 53))] [0,2,3,4,6,8,37,38,39,48,49,50])
 (.seq (rg [oq 55 (.addOff 0 (tm 8)) [57],ld 56 55,op 57 (.call (.val (tm 4)) [(tm 3),(tm 56)])] [0,2,3,4,6,8,37,38,39,48,49,50])
 (.seq (rg [ao 58 1 8,ld 59 58,op 60 (.len false (tm 59)),op 61 (.mv (zi 0))] [0,2,3,4,6,37,38,39,48,49,50,59,60,61])
 (.block 4 (.loop lp56_0))))))
 (rg [oq 50 (ar .add (tm 50) (zi 1)) [71]] [0,2,3,4,6,37,38,39,48,49,50]))))
def lp56_2:ACode:=
 (.seq (rg [op 40 (ar .lss (tm 39) (tm 38))] [0,2,3,4,37,38,39,40])
 (.seq (.cond (tm 40) .skip
 (.exit 0))
 (.seq (.block 1 (.seq (rg [op 41 (.indexAddrS 3 (tm 37) (tm 39)),op 42 (.load true 3 (tm 41)),op 6 (.alloc z3),on (.store 3 (tm 6) (tm 42))] [0,2,3,4,6,37,38,39])
 (.seq (rg [oq 44 (.addOff 0 (tm 6)) [46],ld 45 44,op 46 (.call (.val (tm 4)) [(tm 2),(tm 45)])] [0,2,3,4,6,37,38,39])
 (.seq (rg [ao 47 2 6,ld 48 47,op 49 (.len false (tm 48)),op 50 (.mv (zi 0))] [0,2,3,4,6,37,38,39,48,49,50])
 (.block 2 (.loop lp56_1))))))
 (rg [oq 39 (ar .add (tm 39) (zi 1)) [72]] [0,2,3,4,37,38,39]))))
def lp56_3:ACode:=
 (.seq (rg [op 93 (ar .lss (tm 92) (tm 91))] [0,4,11,12,79,80,81,90,91,92,93])
 (.seq (.cond (tm 93) .skip
 (.exit 8))
 (.seq (.block 9 (.seq (rg [op 94 (.indexAddrS 14 (tm 90) (tm 92)),op 95 (.load true 14 (tm 94)),op 16 (.alloc z14),on (.store 14 (tm 16) (tm 95))] [0,4,11,12,16,79,80,81,90,91,92])
 (.seq (rg [oq 97 (.addOff 0 (tm 16)) [99],ld 98 97,op 99 (.call (.val (tm 4)) [(tm 12),(tm 98)])] [0,4,11,12,16,79,80,81,90,91,92])
 (.seq (rg [oq 101 (.addOff 1 (tm 16)) [103],op 102 (.load true 6 (tm 101)),op 103 (.call (.fn 112) [(tm 0),(tm 102),(.lit .empty)])] [0,4,11,12,16,79,80,81,90,91,92])
 (rg [oq 105 (.addOff 7 (tm 16)) [107],op 106 (.load true 6 (tm 105)),op 107 (.call (.fn 112) [(tm 0),(tm 106),(.lit .empty)])] [0,4,11,12,79,80,81,90,91,92])))))
 (rg [oq 92 (ar .add (tm 92) (zi 1)) [108]] [0,4,11,12,79,80,81,90,91,92]))))
def lp56_4:ACode:=
 (.seq (rg [op 82 (ar .lss (tm 81) (tm 80))] [0,4,11,12,79,80,81,82])
 (.seq (.cond (tm 82) .skip
 (.exit 6))
 (.seq (.block 7 (.seq (rg [op 83 (.indexAddrS 2 (tm 79) (tm 81)),op 84 (.load true 2 (tm 83)),op 14 (.alloc z2a),on (.store 2 (tm 14) (tm 84))] [0,4,11,12,14,79,80,81])
 (.seq (rg [oq 86 (.addOff 0 (tm 14)) [88],ld 87 86,op 88 (.call (.val (tm 4)) [(tm 11),(tm 87)])] [0,4,11,12,14,79,80,81])
 (.seq (rg [ao 89 1 14,ld 90 89,op 91 (.len false (tm 90)),op 92 (.mv (zi 0))] [0,4,11,12,79,80,81,90,91,92])
 (.block 8 (.loop lp56_3))))))
 (rg [oq 81 (ar .add (tm 81) (zi 1)) [109]] [0,4,11,12,79,80,81]))))
def af56:AFunc:=⟨110,1,[],
 (.seq (dr [oq 17 (.mv (tm 0)) [0],oq 18 (.nilCheck (tm 17)) [17],aq 19 0 18,aq 20 0 19,lq 21 20,oq 22 (.mv (tm 0)) [0],oq 23 (.nilCheck (tm 22)) [22],aq 24 0 23,aq 25 1 24,lq 26 25,op 27 (.build [(.int .i64 0),(.int .i64 0),(.str []),(.str []),(.slice []),(.slice []),(.slice [])] [(0,1,(zi 3))]),oq 28 (.build [(.slice []),(.slice []),(.slice []),(.int .i64 0),(.int .i64 0),(.str []),(.str []),(.slice []),(.slice []),(.slice [])] [(0,1,(tm 21)),(1,1,(tm 26)),(3,7,(tm 27))]) [21,26,27],oq 29 (.call (.fn 95) [(tm 28)]) [28],oq 30 (.call (.fn 59) [(tm 29)]) [29]] [0,1,3,7,15,0,32,96,224,480,0,2047,4095,8191] [0])
 (.seq (rg [op 31 (.buildRow 1 3 [(.str [])] [(0,(.lit (.str [73,110,116]))),(1,(.lit (.str [66,111,111,108]))),(2,(.lit (.str [85,110,105,116])))]),op 32 (.buildRow 1 0 [(.str [])] []),op 2 (.alloc [.empty]),op 3 (.alloc [.empty]),on (.store 1 (tm 2) (tm 31)),on (.store 1 (tm 3) (tm 32))] [0,2,3])
 (.seq (rg [op 4 (.mv (.lit (.func 110 [] [])))] [0,2,3,4])
 (.seq (.seq (rg [oq 34 (.nilCheck (tm 0)) [39],ao 35 0 34,ao 36 0 35,ld 37 36,op 38 (.len false (tm 37)),op 39 (.mv (zi 0))] [0,2,3,4,37,38,39])
 (.block 0 (.loop lp56_2)))
 (.seq (rg [op 73 (.buildRow 1 1 [(.str [])] [(0,(.lit (.str [73,79])))]),op 74 (.buildRow 1 2 [(.str [])] [(0,(.lit (.str [112,114,105,110,116]))),(1,(.lit (.str [114,101,97,100])))]),op 11 (.alloc [.empty]),op 12 (.alloc [.empty]),on (.store 1 (tm 11) (tm 73)),on (.store 1 (tm 12) (tm 74))] [0,4,11,12])
 (.seq (rg [oq 76 (.nilCheck (tm 0)) [81],ao 77 0 76,ao 78 1 77,ld 79 78,op 80 (.len false (tm 79)),op 81 (.mv (zi 0))] [0,4,11,12,79,80,81])
 (.block 6 (.loop lp56_4))))))))⟩
theorem good56:Good Tryz.prog (56,af56):=mkK (fun t=>t==27||t==28||t==31||t==32||t==73||t==74) Tryz.func56 (by kernel_rfl)
noncomputable def af57:AFunc:=cZ Tryz.prog Z0 Tryz.f57
theorem good57:Good Tryz.prog (57,af57):=mkC Z0 Tryz.func57 (by kernel_rfl)
def af58:AFunc:=⟨5,1,[],
 (rg [oq 3 (.build [(.int .i64 0)] [(0,1,(tm 0))]) [4],op 4 (.mkIface 154 (tm 3)),on (.panic (tm 4))] [])⟩
theorem good58:Good Tryz.prog (58,af58):=mkK Z0 Tryz.func58 (by kernel_rfl)
def af59:AFunc:=⟨6,1,[],
 (.seq (rg [oq 3 (ar .neq (tm 0) (zi 0)) [3]] [0,3])
 (.cond (tm 3) (rg [oq 5 (.call (.fn 58) [(tm 0)]) [5]] [])
 .skip))⟩
theorem good59:Good Tryz.prog (59,af59):=mkK Z0 Tryz.func59 (by kernel_rfl)
def af60:AFunc:=⟨10,1,[.tmp 2],
 (.seq (rg [oq 1 (.box (tm 0)) [2]] [1])
 (.seq (rg [op 4 (.build z2 [(0,1,(zi 3000))]),op 3 (.alloc z2),on (.store 2 (tm 3) (tm 4))] [1,3])
 (.seq (.seq (rg [op 5 (.load true 6 (tm 1)),op 6 (.call (.fn 113) [(tm 3),(tm 5),(zi 1)]),op 7 (.not (tm 6))] [1,7])
 (.cond (tm 7) (.seq (rg [op 2 (.mv (zi 3))] [2])
 .ret)
 .skip))
 (.seq (rg [oq 8 (.load true 6 (tm 1)) [9],op 2 (.call (.fn 114) [(tm 8)])] [2])
 .ret))))⟩
theorem good60:Good Tryz.prog (60,af60):=mkK Z0 Tryz.func60 (by kernel_rfl)
noncomputable def af61:AFunc:=cZ Tryz.prog Z0 Tryz.f61
theorem good61:Good Tryz.prog (61,af61):=mkC Z0 Tryz.func61 (by kernel_rfl)
noncomputable def af62:AFunc:=cZ Tryz.prog Z0 Tryz.f62
theorem good62:Good Tryz.prog (62,af62):=mkC Z0 Tryz.func62 (by kernel_rfl)
noncomputable def af63:AFunc:=cZ Tryz.prog Z0 Tryz.f63
theorem good63:Good Tryz.prog (63,af63):=mkC Z0 Tryz.func63 (by kernel_rfl)
def af64:AFunc:=⟨14,3,[],
 (.seq (rg [oq 4 (.load true 10 (tm 0)) [5],op 3 (.call (.fn 55) [(tm 4)])] [1,2,3])
 (.seq (rg [oq 7 (.load true 6 (tm 1)) [8],op 8 (.call (.fn 65) [(tm 3),(tm 7)])] [1,2,3])
 (dr [oq 9 (.mv (tm 3)) [3],oq 10 (.mv (tm 3)) [3],oq 11 (.call (.fn 67) [(tm 10)]) [10],oq 12 (.load true 6 (tm 1)) [1],oq 13 (.call (.fn 66) [(tm 9),(tm 11),(tm 12),(.lit .empty),(zi 0)]) [9,11,12],om (.store 1 (tm 2) (tm 13)) [2,13]] [0,0,2,0,15,31] [])))⟩
theorem good64:Good Tryz.prog (64,af64):=mkK Z0 Tryz.func64 (by kernel_rfl)
def af65:AFunc:=⟨16,2,[],
 (.seq (rg [op 3 (.box (tm 1))] [0,3])
 (.seq (rg [oq 5 (.call (.fn 56) [(tm 0)]) [5]] [0,3])
 (.seq (rg [op 6 (.load true 6 (tm 3)),op 7 (.call (.fn 60) [(tm 6)]),op 8 (.call (.fn 59) [(tm 7)])] [0,3])
 (.seq (.seq (rg [op 9 (.load true 6 (tm 3)),op 10 (.call (.fn 116) [(tm 9)]),op 11 (.not (tm 10))] [0,3,11])
 (.cond (tm 11) (rg [op 12 (.call (.fn 58) [(zi 1)])] [0,3])
 .skip))
 (rg [oq 14 (.load true 6 (tm 3)) [15],op 15 (.call (.fn 112) [(tm 0),(tm 14),(.lit .empty)])] [])))))⟩
theorem good65:Good Tryz.prog (65,af65):=mkK Z0 Tryz.func65 (by kernel_rfl)
def lp66_0:ACode:=
 (.seq (rg [op 32 (ar .lss (tm 31) (tm 30))] [0,1,3,4,7,11,29,30,31,32])
 (.seq (.cond (tm 32) .skip
 (.exit 1))
 (.seq (.block 2 (.seq (rg [oq 34 (.indexAddrS 6 (tm 29) (tm 31)) [35],op 35 (.load true 6 (tm 34)),op 13 (.alloc z6),op 12 (.mv (tm 31)),on (.store 6 (tm 13) (tm 35))] [0,1,3,4,7,11,12,13,29,30,31])
 (.seq (rg [oq 38 (.load true 6 (tm 13)) [41],op 41 (.call (.fn 66) [(tm 0),(tm 1),(tm 38),(tm 3),(tm 4)])] [0,1,3,4,7,11,12,29,30,31,41])
 (.cond (tm 41) (rg [oq 42 (.mv (tm 11)) [45],op 44 (ar .shl (zi 1) (tm 12)),op 11 (ar .or (tm 42) (tm 44))] [0,1,3,4,7,11,29,30,31])
 .skip))))
 (rg [oq 31 (ar .add (tm 31) (zi 1)) [46]] [0,1,3,4,7,11,29,30,31]))))
def af66:AFunc:=⟨58,5,[.tmp 10],
 (.seq (rg [oq 7 (.box (tm 2)) [10]] [0,1,3,4,7])
 (.seq (.seq (rg [ao 14 0 7,ld 15 14] [0,1,3,4,7,15])
 (.block 0 (.seq (rg [oq 16 (ar .eql (tm 15) (zi 1)) [17]] [0,1,3,4,7,15,16])
 (.cond (tm 16) (.seq (rg [oq 20 (.addOff 2 (tm 7)) [25],ld 21 20,op 22 (.call (.fn 89) [(tm 3),(tm 21)]),op 23 (ar .shr (tm 4) (tm 22)),op 24 (ar .and (tm 23) (zi 1)),op 10 (ar .eql (tm 24) (zi 1))] [10])
 .ret)
 (.seq (rg [oq 26 (ar .eql (tm 15) (zi 6)) [27]] [0,1,3,4,7,26])
 (.cond (tm 26) (.seq (rg [op 11 (.mv (zi 0))] [0,1,3,4,7,11])
 (.seq (.seq (rg [ao 28 3 7,ld 29 28,op 30 (.len false (tm 29)),op 31 (.mv (zi 0))] [0,1,3,4,7,11,29,30,31])
 (.block 1 (.loop lp66_0)))
 (.seq (dr [oq 47 (.mv (tm 1)) [1],oq 48 (.mv (tm 0)) [0],aq 49 2 7,lq 50 49,oq 51 (.call (.fn 117) [(tm 48),(tm 50)]) [48,50],oq 52 (.mv (tm 11)) [11],oq 53 (.nilCheck (tm 47)) [47],oq 54 (.indexAddrA 12 16 (tm 53) (tm 51)) [53,51],oq 55 (.indexAddrA 16 1 (tm 54) (tm 52)) [54,52],lq 56 55,oq 57 (ar .eql (tm 56) (zi 1)) [56],oq 10 (.mv (tm 57)) [57]] [0,0,0,4,14,0,1,95,255,511,1023,2047] [10])
 .ret)))
 .skip))))))
 (.seq (rg [op 10 (.mv (.lit (.bool true)))] [10])
 .ret)))⟩
theorem good66:Good Tryz.prog (66,af66):=mkK Z0 Tryz.func66 (by kernel_rfl)
def lp67_0:ACode:=
 (.seq (rg [op 49 (ar .lss (tm 48) (tm 47))] [0,3,4,6,7,8,24,25,26,34,35,39,40,41,46,47,48,49])
 (.seq (.cond (tm 49) .skip
 (.exit 8))
 (.seq (.block 9 (.seq (rg [op 50 (.indexAddrS 6 (tm 46) (tm 48)),op 51 (.load true 6 (tm 50)),op 12 (.alloc z6),on (.store 6 (tm 12) (tm 51))] [0,3,4,6,7,8,12,24,25,26,34,35,39,40,41,46,47,48])
 (.seq (rg [oq 53 (.load true 6 (tm 12)) [58],ao 54 1 7,ld 55 54,op 57 (.call (.fn 66) [(tm 0),(tm 3),(tm 53),(tm 55),(tm 8)]),op 58 (.not (tm 57))] [0,3,4,6,7,8,24,25,26,34,35,39,40,41,46,47,48,58])
 (.cond (tm 58) (.exit 7)
 .skip))))
 (rg [oq 48 (ar .add (tm 48) (zi 1)) [59]] [0,3,4,6,7,8,24,25,26,34,35,39,40,41,46,47,48]))))
def lp67_1:ACode:=
 (.seq (rg [op 42 (ar .lss (tm 41) (tm 40))] [0,3,4,6,7,8,24,25,26,34,35,39,40,41,42])
 (.seq (.cond (tm 42) .skip
 (.exit 6))
 (.seq (.block 7 (.seq (rg [op 43 (.indexAddrS 2 (tm 39) (tm 41)),op 44 (.load true 2 (tm 43)),op 10 (.alloc z2a),on (.store 2 (tm 10) (tm 44))] [0,3,4,6,7,8,10,24,25,26,34,35,39,40,41])
 (.seq (.seq (rg [ao 45 1 10,ld 46 45,op 47 (.len false (tm 46)),op 48 (.mv (zi 0))] [0,3,4,6,7,8,24,25,26,34,35,39,40,41,46,47,48])
 (.block 8 (.loop lp67_0)))
 (rg [oq 62 (.indexAddrA 12 16 (tm 3) (tm 6)) [63],op 63 (.indexAddrA 16 1 (tm 62) (tm 8)),on (.store 1 (tm 63) (zi 1))] [0,3,4,6,7,8,24,25,26,34,35,39,40,41]))))
 (rg [oq 41 (ar .add (tm 41) (zi 1)) [64]] [0,3,4,6,7,8,24,25,26,34,35,39,40,41]))))
def lp67_2:ACode:=
 (.seq (rg [op 36 (ar .lss (tm 35) (tm 34))] [0,3,4,6,7,24,25,26,34,35,36])
 (.seq (.cond (tm 36) .skip
 (.exit 4))
 (.seq (.block 5 (.seq (rg [oq 8 (.mv (tm 35)) [37]] [0,3,4,6,7,8,24,25,26,34,35])
 (.scope (.seq (.label 0)
 (.seq (rg [ao 38 2 7,ld 39 38,op 40 (.len false (tm 39)),op 41 (.mv (zi 0))] [0,3,4,6,7,8,24,25,26,34,35,39,40,41])
 (.block 6 (.loop lp67_1)))) none)))
 (rg [oq 35 (ar .add (tm 35) (zi 1)) [65]] [0,3,4,6,7,24,25,26,34,35]))))
def lp67_3:ACode:=
 (.seq (rg [op 27 (ar .lss (tm 26) (tm 25))] [0,3,4,24,25,26,27])
 (.seq (.cond (tm 27) .skip
 (.exit 2))
 (.seq (.block 3 (.seq (rg [oq 29 (.indexAddrS 3 (tm 24) (tm 26)) [30],op 30 (.load true 3 (tm 29)),op 7 (.alloc z3),op 6 (.mv (tm 26)),on (.store 3 (tm 7) (tm 30))] [0,3,4,6,7,24,25,26])
 (.seq (rg [ao 31 1 7,ld 32 31,op 33 (.len false (tm 32)),op 34 (ar .shl (zi 1) (tm 33)),op 35 (.mv (zi 0))] [0,3,4,6,7,24,25,26,34,35])
 (.block 4 (.loop lp67_2)))))
 (rg [oq 26 (ar .add (tm 26) (zi 1)) [66]] [0,3,4,24,25,26]))))
def lp67_4:ACode:=
 (.seq (.seq (rg [oq 14 (.mv (tm 5)) [18],gf 15 14 (.load true 192 (tm 3)) [],gf 16 14 (.load true 192 (tm 4)) [],gf 17 14 (.arith .neq (.arr 12 16 (.arr 16 1 (.sc 1))) (tm 15) (tm 16)) [],op 18 (.pick (tm 14) (.lit (.bool true)) (tm 17))] [0,3,4,18])
 (.cond (tm 18) .skip
 (.exit 0)))
 (.seq (.block 1 (.seq (rg [op 19 (.load true 192 (tm 3)),on (.store 192 (tm 4) (tm 19))] [0,3,4])
 (.seq (rg [oq 21 (.nilCheck (tm 0)) [26],ao 22 0 21,ao 23 0 22,ld 24 23,op 25 (.len false (tm 24)),op 26 (.mv (zi 0))] [0,3,4,24,25,26])
 (.block 2 (.loop lp67_3)))))
 (rg [op 5 (.mv (.lit (.bool false)))] [0,3,4,5])))
def af67:AFunc:=⟨67,1,[.tmp 2],
 (.seq (rg [op 2 (.mv (tm 2))] [0])
 (.seq (rg [op 3 (.alloc z192),op 4 (.alloc z192)] [0,3,4])
 (.seq (.seq (rg [op 5 (.mv (.lit (.bool true)))] [0,3,4,5])
 (.block 0 (.loop lp67_4)))
 (.seq (rg [op 2 (.mv (tm 3))] [2])
 .ret))))⟩
theorem good67:Good Tryz.prog (67,af67):=mkK Z0 Tryz.func67 (by kernel_rfl)
noncomputable def af68:AFunc:=cZ Tryz.prog Z0 Tryz.f68
theorem good68:Good Tryz.prog (68,af68):=mkC Z0 Tryz.func68 (by kernel_rfl)
noncomputable def af69:AFunc:=cZ Tryz.prog Z0 Tryz.f69
theorem good69:Good Tryz.prog (69,af69):=mkC Z0 Tryz.func69 (by kernel_rfl)
noncomputable def af70:AFunc:=cZ Tryz.prog Z0 Tryz.f70
theorem good70:Good Tryz.prog (70,af70):=mkC Z0 Tryz.func70 (by kernel_rfl)
def af71:AFunc:=⟨8,1,[.tmp 2],
 (.seq (rg [oq 1 (.box (tm 0)) [2]] [1])
 (.seq (.seq (rg [op 3 (.load true 6 (tm 1)),op 4 (.call (.fn 120) [(tm 3),(zi 3000),(zi 200)]),op 5 (ar .lss (tm 4) (zi 0))] [1,5])
 (.cond (tm 5) (.seq (rg [op 2 (.mv (zi 3))] [2])
 .ret)
 .skip))
 (.seq (rg [oq 6 (.load true 6 (tm 1)) [7],op 2 (.call (.fn 121) [(tm 6)])] [2])
 .ret)))⟩
theorem good71:Good Tryz.prog (71,af71):=mkK Z0 Tryz.func71 (by kernel_rfl)
def lp72_0:ACode:=
 (.seq (.seq (rg [oq 21 (.addOff 4 (tm 1)) [25],ao 22 0 21,ld 23 22,op 24 (.len false (tm 23)),op 25 (ar .lss (tm 4) (tm 24))] [1,3,4,25])
 (.cond (tm 25) .skip
 (.exit 0)))
 (.seq (.block 1 (rg [oq 29 (.mv (tm 3)) [38],gt 30 29 (.addOff 4 (tm 1)) [],gt 31 29 (.addOff 0 (tm 30)) [],gt 32 29 (l1 (tm 31)) [],gt 33 29 (.mv (tm 4)) [],gt 34 29 (.indexAddrS 2 (tm 32) (tm 33)) [],gt 35 29 (.addOff 1 (tm 34)) [],gt 36 29 (l1 (tm 35)) [],gt 37 29 (ar .eql (tm 36) (zi 0)) [],op 3 (.pick (tm 29) (tm 37) (.lit (.bool false)))] [1,3,4]))
 (rg [oq 26 (.mv (tm 4)) [27],op 4 (ar .add (tm 26) (zi 1))] [1,3,4])))
def lp72_1:ACode:=
 (.seq (.seq (rg [oq 40 (.addOff 3 (tm 1)) [46],ld 41 40,op 42 (.len false (tm 41)),op 44 (ar .lss (tm 5) (tm 42)),gt 45 44 (.mv (tm 3)) [],op 46 (.pick (tm 44) (tm 45) (.lit (.bool false)))] [1,3,5,46])
 (.cond (tm 46) .skip
 (.exit 2)))
 (.seq (.block 3 (rg [oq 49 (.addOff 3 (tm 1)) [54],ld 50 49,op 52 (.indexAddrS 6 (tm 50) (tm 5)),op 53 (.load true 6 (tm 52)),op 3 (.call (.fn 72) [(tm 53)])] [1,3,5]))
 (rg [oq 47 (.mv (tm 5)) [48],op 5 (ar .add (tm 47) (zi 1))] [1,3,5])))
def af72:AFunc:=⟨56,1,[.tmp 2],
 (.seq (rg [oq 1 (.box (tm 0)) [2]] [1])
 (.seq (rg [oq 6 (.addOff 0 (tm 1)) [19],ld 7 6,op 9 (ar .neq (tm 7) (zi 0)),gt 10 9 (.addOff 0 (tm 1)) [],gt 11 9 (l1 (tm 10)) [],gt 12 9 (ar .neq (tm 11) (zi 5)) [],gt 13 9 (.mv (tm 12)) [],gf 14 13 (.addOff 4 (tm 1)) [],gf 15 13 (.addOff 1 (tm 14)) [],gf 16 13 (l1 (tm 15)) [],gf 17 13 (ar .eql (tm 16) (zi (-1))) [],gt 18 9 (.pick (tm 13) (.lit (.bool true)) (tm 17)) [],op 3 (.pick (tm 9) (tm 18) (.lit (.bool false)))] [1,3])
 (.seq (.seq (rg [op 4 (.mv (zi 0))] [1,3,4])
 (.block 0 (.loop lp72_0)))
 (.seq (.seq (rg [op 5 (.mv (zi 0))] [1,3,5])
 (.block 2 (.loop lp72_1)))
 (.seq (rg [oq 2 (.mv (tm 3)) [55]] [2])
 .ret)))))⟩
theorem good72:Good Tryz.prog (72,af72):=mkK Z0 Tryz.func72 (by kernel_rfl)
def lp73_0:ACode:=
 (.seq (.seq (rg [oq 44 (.addOff 4 (tm 5)) [48],ao 45 0 44,ld 46 45,op 47 (.len false (tm 46)),op 48 (ar .lss (tm 8) (tm 47))] [1,3,5,8,48])
 (.cond (tm 48) .skip
 (.exit 0)))
 (.seq (.block 1 (.seq (dr [oq 52 (.load true 10 (tm 3)) [3],aq 53 4 5,aq 54 0 53,lq 55 54,oq 56 (.mv (tm 8)) [8],oq 57 (.indexAddrS 2 (tm 55) (tm 56)) [55,56],aq 58 0 57,lq 59 58,oq 60 (.call (.fn 35) [(tm 52),(tm 59)]) [52,59],oq 51 (.mv (tm 60)) [60],oq 61 (.extract (tm 51) 0) [51],oq 62 (.extract (tm 51) 1) [51],oq 9 (.mv (tm 61)) [61],oq 10 (.mv (tm 62)) [62]] [0,0,2,6,0,30,62,126,255,511,1023,1023,2047,8191] [1,3,5,8,10])
 (.seq (rg [oq 64 (ar .neq (tm 10) (zi 0)) [64]] [1,3,5,8,10,64])
 (.cond (tm 64) (.seq (rg [oq 6 (.mv (tm 10)) [65]] [6])
 .ret)
 .skip))))
 (rg [oq 49 (.mv (tm 8)) [50],op 8 (ar .add (tm 49) (zi 1))] [1,3,5,8])))
def lp73_1:ACode:=
 (.seq (.seq (rg [oq 67 (.addOff 3 (tm 5)) [70],ld 68 67,op 69 (.len false (tm 68)),op 70 (ar .lss (tm 11) (tm 69))] [1,3,5,11,70])
 (.cond (tm 70) .skip
 (.exit 2)))
 (.seq (.block 3 (.seq (dr [oq 73 (.load true 10 (tm 3)) [3],oq 74 (.mv (tm 1)) [1],aq 75 3 5,lq 76 75,oq 77 (.mv (tm 11)) [11],oq 78 (.indexAddrS 6 (tm 76) (tm 77)) [76,77],oq 79 (.load true 6 (tm 78)) [78],oq 80 (.call (.fn 73) [(tm 73),(tm 74),(tm 79)]) [73,74,79],oq 12 (.mv (tm 80)) [80]] [0,0,0,4,0,28,60,127,255] [1,3,5,11,12])
 (.seq (rg [oq 82 (ar .neq (tm 12) (zi 0)) [82]] [1,3,5,11,12,82])
 (.cond (tm 82) (.seq (rg [oq 6 (.mv (tm 12)) [83]] [6])
 .ret)
 .skip))))
 (rg [oq 71 (.mv (tm 11)) [72],op 11 (ar .add (tm 71) (zi 1))] [1,3,5,11])))
def af73:AFunc:=⟨84,3,[.tmp 6],
 (.seq (rg [oq 3 (.box (tm 0)) [6],op 5 (.box (tm 2))] [1,3,5])
 (.seq (.seq (rg [oq 13 (.addOff 0 (tm 5)) [22],ld 14 13,op 16 (ar .eql (tm 14) (zi 1)),gt 17 16 (.mv (tm 1)) [],gt 18 16 (.addOff 2 (tm 5)) [],gt 19 16 (l1 (tm 18)) [],gt 20 16 (.call (.fn 122) [(tm 17),(tm 19)]) [],gt 21 16 (.not (tm 20)) [],op 22 (.pick (tm 16) (tm 21) (.lit (.bool false)))] [1,3,5,22])
 (.cond (tm 22) (.seq (rg [op 6 (.mv (zi 6))] [6])
 .ret)
 .skip))
 (.seq (.seq (rg [ao 23 0 5,ld 24 23,op 25 (ar .eql (tm 24) (zi 6))] [1,3,5,25])
 (.cond (tm 25) (.seq (rg [oq 26 (.load true 10 (tm 3)) [29],ao 27 2 5,ld 28 27,op 7 (.call (.fn 123) [(tm 26),(tm 28)])] [1,3,5,7])
 (.seq (.seq (rg [oq 31 (ar .lss (tm 7) (zi 0)) [31]] [1,3,5,7,31])
 (.cond (tm 31) (.seq (rg [op 6 (.mv (zi 6))] [6])
 .ret)
 .skip))
 (.seq (dr [aq 32 3 5,lq 33 32,oq 34 (.len false (tm 33)) [33],aq 35 0 3,lq 36 35,oq 37 (.mv (tm 7)) [7],oq 38 (.indexAddrS 3 (tm 36) (tm 37)) [36,37],aq 39 1 38,lq 40 39,oq 41 (.len false (tm 40)) [40],oq 42 (ar .neq (tm 34) (tm 41)) [34,41]] [0,1,3,0,8,0,56,120,248,504,1023] [1,3,5,42])
 (.cond (tm 42) (.seq (rg [op 6 (.mv (zi 7))] [6])
 .ret)
 .skip))))
 .skip))
 (.seq (.seq (rg [op 8 (.mv (zi 0))] [1,3,5,8])
 (.block 0 (.loop lp73_0)))
 (.seq (.seq (rg [op 11 (.mv (zi 0))] [1,3,5,11])
 (.block 2 (.loop lp73_1)))
 (.seq (rg [op 6 (.mv (zi 0))] [6])
 .ret))))))⟩
theorem good73:Good Tryz.prog (73,af73):=mkK Z0 Tryz.func73 (by kernel_rfl)
noncomputable def af74:AFunc:=cZ Tryz.prog Z0 Tryz.f74
theorem good74:Good Tryz.prog (74,af74):=mkC Z0 Tryz.func74 (by kernel_rfl)
noncomputable def af75:AFunc:=cZ Tryz.prog (fun t=>t==6||t==40||t==73) Tryz.f75
theorem good75:Good Tryz.prog (75,af75):=mkC (fun t=>t==6||t==40||t==73) Tryz.func75 (by kernel_rfl)
noncomputable def af76:AFunc:=cZ Tryz.prog Z0 Tryz.f76
theorem good76:Good Tryz.prog (76,af76):=mkC Z0 Tryz.func76 (by kernel_rfl)
noncomputable def af77:AFunc:=cZ Tryz.prog Z0 Tryz.f77
theorem good77:Good Tryz.prog (77,af77):=mkC Z0 Tryz.func77 (by kernel_rfl)
noncomputable def af78:AFunc:=cZ Tryz.prog Z0 Tryz.f78
theorem good78:Good Tryz.prog (78,af78):=mkC Z0 Tryz.func78 (by kernel_rfl)
def af79:AFunc:=⟨18,4,[],
 (.seq (rg [oq 5 (.load true 10 (tm 0)) [6],op 4 (.call (.fn 55) [(tm 5)])] [1,2,3,4])
 (.seq (rg [oq 8 (.load true 6 (tm 1)) [9],op 9 (.call (.fn 65) [(tm 4),(tm 8)])] [1,2,3,4])
 (.seq (rg [op 10 (.load true 7 (tm 2)),op 11 (.call (.fn 80) [(tm 10)]),op 12 (.call (.fn 59) [(tm 11)])] [1,2,3,4])
 (rg [oq 14 (.load true 6 (tm 1)) [17],op 15 (.build [(.int .i64 0),(.int .i64 0),(.str []),.empty,.empty,(.int .i64 0),.nilptr] [(0,6,(tm 14))]),op 16 (.load true 7 (tm 2)),op 17 (.call (.fn 81) [(tm 4),(tm 15),(tm 16)]),on (.store 1 (tm 3) (tm 17))] []))))⟩
theorem good79:Good Tryz.prog (79,af79):=mkK Z0 Tryz.func79 (by kernel_rfl)
def af80:AFunc:=⟨11,1,[.tmp 2],
 (.seq (rg [oq 1 (.box (tm 0)) [2]] [1])
 (.seq (rg [oq 6 (.load true 7 (tm 1)) [9],op 5 (.call (.fn 82) [(tm 6)]),op 8 (.extract (tm 5) 0),op 9 (.extract (tm 5) 1),op 3 (.alloc z2),on (.store 2 (tm 3) (tm 8)),op 4 (.mv (tm 9))] [4])
 (.seq (rg [oq 2 (.mv (tm 4)) [10]] [2])
 .ret)))⟩
theorem good80:Good Tryz.prog (80,af80):=mkK Z0 Tryz.func80 (by kernel_rfl)
def lp81_0:ACode:=
 (.seq (rg [op 69 (ar .lss (tm 68) (tm 67))] [0,5,8,66,67,68,69])
 (.seq (.cond (tm 69) .skip
 (.exit 1))
 (.seq (.block 2 (.seq (rg [oq 71 (.indexAddrS 6 (tm 66) (tm 68)) [72],op 72 (.load true 6 (tm 71)),op 11 (.alloc z6),op 10 (.mv (tm 68)),on (.store 6 (tm 11) (tm 72))] [0,5,8,10,11,66,67,68])
 (.seq (dr [oq 73 (.mv (tm 0)) [0],oq 74 (.load true 6 (tm 11)) [11],oq 75 (.mv (tm 8)) [8],oq 76 (.build [(.int .i64 0),(.int .i64 0),(.str []),.empty,.empty,(.int .i64 0),.nilptr] [(0,6,(tm 74)),(6,1,(tm 75))]) [74,75],aq 77 5 5,lq 78 77,oq 79 (.mv (tm 10)) [10],oq 80 (.indexAddrS 7 (tm 78) (tm 79)) [78,79],oq 81 (.load true 7 (tm 80)) [80],oq 82 (.call (.fn 81) [(tm 73),(tm 76),(tm 81)]) [73,76,81],oq 83 (.not (tm 82)) [82]] [0,0,0,6,0,16,0,112,240,511,1023] [0,5,8,66,67,68,83])
 (.cond (tm 83) (.seq (rg [op 6 (.mv (.lit (.bool false)))] [6])
 .ret)
 .skip))))
 (rg [oq 68 (ar .add (tm 68) (zi 1)) [84]] [0,5,8,66,67,68]))))
def af81:AFunc:=⟨85,3,[.tmp 6],
 (.seq (rg [oq 4 (.box (tm 1)) [6],op 5 (.box (tm 2))] [0,4,5])
 (.seq (rg [op 12 (.load true 7 (tm 4)),op 13 (.call (.fn 124) [(tm 12)]),on (.store 7 (tm 4) (tm 13))] [0,4,5])
 (.seq (.seq (rg [ao 14 0 4,ao 15 0 14,ld 16 15] [0,4,5,16])
 (.block 0 (.seq (rg [oq 17 (ar .eql (tm 16) (zi 2)) [18]] [0,4,5,16,17])
 (.cond (tm 17) (.seq (rg [oq 19 (.addOff 0 (tm 5)) [21],ld 20 19,op 6 (ar .eql (tm 20) (zi 1))] [6])
 .ret)
 (.seq (rg [oq 22 (ar .eql (tm 16) (zi 3)) [23]] [0,4,5,16,22])
 (.cond (tm 22) (.seq (rg [oq 24 (.addOff 0 (tm 5)) [26],ld 25 24,op 6 (ar .eql (tm 25) (zi 2))] [6])
 .ret)
 (.seq (rg [oq 27 (ar .eql (tm 16) (zi 4)) [28]] [0,4,5,16,27])
 (.cond (tm 27) (.seq (rg [oq 29 (.addOff 0 (tm 5)) [31],ld 30 29,op 6 (ar .eql (tm 30) (zi 3))] [6])
 .ret)
 (.seq (rg [oq 32 (ar .eql (tm 16) (zi 6)) [33]] [0,4,5,32])
 (.cond (tm 32) (.seq (rg [oq 36 (.load true 7 (tm 4)) [39],op 34 (.call (.fn 125) [(tm 0),(tm 36)]),op 38 (.extract (tm 34) 0),op 39 (.extract (tm 34) 1),op 7 (.mv (tm 38)),op 8 (.mv (tm 39))] [0,5,7,8])
 (.seq (rg [oq 41 (.mkFunc 129 [] [(tm 5)]) [42],op 9 (.call (.fn 87) [(tm 7),(tm 41)])] [0,5,7,8,9])
 (.seq (.seq (dr [aq 43 0 5,lq 44 43,oq 45 (ar .neq (tm 44) (zi 10)) [44],oq 46 (.mv (tm 45)) [45],gf 47 46 (.mv (tm 9)) [9,46],gf 48 46 (ar .lss (tm 47) (zi 0)) [47,46],oq 49 (.pick (tm 46) (.lit (.bool true)) (tm 48)) [46,48],oq 50 (.mv (tm 49)) [49],gf 51 50 (.mv (tm 7)) [7,50],gf 52 50 (.mv (tm 9)) [9,50],gf 53 50 (.indexAddrS 2 (tm 51) (tm 52)) [51,52,50],gf 54 50 (.addOff 1 (tm 53)) [53,50],gf 55 50 (l1 (tm 54)) [54,50],gf 56 50 (.len false (tm 55)) [55,50],gf 57 50 (.addOff 5 (tm 5)) [5,50],gf 58 50 (l1 (tm 57)) [57,50],gf 59 50 (.len false (tm 58)) [58,50],gf 60 50 (ar .neq (tm 56) (tm 59)) [56,59,50],oq 61 (.pick (tm 50) (.lit (.bool true)) (tm 60)) [50,60]] [0,1,3,7,15,31,63,127,255,255,1023,2047,4095,8191,255,16639,49407,131071,262143] [0,5,7,8,9,61])
 (.cond (tm 61) (.seq (rg [op 6 (.mv (.lit (.bool false)))] [6])
 .ret)
 .skip))
 (.seq (.seq (rg [oq 64 (.indexAddrS 2 (tm 7) (tm 9)) [68],ao 65 1 64,ld 66 65,op 67 (.len false (tm 66)),op 68 (.mv (zi 0))] [0,5,8,66,67,68])
 (.block 1 (.loop lp81_0)))
 (.seq (rg [op 6 (.mv (.lit (.bool true)))] [6])
 .ret)))))
 .skip))))))))))
 (.seq (rg [op 6 (.mv (.lit (.bool false)))] [6])
 .ret))))⟩
theorem good81:Good Tryz.prog (81,af81):=mkK Z0 Tryz.func81 (by kernel_rfl)
def af82:AFunc:=⟨13,1,[.cell 2 true 2,.tmp 3],
 (.seq (rg [oq 1 (.box (tm 0)) [3],op 2 (.alloc z2)] [1,2])
 (.seq (rg [op 5 (.build z2 [(0,1,(zi 3000))]),op 4 (.alloc z2),on (.store 2 (tm 4) (tm 5))] [1,2,4])
 (.seq (.seq (rg [op 6 (.load true 7 (tm 1)),op 7 (.call (.fn 130) [(tm 4),(tm 6),(zi 1)]),op 8 (.not (tm 7))] [1,2,4,8])
 (.cond (tm 8) (.seq (rg [op 9 (.load true 2 (tm 4)),on (.store 2 (tm 2) (tm 9)),op 3 (.mv (zi 3))] [2,3])
 .ret)
 .skip))
 (.seq (dr [oq 10 (.load true 2 (tm 4)) [4],oq 11 (.load true 7 (tm 1)) [1],oq 12 (.call (.fn 131) [(tm 11)]) [11],om (.store 2 (tm 2) (tm 10)) [2,10],oq 3 (.mv (tm 12)) [12]] [0,0,2,7,15] [2,3])
 .ret))))⟩
theorem good82:Good Tryz.prog (82,af82):=mkK Z0 Tryz.func82 (by kernel_rfl)
def lp84_0:ACode:=
 (.seq (.seq (rg [oq 30 (.addOff 0 (tm 1)) [33],ld 31 30,op 32 (.len false (tm 31)),op 33 (ar .lss (tm 3) (tm 32))] [1,3,33])
 (.cond (tm 33) .skip
 (.exit 0)))
 (.seq (.block 1 (.seq (rg [oq 36 (.addOff 0 (tm 1)) [41],ld 37 36,op 39 (.indexAddrS 3 (tm 37) (tm 3)),op 40 (.load true 3 (tm 39)),op 4 (.call (.fn 133) [(tm 40)])] [1,3,4])
 (.seq (rg [oq 43 (ar .neq (tm 4) (zi 0)) [43]] [1,3,4,43])
 (.cond (tm 43) (.seq (rg [oq 2 (.mv (tm 4)) [44]] [2])
 .ret)
 .skip))))
 (rg [oq 34 (.mv (tm 3)) [35],op 3 (ar .add (tm 34) (zi 1))] [1,3])))
def lp84_1:ACode:=
 (.seq (.seq (rg [oq 46 (.addOff 1 (tm 1)) [49],ld 47 46,op 48 (.len false (tm 47)),op 49 (ar .lss (tm 5) (tm 48))] [1,5,49])
 (.cond (tm 49) .skip
 (.exit 2)))
 (.seq (.block 3 (.seq (rg [oq 52 (.addOff 1 (tm 1)) [57],ld 53 52,op 55 (.indexAddrS 2 (tm 53) (tm 5)),op 56 (.load true 2 (tm 55)),op 6 (.call (.fn 134) [(tm 56)])] [1,5,6])
 (.seq (rg [oq 59 (ar .neq (tm 6) (zi 0)) [59]] [1,5,6,59])
 (.cond (tm 59) (.seq (rg [oq 2 (.mv (tm 6)) [60]] [2])
 .ret)
 .skip))))
 (rg [oq 50 (.mv (tm 5)) [51],op 5 (ar .add (tm 50) (zi 1))] [1,5])))
def lp84_2:ACode:=
 (.seq (.seq (rg [oq 62 (.addOff 2 (tm 1)) [65],ld 63 62,op 64 (.len false (tm 63)),op 65 (ar .leq (tm 8) (tm 64))] [1,7,8,65])
 (.cond (tm 65) .skip
 (.exit 4)))
 (.seq (.block 5 (.seq (rg [oq 68 (.addOff 3 (tm 1)) [71],op 69 (.load true 7 (tm 68)),op 71 (ar .sub (zi 200) (tm 8)),op 9 (.alloc z7a),on (.store 7 (tm 9) (tm 69)),op 10 (.mv (tm 71))] [1,7,8,9,10])
 (.seq (.seq (rg [oq 73 (.addOff 2 (tm 1)) [76],ld 74 73,op 75 (.len false (tm 74)),op 76 (ar .lss (tm 8) (tm 75))] [1,7,8,9,10,76])
 (.cond (tm 76) (.seq (rg [oq 77 (.addOff 2 (tm 1)) [84],ld 78 77,op 80 (.indexAddrS 8 (tm 78) (tm 8)),ao 81 1 80,op 82 (.load true 7 (tm 81)),op 83 (.mv (tm 10)),op 84 (ar .sub (tm 83) (zi 1)),on (.store 7 (tm 9) (tm 82)),op 10 (.mv (tm 84))] [1,7,8,9,10])
 (rg [oq 85 (.mv (tm 7)) [86],op 7 (ar .sub (tm 85) (zi 1))] [1,7,8,9,10]))
 .skip))
 (.seq (rg [oq 87 (.load true 7 (tm 9)) [90],op 88 (.mv (tm 7)),op 7 (.call (.fn 132) [(tm 87),(tm 88),(tm 10)])] [1,7,8])
 (.seq (rg [oq 92 (ar .lss (tm 7) (zi 0)) [92]] [1,7,8,92])
 (.cond (tm 92) (.seq (rg [op 2 (.mv (zi 3))] [2])
 .ret)
 .skip))))))
 (rg [oq 66 (.mv (tm 8)) [67],op 8 (ar .add (tm 66) (zi 1))] [1,7,8])))
def lp84_3:ACode:=
 (.seq (.seq (rg [oq 94 (.addOff 2 (tm 1)) [97],ld 95 94,op 96 (.len false (tm 95)),op 97 (ar .lss (tm 11) (tm 96))] [1,11,97])
 (.cond (tm 97) .skip
 (.exit 6)))
 (.seq (.block 7 (.seq (.seq (rg [oq 100 (.addOff 2 (tm 1)) [107],ld 101 100,op 103 (.indexAddrS 8 (tm 101) (tm 11)),ao 104 0 103,ld 105 104,op 106 (.call (.fn 135) [(tm 105)]),op 107 (.not (tm 106))] [1,11,107])
 (.cond (tm 107) (.seq (rg [op 2 (.mv (zi 4))] [2])
 .ret)
 .skip))
 (.seq (rg [oq 108 (.addOff 2 (tm 1)) [114],ld 109 108,op 111 (.indexAddrS 8 (tm 109) (tm 11)),ao 112 1 111,op 113 (.load true 7 (tm 112)),op 12 (.call (.fn 136) [(tm 113)])] [1,11,12])
 (.seq (rg [oq 116 (ar .neq (tm 12) (zi 0)) [116]] [1,11,12,116])
 (.cond (tm 116) (.seq (rg [oq 2 (.mv (tm 12)) [117]] [2])
 .ret)
 .skip)))))
 (rg [oq 98 (.mv (tm 11)) [99],op 11 (ar .add (tm 98) (zi 1))] [1,11])))
def af84:AFunc:=⟨121,1,[.tmp 2],
 (.seq (rg [oq 1 (.box (tm 0)) [2]] [1])
 (.seq (.seq (rg [oq 13 (.addOff 0 (tm 1)) [28],ld 14 13,op 15 (.len false (tm 14)),op 17 (ar .gtr (tm 15) (zi 12)),gf 18 17 (.addOff 1 (tm 1)) [],gf 19 17 (l1 (tm 18)) [],gf 20 17 (.len false (tm 19)) [],gf 21 17 (ar .gtr (tm 20) (zi 12)) [],op 23 (.pick (tm 17) (.lit (.bool true)) (tm 21)),gf 24 23 (.addOff 2 (tm 1)) [],gf 25 23 (l1 (tm 24)) [],gf 26 23 (.len false (tm 25)) [],gf 27 23 (ar .gtr (tm 26) (zi 60)) [],op 28 (.pick (tm 23) (.lit (.bool true)) (tm 27))] [1,28])
 (.cond (tm 28) (.seq (rg [op 2 (.mv (zi 3))] [2])
 .ret)
 .skip))
 (.seq (.seq (rg [op 3 (.mv (zi 0))] [1,3])
 (.block 0 (.loop lp84_0)))
 (.seq (.seq (rg [op 5 (.mv (zi 0))] [1,5])
 (.block 2 (.loop lp84_1)))
 (.seq (rg [op 7 (.mv (zi 3000))] [1,7])
 (.seq (.seq (rg [op 8 (.mv (zi 0))] [1,7,8])
 (.block 4 (.loop lp84_2)))
 (.seq (.seq (rg [op 11 (.mv (zi 0))] [1,11])
 (.block 6 (.loop lp84_3)))
 (.seq (rg [oq 118 (.addOff 3 (tm 1)) [120],op 119 (.load true 7 (tm 118)),op 2 (.call (.fn 136) [(tm 119)])] [2])
 .ret))))))))⟩
theorem good84:Good Tryz.prog (84,af84):=mkK Z0 Tryz.func84 (by kernel_rfl)
def lp85_0:ACode:=
 (.seq (.seq (rg [oq 61 (.addOff 2 (tm 6)) [68],ld 62 61,op 64 (.indexAddrS 2 (tm 62) (tm 7)),ao 65 1 64,ld 66 65,op 67 (.len false (tm 66)),op 68 (ar .lss (tm 8) (tm 67))] [1,3,4,5,6,7,8,68])
 (.cond (tm 68) .skip
 (.exit 4)))
 (.seq (.block 5 (.seq (dr [oq 71 (.load true 10 (tm 1)) [1],aq 72 1 6,lq 73 72,aq 74 2 6,lq 75 74,oq 76 (.mv (tm 7)) [7],oq 77 (.indexAddrS 2 (tm 75) (tm 76)) [75,76],aq 78 1 77,lq 79 78,oq 80 (.mv (tm 8)) [8],oq 81 (.indexAddrS 6 (tm 79) (tm 80)) [79,80],oq 82 (.load true 6 (tm 81)) [81],oq 83 (.call (.fn 73) [(tm 71),(tm 73),(tm 82)]) [71,73,82],oq 9 (.mv (tm 83)) [83]] [0,0,2,0,8,0,56,120,248,0,1016,2040,4095,8191] [1,3,4,5,6,7,8,9])
 (.seq (rg [oq 85 (ar .neq (tm 9) (zi 0)) [85]] [1,3,4,5,6,7,8,9,85])
 (.cond (tm 85) (.seq (rg [oq 2 (.mv (tm 9)) [86]] [2])
 .ret)
 .skip))))
 (rg [oq 69 (.mv (tm 8)) [70],op 8 (ar .add (tm 69) (zi 1))] [1,3,4,5,6,7,8])))
def lp85_1:ACode:=
 (.seq (.seq (rg [oq 37 (.addOff 2 (tm 6)) [40],ld 38 37,op 39 (.len false (tm 38)),op 40 (ar .lss (tm 7) (tm 39))] [1,3,4,5,6,7,40])
 (.cond (tm 40) .skip
 (.exit 2)))
 (.seq (.block 3 (.seq (.seq (rg [oq 44 (.addOff 2 (tm 6)) [50],ld 45 44,op 47 (.indexAddrS 2 (tm 45) (tm 7)),ao 48 0 47,ld 49 48,op 50 (.call (.fn 122) [(tm 4),(tm 49)])] [1,3,4,5,6,7,50])
 (.cond (tm 50) (.seq (rg [op 2 (.mv (zi 5))] [2])
 .ret)
 .skip))
 (.seq (rg [oq 51 (.mv (tm 4)) [59],ao 52 2 6,ld 53 52,op 55 (.indexAddrS 2 (tm 53) (tm 7)),ao 56 0 55,ld 57 56,op 58 (.buildSlice 1 1 [(.str [])] [(0,(tm 57))]),op 4 (.append 1 16 (tm 51) (tm 58))] [1,3,4,5,6,7])
 (.seq (rg [op 8 (.mv (zi 0))] [1,3,4,5,6,7,8])
 (.block 4 (.loop lp85_0))))))
 (rg [oq 41 (.mv (tm 7)) [42],op 7 (ar .add (tm 41) (zi 1))] [1,3,4,5,6,7])))
def lp85_2:ACode:=
 (.seq (.seq (rg [oq 11 (.addOff 0 (tm 1)) [14],ld 12 11,op 13 (.len false (tm 12)),op 14 (ar .lss (tm 5) (tm 13))] [1,3,4,5,14])
 (.cond (tm 14) .skip
 (.exit 0)))
 (.seq (.block 1 (.seq (rg [oq 17 (.addOff 0 (tm 1)) [21],ld 18 17,op 20 (.indexAddrS 3 (tm 18) (tm 5)),op 21 (.load true 3 (tm 20)),op 6 (.alloc z3),on (.store 3 (tm 6) (tm 21))] [1,3,4,5,6])
 (.seq (.seq (rg [oq 22 (.addOff 0 (tm 6)) [30],ld 23 22,op 25 (.call (.fn 137) [(tm 23)]),gf 26 25 (.mv (tm 3)) [],gf 27 25 (.addOff 0 (tm 6)) [],gf 28 25 (l1 (tm 27)) [],gf 29 25 (.call (.fn 122) [(tm 26),(tm 28)]) [],op 30 (.pick (tm 25) (.lit (.bool true)) (tm 29))] [1,3,4,5,6,30])
 (.cond (tm 30) (.seq (rg [op 2 (.mv (zi 5))] [2])
 .ret)
 .skip))
 (.seq (rg [oq 31 (.mv (tm 3)) [35],ao 32 0 6,ld 33 32,op 34 (.buildSlice 1 1 [(.str [])] [(0,(tm 33))]),op 3 (.append 1 16 (tm 31) (tm 34))] [1,3,4,5,6])
 (.seq (rg [op 7 (.mv (zi 0))] [1,3,4,5,6,7])
 (.block 2 (.loop lp85_1)))))))
 (rg [oq 15 (.mv (tm 5)) [16],op 5 (ar .add (tm 15) (zi 1))] [1,3,4,5])))
def af85:AFunc:=⟨87,1,[.tmp 2],
 (.seq (rg [oq 1 (.box (tm 0)) [2]] [1])
 (.seq (rg [op 3 (.newrow 1),op 4 (.newrow 1)] [1,3,4])
 (.seq (.seq (rg [op 5 (.mv (zi 0))] [1,3,4,5])
 (.block 0 (.loop lp85_2)))
 (.seq (rg [op 2 (.mv (zi 0))] [2])
 .ret))))⟩
theorem good85:Good Tryz.prog (85,af85):=mkK (fun t=>t==3||t==4) Tryz.func85 (by kernel_rfl)
def lp86_0:ACode:=
 (.seq (.seq (rg [oq 34 (.addOff 1 (tm 6)) [37],ld 35 34,op 36 (.len false (tm 35)),op 37 (ar .lss (tm 7) (tm 36))] [1,3,4,5,6,7,37])
 (.cond (tm 37) .skip
 (.exit 2)))
 (.seq (.block 3 (.seq (rg [oq 40 (.addOff 1 (tm 6)) [44],ld 41 40,op 43 (.indexAddrS 14 (tm 41) (tm 7)),op 44 (.load true 14 (tm 43)),op 8 (.alloc z14),on (.store 14 (tm 8) (tm 44))] [1,3,4,5,6,7,8])
 (.seq (.seq (rg [oq 46 (.addOff 0 (tm 8)) [48],ld 47 46,op 48 (.call (.fn 122) [(tm 4),(tm 47)])] [1,3,4,5,6,7,8,48])
 (.cond (tm 48) (.seq (rg [op 2 (.mv (zi 5))] [2])
 .ret)
 .skip))
 (.seq (rg [oq 49 (.mv (tm 4)) [53],ao 50 0 8,ld 51 50,op 52 (.buildSlice 1 1 [(.str [])] [(0,(tm 51))]),op 4 (.append 1 16 (tm 49) (tm 52))] [1,3,4,5,6,7,8])
 (.seq (rg [oq 54 (.load true 10 (tm 1)) [57],ao 55 1 8,op 56 (.load true 6 (tm 55)),op 9 (.call (.fn 73) [(tm 54),(.lit .empty),(tm 56)])] [1,3,4,5,6,7,8,9])
 (.seq (.seq (rg [oq 59 (ar .eql (tm 9) (zi 0)) [59]] [1,3,4,5,6,7,8,9,59])
 (.cond (tm 59) (rg [oq 60 (.load true 10 (tm 1)) [63],ao 61 7 8,op 62 (.load true 6 (tm 61)),op 9 (.call (.fn 73) [(tm 60),(.lit .empty),(tm 62)])] [1,3,4,5,6,7,9])
 .skip))
 (.seq (rg [oq 65 (ar .neq (tm 9) (zi 0)) [65]] [1,3,4,5,6,7,9,65])
 (.cond (tm 65) (.seq (rg [oq 2 (.mv (tm 9)) [66]] [2])
 .ret)
 .skip))))))))
 (rg [oq 38 (.mv (tm 7)) [39],op 7 (ar .add (tm 38) (zi 1))] [1,3,4,5,6,7])))
def lp86_1:ACode:=
 (.seq (.seq (rg [oq 13 (.addOff 1 (tm 1)) [16],ld 14 13,op 15 (.len false (tm 14)),op 16 (ar .lss (tm 5) (tm 15))] [1,3,4,5,16])
 (.cond (tm 16) .skip
 (.exit 0)))
 (.seq (.block 1 (.seq (rg [oq 19 (.addOff 1 (tm 1)) [23],ld 20 19,op 22 (.indexAddrS 2 (tm 20) (tm 5)),op 23 (.load true 2 (tm 22)),op 6 (.alloc z2a),on (.store 2 (tm 6) (tm 23))] [1,3,4,5,6])
 (.seq (.seq (rg [oq 25 (.addOff 0 (tm 6)) [27],ld 26 25,op 27 (.call (.fn 122) [(tm 3),(tm 26)])] [1,3,4,5,6,27])
 (.cond (tm 27) (.seq (rg [op 2 (.mv (zi 5))] [2])
 .ret)
 .skip))
 (.seq (rg [oq 28 (.mv (tm 3)) [32],ao 29 0 6,ld 30 29,op 31 (.buildSlice 1 1 [(.str [])] [(0,(tm 30))]),op 3 (.append 1 16 (tm 28) (tm 31))] [1,3,4,5,6])
 (.seq (rg [op 7 (.mv (zi 0))] [1,3,4,5,6,7])
 (.block 2 (.loop lp86_0)))))))
 (rg [oq 17 (.mv (tm 5)) [18],op 5 (ar .add (tm 17) (zi 1))] [1,3,4,5])))
def af86:AFunc:=⟨67,1,[.tmp 2],
 (.seq (rg [oq 1 (.box (tm 0)) [2]] [1])
 (.seq (rg [op 10 (.buildRow 1 1 [(.str [])] [(0,(.lit (.str [73,79])))]),op 11 (.buildRow 1 2 [(.str [])] [(0,(.lit (.str [112,114,105,110,116]))),(1,(.lit (.str [114,101,97,100])))]),op 3 (.mv (tm 10)),op 4 (.mv (tm 11))] [1,3,4])
 (.seq (.seq (rg [op 5 (.mv (zi 0))] [1,3,4,5])
 (.block 0 (.loop lp86_1)))
 (.seq (rg [op 2 (.mv (zi 0))] [2])
 .ret))))⟩
theorem good86:Good Tryz.prog (86,af86):=mkK (fun t=>t==10||t==11) Tryz.func86 (by kernel_rfl)
def af87:AFunc:=⟨8,2,[.tmp 4],
 (.seq (rg [op 4 (.mv (tm 4))] [0,1])
 (.seq (rg [oq 4 (.call (.fn 138) [(tm 0),(tm 1)]) [7]] [4])
 .ret))⟩
theorem good87:Good Tryz.prog (87,af87):=mkK Z0 Tryz.func87 (by kernel_rfl)
noncomputable def af88:AFunc:=cZ Tryz.prog Z0 Tryz.f88
theorem good88:Good Tryz.prog (88,af88):=mkC Z0 Tryz.func88 (by kernel_rfl)
def lp89_0:ACode:=
 (.seq (rg [op 9 (ar .lss (tm 8) (tm 7))] [0,1,7,8,9])
 (.seq (.cond (tm 9) .skip
 (.exit 0))
 (.seq (.block 1 (.seq (rg [oq 5 (.mv (tm 8)) [10]] [0,1,5,7,8])
 (.seq (rg [oq 14 (.indexAddrS 1 (tm 0) (tm 5)) [16],ld 15 14,op 16 (ar .eql (tm 1) (tm 15))] [0,1,5,7,8,16])
 (.cond (tm 16) (.seq (rg [oq 4 (.mv (tm 5)) [17]] [4])
 .ret)
 .skip))))
 (rg [oq 8 (ar .add (tm 8) (zi 1)) [18]] [0,1,7,8]))))
def af89:AFunc:=⟨19,2,[.tmp 4],
 (.seq (rg [op 4 (.mv (tm 4))] [0,1])
 (.seq (.seq (rg [oq 7 (.len false (tm 0)) [8],op 8 (.mv (zi 0))] [0,1,7,8])
 (.block 0 (.loop lp89_0)))
 (.seq (rg [op 4 (.mv (zi (-1)))] [4])
 .ret)))⟩
theorem good89:Good Tryz.prog (89,af89):=mkK Z0 Tryz.func89 (by kernel_rfl)
noncomputable def af90:AFunc:=cZ Tryz.prog (fun t=>t==5) Tryz.f90
theorem good90:Good Tryz.prog (90,af90):=mkC (fun t=>t==5) Tryz.func90 (by kernel_rfl)
def af92:AFunc:=⟨8,2,[.tmp 4],
 (.seq (rg [op 4 (.mv (tm 4))] [0,1])
 (.seq (rg [oq 4 (.call (.fn 139) [(tm 0),(tm 1)]) [7]] [4])
 .ret))⟩
theorem good92:Good Tryz.prog (92,af92):=mkK Z0 Tryz.func92 (by kernel_rfl)
def af93:AFunc:=⟨8,2,[.tmp 3],
 (.seq (rg [oq 2 (.box (tm 0)) [3]] [1,2])
 (.seq (rg [oq 4 (.addOff 0 (tm 2)) [7],ld 5 4,ld 6 1,op 3 (ar .eql (tm 5) (tm 6))] [3])
 .ret))⟩
theorem good93:Good Tryz.prog (93,af93):=mkK Z0 Tryz.func93 (by kernel_rfl)
noncomputable def af94:AFunc:=cZ Tryz.prog Z0 Tryz.f94
theorem good94:Good Tryz.prog (94,af94):=mkC Z0 Tryz.func94 (by kernel_rfl)
def lp95_0:ACode:=
 (.seq (rg [op 33 (ar .lss (tm 32) (tm 31))] [1,30,31,32,33])
 (.seq (.cond (tm 33) .skip
 (.exit 0))
 (.seq (.block 1 (.seq (rg [op 34 (.indexAddrS 3 (tm 30) (tm 32)),op 35 (.load true 3 (tm 34)),op 4 (.alloc z3),on (.store 3 (tm 4) (tm 35))] [1,4,30,31,32])
 (.seq (rg [oq 36 (.load true 3 (tm 4)) [37],op 5 (.call (.fn 140) [(tm 36)])] [1,5,30,31,32])
 (.seq (rg [oq 39 (ar .neq (tm 5) (zi 0)) [39]] [1,5,30,31,32,39])
 (.cond (tm 39) (.seq (rg [oq 2 (.mv (tm 5)) [40]] [2])
 .ret)
 .skip)))))
 (rg [oq 32 (ar .add (tm 32) (zi 1)) [41]] [1,30,31,32]))))
def lp95_1:ACode:=
 (.seq (rg [op 46 (ar .lss (tm 45) (tm 44))] [1,43,44,45,46])
 (.seq (.cond (tm 46) .skip
 (.exit 2))
 (.seq (.block 3 (.seq (rg [op 47 (.indexAddrS 2 (tm 43) (tm 45)),op 48 (.load true 2 (tm 47)),op 7 (.alloc z2a),on (.store 2 (tm 7) (tm 48))] [1,7,43,44,45])
 (.seq (rg [oq 49 (.load true 2 (tm 7)) [50],op 8 (.call (.fn 141) [(tm 49)])] [1,8,43,44,45])
 (.seq (rg [oq 52 (ar .neq (tm 8) (zi 0)) [52]] [1,8,43,44,45,52])
 (.cond (tm 52) (.seq (rg [oq 2 (.mv (tm 8)) [53]] [2])
 .ret)
 .skip)))))
 (rg [oq 45 (ar .add (tm 45) (zi 1)) [54]] [1,43,44,45]))))
def lp95_2:ACode:=
 (.seq (rg [op 64 (ar .lss (tm 63) (tm 62))] [1,61,62,63,64])
 (.seq (.cond (tm 64) .skip
 (.exit 4))
 (.seq (.block 5 (.seq (rg [op 65 (.indexAddrS 8 (tm 61) (tm 63)),op 66 (.load true 8 (tm 65)),op 11 (.alloc z8a),on (.store 8 (tm 11) (tm 66))] [1,11,61,62,63])
 (.seq (.seq (rg [ao 67 0 11,ld 68 67,op 69 (.call (.fn 143) [(tm 68),(zi 1)]),op 70 (.not (tm 69))] [1,11,61,62,63,70])
 (.cond (tm 70) (.seq (rg [op 2 (.mv (zi 4))] [2])
 .ret)
 .skip))
 (.seq (rg [oq 71 (.addOff 1 (tm 11)) [73],op 72 (.load true 7 (tm 71)),op 12 (.call (.fn 131) [(tm 72)])] [1,12,61,62,63])
 (.seq (rg [oq 75 (ar .neq (tm 12) (zi 0)) [75]] [1,12,61,62,63,75])
 (.cond (tm 75) (.seq (rg [oq 2 (.mv (tm 12)) [76]] [2])
 .ret)
 .skip))))))
 (rg [oq 63 (ar .add (tm 63) (zi 1)) [77]] [1,61,62,63]))))
def af95:AFunc:=⟨81,1,[.tmp 2],
 (.seq (rg [oq 1 (.box (tm 0)) [2]] [1])
 (.seq (.seq (rg [oq 13 (.addOff 0 (tm 1)) [28],ld 14 13,op 15 (.len false (tm 14)),op 17 (ar .gtr (tm 15) (zi 12)),gf 18 17 (.addOff 1 (tm 1)) [],gf 19 17 (l1 (tm 18)) [],gf 20 17 (.len false (tm 19)) [],gf 21 17 (ar .gtr (tm 20) (zi 12)) [],op 23 (.pick (tm 17) (.lit (.bool true)) (tm 21)),gf 24 23 (.addOff 2 (tm 1)) [],gf 25 23 (l1 (tm 24)) [],gf 26 23 (.len false (tm 25)) [],gf 27 23 (ar .gtr (tm 26) (zi 60)) [],op 28 (.pick (tm 23) (.lit (.bool true)) (tm 27))] [1,28])
 (.cond (tm 28) (.seq (rg [op 2 (.mv (zi 3))] [2])
 .ret)
 .skip))
 (.seq (.seq (rg [ao 29 0 1,ld 30 29,op 31 (.len false (tm 30)),op 32 (.mv (zi 0))] [1,30,31,32])
 (.block 0 (.loop lp95_0)))
 (.seq (.seq (rg [ao 42 1 1,ld 43 42,op 44 (.len false (tm 43)),op 45 (.mv (zi 0))] [1,43,44,45])
 (.block 2 (.loop lp95_1)))
 (.seq (rg [op 55 (.build z2 [(0,1,(zi 3000))]),op 9 (.alloc z2),on (.store 2 (tm 9) (tm 55))] [1,9])
 (.seq (.seq (rg [op 56 (.load true 10 (tm 1)),op 57 (.call (.fn 142) [(tm 56)]),op 58 (.call (.fn 130) [(tm 9),(tm 57),(zi 1)]),op 59 (.not (tm 58))] [1,59])
 (.cond (tm 59) (.seq (rg [op 2 (.mv (zi 3))] [2])
 .ret)
 .skip))
 (.seq (.seq (rg [ao 60 2 1,ld 61 60,op 62 (.len false (tm 61)),op 63 (.mv (zi 0))] [1,61,62,63])
 (.block 4 (.loop lp95_2)))
 (.seq (rg [oq 78 (.addOff 3 (tm 1)) [80],op 79 (.load true 7 (tm 78)),op 2 (.call (.fn 131) [(tm 79)])] [2])
 .ret))))))))⟩
theorem good95:Good Tryz.prog (95,af95):=mkK Z0 Tryz.func95 (by kernel_rfl)
noncomputable def af96:AFunc:=cZ Tryz.prog Z0 Tryz.f96
theorem good96:Good Tryz.prog (96,af96):=mkC Z0 Tryz.func96 (by kernel_rfl)
noncomputable def af98:AFunc:=cZ Tryz.prog Z0 Tryz.f98
theorem good98:Good Tryz.prog (98,af98):=mkC Z0 Tryz.func98 (by kernel_rfl)
def af99:AFunc:=⟨8,1,[.tmp 2],
 (.seq (rg [oq 1 (.box (tm 0)) [2]] [1])
 (.seq (.seq (rg [op 3 (.load true 7 (tm 1)),op 4 (.call (.fn 132) [(tm 3),(zi 3000),(zi 200)]),op 5 (ar .lss (tm 4) (zi 0))] [1,5])
 (.cond (tm 5) (.seq (rg [op 2 (.mv (zi 3))] [2])
 .ret)
 .skip))
 (.seq (rg [oq 6 (.load true 7 (tm 1)) [7],op 2 (.call (.fn 136) [(tm 6)])] [2])
 .ret)))⟩
theorem good99:Good Tryz.prog (99,af99):=mkK Z0 Tryz.func99 (by kernel_rfl)
noncomputable def af100:AFunc:=cZ Tryz.prog Z0 Tryz.f100
theorem good100:Good Tryz.prog (100,af100):=mkC Z0 Tryz.func100 (by kernel_rfl)
def lp102_0:ACode:=
 (.seq (.seq (rg [oq 22 (ar .gtr (tm 11) (zi 0)) [22]] [3,11,22])
 (.cond (tm 22) .skip
 (.exit 0)))
 (.seq (.block 1 (rg [oq 25 (.mv (tm 3)) [26],op 3 (ar .quo (tm 25) (zi 2))] [3,11]))
 (rg [oq 23 (.mv (tm 11)) [24],op 11 (ar .sub (tm 23) (zi 1))] [3,11])))
def lp102_1:ACode:=
 (.seq (.seq (rg [oq 34 (.addOff 3 (tm 6)) [37],ld 35 34,op 36 (.len false (tm 35)),op 37 (ar .lss (tm 13) (tm 36))] [2,3,4,5,6,12,13,37])
 (.cond (tm 37) .skip
 (.exit 2)))
 (.seq (.block 3 (dr [oq 40 (.mv (tm 12)) [12],oq 41 (.load true 10 (tm 5)) [5],aq 42 3 6,lq 43 42,oq 44 (.mv (tm 13)) [13],oq 45 (.indexAddrS 6 (tm 43) (tm 44)) [43,44],oq 46 (.load true 6 (tm 45)) [45],oq 47 (.mv (tm 2)) [2],oq 48 (.mv (tm 3)) [3],oq 49 (.mv (tm 4)) [4],oq 50 (.call (.fn 102) [(tm 41),(tm 46),(tm 47),(tm 48),(tm 49)]) [41,46,47,48,49],oq 51 (.buildSlice 1 1 [(.bool false)] [(0,(tm 50))]) [50],oq 52 (.append 1 1 (tm 40) (tm 51)) [40,51],oq 12 (.mv (tm 52)) [52]] [0,0,0,4,0,28,60,0,0,0,1022,2046,4095,8191] [2,3,4,5,6,12,13]))
 (rg [oq 38 (.mv (tm 13)) [39],op 13 (ar .add (tm 38) (zi 1))] [2,3,4,5,6,12,13])))
def af102:AFunc:=⟨64,5,[.tmp 10],
 (.seq (rg [oq 5 (.box (tm 0)) [10],op 6 (.box (tm 1))] [2,3,4,5,6])
 (.seq (.seq (rg [ao 14 0 6,ld 15 14,op 16 (ar .eql (tm 15) (zi 1))] [2,3,4,5,6,16])
 (.cond (tm 16) (.seq (rg [oq 18 (.addOff 2 (tm 6)) [20],ld 19 18,op 11 (.call (.fn 152) [(tm 2),(tm 19)])] [3,11])
 (.seq (.block 0 (.loop lp102_0))
 (.seq (rg [oq 28 (ar .rem (tm 3) (zi 2)) [29],op 10 (ar .eql (tm 28) (zi 1))] [10])
 .ret)))
 .skip))
 (.seq (.seq (rg [ao 30 0 6,ld 31 30,op 32 (ar .neq (tm 31) (zi 6))] [2,3,4,5,6,32])
 (.cond (tm 32) (.seq (rg [op 10 (.mv (.lit (.bool true)))] [10])
 .ret)
 .skip))
 (.seq (rg [op 12 (.newrow 1)] [2,3,4,5,6,12])
 (.seq (.seq (rg [op 13 (.mv (zi 0))] [2,3,4,5,6,12,13])
 (.block 2 (.loop lp102_1)))
 (.seq (dr [oq 53 (.mv (tm 4)) [4],oq 54 (.load true 10 (tm 5)) [5],aq 55 2 6,lq 56 55,oq 57 (.call (.fn 123) [(tm 54),(tm 56)]) [54,56],oq 58 (.indexAddrS 1 (tm 53) (tm 57)) [53,57],lq 59 58,oq 60 (.mv (tm 12)) [12],oq 61 (.call (.fn 153) [(tm 60)]) [60],oq 62 (.indexAddrS 1 (tm 59) (tm 61)) [59,61],lq 63 62,oq 10 (.mv (tm 63)) [63]] [0,0,0,4,14,31,63,0,158,511,1023,2047] [10])
 .ret))))))⟩
theorem good102:Good Tryz.prog (102,af102):=mkK (fun t=>t==12) Tryz.func102 (by kernel_rfl)
def lp103_0:ACode:=
 (.seq (.seq (rg [oq 17 (.addOff 0 (tm 1)) [24],ld 18 17,op 20 (.indexAddrS 3 (tm 18) (tm 5)),ao 21 1 20,ld 22 21,op 23 (.len false (tm 22)),op 24 (ar .lss (tm 7) (tm 23))] [1,3,4,5,6,7,24])
 (.cond (tm 24) .skip
 (.exit 2)))
 (.seq (.block 3 (rg [oq 27 (.mv (tm 6)) [28],op 6 (ar .mul (zi 2) (tm 27))] [1,3,4,5,6,7]))
 (rg [oq 25 (.mv (tm 7)) [26],op 7 (ar .add (tm 25) (zi 1))] [1,3,4,5,6,7])))
def lp103_1:ACode:=
 (.seq (.seq (rg [oq 10 (.addOff 0 (tm 1)) [13],ld 11 10,op 12 (.len false (tm 11)),op 13 (ar .lss (tm 5) (tm 12))] [1,3,4,5,13])
 (.cond (tm 13) .skip
 (.exit 0)))
 (.seq (.block 1 (.seq (rg [op 6 (.mv (zi 1))] [1,3,4,5,6])
 (.seq (.seq (rg [op 7 (.mv (zi 0))] [1,3,4,5,6,7])
 (.block 2 (.loop lp103_0)))
 (.seq (rg [oq 29 (.mv (tm 3)) [33],op 31 (.mkSlice 1 1 (.bool false) (tm 6) (tm 6)),op 32 (.buildSlice 1 1 [.empty] [(0,(tm 31))]),op 3 (.append 1 24 (tm 29) (tm 32))] [1,3,4,5,6])
 (rg [oq 34 (.mv (tm 4)) [36],op 4 (ar .add (tm 34) (tm 6))] [1,3,4,5])))))
 (rg [oq 14 (.mv (tm 5)) [15],op 5 (ar .add (tm 14) (zi 1))] [1,3,4,5])))
def lp103_2:ACode:=
 (.seq (.seq (rg [oq 39 (ar .lss (tm 8) (tm 4)) [39]] [1,3,4,8,39])
 (.cond (tm 39) .skip
 (.exit 4)))
 (.seq (.block 5 (rg [oq 42 (.load true 10 (tm 1)) [44],op 43 (.mv (tm 3)),op 3 (.call (.fn 154) [(tm 42),(tm 43)])] [1,3,4,8]))
 (rg [oq 40 (.mv (tm 8)) [41],op 8 (ar .add (tm 40) (zi 1))] [1,3,4,8])))
def af103:AFunc:=⟨46,1,[.tmp 2],
 (.seq (rg [oq 1 (.box (tm 0)) [2]] [1])
 (.seq (rg [op 3 (.newrow 1)] [1,3])
 (.seq (rg [op 4 (.mv (zi 0))] [1,3,4])
 (.seq (.seq (rg [op 5 (.mv (zi 0))] [1,3,4,5])
 (.block 0 (.loop lp103_1)))
 (.seq (.seq (rg [op 8 (.mv (zi 0))] [1,3,4,8])
 (.block 4 (.loop lp103_2)))
 (.seq (rg [oq 2 (.mv (tm 3)) [45]] [2])
 .ret))))))⟩
theorem good103:Good Tryz.prog (103,af103):=mkK (fun t=>t==3) Tryz.func103 (by kernel_rfl)
def lp104_0:ACode:=
 (.seq (.seq (rg [oq 82 (.len false (tm 10)) [83],op 83 (ar .lss (tm 11) (tm 82))] [3,5,10,11,83])
 (.cond (tm 83) .skip
 (.exit 1)))
 (.seq (.block 2 (.seq (dr [oq 86 (.load true 10 (tm 3)) [3],oq 87 (.mv (tm 10)) [10],oq 88 (.mv (tm 11)) [11],oq 89 (.indexAddrS 8 (tm 87) (tm 88)) [87,88],oq 90 (.load true 8 (tm 89)) [89],aq 91 5 5,lq 92 91,oq 93 (.mv (tm 11)) [11],oq 94 (.indexAddrS 7 (tm 92) (tm 93)) [92,93],oq 95 (.load true 7 (tm 94)) [94],oq 96 (.call (.fn 104) [(tm 86),(tm 90),(tm 95)]) [86,90,95],oq 97 (.not (tm 96)) [96]] [0,0,0,6,14,0,32,0,224,480,1023,2047] [3,5,10,11,97])
 (.cond (tm 97) (.seq (rg [op 6 (.mv (.lit (.bool false)))] [6])
 .ret)
 .skip)))
 (rg [oq 84 (.mv (tm 11)) [85],op 11 (ar .add (tm 84) (zi 1))] [3,5,10,11])))
def af104:AFunc:=⟨98,3,[.tmp 6],
 (.seq (rg [oq 3 (.box (tm 0)) [6],op 4 (.box (tm 1)),op 5 (.box (tm 2))] [3,4,5])
 (.seq (rg [op 12 (.load true 8 (tm 4)),op 13 (.call (.fn 155) [(tm 12)]),on (.store 8 (tm 4) (tm 13))] [3,4,5])
 (.seq (.seq (rg [ao 14 0 4,ao 15 0 14,ld 16 15] [3,4,5,16])
 (.block 0 (.seq (rg [oq 17 (ar .eql (tm 16) (zi 2)) [18]] [3,4,5,16,17])
 (.cond (tm 17) (.seq (rg [oq 19 (.addOff 0 (tm 5)) [21],ld 20 19,op 6 (ar .eql (tm 20) (zi 1))] [6])
 .ret)
 (.seq (rg [oq 22 (ar .eql (tm 16) (zi 3)) [23]] [3,4,5,16,22])
 (.cond (tm 22) (.seq (rg [oq 24 (.addOff 0 (tm 5)) [26],ld 25 24,op 6 (ar .eql (tm 25) (zi 2))] [6])
 .ret)
 (.seq (rg [oq 27 (ar .eql (tm 16) (zi 4)) [28]] [3,4,5,16,27])
 (.cond (tm 27) (.seq (rg [oq 29 (.addOff 0 (tm 5)) [31],ld 30 29,op 6 (ar .eql (tm 30) (zi 3))] [6])
 .ret)
 (.seq (rg [oq 32 (ar .eql (tm 16) (zi 6)) [33]] [3,4,5,32])
 (.cond (tm 32) (.seq (.seq (rg [ao 34 0 5,ld 35 34,op 36 (ar .neq (tm 35) (zi 10))] [3,4,5,36])
 (.cond (tm 36) (.seq (rg [op 6 (.mv (.lit (.bool false)))] [6])
 .ret)
 .skip))
 (.seq (rg [oq 38 (.load true 10 (tm 3)) [44],ao 39 2 5,ld 40 39,op 37 (.call (.fn 31) [(tm 38),(tm 40)]),op 42 (.extract (tm 37) 0),op 43 (.extract (tm 37) 1),op 44 (.extract (tm 37) 2),op 7 (.mv (tm 42)),op 8 (.mv (tm 43)),op 9 (.mv (tm 44))] [3,4,5,7,8,9])
 (.seq (.seq (dr [oq 45 (.mv (tm 9)) [9],oq 46 (ar .neq (tm 45) (zi 0)) [45],oq 47 (.mv (tm 46)) [46],gf 48 47 (.addOff 0 (tm 3)) [3,47],gf 49 47 (l1 (tm 48)) [48,47],gf 50 47 (.mv (tm 7)) [7,47],gf 51 47 (.indexAddrS 3 (tm 49) (tm 50)) [49,50,47],gf 52 47 (.addOff 0 (tm 51)) [51,47],gf 53 47 (l1 (tm 52)) [52,47],gf 54 47 (.addOff 0 (tm 4)) [4,47],gf 55 47 (.addOff 2 (tm 54)) [54,47],gf 56 47 (l1 (tm 55)) [55,47],gf 57 47 (ar .neq (tm 53) (tm 56)) [53,56,47],oq 58 (.pick (tm 47) (.lit (.bool true)) (tm 57)) [47,57],oq 59 (.mv (tm 58)) [58],gf 60 59 (.addOff 0 (tm 3)) [3,59],gf 61 59 (l1 (tm 60)) [60,59],gf 62 59 (.mv (tm 7)) [7,59],gf 63 59 (.indexAddrS 3 (tm 61) (tm 62)) [61,62,59],gf 64 59 (.addOff 2 (tm 63)) [63,59],gf 65 59 (l1 (tm 64)) [64,59],gf 66 59 (.mv (tm 8)) [8,59],gf 67 59 (.indexAddrS 2 (tm 65) (tm 66)) [65,66,59],gf 68 59 (.addOff 1 (tm 67)) [67,59],gf 69 59 (l1 (tm 68)) [68,59],gf 70 59 (.len false (tm 69)) [69,59],gf 71 59 (.addOff 5 (tm 5)) [5,59],gf 72 59 (l1 (tm 71)) [71,59],gf 73 59 (.len false (tm 72)) [72,59],gf 74 59 (ar .neq (tm 70) (tm 73)) [70,73,59],oq 75 (.pick (tm 59) (.lit (.bool true)) (tm 74)) [59,74]] [0,1,3,7,15,7,63,127,255,7,519,1543,4095,8191,16383,32767,65535,32767,262143,524287,1048575,32767,4194303,8388607,16777215,33554431,32767,67141631,201359359,536870911,1073741823] [3,4,5,8,75])
 (.cond (tm 75) (.seq (rg [op 6 (.mv (.lit (.bool false)))] [6])
 .ret)
 .skip))
 (.seq (rg [oq 76 (.load true 10 (tm 3)) [79],op 77 (.load true 8 (tm 4)),op 10 (.call (.fn 156) [(tm 76),(tm 77),(tm 8)])] [3,5,10])
 (.seq (.seq (rg [op 11 (.mv (zi 0))] [3,5,10,11])
 (.block 1 (.loop lp104_0)))
 (.seq (rg [op 6 (.mv (.lit (.bool true)))] [6])
 .ret))))))
 .skip))))))))))
 (.seq (rg [op 6 (.mv (.lit (.bool false)))] [6])
 .ret))))⟩
theorem good104:Good Tryz.prog (104,af104):=mkK Z0 Tryz.func104 (by kernel_rfl)
noncomputable def af108:AFunc:=cZ Tryz.prog Z0 Tryz.f108
theorem good108:Good Tryz.prog (108,af108):=mkC Z0 Tryz.func108 (by kernel_rfl)
def af110:AFunc:=⟨18,2,[],
 (.seq (.seq (rg [oq 5 (.nilCheck (tm 0)) [8],ld 6 5,op 8 (.call (.fn 111) [(tm 6),(tm 1)])] [0,1,8])
 (.cond (tm 8) (rg [op 9 (.call (.fn 58) [(zi 5)])] [0,1])
 .skip))
 (rg [oq 12 (.nilCheck (tm 0)) [17],ld 13 12,op 15 (.buildSlice 1 1 [(.str [])] [(0,(tm 1))]),op 16 (.append 1 16 (tm 13) (tm 15)),op 17 (.nilCheck (tm 0)),on (.store 1 (tm 17) (tm 16))] []))⟩
theorem good110:Good Tryz.prog (110,af110):=mkK Z0 Tryz.func110 (by kernel_rfl)
def af111:AFunc:=⟨9,2,[.tmp 4],
 (.seq (rg [op 4 (.mv (tm 4))] [0,1])
 (.seq (rg [oq 7 (.call (.fn 89) [(tm 0),(tm 1)]) [8],op 4 (ar .geq (tm 7) (zi 0))] [4])
 .ret))⟩
theorem good111:Good Tryz.prog (111,af111):=mkK Z0 Tryz.func111 (by kernel_rfl)
def lp112_0:ACode:=
 (.seq (rg [op 54 (ar .lss (tm 53) (tm 52))] [0,2,4,51,52,53,54])
 (.seq (.cond (tm 54) .skip
 (.exit 1))
 (.seq (.block 2 (.seq (rg [op 55 (.indexAddrS 2 (tm 51) (tm 53)),op 56 (.load true 2 (tm 55)),op 8 (.alloc [(.str []),(.int .i64 0)]),on (.store 2 (tm 8) (tm 56))] [0,2,4,8,51,52,53])
 (.seq (dr [oq 58 (.mv (tm 0)) [0],oq 59 (.nilCheck (tm 58)) [58],aq 60 0 59,oq 61 (.load true 10 (tm 60)) [60],aq 62 0 8,lq 63 62,oq 64 (.call (.fn 34) [(tm 61),(tm 63)]) [61,63],oq 57 (.mv (tm 64)) [64],oq 65 (.extract (tm 57) 0) [57],oq 66 (.extract (tm 57) 1) [57],oq 9 (.mv (tm 65)) [65],oq 10 (.mv (tm 66)) [66]] [0,1,3,7,0,16,63,127,255,255,511,2047] [0,2,4,10,51,52,53])
 (rg [oq 68 (.call (.fn 59) [(tm 10)]) [68]] [0,2,4,51,52,53]))))
 (rg [oq 53 (ar .add (tm 53) (zi 1)) [69]] [0,2,4,51,52,53]))))
def lp112_1:ACode:=
 (.seq (rg [op 74 (ar .lss (tm 73) (tm 72))] [0,2,71,72,73,74])
 (.seq (.cond (tm 74) .skip
 (.exit 3))
 (.seq (.block 4 (.seq (rg [op 75 (.indexAddrS 6 (tm 71) (tm 73)),op 76 (.load true 6 (tm 75)),op 12 (.alloc z6),on (.store 6 (tm 12) (tm 76))] [0,2,12,71,72,73])
 (rg [oq 78 (.load true 6 (tm 12)) [80],op 80 (.call (.fn 112) [(tm 0),(tm 78),(tm 2)])] [0,2,71,72,73])))
 (rg [oq 73 (ar .add (tm 73) (zi 1)) [81]] [0,2,71,72,73]))))
def af112:AFunc:=⟨82,3,[],
 (.seq (rg [op 4 (.box (tm 1))] [0,2,4])
 (.seq (.seq (rg [ao 13 0 4,ld 14 13] [0,2,4,14])
 (.block 0 (.seq (rg [oq 15 (ar .eql (tm 14) (zi 1)) [16]] [0,2,4,14,15])
 (.cond (tm 15) (.seq (rg [oq 18 (.addOff 2 (tm 4)) [21],ld 19 18,op 20 (.call (.fn 111) [(tm 2),(tm 19)]),op 21 (.not (tm 20))] [0,2,4,21])
 (.cond (tm 21) (rg [op 22 (.call (.fn 58) [(zi 6)])] [0,2,4])
 .skip))
 (.seq (rg [oq 23 (ar .eql (tm 14) (zi 6)) [24]] [0,2,4,14,23])
 (.cond (tm 23) (.seq (rg [oq 26 (.addOff 2 (tm 4)) [28],ld 27 26,op 6 (.call (.fn 117) [(tm 0),(tm 27)])] [0,2,4,6])
 (.seq (.seq (rg [oq 30 (ar .lss (tm 6) (zi 0)) [30]] [0,2,4,6,30])
 (.cond (tm 30) (rg [op 31 (.call (.fn 58) [(zi 6)])] [0,2,4,6])
 .skip))
 (.seq (dr [oq 32 (.mv (tm 0)) [0],oq 33 (.nilCheck (tm 32)) [32],aq 34 0 33,aq 35 0 34,lq 36 35,oq 37 (.mv (tm 6)) [6],oq 38 (.indexAddrS 3 (tm 36) (tm 37)) [36,37],aq 39 1 38,lq 40 39,oq 41 (.len false (tm 40)) [40],aq 42 3 4,lq 43 42,oq 44 (.len false (tm 43)) [43],oq 45 (ar .neq (tm 41) (tm 44)) [41,44]] [0,1,3,7,15,0,63,127,255,511,0,1024,3072,8191] [0,2,4,45])
 (.cond (tm 45) (rg [op 46 (.call (.fn 58) [(zi 7)])] [0,2,4])
 .skip))))
 (.seq (rg [oq 47 (ar .eql (tm 14) (zi 5)) [48]] [0,2,4,47])
 (.cond (tm 47) (.seq (rg [ao 49 4 4,ao 50 0 49,ld 51 50,op 52 (.len false (tm 51)),op 53 (.mv (zi 0))] [0,2,4,51,52,53])
 (.block 1 (.loop lp112_0)))
 .skip))))))))
 (.seq (rg [ao 70 3 4,ld 71 70,op 72 (.len false (tm 71)),op 73 (.mv (zi 0))] [0,2,71,72,73])
 (.block 3 (.loop lp112_1)))))⟩
theorem good112:Good Tryz.prog (112,af112):=mkK Z0 Tryz.func112 (by kernel_rfl)
def af113:AFunc:=⟨35,3,[.tmp 6],
 (.seq (rg [oq 3 (.box (tm 0)) [6],op 4 (.box (tm 1)),op 5 (.box (tm 2))] [3,4,5])
 (.seq (rg [ld 7 3,op 8 (.nilCheck (tm 7)),ao 9 0 8,ld 10 9,op 11 (ar .sub (tm 10) (zi 1)),op 12 (.nilCheck (tm 7)),ao 13 0 12,on (.store 1 (tm 13) (tm 11))] [3,4,5])
 (.seq (.seq (rg [oq 14 (l1 (tm 3)) [29],op 15 (.nilCheck (tm 14)),ao 16 0 15,ld 17 16,op 19 (ar .lss (tm 17) (zi 0)),gf 20 19 (l1 (tm 5)) [],gf 21 19 (ar .gtr (tm 20) (zi 200)) [],op 23 (.pick (tm 19) (.lit (.bool true)) (tm 21)),gf 24 23 (.addOff 4 (tm 4)) [],gf 25 23 (.addOff 0 (tm 24)) [],gf 26 23 (l1 (tm 25)) [],gf 27 23 (.len false (tm 26)) [],gf 28 23 (ar .gtr (tm 27) (zi 24)) [],op 29 (.pick (tm 23) (.lit (.bool true)) (tm 28))] [3,4,5,29])
 (.cond (tm 29) (.seq (rg [op 6 (.mv (.lit (.bool false)))] [6])
 .ret)
 .skip))
 (.seq (rg [oq 30 (.addOff 3 (tm 4)) [34],ld 31 30,op 32 (.mkFunc 162 [] [(tm 3),(tm 5)]),op 33 (.call (.fn 161) [(tm 31),(tm 32)]),op 6 (.not (tm 33))] [6])
 .ret))))⟩
theorem good113:Good Tryz.prog (113,af113):=mkK Z0 Tryz.func113 (by kernel_rfl)
def lp114_0:ACode:=
 (.seq (.seq (rg [oq 8 (.addOff 3 (tm 1)) [15],ld 9 8,op 10 (.len false (tm 9)),op 12 (ar .lss (tm 4) (tm 10)),gt 13 12 (.mv (tm 3)) [],gt 14 12 (ar .eql (tm 13) (zi 0)) [],op 15 (.pick (tm 12) (tm 14) (.lit (.bool false)))] [1,3,4,15])
 (.cond (tm 15) .skip
 (.exit 0)))
 (.seq (.block 1 (rg [oq 18 (.addOff 3 (tm 1)) [23],ld 19 18,op 21 (.indexAddrS 6 (tm 19) (tm 4)),op 22 (.load true 6 (tm 21)),op 3 (.call (.fn 114) [(tm 22)])] [1,3,4]))
 (rg [oq 16 (.mv (tm 4)) [17],op 4 (ar .add (tm 16) (zi 1))] [1,3,4])))
def af114:AFunc:=⟨25,1,[.tmp 2],
 (.seq (rg [oq 1 (.box (tm 0)) [2]] [1])
 (.seq (rg [oq 5 (.load true 6 (tm 1)) [6],op 3 (.call (.fn 163) [(tm 5)])] [1,3])
 (.seq (.seq (rg [op 4 (.mv (zi 0))] [1,3,4])
 (.block 0 (.loop lp114_0)))
 (.seq (rg [oq 2 (.mv (tm 3)) [24]] [2])
 .ret))))⟩
theorem good114:Good Tryz.prog (114,af114):=mkK Z0 Tryz.func114 (by kernel_rfl)
noncomputable def af115:AFunc:=cZ Tryz.prog Z0 Tryz.f115
theorem good115:Good Tryz.prog (115,af115):=mkC Z0 Tryz.func115 (by kernel_rfl)
def lp116_0:ACode:=
 (.seq (rg [op 26 (ar .lss (tm 25) (tm 24))] [1,23,24,25,26])
 (.seq (.cond (tm 26) .skip
 (.exit 0))
 (.seq (.block 1 (.seq (rg [op 27 (.indexAddrS 2 (tm 23) (tm 25)),op 28 (.load true 2 (tm 27)),op 4 (.alloc [(.str []),(.int .i64 0)]),on (.store 2 (tm 4) (tm 28))] [1,4,23,24,25])
 (.seq (rg [ao 29 1 4,ld 30 29,op 31 (ar .neq (tm 30) (zi 0))] [1,23,24,25,31])
 (.cond (tm 31) (.seq (rg [op 2 (.mv (.lit (.bool false)))] [2])
 .ret)
 .skip))))
 (rg [oq 25 (ar .add (tm 25) (zi 1)) [32]] [1,23,24,25]))))
def lp116_1:ACode:=
 (.seq (rg [op 37 (ar .lss (tm 36) (tm 35))] [34,35,36,37])
 (.seq (.cond (tm 37) .skip
 (.exit 2))
 (.seq (.block 3 (.seq (rg [op 38 (.indexAddrS 6 (tm 34) (tm 36)),op 39 (.load true 6 (tm 38)),op 6 (.alloc z6),on (.store 6 (tm 6) (tm 39))] [6,34,35,36])
 (.seq (rg [op 40 (.load true 6 (tm 6)),op 41 (.call (.fn 116) [(tm 40)]),op 42 (.not (tm 41))] [34,35,36,42])
 (.cond (tm 42) (.seq (rg [op 2 (.mv (.lit (.bool false)))] [2])
 .ret)
 .skip))))
 (rg [oq 36 (ar .add (tm 36) (zi 1)) [43]] [34,35,36]))))
def af116:AFunc:=⟨44,1,[.tmp 2],
 (.seq (rg [oq 1 (.box (tm 0)) [2]] [1])
 (.seq (.seq (rg [oq 7 (.addOff 0 (tm 1)) [20],ld 8 7,op 10 (ar .eql (tm 8) (zi 0)),gf 11 10 (.addOff 0 (tm 1)) [],gf 12 10 (l1 (tm 11)) [],gf 13 10 (ar .eql (tm 12) (zi 5)) [],gf 14 10 (.mv (tm 13)) [],gt 15 14 (.addOff 4 (tm 1)) [],gt 16 14 (.addOff 1 (tm 15)) [],gt 17 14 (l1 (tm 16)) [],gt 18 14 (ar .neq (tm 17) (zi (-1))) [],gf 19 10 (.pick (tm 14) (tm 18) (.lit (.bool false))) [],op 20 (.pick (tm 10) (.lit (.bool true)) (tm 19))] [1,20])
 (.cond (tm 20) (.seq (rg [op 2 (.mv (.lit (.bool false)))] [2])
 .ret)
 .skip))
 (.seq (.seq (rg [ao 21 4 1,ao 22 0 21,ld 23 22,op 24 (.len false (tm 23)),op 25 (.mv (zi 0))] [1,23,24,25])
 (.block 0 (.loop lp116_0)))
 (.seq (.seq (rg [ao 33 3 1,ld 34 33,op 35 (.len false (tm 34)),op 36 (.mv (zi 0))] [34,35,36])
 (.block 2 (.loop lp116_1)))
 (.seq (rg [op 2 (.mv (.lit (.bool true)))] [2])
 .ret)))))⟩
theorem good116:Good Tryz.prog (116,af116):=mkK Z0 Tryz.func116 (by kernel_rfl)
def af117:AFunc:=⟨12,2,[.tmp 4],
 (.seq (rg [oq 3 (.box (tm 1)) [4]] [0,3])
 (.seq (rg [oq 6 (.nilCheck (tm 0)) [11],ao 7 0 6,ao 8 0 7,ld 9 8,op 10 (.mkFunc 165 [] [(tm 3)]),op 4 (.call (.fn 164) [(tm 9),(tm 10)])] [4])
 .ret))⟩
theorem good117:Good Tryz.prog (117,af117):=mkK Z0 Tryz.func117 (by kernel_rfl)
noncomputable def af118:AFunc:=cZ Tryz.prog Z0 Tryz.f118
theorem good118:Good Tryz.prog (118,af118):=mkC Z0 Tryz.func118 (by kernel_rfl)
noncomputable def af119:AFunc:=cZ Tryz.prog Z0 Tryz.f119
theorem good119:Good Tryz.prog (119,af119):=mkC Z0 Tryz.func119 (by kernel_rfl)
def lp120_0:ACode:=
 (.seq (.seq (rg [oq 20 (.addOff 3 (tm 3)) [27],ld 21 20,op 22 (.len false (tm 21)),op 24 (ar .lss (tm 7) (tm 22)),gt 25 24 (.mv (tm 1)) [],gt 26 24 (ar .geq (tm 25) (zi 0)) [],op 27 (.pick (tm 24) (tm 26) (.lit (.bool false)))] [1,2,3,7,27])
 (.cond (tm 27) .skip
 (.exit 0)))
 (.seq (.block 1 (rg [oq 30 (.addOff 3 (tm 3)) [38],ld 31 30,op 33 (.indexAddrS 6 (tm 31) (tm 7)),op 34 (.load true 6 (tm 33)),op 35 (.mv (tm 1)),op 37 (ar .sub (tm 2) (zi 1)),op 1 (.call (.fn 120) [(tm 34),(tm 35),(tm 37)])] [1,2,3,7]))
 (rg [oq 28 (.mv (tm 7)) [29],op 7 (ar .add (tm 28) (zi 1))] [1,2,3,7])))
def af120:AFunc:=⟨40,3,[.tmp 6],
 (.seq (rg [oq 3 (.box (tm 0)) [6]] [1,2,3])
 (.seq (rg [oq 8 (.mv (tm 1)) [9],op 1 (ar .sub (tm 8) (zi 1))] [1,2,3])
 (.seq (.seq (rg [oq 12 (ar .lss (tm 2) (zi 1)) [18],gf 13 12 (.addOff 4 (tm 3)) [],gf 14 12 (.addOff 0 (tm 13)) [],gf 15 12 (l1 (tm 14)) [],gf 16 12 (.len false (tm 15)) [],gf 17 12 (ar .gtr (tm 16) (zi 24)) [],op 18 (.pick (tm 12) (.lit (.bool true)) (tm 17))] [1,2,3,18])
 (.cond (tm 18) (.seq (rg [op 6 (.mv (zi (-1)))] [6])
 .ret)
 .skip))
 (.seq (.seq (rg [op 7 (.mv (zi 0))] [1,2,3,7])
 (.block 0 (.loop lp120_0)))
 (.seq (rg [oq 6 (.mv (tm 1)) [39]] [6])
 .ret)))))⟩
theorem good120:Good Tryz.prog (120,af120):=mkK Z0 Tryz.func120 (by kernel_rfl)
def lp121_0:ACode:=
 (.seq (.seq (rg [oq 110 (.addOff 3 (tm 1)) [113],ld 111 110,op 112 (.len false (tm 111)),op 113 (ar .lss (tm 5) (tm 112))] [1,5,113])
 (.cond (tm 113) .skip
 (.exit 0)))
 (.seq (.block 1 (.seq (rg [oq 116 (.addOff 3 (tm 1)) [121],ld 117 116,op 119 (.indexAddrS 6 (tm 117) (tm 5)),op 120 (.load true 6 (tm 119)),op 6 (.call (.fn 121) [(tm 120)])] [1,5,6])
 (.seq (rg [oq 123 (ar .neq (tm 6) (zi 0)) [123]] [1,5,6,123])
 (.cond (tm 123) (.seq (rg [oq 2 (.mv (tm 6)) [124]] [2])
 .ret)
 .skip))))
 (rg [oq 114 (.mv (tm 5)) [115],op 5 (ar .add (tm 114) (zi 1))] [1,5])))
def af121:AFunc:=⟨125,1,[.tmp 2],
 (.seq (rg [oq 1 (.box (tm 0)) [2]] [1])
 (.seq (.seq (rg [oq 7 (.addOff 0 (tm 1)) [26],ld 8 7,op 9 (.call (.fn 157) [(tm 8),(zi 0),(zi 6)]),op 11 (.not (tm 9)),gf 12 11 (.addOff 1 (tm 1)) [],gf 13 11 (l1 (tm 12)) [],gf 14 11 (.call (.fn 157) [(tm 13),(zi 0),(zi 999999999)]) [],gf 15 11 (.not (tm 14)) [],op 17 (.pick (tm 11) (.lit (.bool true)) (tm 15)),gf 18 17 (.addOff 0 (tm 1)) [],gf 19 17 (l1 (tm 18)) [],gf 20 17 (ar .neq (tm 19) (zi 0)) [],gf 21 17 (.mv (tm 20)) [],gt 22 21 (.addOff 1 (tm 1)) [],gt 23 21 (l1 (tm 22)) [],gt 24 21 (ar .neq (tm 23) (zi 0)) [],gf 25 17 (.pick (tm 21) (tm 24) (.lit (.bool false))) [],op 26 (.pick (tm 17) (.lit (.bool true)) (tm 25))] [1,26])
 (.cond (tm 26) (.seq (rg [op 2 (.mv (zi 1))] [2])
 .ret)
 .skip))
 (.seq (rg [op 3 (.mv (zi 0))] [1,3])
 (.seq (.seq (rg [ao 27 0 1,ld 28 27,op 29 (ar .eql (tm 28) (zi 1))] [1,3,29])
 (.cond (tm 29) (rg [op 3 (.mv (zi 1))] [1,3])
 .skip))
 (.seq (.seq (rg [ao 30 0 1,ld 31 30,op 32 (ar .eql (tm 31) (zi 6))] [1,3,32])
 (.cond (tm 32) (rg [op 3 (.mv (zi 2))] [1,3])
 .skip))
 (.seq (.seq (rg [oq 33 (.addOff 2 (tm 1)) [47],ld 34 33,op 36 (.call (.fn 167) [(tm 34),(tm 3)]),op 38 (.not (tm 36)),gf 39 38 (.addOff 0 (tm 1)) [],gf 40 38 (l1 (tm 39)) [],gf 41 38 (ar .eql (tm 40) (zi 6)) [],gf 42 38 (.mv (tm 41)) [],gt 43 42 (.addOff 2 (tm 1)) [],gt 44 42 (l1 (tm 43)) [],gt 45 42 (.call (.fn 168) [(tm 44)]) [],gf 46 38 (.pick (tm 42) (tm 45) (.lit (.bool false))) [],op 47 (.pick (tm 38) (.lit (.bool true)) (tm 46))] [1,47])
 (.cond (tm 47) (.seq (rg [op 2 (.mv (zi 4))] [2])
 .ret)
 .skip))
 (.seq (.seq (rg [oq 48 (.addOff 0 (tm 1)) [83],ld 49 48,op 51 (ar .eql (tm 49) (zi 5)),gt 52 51 (.addOff 3 (tm 1)) [],gt 53 51 (l1 (tm 52)) [],gt 54 51 (.len false (tm 53)) [],gt 55 51 (ar .neq (tm 54) (zi 2)) [],op 57 (.pick (tm 51) (tm 55) (.lit (.bool false))),gf 58 57 (.addOff 0 (tm 1)) [],gf 59 57 (l1 (tm 58)) [],gf 60 57 (ar .eql (tm 59) (zi 6)) [],gf 61 57 (.mv (tm 60)) [],gt 62 61 (.addOff 3 (tm 1)) [],gt 63 61 (l1 (tm 62)) [],gt 64 61 (.len false (tm 63)) [],gt 65 61 (ar .gtr (tm 64) (zi 4)) [],gf 66 57 (.pick (tm 61) (tm 65) (.lit (.bool false))) [],op 68 (.pick (tm 57) (.lit (.bool true)) (tm 66)),gf 69 68 (.addOff 0 (tm 1)) [],gf 70 68 (l1 (tm 69)) [],gf 71 68 (ar .neq (tm 70) (zi 5)) [],gf 72 68 (.mv (tm 71)) [],gt 73 72 (.addOff 0 (tm 1)) [],gt 74 72 (l1 (tm 73)) [],gt 75 72 (ar .neq (tm 74) (zi 6)) [],gf 76 68 (.pick (tm 72) (tm 75) (.lit (.bool false))) [],gf 77 68 (.mv (tm 76)) [],gt 78 77 (.addOff 3 (tm 1)) [],gt 79 77 (l1 (tm 78)) [],gt 80 77 (.len false (tm 79)) [],gt 81 77 (ar .gtr (tm 80) (zi 0)) [],gf 82 68 (.pick (tm 77) (tm 81) (.lit (.bool false))) [],op 83 (.pick (tm 68) (.lit (.bool true)) (tm 82))] [1,83])
 (.cond (tm 83) (.seq (rg [op 2 (.mv (zi 7))] [2])
 .ret)
 .skip))
 (.seq (.seq (rg [oq 84 (.addOff 0 (tm 1)) [99],ld 85 84,op 87 (ar .neq (tm 85) (zi 5)),gt 88 87 (.addOff 4 (tm 1)) [],gt 89 87 (.addOff 0 (tm 88)) [],gt 90 87 (l1 (tm 89)) [],gt 91 87 (.len false (tm 90)) [],gt 92 87 (ar .gtr (tm 91) (zi 0)) [],gt 93 87 (.mv (tm 92)) [],gf 94 93 (.addOff 4 (tm 1)) [],gf 95 93 (.addOff 1 (tm 94)) [],gf 96 93 (l1 (tm 95)) [],gf 97 93 (ar .neq (tm 96) (zi 0)) [],gt 98 87 (.pick (tm 93) (.lit (.bool true)) (tm 97)) [],op 99 (.pick (tm 87) (tm 98) (.lit (.bool false)))] [1,99])
 (.cond (tm 99) (.seq (rg [op 2 (.mv (zi 1))] [2])
 .ret)
 .skip))
 (.seq (.seq (rg [ao 100 0 1,ld 101 100,op 102 (ar .eql (tm 101) (zi 5))] [1,102])
 (.cond (tm 102) (.seq (rg [oq 103 (.addOff 4 (tm 1)) [105],op 104 (.load true 2 (tm 103)),op 4 (.call (.fn 169) [(tm 104)])] [1,4])
 (.seq (rg [oq 107 (ar .neq (tm 4) (zi 0)) [107]] [1,4,107])
 (.cond (tm 107) (.seq (rg [oq 2 (.mv (tm 4)) [108]] [2])
 .ret)
 .skip)))
 .skip))
 (.seq (.seq (rg [op 5 (.mv (zi 0))] [1,5])
 (.block 0 (.loop lp121_0)))
 (.seq (rg [op 2 (.mv (zi 0))] [2])
 .ret)))))))))))⟩
theorem good121:Good Tryz.prog (121,af121):=mkK Z0 Tryz.func121 (by kernel_rfl)
def af122:AFunc:=⟨9,2,[.tmp 4],
 (.seq (rg [op 4 (.mv (tm 4))] [0,1])
 (.seq (rg [oq 7 (.call (.fn 152) [(tm 0),(tm 1)]) [8],op 4 (ar .geq (tm 7) (zi 0))] [4])
 .ret))⟩
theorem good122:Good Tryz.prog (122,af122):=mkK Z0 Tryz.func122 (by kernel_rfl)
def lp123_0:ACode:=
 (.seq (.seq (rg [oq 7 (.addOff 0 (tm 2)) [10],ld 8 7,op 9 (.len false (tm 8)),op 10 (ar .lss (tm 5) (tm 9))] [1,2,5,10])
 (.cond (tm 10) .skip
 (.exit 0)))
 (.seq (.block 1 (.seq (rg [oq 13 (.addOff 0 (tm 2)) [20],ld 14 13,op 16 (.indexAddrS 3 (tm 14) (tm 5)),ao 17 0 16,ld 18 17,op 20 (ar .eql (tm 18) (tm 1))] [1,2,5,20])
 (.cond (tm 20) (.seq (rg [oq 4 (.mv (tm 5)) [21]] [4])
 .ret)
 .skip)))
 (rg [oq 11 (.mv (tm 5)) [12],op 5 (ar .add (tm 11) (zi 1))] [1,2,5])))
def af123:AFunc:=⟨22,2,[.tmp 4],
 (.seq (rg [oq 2 (.box (tm 0)) [4]] [1,2])
 (.seq (.seq (rg [op 5 (.mv (zi 0))] [1,2,5])
 (.block 0 (.loop lp123_0)))
 (.seq (rg [op 4 (.mv (zi (-1)))] [4])
 .ret)))⟩
theorem good123:Good Tryz.prog (123,af123):=mkK Z0 Tryz.func123 (by kernel_rfl)
def lp124_0:ACode:=
 (.seq (.seq (rg [ao 3 0 1,ao 4 0 3,ld 5 4,op 6 (ar .eql (tm 5) (zi 1))] [1,2,6])
 (.cond (tm 6) .skip
 (.exit 0)))
 (.block 1 (dr [aq 7 6 1,lq 8 7,oq 9 (.nilCheck (tm 8)) [8],aq 10 1 9,lq 11 10,aq 12 6 1,lq 13 12,oq 14 (.nilCheck (tm 13)) [13],aq 15 0 14,lq 16 15,aq 17 0 1,aq 18 2 17,lq 19 18,oq 20 (.call (.fn 89) [(tm 16),(tm 19)]) [16,19],oq 21 (.indexAddrS 7 (tm 11) (tm 20)) [11,20],oq 22 (.load true 7 (tm 21)) [21],om (.store 7 (tm 1) (tm 22)) [1,22]] [0,1,3,7,15,0,32,96,224,480,0,1024,3072,8160,16383,32767,65535] [1,2])))
def af124:AFunc:=⟨24,1,[.cell 2 true 7],
 (.seq (rg [op 1 (.box (tm 0)),op 2 (.alloc [(.int .i64 0),(.int .i64 0),(.str []),.empty,.empty,(.int .i64 0),.nilptr])] [1,2])
 (.seq (.block 0 (.loop lp124_0))
 (.seq (rg [op 23 (.load true 7 (tm 1)),on (.store 7 (tm 2) (tm 23))] [2])
 .ret)))⟩
theorem good124:Good Tryz.prog (124,af124):=mkK Z0 Tryz.func124 (by kernel_rfl)
def lp125_0:ACode:=
 (.seq (rg [op 31 (ar .lss (tm 30) (tm 29))] [3,6,7,28,29,30,31])
 (.seq (.cond (tm 31) .skip
 (.exit 0))
 (.seq (.block 1 (.seq (rg [op 32 (.indexAddrS 6 (tm 28) (tm 30)),op 33 (.load true 6 (tm 32)),op 9 (.alloc z6),on (.store 6 (tm 9) (tm 33))] [3,6,7,9,28,29,30])
 (dr [oq 34 (.mv (tm 7)) [7],oq 35 (.mv (tm 7)) [7],oq 36 (.nilCheck (tm 35)) [35],aq 37 1 36,lq 38 37,oq 39 (.load true 6 (tm 9)) [9],aq 40 6 3,lq 41 40,oq 42 (.build [(.int .i64 0),(.int .i64 0),(.str []),.empty,.empty,(.int .i64 0),.nilptr] [(0,6,(tm 39)),(6,1,(tm 41))]) [39,41],oq 43 (.call (.fn 124) [(tm 42)]) [42],oq 44 (.buildSlice 7 1 [(.int .i64 0),(.int .i64 0),(.str []),.empty,.empty,(.int .i64 0),.nilptr] [(0,(tm 43))]) [43],oq 45 (.append 7 96 (tm 38) (tm 44)) [38,44],oq 46 (.nilCheck (tm 34)) [34],aq 47 1 46,om (.store 1 (tm 47) (tm 45)) [47,45]] [0,0,2,6,14,0,0,64,224,480,992,2046,4095,8191,16383] [3,6,7,28,29,30])))
 (rg [oq 30 (ar .add (tm 30) (zi 1)) [48]] [3,6,7,28,29,30]))))
def af125:AFunc:=⟨52,2,[.tmp 4,.tmp 5],
 (.seq (rg [oq 3 (.box (tm 1)) [5]] [0,3])
 (.seq (dr [oq 10 (.mv (tm 0)) [0],oq 11 (.nilCheck (tm 10)) [10],aq 12 0 11,aq 13 0 12,lq 14 13,oq 15 (.mv (tm 0)) [0],aq 16 0 3,aq 17 2 16,lq 18 17,oq 19 (.call (.fn 117) [(tm 15),(tm 18)]) [15,18],oq 20 (.indexAddrS 3 (tm 14) (tm 19)) [14,19],oq 21 (.load true 3 (tm 20)) [20],op 6 (.alloc z3),om (.store 3 (tm 6) (tm 21)) [6,21]] [0,1,3,7,15,0,0,64,192,480,1023,2047,0,8191] [3,6])
 (.seq (rg [oq 22 (.addOff 1 (tm 6)) [25],ld 23 22,op 24 (.build [.empty,.empty] [(0,1,(tm 23))]),op 7 (.box (tm 24))] [3,6,7])
 (.seq (.seq (rg [ao 26 0 3,ao 27 3 26,ld 28 27,op 29 (.len false (tm 28)),op 30 (.mv (zi 0))] [3,6,7,28,29,30])
 (.block 0 (.loop lp125_0)))
 (.seq (rg [oq 49 (.addOff 2 (tm 6)) [51],ld 50 49,op 4 (.mv (tm 50)),op 5 (.mv (tm 7))] [4,5])
 .ret)))))⟩
theorem good125:Good Tryz.prog (125,af125):=mkK Z0 Tryz.func125 (by kernel_rfl)
noncomputable def af127:AFunc:=cZ Tryz.prog Z0 Tryz.f127
theorem good127:Good Tryz.prog (127,af127):=mkC Z0 Tryz.func127 (by kernel_rfl)
end Go.AI
