/- Texts of the proof: what functions of the program compute, step by step. No conditions of its own. -/
import Derived.Test.YtgenoggafhhgfaaGreatDoorI11
import Derived.Test.YtgenoggafhhgfaaGreatDoorI10
import Derived.Test.YtgenoggafhhgfaaGreatDoorI9
set_option linter.unusedVariables false
set_option linter.unusedSimpArgs false
namespace Go.AI
open Go Go.Proofs Go.Lx
set_option maxRecDepth 100000
def nZz:Bs:=[90,122]
def unitT:Ty:= .mk 4 0 [] [] [] 0
def boolT:Ty:= .mk 3 0 [] [] [] 0
def funZ:Ty:= .mk 5 0 [] [dataT nZz [numT],unitT] [⟨nZz,0⟩] (-1)
def zzD:Dat:=⟨nZz,[[97]],[⟨[90,122,49],[]⟩,⟨[90,122,50],[paramT [97],funZ]⟩]⟩
def zzE:Eff:=⟨nZz,[⟨[122,122],dataT nZz [boolT],unitT,false⟩]⟩
def Prg.more (p:Prg):Prg:=⟨p.data++[zzD],p.effects++[zzE],p.defs,p.main⟩
theorem more_ext (p:Prg):Big p p.more:=⟨⟨_,rfl⟩,⟨_,rfl⟩⟩
theorem log16384m:Nat.log2 16384=14:=by decide
theorem c48 (σ:St):CI (.fn 48) [] σ=some (.ret (.agg boolT.cs),σ):=by
 have hτ:bodyI CI XB GI af48 [] σ=some (.ret (.agg [.int .i64 3, .int .i64 0, .str [], .empty, .empty, .int .i64 0]),σ++[.box [.int .i64 3, .int .i64 0, .str [], .empty, .empty, .int .i64 0]]):=by
  simp [bodyI,af48,getA0,setA0,fillD,putCells]
 exact CI_tree tab48 hτ rfl rfl
theorem c53 (σ:St):CI (.fn 53) [] σ=some (.ret (.agg unitT.cs),σ):=by
 have hτ:bodyI CI XB GI af53 [] σ=some (.ret (.agg [.int .i64 4, .int .i64 0, .str [], .empty, .empty, .int .i64 0]),σ++[.box [.int .i64 4, .int .i64 0, .str [], .empty, .empty, .int .i64 0]]):=by
  simp [bodyI,af53,getA0,setA0,fillD,putCells]
 exact CI_tree tab53 hτ rfl rfl
set_option maxHeartbeats 4000000 in
theorem c47 (a b:Ty) (σ:St):CI (.fn 47) [.agg a.cs, .agg b.cs, .slice [.str nZz]] σ=some (.ret (.agg (Ty.mk 5 0 [] [a,b] [⟨nZz,0⟩] (-1)).cs),σ):=by
 have a1:=a.cs_len
 have a2:=a.cs_take
 have a3:=a.cs_all
 have b1:=b.cs_len
 have b2:=b.cs_take
 have b3:=b.cs_all
 have pa:=a.plain.agg
 have pb:=b.plain.agg
 have e1:eqbL a.cs a.cs=true:=eqbL_tree _ a.plain.1
 have e2:eqbL b.cs b.cs=true:=eqbL_tree _ b.plain.1
 simp only [Ty.cs,tysD,List.map_cons,List.map_nil,Lab.d,nZz]
 generalize a.cs=ac at*
 generalize b.cs=bc at*
 have hit:iterI (evalI CI XB GI 35 false lp47_0) [(2, .slice [.str [90,122]]),(6, .ptr (σ.length+2) 0),(7, .ptr (σ.length+3) 0),(8, .int .i64 0)] (σ++[.box ac, .box bc, .box z6, .box [.int .i64 5, .int .i64 0, .str [], .slice [.agg ac, .agg bc], .empty, .int .i64 (-1)]])=
  some (.exit 0,[(2, .slice [.str [90,122]]),(6, .ptr (σ.length+2) 0),(7, .ptr (σ.length+3) 0),(8, .int .i64 1),(17, .bool false)],σ++[.box ac, .box bc, .box z6, .box [.int .i64 5, .int .i64 0, .str [], .slice [.agg ac, .agg bc], .arr (σ.length+4) 1 0 1, .int .i64 (-1)], .row 2 [.agg [.str [90,122], .int .i64 0]] 1]):=by
  have h2:iterI (evalI CI XB GI 35 false lp47_0) [(2, .slice [.str [90,122]]),(6, .ptr (σ.length+2) 0),(7, .ptr (σ.length+3) 0),(8, .int .i64 1)] (σ++[.box ac, .box bc, .box z6, .box [.int .i64 5, .int .i64 0, .str [], .slice [.agg ac, .agg bc], .arr (σ.length+4) 1 0 1, .int .i64 (-1)], .row 2 [.agg [.str [90,122], .int .i64 0]] 1])=
   some (.exit 0,[(2, .slice [.str [90,122]]),(6, .ptr (σ.length+2) 0),(7, .ptr (σ.length+3) 0),(8, .int .i64 1),(17, .bool false)],σ++[.box ac, .box bc, .box z6, .box [.int .i64 5, .int .i64 0, .str [], .slice [.agg ac, .agg bc], .arr (σ.length+4) 1 0 1, .int .i64 (-1)], .row 2 [.agg [.str [90,122], .int .i64 0]] 1]):=by
   refine iterI_end ?_ (by simp)
   simp [lp47_0]
  rw [←h2]
  refine iterI_next ?_
  have w11:IntKind.i64.wrap 1=1:=wrap_i64 (by omega) (by omega)
  simp [lp47_0,w11,getA0,getA,setA0,setA,rowOf,fillRow,fillD,putCells,e1,e2,log16384m,Nat.testBit_eq_decide_div_mod_eq]
 have hτ:bodyI CI XB GI af47 [.agg ac, .agg bc, .slice [.str [90,122]]] σ=some (.ret (.agg [.int .i64 5, .int .i64 0, .str [], .slice [.agg ac, .agg bc], .arr (σ.length+4) 1 0 1, .int .i64 (-1)]),σ++[.box ac, .box bc, .box [.int .i64 5, .int .i64 0, .str [], .slice [.agg ac, .agg bc], .arr (σ.length+4) 1 0 1, .int .i64 (-1)], .box [.int .i64 5, .int .i64 0, .str [], .slice [.agg ac, .agg bc], .arr (σ.length+4) 1 0 1, .int .i64 (-1)], .row 2 [.agg [.str [90,122], .int .i64 0]] 1]):=by
  simp [bodyI,af47,getA0,getA,setA0,setA,a1,a2,a3,b1,b2,b3,fillD,fillRow,putCells,hit]
 refine CI_fn tab47 hτ ?_
 have hr: (σ++[Obj.box ac, .box bc, .box [.int .i64 5, .int .i64 0, .str [], .slice [.agg ac, .agg bc], .arr (σ.length+4) 1 0 1, .int .i64 (-1)], .box [.int .i64 5, .int .i64 0, .str [], .slice [.agg ac, .agg bc], .arr (σ.length+4) 1 0 1, .int .i64 (-1)], .row 2 [.agg [.str [90,122], .int .i64 0]] 1])[σ.length+4]? =some (.row 2 [.agg [.str [90,122], .int .i64 0]] 1):=getA
 obtain ⟨p1,p2⟩:=strip_row hr (by simp) (by simp [treeL,D.tree]) 14
 simp only [List.length_cons,List.length_nil,Nat.zero_add] at p1 p2
 generalize hS:σ++[Obj.box ac, .box bc, .box [.int .i64 5, .int .i64 0, .str [], .slice [.agg ac, .agg bc], .arr (σ.length+4) 1 0 1, .int .i64 (-1)], .box [.int .i64 5, .int .i64 0, .str [], .slice [.agg ac, .agg bc], .arr (σ.length+4) 1 0 1, .int .i64 (-1)], .row 2 [.agg [.str [90,122], .int .i64 0]] 1]=S at*
 have pa1:treeL ac=true:=pa.1
 have pb1:treeL bc=true:=pb.1
 have wa: (D.agg ac).weak= .agg ac:=pa.2
 have wb: (D.agg bc).weak= .agg bc:=pb.2
 have t1: (D.slice [.agg ac, .agg bc]).tree=true:=by simp only [D.tree,treeL,pa1,pb1];rfl
 have tf: (D.agg [.int .i64 5, .int .i64 0, .str [], .slice [.agg ac, .agg bc], .arr (σ.length+4) 1 0 1, .int .i64 (-1)]).tree=false:=by simp [D.tree,treeL]
 have q1:strip 16 S (.agg [.int .i64 5, .int .i64 0, .str [], .slice [.agg ac, .agg bc], .arr (σ.length+4) 1 0 1, .int .i64 (-1)])=some (.agg [.int .i64 5, .int .i64 0, .str [], .slice [.agg ac, .agg bc], .slice [.agg [.str [90,122], .int .i64 0]], .int .i64 (-1)]):=by
  rw [strip_agg 15 _ _ tf]
  simp only [List.mapM_cons,List.mapM_nil,p1,strip_one 15 _ (.int .i64 _) rfl,strip_one 15 _ (.str _) rfl,strip_one 15 _ _ t1]
  rfl
 have q2:leads 16 S (.agg [.int .i64 5, .int .i64 0, .str [], .slice [.agg ac, .agg bc], .arr (σ.length+4) 1 0 1, .int .i64 (-1)])=[σ.length+4]:=by
  rw [leads,if_neg (by rw [tf];exact Bool.false_ne_true)]
  simp only [List.flatMap_cons,List.flatMap_nil,p2,leads_one 15 _ (.int .i64 _) rfl,leads_one 15 _ (.str _) rfl,leads_one 15 _ _ t1]
  rfl
 subst hS
 rw [postI_rows q1 (by rw [q2];intro j hj;simp at hj;omega)]
 simp only [D.weak,weakL] at wa wb ⊢
 rw [wa,wb]
theorem k19 (s:Bs) (l:List Ty) (σ:St):CL (.fn 19) [.str s, .slice (tysD l)] σ=some (.ret (.agg (dataT s l).cs),σ):=
 CL_plain rfl (by simp only [treeL,D.tree,(tys_plain l).1];rfl) (by simp only [weakL,D.weak,(tys_plain l).2]) (c19 s l []) (dataT s l).plain.agg.1 σ
theorem k48 (σ:St):CL (.fn 48) [] σ=some (.ret (.agg boolT.cs),σ):=CL_plain rfl rfl rfl (c48 []) rfl σ
theorem k53 (σ:St):CL (.fn 53) [] σ=some (.ret (.agg unitT.cs),σ):=CL_plain rfl rfl rfl (c53 []) rfl σ
theorem k47 (σ:St):CL (.fn 47) [.agg (dataT nZz [numT]).cs, .agg unitT.cs, .slice [.str nZz]] σ=some (.ret (.agg funZ.cs),σ):=
 CL_plain rfl rfl rfl (c47 (dataT nZz [numT]) unitT []) rfl σ
theorem k36 (p:Prg) (hok:p.ok) (σ:St):CL (.fn 36) [.agg p.cs] σ=some (.ret (.int .i64 p.chk),σ):=
 CL_plain rfl (by simpa [treeL] using p.pl.1) (by simpa [weakL] using p.pl.2) (c36 p hok []) rfl σ
theorem k38 (p:Prg) (hok:p.ok) (x:Ex) (hx:x.ok) (σ:St):CL (.fn 38) [.agg p.cs, .agg x.cs] σ=some (.ret (.int .i64 (p.exprE x)),σ):=
 CL_plain rfl (by simp only [treeL,p.pl.1,x.plain.agg.1];rfl) (by simp only [weakL,p.pl.2,x.plain.agg.2]) (c38 p hok x hx []) rfl σ
theorem k40 (p:Prg) (hok:p.ok) (t:Ty) (ht:t.ok) (σ:St):CL (.fn 40) [.agg p.cs, .agg t.cs] σ=some (.ret (.int .i64 (p.tyE t)),σ):=
 CL_plain rfl (by simp only [treeL,p.pl.1,t.plain.agg.1];rfl) (by simp only [weakL,p.pl.2,t.plain.agg.2]) (c40 p hok t ht []) rfl σ
theorem k22 (p:Prg) (hok:p.ok) (t:Ty) (ht:t.ok) (n:Int) (σ:St):CL (.fn 22) [.agg p.cs, .agg t.cs, .int .i64 n] σ=some (.ret (.tuple [.int .i64 (p.cntV t n), .int .i64 (p.cntE t n)]),σ):=
 CL_plain rfl (by simp only [treeL,p.pl.1,t.plain.agg.1];rfl) (by simp only [weakL,p.pl.2,t.plain.agg.2];rfl) (c22 p hok t ht n []) rfl σ
theorem kM {f:FuncId} (hx:extOf XL f=some fun a=>gC f (weakL a)) {q:Prg} {dl el rest:List D} (hq:q.cs= .slice dl:: .slice el::rest) {S:St} {R1 R2 n1 n2:Nat} (h1:RowIs S R1 3 dl) (h2:RowIs S R2 2 el) (hn1:dl.length=n1) (hn2:el.length=n2)
 {ws:List D} (hw:treeL ws=true) (hww:weakL ws=ws) {r:D} (hr:r.tree=true) (hfl:r.flat=true) (h:CI (.fn f) (.agg q.cs::ws) []=some (.ret r,[])):CL (.fn f) (.agg (.arr R1 n1 0 n1:: .arr R2 n2 0 n2::rest)::ws) S=some (.ret r,S):=by
 subst hn1 hn2
 have hp1:=q.pl.1
 rw [hq] at hp1
 simp only [treeL,D.tree,Bool.and_eq_true] at hp1
 obtain ⟨t1,t2,t3⟩:=hp1
 have p1:=(h1.strip t1 14).1
 have p2:=(h2.strip t2 14).1
 have tf: (D.agg (.arr R1 dl.length 0 dl.length:: .arr R2 el.length 0 el.length::rest)).tree=false:=by simp [D.tree,treeL]
 have q1:strip 16 S (.agg (.arr R1 dl.length 0 dl.length:: .arr R2 el.length 0 el.length::rest))=some (.agg q.cs):=by
  rw [strip_agg 15 _ _ tf,List.mapM_cons,List.mapM_cons,p1,p2,strip_list 15 _ rest t3,hq];rfl
 have hqw:=q.pl.2
 have hh:=CL_rows (f:=f) hx (args:= .agg (.arr R1 dl.length 0 dl.length:: .arr R2 el.length 0 el.length::rest)::ws) (bs:= .agg q.cs::ws) (ws:= .agg q.cs::ws) (r:=r) (σ:=S)
  (by rw [treeL,tf];rfl) (by rw [List.mapM_cons,q1,strip_list 16 _ ws hw];rfl) (by rw [weakL,hqw,hww]) h hr
 rw [hh,hfl];rfl
def pc13_0:ACode:=
 (rg [oq 3 (.box (tm 0)) [6],op 4 (.box (tm 1)),op 5 (.box (tm 2))] [3,4,5])
def pc13_1:ACode:=
 (rg [op 16 (.load true 10 (tm 3)),op 7 (.alloc z10),on (.store 10 (tm 7) (tm 16))] [3,4,5,7])
def pc13_2:ACode:=
 (rg [op 17 (.buildSlice 3 0 z3 []),ao 18 0 3,ld 19 18,op 20 (.append 3 64 (tm 17) (tm 19)),op 21 (.buildSlice 1 1 [(.str [])] [(0,(.lit (.str [97])))]),op 22 (.build [(.str []),(.slice [])] [(0,1,(.lit (.str [90,122,49])))]),op 23 (.call (.fn 17) [(.lit (.str [97]))]),op 24 (.call (.fn 18) []),op 25 (.buildSlice 6 1 z6 [(0,(tm 24))]),op 26 (.call (.fn 19) [(.lit (.str [90,122])),(tm 25)]),op 27 (.call (.fn 53) []),op 28 (.buildSlice 1 1 [(.str [])] [(0,(.lit (.str [90,122])))]),op 29 (.call (.fn 47) [(tm 26),(tm 27),(tm 28)]),op 30 (.buildSlice 6 2 z6 [(0,(tm 23)),(1,(tm 29))]),op 31 (.build [(.str []),(.slice [])] [(0,1,(.lit (.str [90,122,50]))),(1,1,(tm 30))]),op 32 (.buildSlice 2 2 z2a [(0,(tm 22)),(1,(tm 31))]),op 33 (.build [(.str []),(.slice []),(.slice [])] [(0,1,(.lit (.str [90,122]))),(1,1,(tm 21)),(2,1,(tm 32))]),op 34 (.buildSlice 3 1 z3 [(0,(tm 33))]),op 35 (.append 3 64 (tm 20) (tm 34)),ao 36 0 7,on (.store 1 (tm 36) (tm 35))] [3,4,5,7])
def pc13_3:ACode:=
 (rg [op 37 (.buildSlice 2 0 z2a []),ao 38 1 3,ld 39 38,op 40 (.append 2 40 (tm 37) (tm 39)),op 41 (.call (.fn 48) []),op 42 (.buildSlice 6 1 z6 [(0,(tm 41))]),op 43 (.call (.fn 19) [(.lit (.str [90,122])),(tm 42)]),op 44 (.call (.fn 53) []),op 45 (.build [(.str []),(.int .i64 0),(.int .i64 0),(.str []),(.slice []),(.slice []),(.int .i64 0),(.int .i64 0),(.int .i64 0),(.str []),(.slice []),(.slice []),(.int .i64 0),(.bool false)] [(0,1,(.lit (.str [122,122]))),(1,6,(tm 43)),(7,6,(tm 44))]),op 46 (.buildSlice 14 1 z14 [(0,(tm 45))]),op 47 (.build [(.str []),(.slice [])] [(0,1,(.lit (.str [90,122]))),(1,1,(tm 46))]),op 48 (.buildSlice 2 1 z2a [(0,(tm 47))]),op 49 (.append 2 40 (tm 40) (tm 48)),ao 50 1 7,on (.store 1 (tm 50) (tm 49))] [3,4,5,7])
def pc13_4:ACode:=
 (.seq (rg [oq 51 (.load true 10 (tm 3)) [58],op 52 (.call (.fn 14) [(tm 51)]),op 54 (.arith .neq .none (tm 52) (zi 0)),⟨(some 55), .load true 10 (tm 7),(some (54,false)),[]⟩,⟨(some 56), .call (.fn 14) [(tm 55)],(some (54,false)),[]⟩,⟨(some 57), .arith .neq .none (tm 56) (zi 0),(some (54,false)),[]⟩,op 58 (.pick (tm 54) (.lit (.bool true)) (tm 57))] [3,4,5,7,58])
 (.cond (tm 58) (.seq (rg [oq 6 (.call (.fn 16) []) [59]] [6])
 .ret)
 .skip))
def pc13_5:ACode:=
 (.seq (rg [oq 60 (.load true 10 (tm 3)) [91],op 61 (.load true 7 (tm 4)),op 62 (.call (.fn 38) [(tm 60),(tm 61)]),op 64 (.arith .eql .none (tm 62) (zi 0)),⟨(some 65), .load true 10 (tm 7),(some (64,true)),[]⟩,⟨(some 66), .load true 7 (tm 4),(some (64,true)),[]⟩,⟨(some 67), .call (.fn 38) [(tm 65),(tm 66)],(some (64,true)),[]⟩,⟨(some 68), .arith .neq .none (tm 67) (zi 0),(some (64,true)),[]⟩,op 70 (.pick (tm 64) (tm 68) (.lit (.bool false))),⟨(some 71), .load true 10 (tm 3),(some (70,false)),[]⟩,⟨(some 72), .load true 6 (tm 5),(some (70,false)),[]⟩,⟨(some 73), .call (.fn 40) [(tm 71),(tm 72)],(some (70,false)),[]⟩,⟨(some 74), .arith .eql .none (tm 73) (zi 0),(some (70,false)),[]⟩,⟨(some 75), .mv (tm 74),(some (70,false)),[]⟩,⟨(some 76), .load true 10 (tm 7),(some (75,true)),[]⟩,⟨(some 77), .load true 6 (tm 5),(some (75,true)),[]⟩,⟨(some 78), .call (.fn 40) [(tm 76),(tm 77)],(some (75,true)),[]⟩,⟨(some 79), .arith .neq .none (tm 78) (zi 0),(some (75,true)),[]⟩,⟨(some 80), .pick (tm 75) (tm 79) (.lit (.bool false)),(some (70,false)),[]⟩,op 82 (.pick (tm 70) (.lit (.bool true)) (tm 80)),⟨(some 83), .load true 10 (tm 3),(some (82,false)),[]⟩,⟨(some 84), .call (.fn 36) [(tm 83)],(some (82,false)),[]⟩,⟨(some 85), .arith .eql .none (tm 84) (zi 0),(some (82,false)),[]⟩,⟨(some 86), .mv (tm 85),(some (82,false)),[]⟩,⟨(some 87), .load true 10 (tm 7),(some (86,true)),[]⟩,⟨(some 88), .call (.fn 36) [(tm 87)],(some (86,true)),[]⟩,⟨(some 89), .arith .neq .none (tm 88) (zi 0),(some (86,true)),[]⟩,⟨(some 90), .pick (tm 86) (tm 89) (.lit (.bool false)),(some (82,false)),[]⟩,op 91 (.pick (tm 82) (.lit (.bool true)) (tm 90))] [3,5,7,91])
 (.cond (tm 91) (.seq (rg [op 6 (.mv (.lit (.bool false)))] [6])
 .ret)
 .skip))
def pc13_6:ACode:=
 (.seq (rg [op 92 (.load true 10 (tm 3)),op 93 (.load true 6 (tm 5)),op 94 (.call (.fn 40) [(tm 92),(tm 93)]),op 95 (.arith .neq .none (tm 94) (zi 0))] [3,5,7,95])
 (.cond (tm 95) (.seq (rg [oq 6 (.call (.fn 16) []) [96]] [6])
 .ret)
 .skip))
def pc13_7:ACode:=
 (.seq (rg [oq 98 (.load true 10 (tm 3)) [102],op 99 (.load true 6 (tm 5)),op 97 (.call (.fn 20) [(tm 98),(tm 99)]),op 101 (.extract (tm 97) 0),op 102 (.extract (tm 97) 1),op 8 (.mv (tm 101)),op 9 (.mv (tm 102))] [3,5,7,8,9])
 (.seq (rg [oq 104 (.load true 10 (tm 7)) [108],op 105 (.load true 6 (tm 5)),op 103 (.call (.fn 20) [(tm 104),(tm 105)]),op 107 (.extract (tm 103) 0),op 108 (.extract (tm 103) 1),op 10 (.mv (tm 107)),op 11 (.mv (tm 108))] [3,5,7,8,9,10,11])
 (.seq (rg [oq 110 (.load true 10 (tm 3)) [114],op 111 (.load true 6 (tm 5)),op 109 (.call (.fn 22) [(tm 110),(tm 111),(zi 4)]),op 113 (.extract (tm 109) 0),op 114 (.extract (tm 109) 1),op 12 (.mv (tm 113)),op 13 (.mv (tm 114))] [5,7,8,9,10,11,12,13])
 (.seq (rg [oq 116 (.load true 10 (tm 7)) [120],op 117 (.load true 6 (tm 5)),op 115 (.call (.fn 22) [(tm 116),(tm 117),(zi 4)]),op 119 (.extract (tm 115) 0),op 120 (.extract (tm 115) 1),op 14 (.mv (tm 119)),op 15 (.mv (tm 120))] [8,9,10,11,12,13,14,15])
 (.seq (rg [oq 124 (.arith .eql .bool (tm 8) (tm 10)) [141],⟨(some 125), .mv (tm 9),(some (124,true)),[]⟩,⟨(some 126), .mv (tm 11),(some (124,true)),[]⟩,⟨(some 127), .arith .eql .none (tm 125) (tm 126),(some (124,true)),[]⟩,op 129 (.pick (tm 124) (tm 127) (.lit (.bool false))),⟨(some 130), .mv (tm 12),(some (129,true)),[]⟩,⟨(some 131), .mv (tm 14),(some (129,true)),[]⟩,⟨(some 132), .arith .eql .none (tm 130) (tm 131),(some (129,true)),[]⟩,op 134 (.pick (tm 129) (tm 132) (.lit (.bool false))),⟨(some 135), .mv (tm 13),(some (134,true)),[]⟩,⟨(some 136), .mv (tm 15),(some (134,true)),[]⟩,⟨(some 137), .arith .eql .none (tm 135) (tm 136),(some (134,true)),[]⟩,op 139 (.pick (tm 134) (tm 137) (.lit (.bool false))),⟨(some 140), .call (.fn 16) [],(some (139,true)),[]⟩,op 6 (.pick (tm 139) (tm 140) (.lit (.bool false)))] [6])
 .ret)))))
theorem af13_eq:af13=⟨142,3,[.tmp 6],(.seq pc13_0 (.seq pc13_1 (.seq pc13_2 (.seq pc13_3 (.seq pc13_4 (.seq pc13_5 (.seq pc13_6 pc13_7)))))))⟩:=rfl
theorem zzD_d:Dat.d zzD= .agg [.str [90,122], .slice [.str [97]], .slice [.agg [.str [90,122,49], .slice []], .agg [.str [90,122,50], .slice [.agg (paramT [97]).cs, .agg funZ.cs]]]]:=rfl
theorem zzE_d:Eff.d zzE= .agg [.str [90,122], .slice [.agg (.str [122,122]::((dataT nZz [boolT]).cs++(unitT.cs++[.bool false])))]]:=rfl
set_option maxHeartbeats 8000000 in
theorem pc2 (p:Prg) (X T:Obj) (hdl:p.data.length*64≤140737488351232) (σ:St): ∃s,s≤p.data.length+1∧evalI CL XBL GI 142 false pc13_2 [(3, .ptr σ.length 0),(4, .ptr (σ.length+1) 0),(5, .ptr (σ.length+2) 0),(7, .ptr (σ.length+3) 0)] (σ++[.box p.cs,X,T, .box p.cs])=
 some (.normal,[(3, .ptr σ.length 0),(4, .ptr (σ.length+1) 0),(5, .ptr (σ.length+2) 0),(7, .ptr (σ.length+3) 0)],σ++[.box p.cs,X,T, .box (.arr (σ.length+4) (p.data.length+1) 0 (p.data.length+1)::p.cs.tail), .row 3 (p.data.map Dat.d++[zzD.d]) s]):=by
 have h17:=fun σ=>k17 [97] σ
 have h18:=fun σ=>k18 σ
 have h19:=fun σ=>k19 nZz [numT] σ
 have h53:=fun σ=>k53 σ
 have h47:=fun σ=>k47 σ
 have hn1:tysD [numT]=[.agg numT.cs]:=rfl
 rw [hn1] at h19
 simp only [nZz] at h19 h47
 rw [zzD_d]
 have hcs:=p.cs_eq
 obtain ⟨rest,hrest⟩: ∃rest,p.cs= .slice (p.data.map Dat.d)::rest:=⟨_,hcs⟩
 rw [hrest,List.tail_cons]
 have hdd: (p.data.map Dat.d).length=p.data.length:=List.length_map _
 have hall: (p.data.map Dat.d).all (fun e=>e.cells.length==3&&e.cells.all D.one)=true:=by
  rw [List.all_map,List.all_eq_true];intro x _;rfl
 simp only [D.cells,D.one] at hall
 have t1:=(paramT [97]).cs_len
 have t2:=numT.cs_len
 have t3:=(dataT nZz [numT]).cs_len
 have t4:=unitT.cs_len
 have t5:=funZ.cs_len
 have u1:=(paramT [97]).cs_all
 have u2:=numT.cs_all
 have u3:=(dataT nZz [numT]).cs_all
 have u4:=unitT.cs_all
 have u5:=funZ.cs_all
 have v1:=(paramT [97]).cs_take
 have v2:=numT.cs_take
 have v3:=(dataT nZz [numT]).cs_take
 have v4:=unitT.cs_take
 have v5:=funZ.cs_take
 simp only [nZz] at t3 u3 v3
 generalize (paramT [97]).cs=c1 at*
 generalize numT.cs=c2 at*
 generalize (dataT [90,122] [numT]).cs=c3 at*
 generalize unitT.cs=c4 at*
 generalize funZ.cs=c5 at*
 generalize p.data.map Dat.d=dd at*
 rw [←hdd] at hdl ⊢
 by_cases hd:dd=[]
 ·subst hd
  refine ⟨1,by simp, ?_⟩
  simp [pc13_2,getA0,getA,setA0,setA,h17,h18,h19,h53,h47,t1,t2,t3,t4,t5,u1,u2,u3,u4,u5,v1,v2,v3,v4,v5,rowOf,fillRow,fillD,putCells]
 ·have hb:dd.length*64≤140737488355328:=by omega
  have hb2: (dd.length+1) *64≤140737488355328:=by omega
  refine ⟨dd.length,by omega, ?_⟩
  simp [pc13_2,getA0,getA,setA0,setA,h17,h18,h19,h53,h47,t1,t2,t3,t4,t5,u1,u2,u3,u4,u5,v1,v2,v3,v4,v5,rowOf,fillRow,fillD,putCells,hd,hall,hb,hb2, -List.all_eq_true]
set_option maxHeartbeats 8000000 in
theorem pc3 (p:Prg) (X T Z Y:Obj) (c0:D) (rest:List D) (hrest:p.cs.tail= .slice (p.effects.map Eff.d)::rest) (hel:p.effects.length*40≤140737488351232) (σ:St): ∃s,s≤p.effects.length+1∧evalI CL XBL GI 142 false pc13_3 [(3, .ptr σ.length 0),(4, .ptr (σ.length+1) 0),(5, .ptr (σ.length+2) 0),(7, .ptr (σ.length+3) 0)] (σ++[.box p.cs,X,T, .box (c0:: .slice (p.effects.map Eff.d)::rest),Y])=
 some (.normal,[(3, .ptr σ.length 0),(4, .ptr (σ.length+1) 0),(5, .ptr (σ.length+2) 0),(7, .ptr (σ.length+3) 0)],σ++[.box p.cs,X,T, .box (c0:: .arr (σ.length+5) (p.effects.length+1) 0 (p.effects.length+1)::rest),Y, .row 2 (p.effects.map Eff.d++[zzE.d]) s]):=by
 have h48:=fun σ=>k48 σ
 have h19:=fun σ=>k19 nZz [boolT] σ
 have h53:=fun σ=>k53 σ
 have hn1:tysD [boolT]=[.agg boolT.cs]:=rfl
 rw [hn1] at h19
 simp only [nZz] at h19
 rw [zzE_d]
 obtain ⟨c1',hc1⟩: ∃c1',p.cs=c1':: .slice (p.effects.map Eff.d)::rest:=⟨p.cs.headD .any,by
  rw [←hrest,p.cs_eq];rfl⟩
 rw [hc1]
 have hdd: (p.effects.map Eff.d).length=p.effects.length:=List.length_map _
 have hall: (p.effects.map Eff.d).all (fun e=>e.cells.length==2&&e.cells.all D.one)=true:=by
  rw [List.all_map,List.all_eq_true];intro x _;rfl
 simp only [D.cells,D.one] at hall
 have t2:=boolT.cs_len
 have t3:=(dataT nZz [boolT]).cs_len
 have t4:=unitT.cs_len
 have u2:=boolT.cs_all
 have u3:=(dataT nZz [boolT]).cs_all
 have u4:=unitT.cs_all
 have v2:=boolT.cs_take
 have v3:=(dataT nZz [boolT]).cs_take
 have v4:=unitT.cs_take
 have hfill: ∀z0 z1 z2 z3 z4 z5 z6 z7 z8 z9 z10 z11:D,fillD [.str [],z0,z1,z2,z3,z4,z5,z6,z7,z8,z9,z10,z11, .bool false] [(0,1, .str [122,122]),(1,6, .agg (dataT nZz [boolT]).cs),(7,6, .agg unitT.cs)]=some (.str [122,122]::((dataT nZz [boolT]).cs++(unitT.cs++[.bool false]))):=by
  intros;rfl
 have hf2: ∀ (s:Bs) (l:List D),fillD [.str [], .slice []] [(0,1, .str s),(1,1, .slice l)]=some [.str s, .slice l]:=fun _ _=>rfl
 simp only [nZz] at t3 u3 v3 hfill ⊢
 generalize boolT.cs=c2 at*
 generalize (dataT [90,122] [boolT]).cs=c3 at*
 generalize unitT.cs=c4 at*
 generalize p.effects.map Eff.d=dd at*
 rw [←hdd] at hel ⊢
 by_cases hd:dd=[]
 ·subst hd
  refine ⟨1,by simp, ?_⟩
  simp [pc13_3,getA0,getA,setA0,setA,h48,h19,h53,t2,t3,t4,u2,u3,u4,v2,v3,v4,rowOf,fillRow,hfill,hf2,putCells]
 ·have hb:dd.length*40≤140737488355328:=by omega
  have hb2: (dd.length+1) *40≤140737488355328:=by omega
  refine ⟨dd.length,by omega, ?_⟩
  simp [pc13_3,getA0,getA,setA0,setA,h48,h19,h53,t2,t3,t4,u2,u3,u4,v2,v3,v4,rowOf,fillRow,hfill,hf2,putCells,hd,hall,hb,hb2, -List.all_eq_true]
theorem ty_ok1 (k n:Int) (s:Bs) (l:List Ty) (hl:l.length≤4) (h: ∀t ∈ l,t.ok) (ls:List Lab) (hls:ls.length≤4) (tl:Int): (Ty.mk k n s l ls tl).ok:=by
 refine ⟨by unfold maxL;omega,by unfold maxL;omega, ?_⟩
 have: ∀l:List Ty,(∀t ∈ l,t.ok)→tysOk l:=fun l=>by
  induction l with
  |nil=>exact fun _=>trivial
  |cons a r ih=>exact fun h=>⟨h a List.mem_cons_self,ih fun x hx=>h x (List.mem_cons_of_mem _ hx)⟩
 exact this l h
theorem numT_ok:numT.ok:=ty_ok1 _ _ _ [] (by simp) (by simp) [] (by simp) _
theorem boolT_ok:boolT.ok:=ty_ok1 _ _ _ [] (by simp) (by simp) [] (by simp) _
theorem unitT_ok:unitT.ok:=ty_ok1 _ _ _ [] (by simp) (by simp) [] (by simp) _
theorem paramT_ok (s:Bs): (paramT s).ok:=ty_ok1 _ _ _ [] (by simp) (by simp) [] (by simp) _
theorem dataT1_ok (s:Bs) {t:Ty} (h:t.ok): (dataT s [t]).ok:=ty_ok1 _ _ _ [t] (by simp) (by simpa using h) [] (by simp) _
theorem funZ_ok:funZ.ok:=ty_ok1 _ _ _ [_,_] (by simp) (by
 intro t ht
 simp only [List.mem_cons,List.not_mem_nil,or_false] at ht
 rcases ht with rfl|rfl
 ·exact dataT1_ok _ numT_ok
 ·exact unitT_ok) [_] (by simp) _
theorem zzD_ok:zzD.ok:=by
 refine ⟨by simp [zzD,maxL],by simp [zzD,maxL],fun c hc=> ?_⟩
 simp only [zzD,List.mem_cons,List.not_mem_nil,or_false] at hc
 rcases hc with rfl|rfl
 ·exact ⟨by simp [maxL],trivial⟩
 ·exact ⟨by simp [maxL],paramT_ok _,funZ_ok,trivial⟩
theorem zzE_ok:zzE.ok:=by
 refine ⟨by simp [zzE,maxL],fun o ho=> ?_⟩
 simp only [zzE,List.mem_cons,List.not_mem_nil,or_false] at ho
 subst ho
 exact ⟨dataT1_ok _ boolT_ok,unitT_ok⟩
theorem more_ok {p:Prg} (hok:p.ok) (h1:p.data.length≤12) (h2:p.effects.length≤12):p.more.ok:=by
 refine ⟨?_, ?_, ?_, ?_,hok.fl,hok.f,hok.m⟩
 ·simp only [Prg.more,List.length_append,List.length_cons,List.length_nil];unfold maxL;omega
 ·intro d hd
  simp only [Prg.more,List.mem_append,List.mem_singleton] at hd
  rcases hd with hd|rfl
  ·exact hok.d d hd
  ·exact zzD_ok
 ·simp only [Prg.more,List.length_append,List.length_cons,List.length_nil];unfold maxL;omega
 ·intro d hd
  simp only [Prg.more,List.mem_append,List.mem_singleton] at hd
  rcases hd with hd|rfl
  ·exact hok.e d hd
  ·exact zzE_ok
theorem imp_two {a b:Int} (h:a=0→b=0):a≠0∨(a=0∧b=0):=by
 by_cases h0:a=0
 ·exact .inr ⟨h0,h h0⟩
 ·exact .inl h0
set_option maxHeartbeats 8000000 in
theorem law13 (p:Prg) (hok:p.ok) (hdl:p.data.length*64≤140737488351232) (hel:p.effects.length*40≤140737488351232) (x:Ex) (hx:x.ok) (t:Ty) (ht:t.ok) (σ:St):CL (.fn 13) [.agg p.cs, .agg x.cs, .agg t.cs] σ=some (.ret (.bool true),σ):=by
 have h14:=fun σ=>k14 p hok σ
 have h36:=fun σ=>k36 p hok σ
 have h38:=fun σ=>k38 p hok x hx σ
 have h40:=fun σ=>k40 p hok t ht σ
 have h20:=fun σ=>k20 p hok t ht σ
 have h22:=fun σ=>k22 p hok t ht 4 σ
 have h16:=fun σ=>kL16 σ
 have hall:=p.cs_all
 have hpl:=p.cs_len
 have hpt:=p.cs_take
 have x1:=x.cs_len
 have x2:=x.cs_take
 have x3:=x.cs_all
 have y1:=t.cs_len
 have y2:=t.cs_take
 have y3:=t.cs_all
 obtain ⟨rest,hrest⟩: ∃rest,p.cs= .slice (p.data.map Dat.d):: .slice (p.effects.map Eff.d)::rest:=⟨_,p.cs_eq⟩
 have hrl:rest.length=8:=by
  have:=p.cs_len
  rw [hrest] at this
  simpa using this
 have hro:rest.all D.one=true:=by
  have:=p.cs_all
  rw [hrest] at this
  simpa using this
 have hqcs:p.more.cs= .slice (p.data.map Dat.d++[zzD.d]):: .slice (p.effects.map Eff.d++[zzE.d])::rest:=by
  have e1:=p.cs_eq
  rw [hrest] at e1
  rw [p.more.cs_eq]
  simp only [Prg.more,List.map_append,List.map_cons,List.map_nil] at e1 ⊢
  simp only [List.cons.injEq,true_and] at e1
  rw [e1]
 obtain ⟨s1,hs1,hp2⟩:=pc2 p (.box x.cs) (.box t.cs) hdl σ
 rw [show p.cs.tail= .slice (p.effects.map Eff.d)::rest by rw [hrest];rfl] at hp2
 obtain ⟨s2,hs2,hp3⟩:=pc3 p (.box x.cs) (.box t.cs) (.box []) (.row 3 (p.data.map Dat.d++[zzD.d]) s1) (.arr (σ.length+4) (p.data.length+1) 0 (p.data.length+1)) rest (by rw [hrest];rfl) hel σ
 have hd1: (p.data.map Dat.d++[zzD.d]).length=p.data.length+1:=by simp
 have hd2: (p.effects.map Eff.d++[zzE.d]).length=p.effects.length+1:=by simp
 obtain ⟨M,hM⟩: ∃M,M=D.arr (σ.length+4) (p.data.length+1) 0 (p.data.length+1):: .arr (σ.length+5) (p.effects.length+1) 0 (p.effects.length+1)::rest:=⟨_,rfl⟩
 rw [←hM] at hp3
 obtain ⟨S,hS⟩: ∃S,S=σ++[Obj.box p.cs, .box x.cs, .box t.cs, .box M, .row 3 (p.data.map Dat.d++[zzD.d]) s1, .row 2 (p.effects.map Eff.d++[zzE.d]) s2]:=⟨_,rfl⟩
 rw [←hS] at hp3
 have r1:RowIs S (σ.length+4) 3 (p.data.map Dat.d++[zzD.d]):=⟨s1,by rw [hd1];exact hs1, .inl (by rw [hS];exact getA)⟩
 have r2:RowIs S (σ.length+5) 2 (p.effects.map Eff.d++[zzE.d]):=⟨s2,by rw [hd2];exact hs2, .inl (by rw [hS];exact getA)⟩
 have km:=fun {f:FuncId} (hx:extOf XL f=some fun a=>gC f (weakL a)) {ws:List D} (hw:treeL ws=true) (hww:weakL ws=ws) {r:D} (hr:r.tree=true) (hfl:r.flat=true) (h:CI (.fn f) (.agg p.more.cs::ws) []=some (.ret r,[]))=>kM hx hqcs r1 r2 hd1 hd2 hw hww hr hfl h
 rw [←hM] at km
 have gp:S[σ.length]? =some (.box p.cs):=by rw [hS];exact getA0
 have gx:S[σ.length+1]? =some (.box x.cs):=by rw [hS];exact getA
 have gt:S[σ.length+2]? =some (.box t.cs):=by rw [hS];exact getA
 have gm:S[σ.length+3]? =some (.box M):=by rw [hS];exact getA
 have hMl:M.length=10:=by rw [hM];simp [hrl]
 have hMt:M.take 10=M:=List.take_of_length_le (by omega)
 have hp0:evalI CL XBL GI 142 false pc13_0 [(0, .agg p.cs),(1, .agg x.cs),(2, .agg t.cs)] σ=some (.normal,[(3, .ptr σ.length 0),(4, .ptr (σ.length+1) 0),(5, .ptr (σ.length+2) 0)],σ++[.box p.cs, .box x.cs, .box t.cs]):=by
  clear hp2 hp3 km hM hS r1 r2 gp gx gt gm hrest hqcs
  generalize p.cs=pc at*
  generalize x.cs=xc at*
  generalize t.cs=tc at*
  simp [pc13_0,hall,x3,y3]
 have hp1:evalI CL XBL GI 142 false pc13_1 [(3, .ptr σ.length 0),(4, .ptr (σ.length+1) 0),(5, .ptr (σ.length+2) 0)] (σ++[.box p.cs, .box x.cs, .box t.cs])=some (.normal,[(3, .ptr σ.length 0),(4, .ptr (σ.length+1) 0),(5, .ptr (σ.length+2) 0),(7, .ptr (σ.length+3) 0)],σ++[.box p.cs, .box x.cs, .box t.cs, .box p.cs]):=by
  clear hp0 hp2 hp3 km hM hS r1 r2 gp gx gt gm hrest hqcs
  generalize p.cs=pc at*
  simp [pc13_1,getA0,getA,setA0,setA,hpl,hpt,hall,fillD,putCells]
 suffices h:evalI CL XBL GI 142 false (.seq pc13_4 (.seq pc13_5 (.seq pc13_6 pc13_7))) [(3, .ptr σ.length 0),(4, .ptr (σ.length+1) 0),(5, .ptr (σ.length+2) 0),(7, .ptr (σ.length+3) 0)] S=some (.ret,[(6, .bool true)],S) by
  have hτ:bodyI CL XBL GI af13 [.agg p.cs, .agg x.cs, .agg t.cs] σ=some (.ret (.bool true),S):=by
   have he:evalI CL XBL GI 142 false (.seq pc13_0 (.seq pc13_1 (.seq pc13_2 (.seq pc13_3 (.seq pc13_4 (.seq pc13_5 (.seq pc13_6 pc13_7))))))) (argsE 0 [.agg p.cs, .agg x.cs, .agg t.cs]) σ=some (.ret,[(6, .bool true)],S):=by
    have ha:argsE 0 [D.agg p.cs, .agg x.cs, .agg t.cs]=[(0, .agg p.cs),(1, .agg x.cs),(2, .agg t.cs)]:=rfl
    rw [ha,evI_seq,hp0,seqI_normal,evI_seq,hp1,seqI_normal,evI_seq,hp2,seqI_normal,evI_seq,hp3,seqI_normal,h]
   rw [af13_eq]
   unfold bodyI
   simp only [he]
   simp
  rw [hS] at hτ
  exact CL_tree tab13 hτ rfl rfl rfl rfl
 clear hp0 hp1 hp2 hp3
 by_cases d0:p.decls=0
 rotate_left
 ·have hb: (p.decls != 0)=true:=by simpa using d0
  clear km hM hS r1 r2 hrest hqcs
  generalize p.decls=de at*
  generalize p.cs=pc at*
  simp [pc13_4,gp,hpl,hpt,h14,h16,d0,hb]
 obtain ⟨hs,_⟩:=orE_zero.1 d0
 obtain ⟨l1,l2,_⟩:=Prg.syn_data hs
 have hqo:=more_ok hok l1 l2
 have hE:=more_ext p
 have m14:=km (f:=14) rfl (ws:=[]) rfl rfl (r:= .int .i64 p.more.decls) rfl rfl (c14 p.more hqo [])
 rw [d0] at h14
 by_cases q0:p.more.decls=0
 rotate_left
 ·have hb: (p.more.decls != 0)=true:=by simpa using q0
  clear km hM hS r1 r2 hrest hqcs
  generalize p.more.decls=de at*
  generalize p.cs=pc at*
  simp [pc13_4,gp,gm,hpl,hpt,hMl,hMt,h14,m14,h16,q0,hb]
 rw [q0] at m14
 have hp4:evalI CL XBL GI 142 false pc13_4 [(3, .ptr σ.length 0),(4, .ptr (σ.length+1) 0),(5, .ptr (σ.length+2) 0),(7, .ptr (σ.length+3) 0)] S=some (.normal,[(3, .ptr σ.length 0),(4, .ptr (σ.length+1) 0),(5, .ptr (σ.length+2) 0),(7, .ptr (σ.length+3) 0),(58, .bool false)],S):=by
  clear km hM hS r1 r2 hrest hqcs
  generalize p.cs=pc at*
  simp [pc13_4,gp,gm,hpl,hpt,hMl,hMt,h14,m14]
 have wx:treeL [D.agg x.cs]=true:=by simp only [treeL,x.plain.agg.1];rfl
 have wwx:weakL [D.agg x.cs]=[.agg x.cs]:=by simp only [weakL,x.plain.agg.2]
 have wt:treeL [D.agg t.cs]=true:=by simp only [treeL,t.plain.agg.1];rfl
 have wwt:weakL [D.agg t.cs]=[.agg t.cs]:=by simp only [weakL,t.plain.agg.2]
 have m36:=km (f:=36) rfl (ws:=[]) rfl rfl (r:= .int .i64 p.more.chk) rfl rfl (c36 p.more hqo [])
 have m38:=km (f:=38) rfl wx wwx (r:= .int .i64 (p.more.exprE x)) rfl rfl (c38 p.more hqo x hx [])
 have m40:=km (f:=40) rfl wt wwt (r:= .int .i64 (p.more.tyE t)) rfl rfl (c40 p.more hqo t ht [])
 have m20:=km (f:=20) rfl wt wwt (r:= .tuple [.bool (p.more.inh t&&p.more.tyE t==0), .int .i64 (p.more.tyE t)]) rfl rfl (c20 p.more hqo t ht [])
 have m22:=km (f:=22) rfl (ws:=[.agg t.cs, .int .i64 4]) (by simp only [treeL,t.plain.agg.1];rfl) (by simp only [weakL,t.plain.agg.2];rfl) (r:= .tuple [.int .i64 (p.more.cntV t 4), .int .i64 (p.more.cntE t 4)]) rfl rfl (c22 p.more hqo t ht 4 [])
 have i1:=imp_two (hE.exprE q0 (x:=x))
 have i2:=imp_two (hE.tyE q0 (t:=t))
 have i3:=imp_two (hE.chk q0 rfl rfl)
 have hp5:evalI CL XBL GI 142 false pc13_5 [(3, .ptr σ.length 0),(4, .ptr (σ.length+1) 0),(5, .ptr (σ.length+2) 0),(7, .ptr (σ.length+3) 0),(58, .bool false)] S=some (.normal,[(3, .ptr σ.length 0),(5, .ptr (σ.length+2) 0),(7, .ptr (σ.length+3) 0),(91, .bool false)],S):=by
  clear km hM hS r1 r2 hrest hqcs hp4 h20 h22 m20 m22 hE
  generalize p.exprE x=e1 at*
  generalize p.more.exprE x=f1 at*
  generalize p.tyE t=e2 at*
  generalize p.more.tyE t=f2 at*
  generalize p.chk=e3 at*
  generalize p.more.chk=f3 at*
  generalize p.cs=pc at*
  generalize x.cs=xc at*
  generalize t.cs=tc at*
  have hz: ∀z:Int,z≠0→(z==0)=false:=fun z h=>by simpa using h
  rcases i1 with i1| ⟨rfl,rfl⟩
  ·rcases i2 with i2| ⟨rfl,rfl⟩
   ·rcases i3 with i3| ⟨rfl,rfl⟩
    ·simp [pc13_5,gp,gx,gt,gm,hpl,hpt,hMl,hMt,x1,x2,y1,y2,h38,h40,h36,m38,m40,m36,i1,hz _ i1,i2,hz _ i2,i3,hz _ i3]
    ·simp [pc13_5,gp,gx,gt,gm,hpl,hpt,hMl,hMt,x1,x2,y1,y2,h38,h40,h36,m38,m40,m36,i1,hz _ i1,i2,hz _ i2]
   ·rcases i3 with i3| ⟨rfl,rfl⟩
    ·simp [pc13_5,gp,gx,gt,gm,hpl,hpt,hMl,hMt,x1,x2,y1,y2,h38,h40,h36,m38,m40,m36,i1,hz _ i1,i3,hz _ i3]
    ·simp [pc13_5,gp,gx,gt,gm,hpl,hpt,hMl,hMt,x1,x2,y1,y2,h38,h40,h36,m38,m40,m36,i1,hz _ i1]
  ·rcases i2 with i2| ⟨rfl,rfl⟩
   ·rcases i3 with i3| ⟨rfl,rfl⟩
    ·simp [pc13_5,gp,gx,gt,gm,hpl,hpt,hMl,hMt,x1,x2,y1,y2,h38,h40,h36,m38,m40,m36,i2,hz _ i2,i3,hz _ i3]
    ·simp [pc13_5,gp,gx,gt,gm,hpl,hpt,hMl,hMt,x1,x2,y1,y2,h38,h40,h36,m38,m40,m36,i2,hz _ i2]
   ·rcases i3 with i3| ⟨rfl,rfl⟩
    ·simp [pc13_5,gp,gx,gt,gm,hpl,hpt,hMl,hMt,x1,x2,y1,y2,h38,h40,h36,m38,m40,m36,i3,hz _ i3]
    ·simp [pc13_5,gp,gx,gt,gm,hpl,hpt,hMl,hMt,x1,x2,y1,y2,h38,h40,h36,m38,m40,m36]
 rw [evI_seq,hp4,seqI_normal,evI_seq,hp5,seqI_normal]
 by_cases t0:p.tyE t=0
 rotate_left
 ·have hb: (p.tyE t != 0)=true:=by simpa using t0
  clear km hM hS r1 r2 hrest hqcs hp4 hp5 h20 h22 m20 m22 hE
  generalize p.tyE t=e2 at*
  generalize p.cs=pc at*
  generalize t.cs=tc at*
  simp [pc13_6,gp,gt,hpl,hpt,y1,y2,h40,h16,t0,hb]
 have t1:=hE.tyE q0 t0
 have e1:=hE.inh d0 q0 (tyE_zero t0).2.2.2
 have e2:=hE.cntE q0 t0 4
 have e3:=hE.cntV q0 t0 4
 rw [t1,e1] at m20
 rw [e2,e3] at m22
 rw [t0] at h20 h40
 clear km hM hS r1 r2 hrest hqcs hp4 hp5 hE m40 m38 m36 m14 i1 i2 i3 e1 e2 e3
 generalize p.inh t=v1 at*
 generalize p.cntV t 4=v2 at*
 generalize p.cntE t 4=v3 at*
 generalize p.cs=pc at*
 generalize t.cs=tc at*
 simp [pc13_6,pc13_7,gp,gt,gm,hpl,hpt,hMl,hMt,y1,y2,h40,h20,h22,m20,m22,h16,eqD]
end Go.AI
namespace Go.Proofs.YtgenoggafhhgfaaGreatDoor
open Go Go.AI Go.ChangeShapes Go.WideShapes Go.ChangeAt Go.RowKit
section
variable {H:Type} {enc:TypeId × Value→H} {W:World} {sp:Nat→Bool} {held:Bool}
theorem opens_datsB (m:Nat):Opens enc W sp held 22 (fun l:List Dat=>[.slice (l.map Dat.d)]) (fun l=>l.length*64≤reachBytes∧ ∀a ∈ l,a.ok) m:=
 opens_sliceB (α:=Dat) (f:=Dat.cs) Dat.d (fun _=>rfl) Tryz.underlying22 (e:=41) (sz:=3) (by kernel_rfl) (by omega) (fun _=>rfl) (by kernel_rfl) fun n _=>opens_Dat n
theorem opens_effsB (m:Nat):Opens enc W sp held 23 (fun l:List Eff=>[.slice (l.map Eff.d)]) (fun l=>l.length*40≤reachBytes∧ ∀a ∈ l,a.ok) m:=
 opens_sliceB (α:=Eff) (f:=Eff.cs) Eff.d (fun _=>rfl) Tryz.underlying23 (e:=87) (sz:=2) (by kernel_rfl) (by omega) (fun _=>rfl) (by kernel_rfl) fun n _=>opens_Eff n
def Prg.okB (p:Prg):Prop:=p.ok∧p.data.length*64≤140737488351232∧p.effects.length*40≤140737488351232
theorem opens_PrgB (m:Nat):Opens enc W sp held 32 Prg.cs Prg.okB m:=by
 intro cs x h hfit
 obtain ⟨hl,n,hn,hfs⟩:=opens_struct Tryz.underlying32 h hfit
 have hl:cs.length=10:=hl.trans (by kernel_rfl)
 obtain ⟨ds,rds,ods⟩:=field_open hfs (opens_datsB n) 0 0 1 rfl (by kernel_rfl)
 obtain ⟨es,res,oes⟩:=field_open hfs (opens_effsB n) 1 1 1 rfl (by kernel_rfl)
 obtain ⟨fs,rfs,ofs⟩:=field_open hfs (opens_dfns n) 2 2 1 rfl (by kernel_rfl)
 obtain ⟨mn,rmn,omn⟩:=field_open hfs (opens_ExArm n).1 3 3 7 rfl (by kernel_rfl)
 have hR:=RC.cons (off:=0) (s:=1) rds (RC.cons (off:=1) (s:=1) res (RC.cons (off:=2) (s:=1) rfs (RC.cons (off:=3) (s:=7) rmn (RC.nil (W:=W) (cs:=cs) (off:=10) (by omega)) (by omega)) (by omega)) (by omega)) (by omega)
 rw [List.drop_zero] at hR
 obtain ⟨d1,d2⟩:=ods
 obtain ⟨e1,e2⟩:=oes
 unfold reachBytes at d1 e1
 refine ⟨⟨ds,es,fs,mn⟩, ?_,⟨⟨(by unfold maxL;omega:ds.length≤maxL),d2,(by unfold maxL;omega:es.length≤maxL),e2,ofs.1,ofs.2,omn⟩,d1,e1⟩⟩
 simpa [Prg.cs] using hR
end
end Go.Proofs.YtgenoggafhhgfaaGreatDoor
