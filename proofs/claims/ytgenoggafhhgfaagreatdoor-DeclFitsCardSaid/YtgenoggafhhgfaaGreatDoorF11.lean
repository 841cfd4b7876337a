/- Texts of the proof: what functions of the program compute, step by step. No conditions of its own. -/
import Derived.Test.YtgenoggafhhgfaaGreatDoorF10
import Derived.Test.YtgenoggafhhgfaaGreatDoorF5
set_option linter.unusedVariables false
set_option linter.unusedSimpArgs false
namespace Go.AI
open Go Go.Proofs Go.Lx
set_option maxRecDepth 100000
theorem shape_kinds: ∀j,j<20→((shapesL.getD j default).m=if j=17 then 12 else 0)∧((shapesL.getD j default).q=if j=10 then 4 else 0):=by decide
theorem shapesR_at (j:Nat) (hj:j<20): ∃h:j<shapesR.length,shapesR[j]= .agg (shapesL.getD j default).r:=by
 have hl:shapesL.length=20:=rfl
 have:j<shapesL.length:=by omega
 refine ⟨by unfold shapesR;simpa using this, ?_⟩
 unfold shapesR
 rw [List.getElem_map,List.getD_eq_getElem?_getD,List.getElem?_eq_getElem this]
 rfl
theorem if_or2 (a b A:Int): (if a=0 then if b=0 then A else b else a)=if (if a=0 then b else a)=0 then A else if a=0 then b else a:=by
 by_cases h:a=0<;>simp [h]
set_option maxHeartbeats 4000000 in
theorem c181 (e:Ex) (hok:e.ok) (σ:St): ∀ (k n:Int) (s t:Bs) (names:List Bs) (l:List Ex) (arms:List Arm),e= .mk k n s t names l arms→CI (.fn 181) [.agg e.cs] σ=some (.ret (.int .i64 (nodeE k n s t names l.length arms)),σ):=by
 rintro k n s t names l arms rfl
 obtain ⟨hnl,hll,hal,hlo,hao⟩:=hok
 have h205:=fun σ=>c205 σ
 have hrl: (shapesR.length:Int)=20:=rfl
 have hrn:shapesR.length=20:=rfl
 have h207:=fun σ=>c207 k n s t names l arms hal hao σ
 have hexl:=exsD_len l
 have harl:=armsD_len arms
 have hndl: (names.map D.str).length=names.length:=by simp
 have hw19:IntKind.i64.wrap (20 - 1)=19:=rfl
 have hw19':IntKind.i64.wrap 19=19:=rfl
 have fin: ∀z,(∃τ,bodyI CI XB GI af181 [.agg (Ex.mk k n s t names l arms).cs] σ=some (.ret (.int .i64 z),σ++τ))→CI (.fn 181) [.agg (Ex.mk k n s t names l arms).cs] σ=some (.ret (.int .i64 z),σ):=fun z ⟨τ,h⟩=>CI_tree tab181 h rfl rfl
 apply fin
 clear fin
 unfold nodeE
 by_cases hk:inR k 0 19=true
 rotate_left
 ·rw [if_neg hk]
  rw [Bool.not_eq_true] at hk
  refine ⟨[.box (Ex.mk k n s t names l arms).cs], ?_⟩
  simp only [Ex.cs,slD] at*
  generalize names.map D.str=nd at*
  generalize exsD l=ed at*
  generalize armsD arms=ad at*
  generalize shapesR=sr at*
  simp [bodyI,af181,getA0,k157,hk,h205,hrl,hrn,hw19,hw19']
 rw [if_pos hk]
 refine ⟨[.box (Ex.mk k n s t names l arms).cs, .box (shapeOf k).r], ?_⟩
 obtain ⟨j,rfl⟩: ∃j:Nat,k=j:=⟨k.toNat,by unfold inR at hk;simp at hk;omega⟩
 have hj:j<20:=by unfold inR at hk;simp at hk;omega
 obtain ⟨hs2,hs3⟩:=shapesR_at j hj
 obtain ⟨hm,hq⟩:=shape_kinds j hj
 have hsh:shapeOf (j:Int)=shapesL.getD j default:=rfl
 rw [←hsh] at hs3 hm hq
 have h206:=fun h17 σ=>c206 (j:Int) n s t names l arms hnl h17 σ
 have hxn:=hsh ▸ (shape_small _ (shapeOf_mem hk))
 have h17:j=17→shapesL.getD j default=⟨0,0,1,12,3,0,false,0,0⟩:=fun h=>by subst h;rfl
 have h10:j=10→shapesL.getD j default=⟨2,0,0,0,0,4,false,0,0⟩:=fun h=>by subst h;rfl
 rw [←hsh] at h17 h10
 have hnE: ∀ (A:Int),(if distE (names.take (if (j:Int)=17 then 1 else names.length)) 1=0 then if distE (names.drop (if (j:Int)=17 then 1 else names.length)) 2=0 then A else distE (names.drop (if (j:Int)=17 then 1 else names.length)) 2
  else distE (names.take (if (j:Int)=17 then 1 else names.length)) 1)=if namesE j names=0 then A else namesE j names:=fun A=>if_or2 _ _ A
 rw [hnE]
 clear hnE
 have hA: (if armsE (j:Int) [] arms=0 then if ((j:Int) != 11&&((shapeOf j).a&&decide (arms.length=0)))=true then 7 else 0 else armsE j [] arms)=if (shapeOf j).a=true then armsR j arms else if arms.length=0 then 0 else (if armsE (j:Int) [] arms=0 then 0 else armsE j [] arms):=by
  unfold armsR
  cases (shapeOf (j:Int)).a
  ·simp only [Bool.false_and,Bool.and_false,Bool.false_eq_true,if_false]
   split
   ·split<;>rfl
   ·split
    ·rename_i h1 h2
     rw [List.length_eq_zero_iff] at h2
     subst h2
     exact absurd rfl h1
    ·rfl
  ·simp only [Bool.true_and,if_true]
 rw [hA]
 clear hA
 generalize shapeOf (j:Int)=x at*
 unfold Sh.r at*
 have hj': (j:Int) <20:=by omega
 generalize namesE (j:Int) names=nE at*
 generalize armsR (j:Int) arms=aR at*
 generalize armsE (j:Int) [] arms=aE at*
 simp only [Ex.cs,slD] at*
 generalize names.map D.str=nd at*
 generalize exsD l=ed at*
 generalize armsD arms=ad at*
 generalize shapesR=sr at*
 by_cases hin:inR n x.lo x.hi=true
 rotate_left
 ·rw [if_neg hin]
  rw [Bool.not_eq_true] at hin
  simp [bodyI,af181,getA0,getA,setA0,setA,k157,hk,h205,hrl,hrn,hw19,hw19',hs2,hs3,hj,hj',hin]
 rw [if_pos hin]
 cases hs:isC s x.s
 ·simp [bodyI,af181,getA0,getA,setA0,setA,k157,hk,h205,hrl,hrn,hw19,hw19',hs2,hs3,hj,hj',hin,c167,hs]
 cases ht:isC t x.t
 ·simp [bodyI,af181,getA0,getA,setA0,setA,k157,hk,h205,hrl,hrn,hw19,hw19',hs2,hs3,hj,hj',hin,c167,hs,ht]
 by_cases k17:j=17
 ·subst k17
  have hx:=h17 rfl
  subst hx
  clear h17 h10 hm hq
  have hk7: ((17:Nat):Int)=17:=rfl
  simp only [hk7,Int.natCast_zero] at*
  have hM:inR names.length 1 (1+12)=(decide ((1:Int)≤names.length)&&decide ((names.length:Int)≤13)):=rfl
  have hP:inR l.length 3 (3+0)=((l.length:Int) ==3):=by
   unfold inR;rw [Bool.eq_iff_iff];simp only [Bool.and_eq_true,decide_eq_true_eq,beq_iff_eq];omega
  rw [hM,hP]
  by_cases m1: (1:Int)≤names.length
  rotate_left
  ·have h1: ((names.length:Int) ==1)=false:=by rw [beq_eq_false_iff_ne];omega
   cases h2: (l.length:Int) ==3<;>simp [bodyI,af181,getA0,getA,setA0,setA,k157,hk,h205,hrl,hrn,hw19,hw19',hs2,hs3,hj,hj',hin,c167,hs,ht,hexl,harl,hndl,h1,h2,m1]
  by_cases m13: (names.length:Int)≤13
  rotate_left
  ·have h1: ((names.length:Int) ==1)=false:=by rw [beq_eq_false_iff_ne];omega
   cases h2: (l.length:Int) ==3<;>simp [bodyI,af181,getA0,getA,setA0,setA,k157,hk,h205,hrl,hrn,hw19,hw19',hs2,hs3,hj,hj',hin,c167,hs,ht,hexl,harl,hndl,h1,h2,m1,m13]
  have h206:=h206 (fun _=>by omega)
  cases h2: (l.length:Int) ==3
  ·cases h1: (names.length:Int) ==1<;>simp [bodyI,af181,getA0,getA,setA0,setA,k157,hk,h205,hrl,hrn,hw19,hw19',hs2,hs3,hj,hj',hin,c167,hs,ht,hexl,harl,hndl,h1,h2,m1,m13]
  ·by_cases h0:0<arms.length
   ·have h0': (0:Int) <arms.length:=by omega
    cases h1: (names.length:Int) ==1<;>simp [bodyI,af181,getA0,getA,setA0,setA,k157,hk,h205,hrl,hrn,hw19,hw19',hs2,hs3,hj,hj',hin,c167,hs,ht,hexl,harl,hndl,h1,h2,m1,m13,h0,h0']
   ·have h0': ¬(0:Int) <arms.length:=by omega
    have h0'':arms.length=0:=by omega
    have h9: ¬9<arms.length:=by omega
    have h9': ¬(9:Int) <arms.length:=by omega
    by_cases hnz:nE=0
    ·cases h1: (names.length:Int) ==1<;>simp [bodyI,af181,getA0,getA,setA0,setA,k157,hk,h205,hrl,hrn,hw19,hw19',hs2,hs3,hj,hj',hin,c167,hs,ht,hexl,harl,hndl,h1,h2,m1,m13,h9,h9',h0,h0',h0'',h206,hnz]
    ·have hnz': (nE != 0)=true:=by simpa using hnz
     cases h1: (names.length:Int) ==1<;>simp [bodyI,af181,getA0,getA,setA0,setA,k157,hk,h205,hrl,hrn,hw19,hw19',hs2,hs3,hj,hj',hin,c167,hs,ht,hexl,harl,hndl,h1,h2,m1,m13,h9,h9',h0,h0',h0'',h206,hnz,hnz']
 by_cases k10:j=10
 ·subst k10
  have hx:=h10 rfl
  subst hx
  clear h17 h10 hm hq k17
  have hk7: ((10:Nat):Int)=10:=rfl
  simp only [hk7,Int.natCast_zero] at*
  have hM:inR names.length 0 (0+0)=((names.length:Int) ==0):=by
   unfold inR;rw [Bool.eq_iff_iff];simp only [Bool.and_eq_true,decide_eq_true_eq,beq_iff_eq];omega
  have hP:inR l.length 0 (0+4)=decide ((l.length:Int)≤4):=by
   unfold inR;rw [Bool.eq_iff_iff];simp only [Bool.and_eq_true,decide_eq_true_eq];omega
  rw [hM,hP]
  have h206:=h206 (by omega)
  by_cases p4: (l.length:Int)≤4
  rotate_left
  ·have h2: ((l.length:Int) ==0)=false:=by rw [beq_eq_false_iff_ne];omega
   cases h1: (names.length:Int) ==0<;>simp [bodyI,af181,getA0,getA,setA0,setA,k157,hk,h205,hrl,hrn,hw19,hw19',hs2,hs3,hj,hj',hin,c167,hs,ht,hexl,harl,hndl,h1,h2,p4]
  cases h1: (names.length:Int) ==0
  ·cases h2: (l.length:Int) ==0<;>simp [bodyI,af181,getA0,getA,setA0,setA,k157,hk,h205,hrl,hrn,hw19,hw19',hs2,hs3,hj,hj',hin,c167,hs,ht,hexl,harl,hndl,h1,h2,p4]
  ·by_cases h0:0<arms.length
   ·have h0': (0:Int) <arms.length:=by omega
    cases h2: (l.length:Int) ==0<;>simp [bodyI,af181,getA0,getA,setA0,setA,k157,hk,h205,hrl,hrn,hw19,hw19',hs2,hs3,hj,hj',hin,c167,hs,ht,hexl,harl,hndl,h1,h2,p4,h0,h0']
   ·have h0': ¬(0:Int) <arms.length:=by omega
    have h0'':arms.length=0:=by omega
    have h9: ¬9<arms.length:=by omega
    have h9': ¬(9:Int) <arms.length:=by omega
    by_cases hnz:nE=0
    ·cases h2: (l.length:Int) ==0<;>simp [bodyI,af181,getA0,getA,setA0,setA,k157,hk,h205,hrl,hrn,hw19,hw19',hs2,hs3,hj,hj',hin,c167,hs,ht,hexl,harl,hndl,h1,h2,p4,h9,h9',h0,h0',h0'',h206,hnz]
    ·have hnz': (nE != 0)=true:=by simpa using hnz
     cases h2: (l.length:Int) ==0<;>simp [bodyI,af181,getA0,getA,setA0,setA,k157,hk,h205,hrl,hrn,hw19,hw19',hs2,hs3,hj,hj',hin,c167,hs,ht,hexl,harl,hndl,h1,h2,p4,h9,h9',h0,h0',h0'',h206,hnz,hnz']
 have b17: ((j:Int) ==17)=false:=by rw [beq_eq_false_iff_ne];omega
 have b10: ((j:Int) ==10)=false:=by rw [beq_eq_false_iff_ne];omega
 rw [if_neg k17] at hm
 rw [if_neg k10] at hq
 have h206:=h206 (by omega)
 have hM:inR names.length x.n (x.n+x.m)=((names.length:Int) ==x.n):=by
  unfold inR;rw [hm,Bool.eq_iff_iff];simp only [Bool.and_eq_true,decide_eq_true_eq,beq_iff_eq];omega
 have hP:inR l.length x.p (x.p+x.q)=((l.length:Int) ==x.p):=by
  unfold inR;rw [hq,Bool.eq_iff_iff];simp only [Bool.and_eq_true,decide_eq_true_eq,beq_iff_eq];omega
 rw [hM,hP]
 cases h1: (names.length:Int) ==x.n
 ·cases h2: (l.length:Int) ==x.p<;>simp [bodyI,af181,getA0,getA,setA0,setA,k157,hk,h205,hrl,hrn,hw19,hw19',hs2,hs3,hj,hj',hin,c167,hs,ht,hexl,harl,hndl,b17,b10,h1,h2]
 cases h2: (l.length:Int) ==x.p
 ·simp [bodyI,af181,getA0,getA,setA0,setA,k157,hk,h205,hrl,hrn,hw19,hw19',hs2,hs3,hj,hj',hin,c167,hs,ht,hexl,harl,hndl,b17,b10,h1,h2]
 by_cases h9:9<arms.length
 ·have h9': (9:Int) <arms.length:=by omega
  have h0:0<arms.length:=by omega
  have h0': (0:Int) <arms.length:=by omega
  cases ha:x.a<;>simp [bodyI,af181,getA0,getA,setA0,setA,k157,hk,h205,hrl,hrn,hw19,hw19',hs2,hs3,hj,hj',hin,c167,hs,ht,hexl,harl,hndl,b17,b10,h1,h2,h9,h9',h0,h0',ha]
 have h9': ¬(9:Int) <arms.length:=by omega
 cases ha:x.a
 ·by_cases h0:0<arms.length
  ·have h0': (0:Int) <arms.length:=by omega
   simp [bodyI,af181,getA0,getA,setA0,setA,k157,hk,h205,hrl,hrn,hw19,hw19',hs2,hs3,hj,hj',hin,c167,hs,ht,hexl,harl,hndl,b17,b10,h1,h2,h9,h9',h0,h0',ha]
  ·have h0': ¬(0:Int) <arms.length:=by omega
   have h0'':arms.length=0:=by omega
   by_cases hnz:nE=0
   ·simp [bodyI,af181,getA0,getA,setA0,setA,k157,hk,h205,hrl,hrn,hw19,hw19',hs2,hs3,hj,hj',hin,c167,hs,ht,hexl,harl,hndl,b17,b10,h1,h2,h9,h9',h0,h0',h0'',ha,h206,hnz]
   ·have hnz': (nE != 0)=true:=by simpa using hnz
    simp [bodyI,af181,getA0,getA,setA0,setA,k157,hk,h205,hrl,hrn,hw19,hw19',hs2,hs3,hj,hj',hin,c167,hs,ht,hexl,harl,hndl,b17,b10,h1,h2,h9,h9',h0,h0',h0'',ha,h206,hnz,hnz']
 ·by_cases hnz:nE=0
  ·simp [bodyI,af181,getA0,getA,setA0,setA,k157,hk,h205,hrl,hrn,hw19,hw19',hs2,hs3,hj,hj',hin,c167,hs,ht,hexl,harl,hndl,b17,b10,h1,h2,h9,h9',ha,h206,h207,hnz]
  ·have hnz': (nE != 0)=true:=by simpa using hnz
   simp [bodyI,af181,getA0,getA,setA0,setA,k157,hk,h205,hrl,hrn,hw19,hw19',hs2,hs3,hj,hj',hin,c167,hs,ht,hexl,harl,hndl,b17,b10,h1,h2,h9,h9',ha,h206,hnz,hnz']
end Go.AI
namespace Go.AI
open Go Go.Proofs Go.Lx
end Go.AI
namespace Go.AI
open Go Go.Proofs Go.Lx
set_option maxRecDepth 100000
theorem k16 (σ:St):CI (.fn 16) [] σ=some (.ret (.bool true),σ):=by
 exact callI_ext postN (g:=fun a=>g16 (weakL a)) rfl rfl
theorem exsD_app (a b:List Ex):exsD (a++b)=exsD a++exsD b:=by simp only [exsD_map,List.map_append]
theorem foldS_body: ∀ (l:List Arm) (i:Nat) (b:List Ex),foldS (γ:=Unit) (fun _ (a:Arm) b=> .inl (b++[a.body])) l i b= .inl (b++l.map Arm.body)
 | [],i,b=>by simp [foldS]
 |a::r,i,b=>by simp only [foldS,foldS_body r];simp
set_option maxHeartbeats 1000000 in
theorem c52 (k n:Int) (s t:Bs) (names:List Bs) (l:List Ex) (arms:List Arm) (hb:l.length+arms.length≤1000000) (σ:St):
 CI (.fn 52) [.agg (Ex.mk k n s t names l arms).cs] σ=some (.ret (.slice (exsD (Ex.mk k n s t names l arms).parts)),σ):=by
 have hel:=exsD_len l
 have hal:=armsD_len arms
 obtain ⟨τ,hit⟩:=loop_foldS (γ:=Unit) (f:=evalI CI XB GI 26 false lp52_0) arms (fun j b=>[(1, .ptr σ.length 0),(3, .arr (σ.length+1) b.length 0 b.length),(4, .int .i64 (j:Nat))])
  (fun b=>σ++[.box (Ex.mk k n s t names l arms).cs, .row 7 (exsD b) 0]) (fun j b=>b.length=l.length+j) (fun _ (a:Arm) b=> .inl (b++[a.body])) (fun _=>(.ret,[])) (fun _=>[]) (fun b=>(.exit 0,[(1, .ptr σ.length 0),(3, .arr (σ.length+1) b.length 0 b.length),(4, .int .i64 arms.length),(13, .bool false)]))
  (by simp) (by simp) (fun j hj b b' hb hs=>by cases hs;simp [hb];omega)
  (fun j hj b τ hbl=>by
    have hw:=wrap_nat (n:=j) (by omega)
    have hget: (armsD arms)[j]? =some (.agg arms[j].cs):=by rw [armsD_map];simp [Arm.d,hj]
    have hg0: (σ++[.box (Ex.mk k n s t names l arms).cs, .row 7 (exsD b) 0]++τ)[σ.length]? =some (.box [.int .i64 k, .int .i64 n, .str s, .str t,slD names, .slice (exsD l), .slice (armsD arms)]):=by rw [List.append_assoc];exact getA0
    have hg1: (σ++[.box (Ex.mk k n s t names l arms).cs, .row 7 (exsD b) 0]++τ)[σ.length+1]? =some (.row 7 (exsD b) 0):=by rw [List.append_assoc];exact getA
    have hs1: (σ++[Obj.box (Ex.mk k n s t names l arms).cs,Obj.row 7 (exsD b) 0]++τ).set (σ.length+1) (Obj.row 7 (exsD b++[D.agg arms[j].body.cs]) 0)=σ++[.box (Ex.mk k n s t names l arms).cs, .row 7 (exsD (b++[arms[j].body])) 0]++τ:=by
     rw [List.append_assoc,setA,exsD_app];simp [exsD]
    have hbl2:=exsD_len b
    refine ⟨τ, ?_⟩
    rw [Arm.cs_eq] at hget
    have hx1:=arms[j].body.cs_all
    have hx2:=arms[j].body.cs_len
    have hx3:=arms[j].body.cs_take
    simp only
    rw [←hs1]
    generalize σ++[.box (Ex.mk k n s t names l arms).cs, .row 7 (exsD b) 0]++τ=σ1 at*
    generalize exsD b=bd at*
    generalize armsD arms=ad at*
    have h2:j<ad.length:=by omega
    have h3:ad[j]= .agg (.str arms[j].op::slD arms[j].names::arms[j].body.cs):=by rw [List.getElem?_eq_getElem h2] at hget;exact Option.some.inj hget
    unfold slD at*
    generalize arms[j].names.map D.str=nd at*
    generalize arms[j].op=aop at*
    generalize arms[j].body.cs=bc at*
    generalize names.map D.str=nmd at*
    generalize exsD l=ld at*
    have hba: (b.length+1) *120≤140737488355328:=by omega
    simp [lp52_0,hj,hw,hal,h2,h3,hg0,hg1,hbl2,hba,rowOf,fillRow,hx1,hx2,hx3])
  (fun b τ hb=>⟨τ,by
    have hg0: (σ++[.box (Ex.mk k n s t names l arms).cs, .row 7 (exsD b) 0]++τ)[σ.length]? =some (.box [.int .i64 k, .int .i64 n, .str s, .str t,slD names, .slice (exsD l), .slice (armsD arms)]):=by rw [List.append_assoc];exact getA0
    generalize σ++[.box (Ex.mk k n s t names l arms).cs, .row 7 (exsD b) 0]++τ=σ1 at*
    generalize armsD arms=ad at*
    simp [lp52_0,hg0,hal]⟩) l [] rfl
 rw [foldS_body,List.append_nil,Int.natCast_zero] at hit
 have hparts: (Ex.mk k n s t names l arms).parts=l++arms.map Arm.body:=rfl
 rw [hparts]
 simp only at hit
 have hall: (exsD l).all (fun e=>e.cells.length==7&&e.cells.all D.one)=true:=by
  rw [exsD_map,List.all_map];simp [Ex.d,D.cells,Ex.cs_all]
 have hτ:bodyI CI XB GI af52 [.agg (Ex.mk k n s t names l arms).cs] σ=some (.ret (.arr (σ.length+1) (l++arms.map Arm.body).length 0 (l++arms.map Arm.body).length),σ++([.box (Ex.mk k n s t names l arms).cs, .row 7 (exsD (l++arms.map Arm.body)) 0]++τ)):=by
  rw [←List.append_assoc]
  generalize σ++[.box (Ex.mk k n s t names l arms).cs, .row 7 (exsD (l++arms.map Arm.body)) 0]++τ=σ2 at*
  generalize (l++arms.map Arm.body).length=pl at*
  simp only [Ex.cs,slD] at*
  generalize names.map D.str=nmd at*
  generalize exsD l=ld at*
  generalize armsD arms=ad at*
  simp only [D.cells] at hall
  have hba:l.length*120≤140737488355328:=by omega
  simp [bodyI,af52,getA0,getA,setA,fillRow,rowOf,hall,hel,hba,hit, -List.all_eq_true]
 refine CI_fn tab52 hτ ?_
 have hl: (l++arms.map Arm.body).length=(exsD (l++arms.map Arm.body)).length:=(exsD_len _).symm
 rw [hl,postI_row (sz:=7) (since:=0) (by rw [getA];rfl) (by omega) (by omega) (exs_plain _).1]
 rw [(exs_plain _).2]
theorem nodeE_few {k n:Int} {s t:Bs} {names:List Bs} {nl:Nat} {arms:List Arm} (h:nodeE k n s t names nl arms=0):nl≤4∧arms.length≤9:=by
 unfold nodeE at h
 split at h
 ·rename_i hk
  have hk':0≤k∧k≤19:=by unfold inR at hk;simpa using hk
  have hpq: (shapeOf k).p+ (shapeOf k).q≤4:=by
   have:k=0∨k=1∨k=2∨k=3∨k=4∨k=5∨k=6∨k=7∨k=8∨k=9∨k=10∨k=11∨k=12∨k=13∨k=14∨k=15∨k=16∨k=17∨k=18∨k=19:=by omega
   rcases this with rfl|rfl|rfl|rfl|rfl|rfl|rfl|rfl|rfl|rfl|rfl|rfl|rfl|rfl|rfl|rfl|rfl|rfl|rfl|rfl<;>decide
  split at h
  ·split at h
   ·split at h
    ·rename_i hr
     simp only [Bool.and_eq_true,inR,decide_eq_true_eq] at hr
     split at h
     ·cases h
     ·rename_i ha
      simp only [Bool.or_eq_true,Bool.and_eq_true,Bool.not_eq_true',decide_eq_true_eq,not_or] at ha
      exact ⟨by omega,by omega⟩
    ·cases h
   ·cases h
  ·cases h
 ·cases h
theorem exsE_first: ∀ (l:List Ex),exsE l=firstE (l.map Ex.e)
 | []=>rfl
 |a::r=>by simp only [exsE,List.map_cons,firstE,exsE_first r]
theorem c136: ∀ (e:Ex),e.ok→ ∀ (σ:St),CI (.fn 136) [.agg e.cs] σ=some (.ret (.int .i64 e.e),σ)
 | .mk k n s t names l arms,hok,σ=>by
  have ih:=fun x (hx:x ∈ (Ex.mk k n s t names l arms).parts) (σ:St)=>c136 x (Ex.parts_ok hok hx) σ
  have h181:=fun σ=>c181 _ hok σ k n s t names l arms rfl
  have y1:=(Ex.mk k n s t names l arms).cs_len
  have y2:=(Ex.mk k n s t names l arms).cs_take
  have y3:=(Ex.mk k n s t names l arms).cs_all
  have h52:=fun hb σ=>c52 k n s t names l arms hb σ
  have hτ:bodyI CI XB GI af136 [.agg (Ex.mk k n s t names l arms).cs] σ=some (.ret (.int .i64 (Ex.mk k n s t names l arms).e),σ++[.box (Ex.mk k n s t names l arms).cs]):=by
   rw [Ex.e_eq]
   by_cases hz:nodeE k n s t names l.length arms=0
   ·rw [if_pos hz,exsE_first]
    rw [hz] at h181
    have hfew:=nodeE_few hz
    have h52:=h52 (by omega)
    have hpl: (Ex.mk k n s t names l arms).parts.length≤13:=by simp [Ex.parts];omega
    generalize (Ex.mk k n s t names l arms).parts=ps at*
    obtain ⟨pd,hpd,hpdl,hpg⟩:=opq Ex.d ps
    rw [exsD_map,hpd] at h52
    generalize (Ex.mk k n s t names l arms).cs=xc at*
    have hit:=loop_err (f:=evalI CI XB GI 28 false lp136_0) (σ:=σ++[.box xc]) ps (fun i=>[(4, .slice pd),(5, .int .i64 (i:Nat))]) Ex.e (fun z=>(.ret,[(2, .int .i64 z)],σ++[.box xc])) (.exit 0,[(4, .slice pd),(5, .int .i64 ps.length),(17, .bool false)],σ++[.box xc]) (by simp) (by simp)
     (fun i hi=>by
       have hw:=wrap_nat (n:=i) (by omega)
       obtain ⟨h2,h3⟩:=hpg i hi
       have ih:=ih ps[i] (List.getElem_mem hi)
       have hii: (i:Int) <ps.length:=by omega
       have z1:=ps[i].cs_len
       have z2:=ps[i].cs_take
       simp only [Ex.d] at h3
       generalize ps[i].e=z at*
       generalize ps[i].cs=zc at*
       by_cases h0:z=0
       ·simp [lp136_0,hi,hii,hw,hpdl,h2,h3,z1,z2,ih,h0]
       ·have h0': (z != 0)=true:=by simpa using h0
        simp [lp136_0,hi,hii,hw,hpdl,h2,h3,z1,z2,ih,h0,h0']) (by
       simp [lp136_0,hpdl])
    rw [Int.natCast_zero] at hit
    by_cases h0:firstE (ps.map Ex.e)=0
    ·rw [h0] at hit ⊢
     simp [bodyI,af136,getA0,y1,y2,y3,h181,h52,hit]
    ·rw [if_neg h0] at hit
     simp [bodyI,af136,getA0,y1,y2,y3,h181,h52,hit]
   ·rw [if_neg hz]
    have hz': (nodeE k n s t names l.length arms != 0)=true:=by simpa using hz
    generalize nodeE k n s t names l.length arms=z at*
    generalize (Ex.mk k n s t names l arms).cs=xc at*
    simp [bodyI,af136,getA0,y1,y2,y3,h181,hz']
  exact CI_tree tab136 hτ rfl rfl
termination_by e=>SizeOf.sizeOf e
decreasing_by exact Ex.parts_lt hx
theorem Ex.chk_left (e:Ex):e.chk=if e.left 3000 200<0 then 3 else e.e:=by
 unfold Ex.chk
 obtain ⟨h1,_⟩:=e.take_left2 1 (3000,0) (by simp)
 have e1: (201:Int) - 1=200:=rfl
 simp only [e1] at h1
 by_cases h: (e.take 1 (3000,0)).1=true
 ·rw [if_pos h,if_neg (by have:=h1.1 h;omega)]
 ·rw [if_neg h,if_pos (by have:=mt h1.2 h;omega)]
theorem c99 (e:Ex) (hok:e.ok) (σ:St):CI (.fn 99) [.agg e.cs] σ=some (.ret (.int .i64 e.chk),σ):=by
 have hτ:bodyI CI XB GI af99 [.agg e.cs] σ=some (.ret (.int .i64 e.chk),σ++[.box e.cs]):=by
  have h132:=fun σ=>c132 e hok 3000 200 σ (by omega) (by omega) (by omega) (by omega)
  have h136:=fun σ=>c136 e hok σ
  have y1:=e.cs_len
  have y2:=e.cs_take
  have y3:=e.cs_all
  rw [e.chk_left]
  generalize e.left 3000 200=x at*
  generalize e.e=y at*
  generalize e.cs=xc at*
  by_cases hx:x<0
  ·simp [bodyI,af99,getA0,y1,y2,y3,h132,hx]
  ·simp [bodyI,af99,getA0,y1,y2,y3,h132,h136,hx]
 exact CI_tree tab99 hτ rfl rfl
theorem Ex.left_m1 (e:Ex) (d:Int) (hd:1≤d):e.left (-1) d= -2:=by
 rcases e with ⟨k,n,s,t,names,l,arms⟩
 rw [Ex.left_parts,if_neg (by omega),exsLeft_neg _ _ _ (by omega)]
 rfl
theorem c132m (e:Ex) (hok:e.ok) (d:Int) (σ:St) (hd:1≤d) (hd1:d≤1000):CI (.fn 132) [.agg e.cs, .int .i64 (-1), .int .i64 d] σ=some (.ret (.int .i64 (e.left (-1) d)),σ):=by
 rw [e.left_m1 d hd]
 rcases e with ⟨k,n,s,t,names,l,arms⟩
 have hw:IntKind.i64.wrap (-1 - 1)= -2:=rfl
 have hw':IntKind.i64.wrap (-2)= -2:=rfl
 have hel:=exsD_len l
 have hal:=armsD_len arms
 obtain ⟨hn1,hl1,ha1, -⟩:=hok
 have hws:IntKind.i64.wrap ((l.length:Int) + (arms.length:Int))=((l.length+arms.length:Nat):Int):=by rw [wrap_i64 (by omega) (by unfold maxL at*;omega)];omega
 have hτ:bodyI CI XB GI af132 [.agg (Ex.mk k n s t names l arms).cs, .int .i64 (-1), .int .i64 d] σ=some (.ret (.int .i64 (-2)),σ++[.box (Ex.mk k n s t names l arms).cs]):=by
  simp only [Ex.cs,slD]
  generalize exsD l=ed at*
  generalize armsD arms=ad at*
  generalize names.map D.str=nd at*
  have hdd: ¬d<1:=by omega
  generalize hN:l.length+arms.length=N at*
  have hit: ∀ (v:Int) (σ:St),¬0≤v→iterI (evalI CI XB GI 58 false lp132_0) [(1, .int .i64 v),(2, .int .i64 d),(3, .ptr σ.length 0),(7, .int .i64 N),(8, .int .i64 0)] (σ++[.box [.int .i64 k, .int .i64 n, .str s, .str t, .slice nd, .slice ed, .slice ad]])=some (.exit 0,[(1, .int .i64 v),(2, .int .i64 d),(3, .ptr σ.length 0),(7, .int .i64 N),(8, .int .i64 0),(26, .bool false)],σ++[.box [.int .i64 k, .int .i64 n, .str s, .str t, .slice nd, .slice ed, .slice ad]]):=fun v σ hv=>by
   refine iterI_end ?_ (by simp)
   by_cases h0:0<N<;>simp [lp132_0,h0,hv]
  have hit:=hit (-2) σ (by omega)
  simp [bodyI,af132,getA0,hw,hw',hdd,hel,hal,hws,hit]
 exact CI_tree tab132 hτ rfl rfl
def dfsLeft (m:Ex):List Dfn→Int→Int→Int
 | [],n,d=>m.left n d
 |f::r,n,d=>if f.body.left (n - 1) (d - 1) <0 then f.body.left (n - 1) (d - 1) else dfsLeft m r (f.body.left (n - 1) (d - 1)) (d - 1)
theorem nest_left (m:Ex): ∀ (l:List Dfn) (n d:Int),0≤n→(l.length:Int) +1≤d→(0≤(nestE l m).left n d↔0≤dfsLeft m l n d)
 | [],n,d,_,_=>Iff.rfl
 |f::r,n,d,hn,hd=>by
  simp only [List.length_cons] at hd
  have e:nestE (f::r) m= .mk 6 0 [] [] [f.name] [f.body,nestE r m] []:=rfl
  rw [e,Ex.left_parts,if_neg (by omega)]
  simp only [List.map_nil,List.append_nil,exsLeft,dfsLeft]
  by_cases h0:n - 1<0
  ·obtain rfl:n=0:=by omega
   have:=f.body.left_m1 (d - 1) (by omega)
   have e0: (0:Int) - 1= -1:=rfl
   rw [e0,this]
   simp
  ·rw [if_pos (by omega)]
   by_cases h1:f.body.left (n - 1) (d - 1) <0
   ·rw [if_neg (by omega),if_pos h1]
   ·rw [if_pos (by omega),if_neg h1]
    exact nest_left m r _ (d - 1) (by omega) (by omega)
theorem nest_take_left (m:Ex) (l:List Dfn) (hl:l.length≤60): ((nestE l m).take 1 (3000,0)).1=true↔0≤dfsLeft m l 3000 200:=by
 obtain ⟨h1,_⟩:=(nestE l m).take_left2 1 (3000,0) (by simp)
 have e1: (201:Int) - 1=200:=rfl
 simp only [e1] at h1
 rw [h1,nest_left m l 3000 200 (by omega) (by omega)]
theorem k132 (e:Ex) (hok:e.ok) (n d:Int) (σ:St) (hn: -1≤n) (hn1:n≤3000) (hd:1≤d) (hd1:d≤1000):CI (.fn 132) [.agg e.cs, .int .i64 n, .int .i64 d] σ=some (.ret (.int .i64 (e.left n d)),σ):=by
 by_cases h:0≤n
 ·exact c132 e hok n d σ h (by omega) (by omega) hd1
 ·obtain rfl:n= -1:=by omega
  exact c132m e hok d σ hd hd1
theorem it84_2 (p:Prg) (hok:p.ok) (hf:p.defs.length≤60) (q:Nat) (σ:St) (hq:σ[q]? =some (.box p.cs)): ∀ (r pre:List Dfn),pre++r=p.defs→ ∀ (n:Int),0≤n→n≤3000→ ∀ (m:Nat),m=pre.length→ ∀τ,∃τ',
 iterI (evalI CI XB GI 121 false lp84_2) [(1, .ptr q 0),(7, .int .i64 n),(8, .int .i64 (m:Nat))] (σ++τ)=
  some (if dfsLeft p.main r n (200 - m) <0 then (.ret,[(2, .int .i64 3)],σ++τ') else (.exit 4,[(1, .ptr q 0),(7, .int .i64 (dfsLeft p.main r n (200 - m))),(8, .int .i64 (p.defs.length+1:Nat)),(65, .bool false)],σ++τ'))
 | [],pre,hp,n,hn,hn1,m,hm,τ=>by
  have hml:m=p.defs.length:=by rw [←hp,hm];simp
  have hqq: (σ++τ)[q]? =some (.box p.cs):=getO hq
  rw [←List.append_nil (σ++τ)]
  obtain ⟨fd,hfd,hfl,hfg⟩:=opq Dfn.d p.defs
  have hh:p.cs[2]? =some (.slice fd):=by rw [p.cs_eq,hfd];rfl
  have hd3: (p.cs.drop 3).take 7=p.main.cs:=by rw [p.cs_eq];simp
  have hd3':p.cs.drop 3=p.main.cs:=by rw [p.cs_eq];simp
  have hpl:=p.cs_len
  have hml1:=p.main.cs_len
  have hmt:=p.main.cs_take
  have hma:=p.main.cs_all
  have hh2: ∀h:2<p.cs.length,p.cs[2]= .slice fd:=fun h=>by rw [List.getElem?_eq_getElem h] at hh;exact Option.some.inj hh
  have h132:=fun σ=>k132 p.main hok.m n (200 - m) σ (by omega) hn1 (by omega) (by omega)
  have hw:=wrap_nat (n:=m) (by omega)
  have hw2:IntKind.i64.wrap (200 - (m:Int))=200 - m:=wrap_i64 (by omega) (by omega)
  have hmn: ¬m<p.defs.length:=by omega
  have hml':m≤p.defs.length:=by omega
  have hmn1: ¬p.defs.length+1≤p.defs.length:=by omega
  refine ⟨τ++[.box p.main.cs], ?_⟩
  rw [←List.append_assoc σ]
  rw [List.append_nil]
  have hdl:dfsLeft p.main [] n (200 - (m:Int))=p.main.left n (200 - m):=rfl
  rw [hdl]
  have hq2: (σ++τ++[Obj.box p.main.cs])[q]? =some (.box p.cs):=getO hqq
  generalize σ++τ=σ1 at*
  generalize p.main.left n (200 - (m:Int))=z at*
  generalize p.main.cs=mc at*
  generalize p.cs=pc at*
  by_cases hz:z<0
  ·rw [if_pos hz]
   refine iterI_end ?_ (by simp)
   simp [lp84_2,hqq,getO hqq,hh,hh2,hpl,hfl,hd3,hd3',hml1,hmt,hma,hw,hw2,hmn,hml',h132,hz,getA0,getA,setA0,setA]
  ·rw [if_neg hz]
   have hstep:evalI CI XB GI 121 false lp84_2 [(1, .ptr q 0),(7, .int .i64 n),(8, .int .i64 (m:Nat))] σ1=some (.normal,[(1, .ptr q 0),(7, .int .i64 z),(8, .int .i64 (m+1:Nat))],σ1++[.box mc]):=by
    simp [lp84_2,hqq,getO hqq,hh,hh2,hpl,hfl,hd3,hd3',hml1,hmt,hma,hw,hw2,hmn,hml',h132,hz,getA0,getA,setA0,setA]
   rw [iterI_next hstep]
   refine iterI_end ?_ (by simp)
   subst hml
   have e1: ¬((p.defs.length:Int) +1≤p.defs.length):=by omega
   simp [lp84_2,hq2,hh,hh2,hpl,hfl,hmn1,e1]
 |f::r,pre,hp,n,hn,hn1,m,hm,τ=>by
  have hml:m<p.defs.length:=by rw [←hp,hm];simp
  have hqq: (σ++τ)[q]? =some (.box p.cs):=getO hq
  obtain ⟨fd,hfd,hfl,hfg⟩:=opq Dfn.d p.defs
  have hh:p.cs[2]? =some (.slice fd):=by rw [p.cs_eq,hfd];rfl
  have hd3: (p.cs.drop 3).take 7=p.main.cs:=by rw [p.cs_eq];simp
  have hd3':p.cs.drop 3=p.main.cs:=by rw [p.cs_eq];simp
  have hpl:=p.cs_len
  have hml1:=p.main.cs_len
  have hmt:=p.main.cs_take
  have hma:=p.main.cs_all
  have hh2: ∀h:2<p.cs.length,p.cs[2]= .slice fd:=fun h=>by rw [List.getElem?_eq_getElem h] at hh;exact Option.some.inj hh
  have hfm:p.defs[m]=f:=by
   have:p.defs[m]? =some f:=by rw [←hp,hm];simp
   rw [List.getElem?_eq_getElem hml] at this;exact Option.some.inj this
  have hfo:f.body.ok:=hok.f _ (hfm ▸ List.getElem_mem hml)
  obtain ⟨h2,h3⟩:=hfg m hml
  rw [hfm] at h3
  have h132:=fun σ=>k132 f.body hfo (n - 1) (200 - m - 1) σ (by omega) (by omega) (by omega) (by omega)
  have hw:=wrap_nat (n:=m) (by omega)
  have hw2:IntKind.i64.wrap (200 - (m:Int))=200 - m:=wrap_i64 (by omega) (by omega)
  have hw3:IntKind.i64.wrap (200 - (m:Int) - 1)=200 - m - 1:=wrap_i64 (by omega) (by omega)
  have hw4:IntKind.i64.wrap (n - 1)=n - 1:=wrap_i64 (by omega) (by omega)
  have hml':m≤p.defs.length:=by omega
  have ih:=it84_2 p hok hf q σ hq r (pre++[f]) (by rw [←hp];simp)
  have hle: -1≤n - 1:=by omega
  have hbd: ¬f.body.left (n - 1) (200 - (m:Int) - 1) <0→f.body.left (n - 1) (200 - (m:Int) - 1)≤3000:=fun h=>by
   by_cases h0:0≤n - 1
   ·have:=(f.body.left_le (n - 1) (200 - (m:Int) - 1) h0).2;omega
   ·obtain rfl:n=0:=by omega
    rw [show (0:Int) - 1= -1 from rfl,f.body.left_m1 _ (by omega)] at h ⊢
    omega
  rcases f with ⟨fn,fb⟩
  have y1:=fb.cs_len
  have y2:=fb.cs_take
  have y3:=fb.cs_all
  have hdl:dfsLeft p.main (⟨fn,fb⟩::r) n (200 - (m:Int))=if fb.left (n - 1) (200 - m - 1) <0 then fb.left (n - 1) (200 - m - 1) else dfsLeft p.main r (fb.left (n - 1) (200 - m - 1)) (200 - m - 1):=rfl
  rw [hdl]
  clear hdl
  simp only [Dfn.d,Dfn.cs] at*
  by_cases hz:fb.left (n - 1) (200 - (m:Int) - 1) <0
  ·refine ⟨τ++[.box fb.cs], ?_⟩
   rw [←List.append_assoc σ]
   rw [if_pos hz,if_pos hz]
   clear ih hbd
   generalize σ++τ=σ1 at*
   generalize fb.left (n - 1) (200 - (m:Int) - 1)=z at*
   generalize p.main.cs=mc at*
   generalize fb.cs=fc at*
   generalize p.cs=pc at*
   refine iterI_end ?_ (by simp)
   simp [lp84_2,hqq,getO hqq,hh,hh2,hpl,hfl,hd3,hd3',hml1,hmt,hma,hw,hw2,hw3,hw4,hml,hml',h2,h3,y1,y2,y3,h132,hz,getA0,getA,setA0,setA]
  ·obtain ⟨τ',ih⟩:=ih (fb.left (n - 1) (200 - (m:Int) - 1)) (by omega) (hbd hz) (m+1) (by simp [hm]) (τ++[.box fb.cs])
   refine ⟨τ', ?_⟩
   have e2: (200:Int) - ((m+1:Nat):Int)=200 - m - 1:=by omega
   rw [e2,←List.append_assoc] at ih
   rw [if_neg hz,←ih]
   refine iterI_next ?_
   clear ih hbd
   generalize σ++τ=σ1 at*
   generalize fb.left (n - 1) (200 - (m:Int) - 1)=z at*
   generalize p.main.cs=mc at*
   generalize fb.cs=fc at*
   generalize p.cs=pc at*
   simp [lp84_2,hqq,getO hqq,hh,hh2,hpl,hfl,hd3,hd3',hml1,hmt,hma,hw,hw2,hw3,hw4,hml,hml',h2,h3,y1,y2,y3,h132,hz,getA0,getA,setA0,setA]
theorem it84_0 (p:Prg) (hok:p.ok) (q:Nat) (σ:St) (hq:σ[q]? =some (.box p.cs)):
 iterI (evalI CI XB GI 121 false lp84_0) [(1, .ptr q 0),(3, .int .i64 0)] σ=
  some (if firstE (p.data.map datE)=0 then (.exit 0,[(1, .ptr q 0),(3, .int .i64 p.data.length),(33, .bool false)],σ) else (.ret,[(2, .int .i64 (firstE (p.data.map datE)))],σ)):=by
 obtain ⟨dd,hdd,hdl,hdg⟩:=opq Dat.d p.data
 have hh:p.cs.head?=some (.slice dd):=by rw [p.cs_eq,hdd];rfl
 have hml:=hok.dl
 have:=loop_err (f:=evalI CI XB GI 121 false lp84_0) (σ:=σ) p.data (fun i=>[(1, .ptr q 0),(3, .int .i64 (i:Nat))]) datE (fun z=>(.ret,[(2, .int .i64 z)],σ)) (.exit 0,[(1, .ptr q 0),(3, .int .i64 p.data.length),(33, .bool false)],σ) (by simp) (by simp)
  (fun i hi=>by
    have hw:=wrap_nat (n:=i) (by unfold maxL at hml;omega)
    obtain ⟨h2,h3⟩:=hdg i hi
    have hc:=fun σ=>c133 p.data[i] (hok.d _ (List.getElem_mem hi)) σ
    have hdlen:p.data[i].cs.length=3:=rfl
    have hdt:p.data[i].cs.take 3=p.data[i].cs:=rfl
    unfold Dat.d at*
    generalize datE p.data[i]=z at*
    generalize p.data[i].cs=zc at*
    generalize p.cs=pc at*
    by_cases h0:z=0
    ·simp [lp84_0,hq,hh,hi,hw,hdl,h2,h3,hdlen,hdt,hc,h0]
    ·have h0': (z != 0)=true:=by simpa using h0
     simp [lp84_0,hq,hh,hi,hw,hdl,h2,h3,hdlen,hdt,hc,h0,h0']) (by
    generalize p.cs=pc at*
    simp [lp84_0,hq,hh,hdl])
 rw [Int.natCast_zero] at this
 exact this
theorem it84_1 (p:Prg) (hok:p.ok) (q:Nat) (σ:St) (hq:σ[q]? =some (.box p.cs)):
 iterI (evalI CI XB GI 121 false lp84_1) [(1, .ptr q 0),(5, .int .i64 0)] σ=
  some (if firstE (p.effects.map effE)=0 then (.exit 2,[(1, .ptr q 0),(5, .int .i64 p.effects.length),(49, .bool false)],σ) else (.ret,[(2, .int .i64 (firstE (p.effects.map effE)))],σ)):=by
 obtain ⟨dd,hdd,hdl,hdg⟩:=opq Eff.d p.effects
 have hh:p.cs[1]? =some (.slice dd):=by rw [p.cs_eq,hdd];rfl
 have hh2: ∀h:1<p.cs.length,p.cs[1]= .slice dd:=fun h=>by rw [List.getElem?_eq_getElem h] at hh;exact Option.some.inj hh
 have hpl:=p.cs_len
 have hml:=hok.el
 have:=loop_err (f:=evalI CI XB GI 121 false lp84_1) (σ:=σ) p.effects (fun i=>[(1, .ptr q 0),(5, .int .i64 (i:Nat))]) effE (fun z=>(.ret,[(2, .int .i64 z)],σ)) (.exit 2,[(1, .ptr q 0),(5, .int .i64 p.effects.length),(49, .bool false)],σ) (by simp) (by simp)
  (fun i hi=>by
    have hw:=wrap_nat (n:=i) (by unfold maxL at hml;omega)
    obtain ⟨h2,h3⟩:=hdg i hi
    have hc:=fun σ=>c134 p.effects[i] (hok.e _ (List.getElem_mem hi)) σ
    have hdlen:p.effects[i].cs.length=2:=rfl
    have hdt:p.effects[i].cs.take 2=p.effects[i].cs:=rfl
    unfold Eff.d at*
    generalize effE p.effects[i]=z at*
    generalize p.effects[i].cs=zc at*
    generalize p.cs=pc at*
    by_cases h0:z=0
    ·simp [lp84_1,hq,hh2,hpl,hi,hw,hdl,h2,h3,hdlen,hdt,hc,h0]
    ·have h0': (z != 0)=true:=by simpa using h0
     simp [lp84_1,hq,hh2,hpl,hi,hw,hdl,h2,h3,hdlen,hdt,hc,h0,h0']) (by
    generalize p.cs=pc at*
    simp [lp84_1,hq,hh2,hpl,hdl])
 rw [Int.natCast_zero] at this
 exact this
theorem it84_3 (p:Prg) (hok:p.ok) (q:Nat) (σ:St) (hq:σ[q]? =some (.box p.cs)):
 iterI (evalI CI XB GI 121 false lp84_3) [(1, .ptr q 0),(11, .int .i64 0)] σ=
  some (if firstE (p.defs.map dfnE)=0 then (.exit 6,[(1, .ptr q 0),(11, .int .i64 p.defs.length),(97, .bool false)],σ) else (.ret,[(2, .int .i64 (firstE (p.defs.map dfnE)))],σ)):=by
 obtain ⟨dd,hdd,hdl,hdg⟩:=opq Dfn.d p.defs
 have hh:p.cs[2]? =some (.slice dd):=by rw [p.cs_eq,hdd];rfl
 have hh2: ∀h:2<p.cs.length,p.cs[2]= .slice dd:=fun h=>by rw [List.getElem?_eq_getElem h] at hh;exact Option.some.inj hh
 have hpl:=p.cs_len
 have hml:=hok.fl
 have:=loop_err (f:=evalI CI XB GI 121 false lp84_3) (σ:=σ) p.defs (fun i=>[(1, .ptr q 0),(11, .int .i64 (i:Nat))]) dfnE (fun z=>(.ret,[(2, .int .i64 z)],σ)) (.exit 6,[(1, .ptr q 0),(11, .int .i64 p.defs.length),(97, .bool false)],σ) (by simp) (by simp)
  (fun i hi=>by
    have hw:=wrap_nat (n:=i) (by unfold maxL at hml;omega)
    obtain ⟨h2,h3⟩:=hdg i hi
    have hc:=fun σ=>c136 p.defs[i].body (hok.f _ (List.getElem_mem hi)) σ
    generalize p.defs[i]=f at*
    rcases f with ⟨fn,fb⟩
    have y1:=fb.cs_len
    have y2:=fb.cs_take
    unfold dfnE
    simp only [Dfn.d,Dfn.cs] at*
    generalize fb.e=z at*
    generalize fb.cs=zc at*
    generalize p.cs=pc at*
    cases hv:varW fn
    ·simp [lp84_3,hq,hh2,hpl,hi,hw,hdl,h2,h3,y1,y2,c135,hv]
    ·by_cases h0:z=0
     ·simp [lp84_3,hq,hh2,hpl,hi,hw,hdl,h2,h3,y1,y2,c135,hv,hc,h0]
     ·have h0': (z != 0)=true:=by simpa using h0
      simp [lp84_3,hq,hh2,hpl,hi,hw,hdl,h2,h3,y1,y2,c135,hv,hc,h0,h0']) (by
    generalize p.cs=pc at*
    simp [lp84_3,hq,hh2,hpl,hdl])
 rw [Int.natCast_zero] at this
 exact this
theorem c84 (p:Prg) (hok:p.ok) (σ:St):CI (.fn 84) [.agg p.cs] σ=some (.ret (.int .i64 p.syn),σ):=by
 have hq: (σ++[Obj.box p.cs])[σ.length]? =some (.box p.cs):=getA0
 have hi0:=it84_0 p hok σ.length _ hq
 have hi1:=it84_1 p hok σ.length _ hq
 have h136:=fun σ=>c136 p.main hok.m σ
 have hall:=p.cs_all
 have hpl:=p.cs_len
 have hd3: (p.cs.drop 3).take 7=p.main.cs:=by rw [p.cs_eq];simp
 have hd3':p.cs.drop 3=p.main.cs:=by rw [p.cs_eq];simp
 have hm1:=p.main.cs_len
 have hm2:=p.main.cs_take
 obtain ⟨dd,hdd,hdl,_⟩:=opq Dat.d p.data
 obtain ⟨ed,hed,hel,_⟩:=opq Eff.d p.effects
 obtain ⟨fd,hfd,hfl,_⟩:=opq Dfn.d p.defs
 have hg0:p.cs.head?=some (.slice dd):=by rw [p.cs_eq,hdd];rfl
 have hg1:p.cs[1]? =some (.slice ed):=by rw [p.cs_eq,hed];rfl
 have hg2:p.cs[2]? =some (.slice fd):=by rw [p.cs_eq,hfd];rfl
 have hh1: ∀h:1<p.cs.length,p.cs[1]= .slice ed:=fun h=>by rw [List.getElem?_eq_getElem h] at hg1;exact Option.some.inj hg1
 have hh2: ∀h:2<p.cs.length,p.cs[2]= .slice fd:=fun h=>by rw [List.getElem?_eq_getElem h] at hg2;exact Option.some.inj hg2
 have fin: ∀z,(∃τ,bodyI CI XB GI af84 [.agg p.cs] σ=some (.ret (.int .i64 z),σ++τ))→CI (.fn 84) [.agg p.cs] σ=some (.ret (.int .i64 z),σ):=fun z ⟨τ,h⟩=>CI_tree tab84 h rfl rfl
 apply fin
 clear fin
 unfold Prg.syn
 by_cases hn:12<p.data.length∨12<p.effects.length∨60<p.defs.length
 ·rw [if_pos hn]
  refine ⟨[.box p.cs], ?_⟩
  clear hi0 hi1 h136 hq hd3 hd3'
  generalize p.cs=pc at*
  by_cases h1:12<p.data.length
  ·have h1': (12:Int) <p.data.length:=by omega
   simp [bodyI,af84,getA0,hall,hpl,hg0,hdl,h1,h1']
  ·have h1': ¬(12:Int) <p.data.length:=by omega
   by_cases h2:12<p.effects.length
   ·have h2': (12:Int) <p.effects.length:=by omega
    simp [bodyI,af84,getA0,hall,hpl,hg0,hh1,hdl,hel,h1,h1',h2,h2']
   ·have h2': ¬(12:Int) <p.effects.length:=by omega
    have h3:60<p.defs.length:=by omega
    have h3': (60:Int) <p.defs.length:=by omega
    simp [bodyI,af84,getA0,hall,hpl,hg0,hh1,hh2,hdl,hel,hfl,h1,h1',h2,h2',h3,h3']
 rw [if_neg hn]
 have h1: ¬12<p.data.length:=by omega
 have h2: ¬12<p.effects.length:=by omega
 have h3: ¬60<p.defs.length:=by omega
 have h1': ¬(12:Int) <p.data.length:=by omega
 have h2': ¬(12:Int) <p.effects.length:=by omega
 have h3': ¬(60:Int) <p.defs.length:=by omega
 unfold orE
 by_cases hz0:firstE (p.data.map datE)=0
 rotate_left
 ·rw [if_neg hz0] at hi0 ⊢
  refine ⟨[.box p.cs], ?_⟩
  clear hi1 h136 hq hd3 hd3'
  generalize p.cs=pc at*
  simp [bodyI,af84,getA0,hall,hpl,hg0,hh1,hh2,hdl,hel,hfl,h1,h1',h2,h2',h3,h3',hi0]
 rw [if_pos hz0] at hi0 ⊢
 by_cases hz1:firstE (p.effects.map effE)=0
 rotate_left
 ·rw [if_neg hz1] at hi1 ⊢
  refine ⟨[.box p.cs], ?_⟩
  clear h136 hq hd3 hd3'
  generalize p.cs=pc at*
  simp [bodyI,af84,getA0,hall,hpl,hg0,hh1,hh2,hdl,hel,hfl,h1,h1',h2,h2',h3,h3',hi0,hi1]
 rw [if_pos hz1] at hi1 ⊢
 obtain ⟨τ',hi2⟩:=it84_2 p hok (by omega) σ.length _ hq p.defs [] rfl 3000 (by omega) (by omega) 0 rfl []
 rw [Int.natCast_zero,List.append_nil,Int.sub_zero] at hi2
 have ht:=nest_take_left p.main p.defs (by omega)
 by_cases hl:dfsLeft p.main p.defs 3000 200<0
 ·rw [if_pos hl] at hi2
  rw [if_neg (by rw [ht];omega)]
  refine ⟨[.box p.cs]++τ', ?_⟩
  rw [←List.append_assoc]
  clear h136 hq hd3 hd3' ht
  generalize p.cs=pc at*
  simp [bodyI,af84,getA0,hall,hpl,hg0,hh1,hh2,hdl,hel,hfl,h1,h1',h2,h2',h3,h3',hi0,hi1,hi2]
 ·rw [if_neg hl] at hi2
  rw [if_pos (by rw [ht];omega)]
  have hq2: (σ++[Obj.box p.cs]++τ')[σ.length]? =some (.box p.cs):=getO hq
  have hi3:=it84_3 p hok σ.length _ hq2
  refine ⟨[.box p.cs]++τ', ?_⟩
  rw [←List.append_assoc]
  clear hq ht
  generalize p.main.cs=mc at*
  generalize p.main.e=me at*
  generalize p.cs=pc at*
  generalize hs2:σ++[Obj.box pc]++τ'=σ2 at*
  by_cases hz3:firstE (p.defs.map dfnE)=0
  ·rw [if_pos hz3] at hi3 ⊢
   simp [bodyI,af84,getA0,hall,hpl,hg0,hh1,hh2,hdl,hel,hfl,h1,h1',h2,h2',h3,h3',hi0,hi1,hi2,hi3,hq2,hd3,hd3',hm1,hm2,h136]
  ·rw [if_neg hz3] at hi3 ⊢
   simp [bodyI,af84,getA0,hall,hpl,hg0,hh1,hh2,hdl,hel,hfl,h1,h1',h2,h2',h3,h3',hi0,hi1,hi2,hi3]
theorem it85_0 (p:Prg) (hok:p.ok) (params:List Bs) (hpar:params.length≤maxL) (dn:Bs) (cons:List Con) (k:Nat) (hk:k<cons.length) (hc:cons[k].ok) (he: ∀t ∈ cons[k].args,t.e=0) (q dq:Nat) (d3 d4 d5:D) (σ:St) (hq:σ[q]? =some (.box p.cs)) (hd:σ[dq]? =some (.box [.str dn,slD params, .slice (cons.map Con.d)])):
 iterI (evalI CI XB GI 87 false lp85_0) [(1, .ptr q 0),(3,d3),(4,d4),(5,d5),(6, .ptr dq 0),(7, .int .i64 (k:Nat)),(8, .int .i64 0)] σ=
  some (if firstE (cons[k].args.map fun t=>t.ord p params)=0 then (.exit 4,[(1, .ptr q 0),(3,d3),(4,d4),(5,d5),(6, .ptr dq 0),(7, .int .i64 (k:Nat)),(8, .int .i64 cons[k].args.length),(68, .bool false)],σ) else (.ret,[(2, .int .i64 (firstE (cons[k].args.map fun t=>t.ord p params)))],σ)):=by
 obtain ⟨cd,hcd,hcl,hcg⟩:=opq Con.d cons
 obtain ⟨h2,h3⟩:=hcg k hk
 rw [hcd] at hd
 have hpl:=p.cs_len
 have hpt:=p.cs_take
 have q73:qI 73=false:=rfl
 have x73:XB 73=false:=rfl
 generalize cons[k]=c at*
 rcases c with ⟨cn,args⟩
 obtain ⟨hal,hao⟩:=hc
 simp only at hal hao he ⊢
 obtain ⟨ad,had,hadl,hag⟩:=opq Ty.d args
 simp only [Con.d,Con.cs,tysD_map] at h3
 rw [had] at h3
 have h73:=fun t (ht:t ∈ args) σ=>c73 p hok.dl hok.el params hpar (slD params) (.inl rfl) t (tysOk_mem hao ht) σ
 have:=loop_err (f:=evalI CI XB GI 87 false lp85_0) (σ:=σ) args (fun i=>[(1, .ptr q 0),(3,d3),(4,d4),(5,d5),(6, .ptr dq 0),(7, .int .i64 (k:Nat)),(8, .int .i64 (i:Nat))]) (fun t=>t.ord p params) (fun z=>(.ret,[(2, .int .i64 z)],σ)) (.exit 4,[(1, .ptr q 0),(3,d3),(4,d4),(5,d5),(6, .ptr dq 0),(7, .int .i64 (k:Nat)),(8, .int .i64 args.length),(68, .bool false)],σ) (by simp) (by simp)
  (fun i hi=>by
    have hw:=wrap_nat (n:=i) (by unfold maxL at hal;omega)
    obtain ⟨h4,h5⟩:=hag i hi
    have h73:=h73 args[i] (List.getElem_mem hi)
    rw [Ty.ordR_eq p params _ (he _ (List.getElem_mem hi))] at h73
    have y1:=args[i].cs_len
    have y2:=args[i].cs_take
    simp only [Ty.d,slD] at*
    generalize args[i].ord p params=z at*
    generalize args[i].cs=tc at*
    generalize params.map D.str=pd at*
    generalize p.cs=pc at*
    by_cases h0:z=0
    ·simp [lp85_0,hq,hd,hpl,hpt,hcl,hk,h2,h3,hi,hw,hadl,h4,h5,y1,y2,h73,q73,x73,h0,Nat.testBit_eq_decide_div_mod_eq]
    ·have h0': (z != 0)=true:=by simpa using h0
     simp [lp85_0,hq,hd,hpl,hpt,hcl,hk,h2,h3,hi,hw,hadl,h4,h5,y1,y2,h73,q73,x73,h0,h0',Nat.testBit_eq_decide_div_mod_eq]) (by
    simp only [slD] at*
    generalize params.map D.str=pd at*
    generalize p.cs=pc at*
    simp [lp85_0,hq,hd,hcl,hk,h2,h3,hadl])
 rw [Int.natCast_zero] at this
 exact this
theorem h122r (l:List Bs) (s:Bs) (r:Nat) (σ:St) (hr:σ[r]? =some (rowS l)) (hl:l.length≤maxL):CI (.fn 122) [.arr r l.length 0 l.length, .str s] σ=some (.ret (.bool (hasS l s)),σ):=by
 have h152:CI (.fn 152) [.arr r l.length 0 l.length, .str s] σ=some (.ret (.int .i64 (indexP l s)),σ):=by
  unfold maxL at hl
  unfold rowS at hr
  refine CI_tree0 tab152 (d:= .int .i64 (indexP l s)) ?_ rfl rfl
  have hit:=loop_find (f:=evalI CI XB GI 19 false lp152_0) (σ:=σ) l (fun i=>[(0, .arr r l.length 0 l.length),(1, .str s),(5, .int .i64 (i:Nat))]) (· ==s) (fun i=>(.ret,[(4, .int .i64 (i:Nat))],σ)) (.exit 0,[(0, .arr r l.length 0 l.length),(1, .str s),(5, .int .i64 l.length),(9, .bool false)],σ) (by simp) (by simp)
   (fun i hi=>by
     have hw:=wrap_nat (n:=i) (by omega)
     cases hb:l[i] ==s<;>simp [lp152_0,hi,hw,hb,hr]) (by
     simp [lp152_0])
  rw [Int.natCast_zero] at hit
  unfold indexP
  cases hf:l.findIdx? (· ==s)<;>(rw [hf] at hit;simp [bodyI,af152,hit])
 refine CI_tree0 tab122 (d:= .bool (hasS l s)) ?_ rfl rfl
 unfold hasS
 rw [←indexP_ge]
 simp [bodyI,af122,h152]
set_option maxHeartbeats 1000000 in
theorem it85_1 (p:Prg) (hok:p.ok) (params:List Bs) (hpar:params.length≤maxL) (dn:Bs) (cons:List Con) (hcl:cons.length≤maxL) (hc: ∀c ∈ cons,c.ok∧ ∀t ∈ c.args,t.e=0) (q dq:Nat) (σ0 τ0:St) (hq:σ0[q]? =some (.box p.cs)) (a:List Bs) (hd: ∀b,(σ0++[rowS a,rowS b]++τ0)[dq]? =some (.box [.str dn,slD params, .slice (cons.map Con.d)])) (d3 d5:D) (b0:List Bs) (hb0:b0.length+cons.length≤1000000):
 ∃τ',iterI (evalI CI XB GI 87 false lp85_1) [(1, .ptr q 0),(3,d3),(4, .arr (σ0.length+1) b0.length 0 b0.length),(5,d5),(6, .ptr dq 0),(7, .int .i64 0)] (σ0++[rowS a,rowS b0]++τ0)=
  some (match foldS (consStep p params) cons 0 b0 with
   | .inl b'=>(.exit 2,[(1, .ptr q 0),(3,d3),(4, .arr (σ0.length+1) b'.length 0 b'.length),(5,d5),(6, .ptr dq 0),(7, .int .i64 cons.length),(40, .bool false)],σ0++[rowS a,rowS b']++τ0++τ')
   | .inr e=>(.ret,[(2, .int .i64 e)],σ0++τ')):=by
 have:=loop_foldS (f:=evalI CI XB GI 87 false lp85_1) cons (fun k b=>[(1, .ptr q 0),(3,d3),(4, .arr (σ0.length+1) b.length 0 b.length),(5,d5),(6, .ptr dq 0),(7, .int .i64 (k:Nat))]) (fun b=>σ0++[rowS a,rowS b]++τ0) (fun k b=>b.length=b0.length+k) (consStep p params) (fun e=>(.ret,[(2, .int .i64 e)])) (fun _=>σ0) (fun b=>(.exit 2,[(1, .ptr q 0),(3,d3),(4, .arr (σ0.length+1) b.length 0 b.length),(5,d5),(6, .ptr dq 0),(7, .int .i64 cons.length),(40, .bool false)])) (by simp) (by simp)
  (fun k hk b b' hb hs=>by rw [consStep_len hs];simp;omega)
  (fun k hk b τ hb=>by
    have hw:=wrap_nat (n:=k) (by unfold maxL at hcl;omega)
    have hck:=hc _ (List.getElem_mem hk)
    have hqq: ∀b,(σ0++[rowS a,rowS b]++τ0++τ)[q]? =some (.box p.cs):=fun b=>getO (getO (getO hq))
    have hdd: ∀b,(σ0++[rowS a,rowS b]++τ0++τ)[dq]? =_:=fun b=>getO (hd b)
    have h0:=it85_0 p hok params hpar dn cons k hk hck.1 hck.2 q dq d3 (.arr (σ0.length+1) (b.length+1) 0 (b.length+1)) d5 (σ0++[rowS a,rowS (b++[cons[k].name])]++τ0++τ) (hqq _) (hdd _)
    have hg: (σ0++[rowS a,rowS b]++τ0++τ)[σ0.length+1]? =some (rowS b):=by simp only [List.append_assoc];exact getA
    have h122:=h122r b cons[k].name (σ0.length+1) _ hg (by unfold maxL at*;omega)
    have hs: ∀n,(σ0++[rowS a,rowS b]++τ0++τ).set (σ0.length+1) (.row 1 (b.map .str++[.str n]) 0)=σ0++[rowS a,rowS (b++[n])]++τ0++τ:=fun n=>by
     simp only [List.append_assoc];rw [setA];simp [rowS]
    have e1: ∀b,∃τ',σ0++[rowS a,rowS b]++τ0++τ=σ0++τ':=fun b=>⟨_,by simp only [List.append_assoc];rfl⟩
    have hd1:=hdd b
    obtain ⟨cd,hcd,hcl2,hcg⟩:=opq Con.d cons
    obtain ⟨h2,h3⟩:=hcg k hk
    rw [hcd] at hd1
    have hbl: (b.map D.str).length=b.length:=by simp
    have hba: (b.length+1) *16≤140737488355328:=by omega
    have hfn: ∃z,firstE (cons[k].args.map fun t=>t.ord p params)=z:=⟨_,rfl⟩
    obtain ⟨z,hz⟩:=hfn
    rw [hz] at h0
    unfold consStep
    rw [hz]
    generalize cons[k]=c at*
    rcases c with ⟨cn,args⟩
    simp only [Con.d,Con.cs] at*
    have hg: (σ0++[rowS a,rowS b]++τ0++τ)[σ0.length+1]? =some (.row 1 (b.map .str) 0):=hg
    cases hh:hasS b cn
    ·rw [hh] at h122
     have hs:=hs cn
     obtain ⟨τ',hτ'⟩:=e1 (b++[cn])
     by_cases hz0:z=0
     ·refine ⟨τ, ?_⟩
      subst hz0
      simp only [Bool.false_eq_true,if_false,if_true] at h0 ⊢
      rw [←hs] at h0 ⊢
      clear hqq hdd hd e1 hτ'
      generalize σ0++[rowS a,rowS b]++τ0++τ=σ1 at*
      generalize b.map D.str=bd at*
      simp [lp85_1,hk,hw,hd1,hcl2,h2,h3,h122,hg,rowOf,fillRow,hbl,hba,h0]
     ·refine ⟨τ', ?_⟩
      rw [←hτ']
      simp only [Bool.false_eq_true,if_false,if_neg hz0] at h0 ⊢
      rw [←hs] at h0 ⊢
      clear hqq hdd hd e1 hτ'
      generalize σ0++[rowS a,rowS b]++τ0++τ=σ1 at*
      generalize b.map D.str=bd at*
      simp [lp85_1,hk,hw,hd1,hcl2,h2,h3,h122,hg,rowOf,fillRow,hbl,hba,h0]
    ·rw [hh] at h122
     obtain ⟨τ',hτ'⟩:=e1 b
     refine ⟨τ', ?_⟩
     rw [←hτ']
     simp only [if_true]
     clear hqq hdd hd e1 hτ' hs h0
     generalize σ0++[rowS a,rowS b]++τ0++τ=σ1 at*
     simp [lp85_1,hk,hw,hd1,hcl2,h2,h3,h122])
  (fun b τ hb=>⟨τ,by
    have hd1: (σ0++[rowS a,rowS b]++τ0++τ)[dq]? =_:=getO (hd b)
    obtain ⟨cd,hcd,hcl2,hcg⟩:=opq Con.d cons
    rw [hcd] at hd1
    generalize σ0++[rowS a,rowS b]++τ0++τ=σ1 at*
    simp [lp85_1,hd1,hcl2]⟩) b0 [] (by simp)
 rw [List.append_nil,Int.natCast_zero] at this
 obtain ⟨τ',h⟩:=this
 refine ⟨τ', ?_⟩
 rw [h]
 cases foldS (consStep p params) cons 0 b0<;>rfl
theorem has_app (a b:List Bs) (s:Bs):hasS (a++b) s=(hasS a s||hasS b s):=by
 unfold hasS
 rw [Bool.eq_iff_iff]
 simp
theorem dat_len {p:Prg} {i:Nat} {d:Dat} {x x':List Bs × List Bs} (h:datStep p i d x= .inl x'):x'.1=x.1++[d.name]∧x'.2.length=x.2.length+d.cons.length:=by
 unfold datStep at h
 split at h
 ·cases h
 ·split at h
  ·rename_i b hb
   cases h
   exact ⟨rfl,foldS_cons_len hb⟩
  ·cases h
set_option maxHeartbeats 1000000 in
theorem it85_2 (p:Prg) (hok:p.ok) (hdl:p.data.length≤12) (hd: ∀d ∈ p.data,d.cons.length≤8∧ ∀c ∈ d.cons,∀t ∈ c.args,t.e=0) (σ:St):
 ∃τ',iterI (evalI CI XB GI 87 false lp85_2) [(1, .ptr σ.length 0),(3, .arr (σ.length+1) 0 0 0),(4, .arr (σ.length+2) 0 0 0),(5, .int .i64 0)] (σ++[.box p.cs,rowS [],rowS []])=
  some (match foldS (datStep p) p.data 0 (builtins,[]) with
   | .inl x=>(.exit 0,[(1, .ptr σ.length 0),(3, .arr (σ.length+1) (x.1.drop 3).length 0 (x.1.drop 3).length),(4, .arr (σ.length+2) x.2.length 0 x.2.length),(5, .int .i64 p.data.length),(14, .bool false)],σ++τ')
   | .inr e=>(.ret,[(2, .int .i64 e)],σ++τ')):=by
 obtain ⟨dd,hdd,hddl,hdg⟩:=opq Dat.d p.data
 have hh:p.cs.head?=some (.slice dd):=by rw [p.cs_eq,hdd];rfl
 have hlen0: (σ++[Obj.box p.cs]).length=σ.length+1:=by simp
 have:=loop_foldS (f:=evalI CI XB GI 87 false lp85_2) p.data (fun i x=>[(1, .ptr σ.length 0),(3, .arr (σ.length+1) (x.1.drop 3).length 0 (x.1.drop 3).length),(4, .arr (σ.length+2) x.2.length 0 x.2.length),(5, .int .i64 (i:Nat))])
  (fun x=>σ++[.box p.cs]++[rowS (x.1.drop 3),rowS x.2]) (fun i x=>x.1=builtins++x.1.drop 3∧(x.1.drop 3).length=i∧x.2.length≤8*i) (datStep p) (fun e=>(.ret,[(2, .int .i64 e)])) (fun _=>σ++[.box p.cs])
  (fun x=>(.exit 0,[(1, .ptr σ.length 0),(3, .arr (σ.length+1) (x.1.drop 3).length 0 (x.1.drop 3).length),(4, .arr (σ.length+2) x.2.length 0 x.2.length),(5, .int .i64 p.data.length),(14, .bool false)])) (by simp) (by simp)
  (fun i hi x x' hI hs=>by
    obtain ⟨h1,h2⟩:=dat_len hs
    obtain ⟨i1,i2,i3⟩:=hI
    have hc:=(hd _ (List.getElem_mem hi)).1
    have hx3:x.1.length=3+i:=by rw [i1,List.length_append,i2];rfl
    have e: (x.1++[p.data[i].name]).drop 3=x.1.drop 3++[p.data[i].name]:=List.drop_append_of_le_length (by omega)
    refine ⟨?_, ?_,by omega⟩
    ·rw [h1,e,←List.append_assoc,←i1]
    ·rw [h1,e,List.length_append,i2];rfl)
  (fun i hi x τ hI=>by
    obtain ⟨i1,i2,i3⟩:=hI
    have hw:=wrap_nat (n:=i) (by omega)
    have hdi:=hd _ (List.getElem_mem hi)
    have hdo:=hok.d _ (List.getElem_mem hi)
    obtain ⟨h2,h3⟩:=hdg i hi
    have hx3:x.1.length=3+i:=by rw [i1,List.length_append,i2];rfl
    have hdrop: (x.1++[p.data[i].name]).drop 3=x.1.drop 3++[p.data[i].name]:=List.drop_append_of_le_length (by omega)
    have hhas:hasS x.1 p.data[i].name=(isB p.data[i].name||hasS (x.1.drop 3) p.data[i].name):=by
     have e0:=has_app builtins (x.1.drop 3) p.data[i].name
     rw [←i1] at e0;exact e0
    have hdop: ∀b,datStep p i p.data[i] x= .inl b→b.1.drop 3=x.1.drop 3++[p.data[i].name]:=fun b hb=>by rw [(dat_len hb).1,hdrop]
    unfold datStep at*
    rw [hhas]
    generalize hnm:x.1.drop 3=nm at*
    generalize x.2=cn at*
    generalize p.data[i]=d at*
    rcases d with ⟨dn,params,cons⟩
    obtain ⟨o1,o2,o3⟩:=hdo
    obtain ⟨hc8,hce⟩:=hdi
    simp only at o1 o2 o3 hc8 hce hhas hdop ⊢
    obtain ⟨τ1,h85⟩:=it85_1 p hok params o1 dn cons o2 (fun c hc=>⟨o3 c hc,hce c hc⟩) σ.length (σ++[Obj.box p.cs]++[rowS (nm++[dn]),rowS cn]++τ).length (σ++[Obj.box p.cs]) (τ++[.box (Dat.cs ⟨dn,params,cons⟩)]) getA0 (nm++[dn])
     (fun b=>by
       have: (σ++[Obj.box p.cs]++[rowS (nm++[dn]),rowS cn]++τ).length=(σ++[Obj.box p.cs]++[rowS (nm++[dn]),rowS b]++τ).length:=by simp only [List.length_append,List.length_cons,List.length_nil]
       rw [this,←List.append_assoc];exact getA0)
     (.arr (σ.length+1) (nm.length+1) 0 (nm.length+1)) (.int .i64 (i:Nat)) cn (by omega)
    rw [hlen0,←List.append_assoc] at h85
    have hlr: (σ++[Obj.box p.cs]++[rowS (nm++[dn]),rowS cn]++τ).length=(σ++[Obj.box p.cs]++[rowS nm,rowS cn]++τ).length:=by simp only [List.length_append,List.length_cons,List.length_nil]
    rw [hlr] at h85
    have hq1: ∀y,(σ++[Obj.box p.cs]++[rowS nm,rowS cn]++τ++y)[σ.length]? =some (.box p.cs):=fun y=>by simp only [List.append_assoc];exact getA0
    have hq2: ∀y,(σ++[Obj.box p.cs]++[rowS nm,rowS cn]++τ++y)[σ.length+1]? =some (.row 1 (nm.map .str) 0):=fun y=>by simp only [List.append_assoc];exact getA
    have hq0:=hq1 []
    rw [List.append_nil] at hq0
    have h122:=fun y=>h122r nm dn (σ.length+1) _ (hq2 y) (by unfold maxL;omega)
    have hs: ∀y,(σ++[Obj.box p.cs]++[rowS nm,rowS cn]++τ++y).set (σ.length+1) (.row 1 (nm.map .str++[.str dn]) 0)=σ++[Obj.box p.cs]++[rowS (nm++[dn]),rowS cn]++τ++y:=fun y=>by
     simp only [List.append_assoc];rw [setA];simp [rowS]
    have e1: ∀y,∃τ',σ++[Obj.box p.cs]++[rowS nm,rowS cn]++τ++y=σ++[.box p.cs]++τ':=fun y=>⟨_,by simp only [List.append_assoc];rfl⟩
    have hnl: (nm.map D.str).length=nm.length:=by simp
    have hba: (nm.length+1) *16≤140737488355328:=by omega
    rw [←hs] at h85
    simp only [Dat.d,Dat.cs] at*
    cases hb:isB dn
    ·cases hh2:hasS nm dn
     ·rw [hh2] at h122
      cases hf:foldS (consStep p params) cons 0 cn with
      |inl b=>
       rw [hf] at h85
       have hdop:=hdop (x.1++[dn],b) (by rw [hhas,hb,hh2,hf];rfl)
       simp only at hdop
       refine ⟨τ++[.box [.str dn,slD params, .slice (cons.map Con.d)]]++τ1, ?_⟩
       simp only [Bool.or_self,Bool.false_eq_true,if_false]
       rw [hdop,←List.append_assoc,←List.append_assoc]
       simp only [slD] at*
       rw [←List.append_assoc] at h85
       generalize σ++[Obj.box p.cs]++[rowS nm,rowS cn]++τ=σ1 at*
       generalize σ++[Obj.box p.cs]++[rowS (nm++[dn]),rowS b]++τ++[.box [.str dn, .slice (params.map D.str), .slice (cons.map Con.d)]]++τ1=σ2 at*
       generalize params.map D.str=pd at*
       generalize cons.map Con.d=cd at*
       generalize nm.map D.str=nd at*
       generalize p.cs=pc at*
       simp [lp85_2,hq0,hq1,hh,hddl,hi,h2,h3,hw,k137,hb,hq2,h122,getA0,setA0,rowOf,fillRow,hnl,hba,h85]
      |inr e=>
       rw [hf] at h85
       refine ⟨τ1, ?_⟩
       simp only [Bool.or_self,Bool.false_eq_true,if_false]
       simp only [slD] at*
       generalize hs1:σ++[Obj.box p.cs]++[rowS nm,rowS cn]++τ=σ1 at*
       generalize hs2:σ++[Obj.box p.cs]++τ1=σ2 at*
       generalize params.map D.str=pd at*
       generalize cons.map Con.d=cd at*
       generalize nm.map D.str=nd at*
       generalize p.cs=pc at*
       simp [lp85_2,hq0,hq1,hh,hddl,hi,h2,h3,hw,k137,hb,hq2,h122,getA0,setA0,rowOf,fillRow,hnl,hba,h85]
     ·rw [hh2] at h122
      obtain ⟨τ',hτ'⟩:=e1 [.box [.str dn,slD params, .slice (cons.map Con.d)]]
      refine ⟨τ', ?_⟩
      simp only [Bool.false_or,if_true]
      rw [←hτ']
      simp only [slD] at*
      clear h85 hs e1 hτ'
      generalize σ++[Obj.box p.cs]++[rowS nm,rowS cn]++τ=σ1 at*
      generalize params.map D.str=pd at*
      generalize cons.map Con.d=cd at*
      generalize p.cs=pc at*
      simp [lp85_2,hq0,hq1,hh,hddl,hi,h2,h3,hw,k137,hb,h122,getA0,setA0]
    ·obtain ⟨τ',hτ'⟩:=e1 [.box [.str dn,slD params, .slice (cons.map Con.d)]]
     refine ⟨τ', ?_⟩
     simp only [Bool.true_or,if_true]
     rw [←hτ']
     simp only [slD] at*
     clear h85 hs e1 hτ'
     generalize σ++[Obj.box p.cs]++[rowS nm,rowS cn]++τ=σ1 at*
     generalize params.map D.str=pd at*
     generalize cons.map Con.d=cd at*
     generalize p.cs=pc at*
     simp [lp85_2,hq0,hq1,hh,hddl,hi,h2,h3,hw,k137,hb,getA0,setA0])
  (fun x τ hI=>⟨τ,by
    have hq0: (σ++[Obj.box p.cs]++[rowS (x.1.drop 3),rowS x.2]++τ)[σ.length]? =some (.box p.cs):=by simp only [List.append_assoc];exact getA0
    generalize σ++[Obj.box p.cs]++[rowS (x.1.drop 3),rowS x.2]++τ=σ1 at*
    generalize p.cs=pc at*
    simp [lp85_2,hq0,hh,hddl]⟩) (builtins,[]) [] ⟨rfl,rfl,by simp⟩
 obtain ⟨τ',h⟩:=this
 rw [List.append_nil,Int.natCast_zero,List.append_assoc] at h
 have e0: ([Obj.box p.cs]++[rowS (List.drop 3 builtins),rowS []]:St)=[.box p.cs,rowS [],rowS []]:=rfl
 have e1: (builtins.drop 3).length=0:=rfl
 simp only at h
 rw [e0,e1] at h
 cases hf:foldS (datStep p) p.data 0 (builtins,[]) with
 |inl x=>
  rw [hf] at h
  exact ⟨[.box p.cs]++[rowS (x.1.drop 3),rowS x.2]++τ',by rw [←List.append_assoc,←List.append_assoc];exact h⟩
 |inr e=>
  rw [hf] at h
  exact ⟨[.box p.cs]++τ',by rw [←List.append_assoc];exact h⟩
set_option maxHeartbeats 2000000 in
theorem it86_0 (p:Prg) (hok:p.ok) (xn:Bs) (ops:List Opn) (hcl:ops.length≤maxL) (ho: ∀o ∈ ops,o.ok∧o.arg.e=0∧o.res.e=0) (q dq:Nat) (σ0 τ0:St) (hq:σ0[q]? =some (.box p.cs)) (a:List Bs) (hd: ∀b,(σ0++[rowS a,rowS b]++τ0)[dq]? =some (.box [.str xn, .slice (ops.map Opn.d)])) (d3 d5:D) (b0:List Bs) (hb0:b0.length+ops.length≤1000000):
 ∃τ',iterI (evalI CI XB GI 67 false lp86_0) [(1, .ptr q 0),(3,d3),(4, .arr (σ0.length+1) b0.length 0 b0.length),(5,d5),(6, .ptr dq 0),(7, .int .i64 0)] (σ0++[rowS a,rowS b0]++τ0)=
  some (match foldS (opnStep p) ops 0 b0 with
   | .inl b'=>(.exit 2,[(1, .ptr q 0),(3,d3),(4, .arr (σ0.length+1) b'.length 0 b'.length),(5,d5),(6, .ptr dq 0),(7, .int .i64 ops.length),(37, .bool false)],σ0++[rowS a,rowS b']++τ0++τ')
   | .inr e=>(.ret,[(2, .int .i64 e)],σ0++τ')):=by
 have:=loop_foldS (f:=evalI CI XB GI 67 false lp86_0) ops (fun k b=>[(1, .ptr q 0),(3,d3),(4, .arr (σ0.length+1) b.length 0 b.length),(5,d5),(6, .ptr dq 0),(7, .int .i64 (k:Nat))]) (fun b=>σ0++[rowS a,rowS b]++τ0) (fun k b=>b.length=b0.length+k) (opnStep p) (fun e=>(.ret,[(2, .int .i64 e)])) (fun _=>σ0) (fun b=>(.exit 2,[(1, .ptr q 0),(3,d3),(4, .arr (σ0.length+1) b.length 0 b.length),(5,d5),(6, .ptr dq 0),(7, .int .i64 ops.length),(37, .bool false)])) (by simp) (by simp)
  (fun k hk b b' hb hs=>by rw [opnStep_len hs];simp;omega)
  (fun k hk b τ hb=>by
    have hw:=wrap_nat (n:=k) (by unfold maxL at hcl;omega)
    have hok1:=ho _ (List.getElem_mem hk)
    have hqq: ∀b y,(σ0++[rowS a,rowS b]++τ0++τ++y)[q]? =some (.box p.cs):=fun b y=>getO (getO (getO (getO hq)))
    have hd1: (σ0++[rowS a,rowS b]++τ0++τ)[dq]? =_:=getO (hd b)
    have hg: ∀y,(σ0++[rowS a,rowS b]++τ0++τ++y)[σ0.length+1]? =some (.row 1 (b.map .str) 0):=fun y=>by simp only [List.append_assoc];exact getA
    have h122:=fun y=>h122r b ops[k].name (σ0.length+1) _ (hg y) (by unfold maxL at*;omega)
    have hs: ∀n y,(σ0++[rowS a,rowS b]++τ0++τ++y).set (σ0.length+1) (.row 1 (b.map .str++[.str n]) 0)=σ0++[rowS a,rowS (b++[n])]++τ0++τ++y:=fun n y=>by
     simp only [List.append_assoc];rw [setA];simp [rowS]
    have e1: ∀b y,∃τ',σ0++[rowS a,rowS b]++τ0++τ++y=σ0++τ':=fun b y=>⟨_,by simp only [List.append_assoc];rfl⟩
    have hn1: ∀n y,(σ0++[rowS a,rowS (b++[n])]++τ0++τ++[y])[(σ0++[rowS a,rowS b]++τ0++τ).length]? =some y:=fun n y=>by
     have: (σ0++[rowS a,rowS b]++τ0++τ).length=(σ0++[rowS a,rowS (b++[n])]++τ0++τ).length:=by simp only [List.length_append,List.length_cons,List.length_nil]
     rw [this];exact getA0
    obtain ⟨cd,hcd,hcl2,hcg⟩:=opq Opn.d ops
    obtain ⟨h2,h3⟩:=hcg k hk
    rw [hcd] at hd1
    have hpl:=p.cs_len
    have hpt:=p.cs_take
    have hbl: (b.map D.str).length=b.length:=by simp
    have hba: (b.length+1) *16≤140737488355328:=by omega
    generalize ops[k]=o at*
    rcases o with ⟨on,arg,res,once⟩
    obtain ⟨⟨hoa,hor⟩,hae,hre⟩:=hok1
    simp only at hoa hor hae hre
    have hca:=fun σ=>c73 p hok.dl hok.el [] (by unfold maxL;simp) .empty (.inr ⟨rfl,rfl⟩) arg hoa σ
    have hcr:=fun σ=>c73 p hok.dl hok.el [] (by unfold maxL;simp) .empty (.inr ⟨rfl,rfl⟩) res hor σ
    rw [Ty.ordR_eq p [] _ hae] at hca
    rw [Ty.ordR_eq p [] _ hre] at hcr
    simp only [Opn.d,Opn.cs,opnStep,opnErr] at*
    generalize arg.ord p []=ea at*
    generalize res.ord p []=er at*
    rcases arg with ⟨k1,n1,s1,l1,ls1,t1⟩
    rcases res with ⟨k2,n2,s2,l2,ls2,t2⟩
    simp only [Ty.cs,List.cons_append,List.nil_append] at*
    generalize tysD l1=ld1 at*
    generalize tysD l2=ld2 at*
    generalize ls1.map Lab.d=lsd1 at*
    generalize ls2.map Lab.d=lsd2 at*
    generalize hoc: [D.str on,D.int .i64 k1,D.int .i64 n1,D.str s1,D.slice ld1,D.slice lsd1,D.int .i64 t1,D.int .i64 k2,D.int .i64 n2,D.str s2,D.slice ld2,D.slice lsd2,D.int .i64 t2,D.bool once]=oc at*
    have hn1:=hn1 on (.box oc)
    have hs:=hs on [.box oc]
    have hqn:=hqq (b++[on]) [.box oc]
    cases hh:hasS b on
    ·rw [hh] at h122
     simp only [Bool.false_eq_true,if_false]
     obtain ⟨τ',hτ'⟩:=e1 (b++[on]) [.box oc]
     by_cases hz1:ea=0
     ·subst hz1
      simp only [if_true]
      by_cases hz2:er=0
      ·subst hz2
       simp only [if_true]
       refine ⟨τ++[.box oc], ?_⟩
       simp only [←List.append_assoc]
       clear hqq hd e1 hτ'
       generalize σ0++[rowS a,rowS (b++[on])]++τ0++τ++[Obj.box oc]=σ3 at*
       generalize σ0++[rowS a,rowS b]++τ0++τ=σ1 at*
       generalize b.map D.str=bd at*
       generalize p.cs=pc at*
       subst hoc
       simp [lp86_0,hk,hw,hd1,hcl2,h2,h3,getA0,setA0,h122,hg,rowOf,fillRow,hbl,hba,hs,hn1,hqn,hpl,hpt,hca,hcr]
      ·have hz2': (er != 0)=true:=by simpa using hz2
       simp only [if_neg hz2]
       refine ⟨τ', ?_⟩
       rw [←hτ']
       clear hqq hd e1 hτ'
       generalize σ0++[rowS a,rowS (b++[on])]++τ0++τ++[Obj.box oc]=σ3 at*
       generalize σ0++[rowS a,rowS b]++τ0++τ=σ1 at*
       generalize b.map D.str=bd at*
       generalize p.cs=pc at*
       subst hoc
       simp [lp86_0,hk,hw,hd1,hcl2,h2,h3,getA0,setA0,h122,hg,rowOf,fillRow,hbl,hba,hs,hn1,hqn,hpl,hpt,hca,hcr,hz2']
     ·have hz1': (ea != 0)=true:=by simpa using hz1
      have hz1'': (ea==0)=false:=by simpa using hz1
      simp only [if_neg hz1]
      refine ⟨τ', ?_⟩
      rw [←hτ']
      clear hqq hd e1 hτ'
      generalize σ0++[rowS a,rowS (b++[on])]++τ0++τ++[Obj.box oc]=σ3 at*
      generalize σ0++[rowS a,rowS b]++τ0++τ=σ1 at*
      generalize b.map D.str=bd at*
      generalize p.cs=pc at*
      subst hoc
      simp [lp86_0,hk,hw,hd1,hcl2,h2,h3,getA0,setA0,h122,hg,rowOf,fillRow,hbl,hba,hs,hn1,hqn,hpl,hpt,hca,hz1',hz1'']
    ·rw [hh] at h122
     obtain ⟨τ',hτ'⟩:=e1 b [.box oc]
     refine ⟨τ', ?_⟩
     rw [←hτ']
     simp only [if_true]
     clear hqq hd e1 hτ' hs hn1 hqn
     generalize σ0++[rowS a,rowS b]++τ0++τ=σ1 at*
     subst hoc
     simp [lp86_0,hk,hw,hd1,hcl2,h2,h3,getA0,setA0,h122])
  (fun b τ hb=>⟨τ,by
    have hd1: (σ0++[rowS a,rowS b]++τ0++τ)[dq]? =_:=getO (hd b)
    obtain ⟨cd,hcd,hcl2,hcg⟩:=opq Opn.d ops
    rw [hcd] at hd1
    generalize σ0++[rowS a,rowS b]++τ0++τ=σ1 at*
    simp [lp86_0,hd1,hcl2]⟩) b0 [] (by simp)
 rw [List.append_nil,Int.natCast_zero] at this
 obtain ⟨τ',h⟩:=this
 refine ⟨τ', ?_⟩
 rw [h]
 cases foldS (opnStep p) ops 0 b0<;>rfl
theorem eff_len {p:Prg} {i:Nat} {d:Eff} {x x':List Bs × List Bs} (h:effStep p i d x= .inl x'):x'.1=x.1++[d.name]∧x'.2.length=x.2.length+d.ops.length:=by
 unfold effStep at h
 split at h
 ·cases h
 ·split at h
  ·rename_i b hb
   cases h
   exact ⟨rfl,foldS_opn_len hb⟩
  ·cases h
set_option maxHeartbeats 1000000 in
theorem it86_1 (p:Prg) (hok:p.ok) (hel:p.effects.length≤12) (he: ∀e ∈ p.effects,e.ops.length≤8∧ ∀o ∈ e.ops,o.arg.e=0∧o.res.e=0) (σ:St) (x0:List Bs × List Bs) (h01:x0.1.length≤10) (h02:x0.2.length≤10):
 ∃τ',iterI (evalI CI XB GI 67 false lp86_1) [(1, .ptr σ.length 0),(3, .arr (σ.length+1) x0.1.length 0 x0.1.length),(4, .arr (σ.length+2) x0.2.length 0 x0.2.length),(5, .int .i64 0)] (σ++[.box p.cs,rowS x0.1,rowS x0.2])=
  some (match foldS (effStep p) p.effects 0 x0 with
   | .inl x=>(.exit 0,[(1, .ptr σ.length 0),(3, .arr (σ.length+1) x.1.length 0 x.1.length),(4, .arr (σ.length+2) x.2.length 0 x.2.length),(5, .int .i64 p.effects.length),(16, .bool false)],σ++τ')
   | .inr e=>(.ret,[(2, .int .i64 e)],σ++τ')):=by
 obtain ⟨dd,hdd,hddl,hdg⟩:=opq Eff.d p.effects
 have hh:p.cs[1]? =some (.slice dd):=by rw [p.cs_eq,hdd];rfl
 have hpl:=p.cs_len
 have hh1: ∀h:1<p.cs.length,p.cs[1]= .slice dd:=fun h=>by rw [List.getElem?_eq_getElem h] at hh;exact Option.some.inj hh
 have hlen0: (σ++[Obj.box p.cs]).length=σ.length+1:=by simp
 have:=loop_foldS (f:=evalI CI XB GI 67 false lp86_1) p.effects (fun i x=>[(1, .ptr σ.length 0),(3, .arr (σ.length+1) x.1.length 0 x.1.length),(4, .arr (σ.length+2) x.2.length 0 x.2.length),(5, .int .i64 (i:Nat))])
  (fun x=>σ++[.box p.cs]++[rowS x.1,rowS x.2]) (fun i x=>x.1.length≤10+i∧x.2.length≤10+8*i) (effStep p) (fun e=>(.ret,[(2, .int .i64 e)])) (fun _=>σ++[.box p.cs])
  (fun x=>(.exit 0,[(1, .ptr σ.length 0),(3, .arr (σ.length+1) x.1.length 0 x.1.length),(4, .arr (σ.length+2) x.2.length 0 x.2.length),(5, .int .i64 p.effects.length),(16, .bool false)])) (by simp) (by simp)
  (fun i hi x x' hI hs=>by
    obtain ⟨h1,h2⟩:=eff_len hs
    have hc:=(he _ (List.getElem_mem hi)).1
    rw [h1,List.length_append]
    simp only [List.length_cons,List.length_nil]
    omega)
  (fun i hi x τ hI=>by
    obtain ⟨i1,i2⟩:=hI
    have hw:=wrap_nat (n:=i) (by omega)
    have hei:=he _ (List.getElem_mem hi)
    have heo:=hok.e _ (List.getElem_mem hi)
    obtain ⟨h2,h3⟩:=hdg i hi
    unfold effStep
    rcases x with ⟨nm,cn⟩
    simp only at i1 i2 ⊢
    generalize p.effects[i]=d at*
    rcases d with ⟨dn,ops⟩
    obtain ⟨o1,o2⟩:=heo
    obtain ⟨hc8,hce⟩:=hei
    simp only at o1 o2 hc8 hce ⊢
    obtain ⟨τ1,h86⟩:=it86_0 p hok dn ops o1 (fun o h=>⟨o2 o h,hce o h⟩) σ.length (σ++[Obj.box p.cs]++[rowS (nm++[dn]),rowS cn]++τ).length (σ++[Obj.box p.cs]) (τ++[.box (Eff.cs ⟨dn,ops⟩)]) getA0 (nm++[dn])
     (fun b=>by
       have: (σ++[Obj.box p.cs]++[rowS (nm++[dn]),rowS cn]++τ).length=(σ++[Obj.box p.cs]++[rowS (nm++[dn]),rowS b]++τ).length:=by simp only [List.length_append,List.length_cons,List.length_nil]
       rw [this,←List.append_assoc];exact getA0)
     (.arr (σ.length+1) (nm.length+1) 0 (nm.length+1)) (.int .i64 (i:Nat)) cn (by omega)
    rw [hlen0,←List.append_assoc] at h86
    have hlr: (σ++[Obj.box p.cs]++[rowS (nm++[dn]),rowS cn]++τ).length=(σ++[Obj.box p.cs]++[rowS nm,rowS cn]++τ).length:=by simp only [List.length_append,List.length_cons,List.length_nil]
    rw [hlr] at h86
    have hq1: ∀y,(σ++[Obj.box p.cs]++[rowS nm,rowS cn]++τ++y)[σ.length]? =some (.box p.cs):=fun y=>by simp only [List.append_assoc];exact getA0
    have hq2: ∀y,(σ++[Obj.box p.cs]++[rowS nm,rowS cn]++τ++y)[σ.length+1]? =some (.row 1 (nm.map .str) 0):=fun y=>by simp only [List.append_assoc];exact getA
    have hq0:=hq1 []
    rw [List.append_nil] at hq0
    have h122:=fun y=>h122r nm dn (σ.length+1) _ (hq2 y) (by unfold maxL;omega)
    have hs: ∀y,(σ++[Obj.box p.cs]++[rowS nm,rowS cn]++τ++y).set (σ.length+1) (.row 1 (nm.map .str++[.str dn]) 0)=σ++[Obj.box p.cs]++[rowS (nm++[dn]),rowS cn]++τ++y:=fun y=>by
     simp only [List.append_assoc];rw [setA];simp [rowS]
    have e1: ∀y,∃τ',σ++[Obj.box p.cs]++[rowS nm,rowS cn]++τ++y=σ++[.box p.cs]++τ':=fun y=>⟨_,by simp only [List.append_assoc];rfl⟩
    have hnl: (nm.map D.str).length=nm.length:=by simp
    have hba: (nm.length+1) *16≤140737488355328:=by omega
    rw [←hs] at h86
    simp only [Eff.d,Eff.cs] at*
    cases hh2:hasS nm dn
    ·rw [hh2] at h122
     simp only [Bool.false_eq_true,if_false]
     cases hf:foldS (opnStep p) ops 0 cn with
     |inl b=>
      rw [hf] at h86
      refine ⟨τ++[.box [.str dn, .slice (ops.map Opn.d)]]++τ1, ?_⟩
      simp only [←List.append_assoc] at h86 ⊢
      have hnl2: (nm++[dn]).length=nm.length+1:=by simp
      generalize σ++[Obj.box p.cs]++[rowS (nm++[dn]),rowS b]++τ++[.box [.str dn, .slice (ops.map Opn.d)]]++τ1=σ2 at*
      generalize σ++[Obj.box p.cs]++[rowS nm,rowS cn]++τ=σ1 at*
      generalize ops.map Opn.d=cd at*
      generalize nm.map D.str=nd at*
      generalize p.cs=pc at*
      simp [lp86_1,hq0,hq1,hh1,hpl,hddl,hi,h2,h3,hw,hq2,h122,getA0,setA0,rowOf,fillRow,hnl,hnl2,hba,h86]
     |inr e=>
      rw [hf] at h86
      refine ⟨τ1, ?_⟩
      generalize hs2:σ++[Obj.box p.cs]++τ1=σ2 at*
      generalize hs1:σ++[Obj.box p.cs]++[rowS nm,rowS cn]++τ=σ1 at*
      generalize ops.map Opn.d=cd at*
      generalize nm.map D.str=nd at*
      generalize p.cs=pc at*
      simp [lp86_1,hq0,hq1,hh1,hpl,hddl,hi,h2,h3,hw,hq2,h122,getA0,setA0,rowOf,fillRow,hnl,hba,h86]
    ·rw [hh2] at h122
     obtain ⟨τ',hτ'⟩:=e1 [.box [.str dn, .slice (ops.map Opn.d)]]
     refine ⟨τ', ?_⟩
     simp only [if_true]
     rw [←hτ']
     clear h86 hs e1 hτ'
     generalize σ++[Obj.box p.cs]++[rowS nm,rowS cn]++τ=σ1 at*
     generalize ops.map Opn.d=cd at*
     generalize p.cs=pc at*
     simp [lp86_1,hq0,hq1,hh1,hpl,hddl,hi,h2,h3,hw,h122,getA0,setA0])
  (fun x τ hI=>⟨τ,by
    have hq0: (σ++[Obj.box p.cs]++[rowS x.1,rowS x.2]++τ)[σ.length]? =some (.box p.cs):=by simp only [List.append_assoc];exact getA0
    generalize σ++[Obj.box p.cs]++[rowS x.1,rowS x.2]++τ=σ1 at*
    generalize p.cs=pc at*
    simp [lp86_1,hq0,hh1,hpl,hddl]⟩) x0 [] ⟨by omega,by omega⟩
 obtain ⟨τ',h⟩:=this
 rw [List.append_nil,Int.natCast_zero,List.append_assoc] at h
 have e0: ([Obj.box p.cs]++[rowS x0.1,rowS x0.2]:St)=[.box p.cs,rowS x0.1,rowS x0.2]:=rfl
 simp only at h
 rw [e0] at h
 cases hf:foldS (effStep p) p.effects 0 x0 with
 |inl x=>
  rw [hf] at h
  exact ⟨[.box p.cs]++[rowS x.1,rowS x.2]++τ',by rw [←List.append_assoc,←List.append_assoc];exact h⟩
 |inr e=>
  rw [hf] at h
  exact ⟨[.box p.cs]++τ',by rw [←List.append_assoc];exact h⟩
theorem tyE_of_decl {t:Ty} (h:declE1 t=0):t.e=0:=by
 unfold declE1 at h
 split at h
 ·rename_i h1;exact Ty.chk_e h1
 ·rename_i h1;exact absurd h h1
theorem declE_mem: ∀ {l:List Ty} {t:Ty},declE l=0→t ∈ l→t.e=0:=by
 intro l t h ht
 unfold declE at h
 rw [firstE_zero] at h
 exact tyE_of_decl (h _ (List.mem_map_of_mem ht))
theorem c85 (p:Prg) (hok:p.ok) (hdl:p.data.length≤12) (hd: ∀d ∈ p.data,d.cons.length≤8∧ ∀c ∈ d.cons,∀t ∈ c.args,t.e=0) (σ:St):
 CI (.fn 85) [.agg p.cs] σ=some (.ret (.int .i64 (match foldS (datStep p) p.data 0 (builtins,[]) with| .inl _=>0| .inr e=>e)),σ):=by
 obtain ⟨τ,hit⟩:=it85_2 p hok hdl hd σ
 have hall:=p.cs_all
 have hτ:bodyI CI XB GI af85 [.agg p.cs] σ=some (.ret (.int .i64 (match foldS (datStep p) p.data 0 (builtins,[]) with| .inl _=>0| .inr e=>e)),σ++τ):=by
  cases hf:foldS (datStep p) p.data 0 (builtins,[]) with
  |inl x=>
   rw [hf] at hit
   have e0: ∀x,([x,rowS [],rowS []]:St)=[x, .row 1 [] 0, .row 1 [] 0]:=fun _=>rfl
   rw [e0] at hit
   generalize p.cs=pc at*
   simp [bodyI,af85,hall,hit]
  |inr e=>
   rw [hf] at hit
   have e0: ∀x,([x,rowS [],rowS []]:St)=[x, .row 1 [] 0, .row 1 [] 0]:=fun _=>rfl
   rw [e0] at hit
   generalize p.cs=pc at*
   simp [bodyI,af85,hall,hit]
 exact CI_tree tab85 hτ rfl rfl
theorem c86 (p:Prg) (hok:p.ok) (hel:p.effects.length≤12) (he: ∀e ∈ p.effects,e.ops.length≤8∧ ∀o ∈ e.ops,o.arg.e=0∧o.res.e=0) (σ:St):
 CI (.fn 86) [.agg p.cs] σ=some (.ret (.int .i64 (match foldS (effStep p) p.effects 0 ([nIO],[nPrint,nRead]) with| .inl _=>0| .inr e=>e)),σ):=by
 obtain ⟨τ,hit⟩:=it86_1 p hok hel he σ ([nIO],[nPrint,nRead]) (by decide) (by decide)
 have hall:=p.cs_all
 have hτ:bodyI CI XB GI af86 [.agg p.cs] σ=some (.ret (.int .i64 (match foldS (effStep p) p.effects 0 ([nIO],[nPrint,nRead]) with| .inl _=>0| .inr e=>e)),σ++τ):=by
  simp only [rowS,nIO,nPrint,nRead,List.map_cons,List.map_nil,List.length_cons,List.length_nil] at hit ⊢
  cases hf:foldS (effStep p) p.effects 0 ([[73,79]],[[112,114,105,110,116],[114,101,97,100]]) with
  |inl x=>
   rw [hf] at hit
   generalize p.cs=pc at*
   simp [bodyI,af86,hall,fillRow,fillD,putCells,hit]
  |inr e=>
   rw [hf] at hit
   generalize p.cs=pc at*
   simp [bodyI,af86,hall,fillRow,fillD,putCells,hit]
 exact CI_tree tab86 hτ rfl rfl
theorem c29 (p:Prg) (hok:p.ok) (σ:St):CI (.fn 29) [.agg p.cs] σ=some (.ret (.int .i64 p.decls),σ):=by
 have h84:=fun σ=>c84 p.bare (Prg.bare_ok hok) σ
 have hcs:p.bare.cs=[.slice (p.data.map Dat.d), .slice (p.effects.map Eff.d), .slice [], .int .i64 3, .int .i64 0, .str [], .str [], .slice [], .slice [], .slice []]:=rfl
 rw [hcs] at h84
 have hall:=p.cs_all
 have hpl:=p.cs_len
 have hpt:=p.cs_take
 have hg0:p.cs.head?=some (.slice (p.data.map Dat.d)):=by rw [p.cs_eq];rfl
 have hg1:p.cs[1]? =some (.slice (p.effects.map Eff.d)):=by rw [p.cs_eq];rfl
 have hh1: ∀h:1<p.cs.length,p.cs[1]= .slice (p.effects.map Eff.d):=fun h=>by rw [List.getElem?_eq_getElem h] at hg1;exact Option.some.inj hg1
 have hτ:bodyI CI XB GI af29 [.agg p.cs] σ=some (.ret (.int .i64 p.decls),σ++[.box p.cs]):=by
  unfold Prg.decls orE
  by_cases hs:p.bare.syn=0
  ·obtain ⟨hs1,hs2,_,hs3,hs4,_⟩:=Prg.syn_data hs
   have hd: ∀d ∈ p.data,d.cons.length≤8∧ ∀c ∈ d.cons,∀t ∈ c.args,t.e=0:=fun d hdm=>by
    obtain ⟨_,a2,_,_,a5⟩:=datE_cons (hs3 d hdm)
    refine ⟨a2,fun c hc t ht=> ?_⟩
    have:=a5 c hc
    unfold conE at this
    split at this
    ·cases this
    ·split at this
     ·exact declE_mem this ht
     ·cases this
   have he: ∀e ∈ p.effects,e.ops.length≤8∧ ∀o ∈ e.ops,o.arg.e=0∧o.res.e=0:=fun e hem=>by
    obtain ⟨a1,_,a3⟩:=effE_ops (hs4 e hem)
    refine ⟨a1,fun o ho=> ?_⟩
    have:=a3 o ho
    unfold opnE at this
    split at this
    ·exact ⟨declE_mem this (by simp),declE_mem this (by simp)⟩
    ·cases this
   have h85:=fun σ=>c85 p hok hs1 hd σ
   have h86:=fun σ=>c86 p hok hs2 he σ
   rw [hs] at h84
   rw [if_pos hs]
   unfold Prg.ordE
   generalize p.data.map Dat.d=dd at*
   generalize p.effects.map Eff.d=ed at*
   cases hf1:foldS (datStep p) p.data 0 (builtins,[]) with
   |inr e=>
    have hne:e≠0:=foldS_inr (P:=fun e=>e≠0) _ (fun _ _ _ _ _ h=>datStep_ne h) _ _ _ hf1
    have hne': (e==0)=false:=by simpa using hne
    rw [hf1] at h85
    generalize p.cs=pc at*
    simp [bodyI,af29,getA0,hall,hpl,hpt,hg0,hh1,fillD,putCells,h84,h85,hne']
   |inl x=>
    rw [hf1] at h85
    simp only at h85 ⊢
    cases hf2:foldS (effStep p) p.effects 0 ([nIO],[nPrint,nRead]) with
    |inr e=>
     rw [hf2] at h86
     generalize p.cs=pc at*
     simp [bodyI,af29,getA0,hall,hpl,hpt,hg0,hh1,fillD,putCells,h84,h85,h86]
    |inl y=>
     rw [hf2] at h86
     generalize p.cs=pc at*
     simp [bodyI,af29,getA0,hall,hpl,hpt,hg0,hh1,fillD,putCells,h84,h85,h86]
  ·rw [if_neg hs]
   have hs': (p.bare.syn==0)=false:=by simpa using hs
   generalize p.bare.syn=z at*
   generalize p.data.map Dat.d=dd at*
   generalize p.effects.map Eff.d=ed at*
   generalize p.cs=pc at*
   simp [bodyI,af29,getA0,hall,hpl,hpt,hg0,hh1,fillD,putCells,h84,hs']
 exact CI_tree tab29 hτ rfl rfl
theorem find_all {α:Type} (l:List α) (Q:α→Bool): (l.find? (fun a=> !Q a)).isNone=l.all Q:=by
 induction l with
 |nil=>rfl
 |cons a r ih=>rw [List.find?_cons,List.all_cons];cases h:Q a<;>simp [ih]
theorem Ty.cl_eq2 (p:Int→Bool) (k n:Int) (s:Bs) (l:List Ty) (ls:List Lab) (tail:Int): (Ty.mk k n s l ls tail).cl p=(!(k==0|| (k==5&&p tail))&&(ls.all (fun x=>x.n==0)&&l.all (fun t=>t.cl p))):=by
 simp only [Ty.cl,tysCl_all,Bool.and_assoc]
set_option maxHeartbeats 1000000 in
theorem c116: ∀ (t:Ty),t.ok→ ∀ (σ:St),CI (.fn 116) [.agg t.cs] σ=some (.ret (.bool (t.cl tailC)),σ)
 | .mk k n s l ls tail,hok,σ=>by
  obtain ⟨hl1,hl2,hl3⟩:=hok
  have ih:=fun x (hx:x ∈ l) σ=>c116 x (tysOk_mem hl3 hx) σ
  obtain ⟨ld,hld,hll,hlg⟩:=opq Ty.d l
  obtain ⟨sd,hsd,hsl,hsg⟩:=opq Lab.d ls
  have hcs: (Ty.mk k n s l ls tail).cs=[.int .i64 k, .int .i64 n, .str s, .slice ld, .slice sd, .int .i64 tail]:=by simp only [Ty.cs,tysD_map,hld,hsd]
  rw [hcs]
  have hit0:=loop_seek (f:=evalI CI XB GI 44 false lp116_0) (σ:=σ++[.box [.int .i64 k, .int .i64 n, .str s, .slice ld, .slice sd, .int .i64 tail]]) ls (fun i=>[(1, .ptr σ.length 0),(23, .slice sd),(24, .int .i64 ls.length),(25, .int .i64 (i:Nat))]) (fun x=> !(x.n==0)) (fun _=>(.ret,[(2, .bool false)])) (.exit 0,[(1, .ptr σ.length 0),(23, .slice sd),(24, .int .i64 ls.length),(25, .int .i64 ls.length),(26, .bool false)]) (by simp) (by simp)
   (fun i hi τ=>by
     have hw:=wrap_nat (n:=i) (by unfold maxL at*;omega)
     obtain ⟨h2,h3⟩:=hsg i hi
     have hii: (i:Int) <ls.length:=by omega
     refine ⟨τ++[.box [.str ls[i].s, .int .i64 ls[i].n]], ?_⟩
     rw [←List.append_assoc]
     unfold Lab.d at h3
     generalize ls[i].s=xs at*
     generalize ls[i].n=xn at*
     generalize σ++[Obj.box [.int .i64 k, .int .i64 n, .str s, .slice ld, .slice sd, .int .i64 tail]]++τ=σ1 at*
     by_cases hx:xn=0
     ·subst hx
      simp [lp116_0,hi,hii,hw,h2,h3,getA0,setA0]
     ·have hx1: (xn==0)=false:=by simpa using hx
      have hx2: (xn != 0)=true:=by simpa using hx
      simp [lp116_0,hi,hii,hw,h2,h3,getA0,setA0,hx,hx1,hx2]) (fun τ=>⟨τ,by simp [lp116_0]⟩)
  have hit1:=loop_seek (f:=evalI CI XB GI 44 false lp116_1) (σ:=σ++[.box [.int .i64 k, .int .i64 n, .str s, .slice ld, .slice sd, .int .i64 tail]]) l (fun i=>[(34, .slice ld),(35, .int .i64 l.length),(36, .int .i64 (i:Nat))]) (fun x=> !(x.cl tailC)) (fun _=>(.ret,[(2, .bool false)])) (.exit 2,[(34, .slice ld),(35, .int .i64 l.length),(36, .int .i64 l.length),(37, .bool false)]) (by simp) (by simp)
   (fun i hi τ=>by
     have hw:=wrap_nat (n:=i) (by unfold maxL at*;omega)
     obtain ⟨h2,h3⟩:=hlg i hi
     have ih:=ih l[i] (List.getElem_mem hi)
     have hii: (i:Int) <l.length:=by omega
     have y1:=l[i].cs_len
     have y2:=l[i].cs_take
     have y3:l[i].cs.all D.one=true:=by cases l[i];rfl
     refine ⟨τ++[.box l[i].cs], ?_⟩
     rw [←List.append_assoc]
     unfold Ty.d at h3
     generalize l[i].cl tailC=b at*
     generalize l[i].cs=xc at*
     generalize σ++[Obj.box [.int .i64 k, .int .i64 n, .str s, .slice ld, .slice sd, .int .i64 tail]]++τ=σ1 at*
     cases b<;>simp [lp116_1,hi,hii,hw,h2,h3,getA0,setA0,y1,y2,y3,ih]) (fun τ=>⟨τ,by simp [lp116_1]⟩)
  rw [Int.natCast_zero] at hit0 hit1
  obtain ⟨τ,hit0⟩:=hit0 []
  rw [List.append_nil] at hit0
  obtain ⟨τ',hit1⟩:=hit1 τ
  have hf0:=find_all ls (fun x=>x.n==0)
  have hf1:=find_all l (fun t=>t.cl tailC)
  obtain ⟨τ2,hτ⟩: ∃τ2,bodyI CI XB GI af116 [.agg [.int .i64 k, .int .i64 n, .str s, .slice ld, .slice sd, .int .i64 tail]] σ=some (.ret (.bool ((Ty.mk k n s l ls tail).cl tailC)),σ++τ2):=by
   rw [Ty.cl_eq2,←hf0,←hf1]
   have rest: (k==0)=false→((k==5)&&(tail != -1))=false→ ∃τ2,bodyI CI XB GI af116 [.agg [.int .i64 k, .int .i64 n, .str s, .slice ld, .slice sd, .int .i64 tail]] σ=some (.ret (.bool ((ls.find? (fun a=> !(a.n==0))).isNone&&(l.find? (fun a=> !(a.cl tailC))).isNone)),σ++τ2):=by
    intro hk hk5
    have hg: ∀y,(σ++[Obj.box [.int .i64 k, .int .i64 n, .str s, .slice ld, .slice sd, .int .i64 tail]]++y)[σ.length]? =some (.box [.int .i64 k, .int .i64 n, .str s, .slice ld, .slice sd, .int .i64 tail]):=fun y=>by rw [List.append_assoc];exact getA0
    have hg0:=hg []
    rw [List.append_nil] at hg0
    cases hc0:ls.find? (fun a=> !(a.n==0)) with
    |some a=>
     rw [hc0] at hit0
     refine ⟨[.box [.int .i64 k, .int .i64 n, .str s, .slice ld, .slice sd, .int .i64 tail]]++τ, ?_⟩
     rw [←List.append_assoc]
     cases h5:k==5
     ·simp [bodyI,af116,getA0,hk,h5,hll,hsl,hit0]
     ·rw [h5] at hk5
      have ht: (tail != -1)=false:=by simpa using hk5
      simp [bodyI,af116,getA0,hk,h5,ht,hll,hsl,hit0]
    |none=>
     rw [hc0] at hit0
     have hg1:=hg τ
     refine ⟨[.box [.int .i64 k, .int .i64 n, .str s, .slice ld, .slice sd, .int .i64 tail]]++τ', ?_⟩
     rw [←List.append_assoc]
     generalize σ++[Obj.box [.int .i64 k, .int .i64 n, .str s, .slice ld, .slice sd, .int .i64 tail]]++τ=σ1 at*
     generalize σ++[Obj.box [.int .i64 k, .int .i64 n, .str s, .slice ld, .slice sd, .int .i64 tail]]++τ'=σ2 at*
     cases hc1:l.find? (fun a=> !(a.cl tailC)) with
     |some a=>
      rw [hc1] at hit1
      cases h5:k==5
      ·simp [bodyI,af116,getA0,hk,h5,hll,hsl,hit0,hg1,hit1]
      ·rw [h5] at hk5
       have ht: (tail != -1)=false:=by simpa using hk5
       simp [bodyI,af116,getA0,hk,h5,ht,hll,hsl,hit0,hg1,hit1]
     |none=>
      rw [hc1] at hit1
      cases h5:k==5
      ·simp [bodyI,af116,getA0,hk,h5,hll,hsl,hit0,hg1,hit1]
      ·rw [h5] at hk5
       have ht: (tail != -1)=false:=by simpa using hk5
       simp [bodyI,af116,getA0,hk,h5,ht,hll,hsl,hit0,hg1,hit1]
   unfold tailC at*
   cases hk:k==0
   ·cases hk5: (k==5)&&(tail != -1)
    ·obtain ⟨τ2,h⟩:=rest hk hk5
     exact ⟨τ2,by rw [h];rfl⟩
    ·obtain ⟨h5,ht⟩:=Bool.and_eq_true_iff.1 hk5
     refine ⟨[.box [.int .i64 k, .int .i64 n, .str s, .slice ld, .slice sd, .int .i64 tail]], ?_⟩
     simp [bodyI,af116,getA0,hk,h5,ht]
   ·refine ⟨[.box [.int .i64 k, .int .i64 n, .str s, .slice ld, .slice sd, .int .i64 tail]], ?_⟩
    simp [bodyI,af116,getA0,hk]
  exact CI_tree tab116 hτ rfl rfl
termination_by t=>SizeOf.sizeOf t
decreasing_by
 have:=List.sizeOf_lt_of_mem hx
 simp only [Ty.mk.sizeOf_spec]
 omega
theorem it72_0 (k n:Int) (s:Bs) (ld:List D) (ls:List Lab) (hl:ls.length≤maxL) (tail:Int) (q:Nat) (σ:St) (hq:σ[q]? =some (.box [.int .i64 k, .int .i64 n, .str s, .slice ld, .slice (ls.map Lab.d), .int .i64 tail])): ∀ (m i:Nat),i+m=ls.length→ ∀b:Bool,
 iterI (evalI CI XB GI 56 false lp72_0) [(1, .ptr q 0),(3, .bool b),(4, .int .i64 (i:Nat))] σ=
  some (.exit 0,[(1, .ptr q 0),(3, .bool (b&&(ls.drop i).all fun x=>x.n==0)),(4, .int .i64 ls.length),(25, .bool false)],σ):=by
 obtain ⟨sd,hsd,hsl,hsg⟩:=opq Lab.d ls
 rw [hsd] at hq
 intro m
 induction m with
 |zero=>
  intro i hi b
  obtain rfl:i=ls.length:=by omega
  refine iterI_end ?_ (by simp)
  rw [List.drop_length]
  simp [lp72_0,hq,hsl]
 |succ m ih=>
  intro i hi b
  have hlt:i<ls.length:=by omega
  have hii: (i:Int) <ls.length:=by omega
  have hw:=wrap_nat (n:=i) (by unfold maxL at*;omega)
  obtain ⟨h2,h3⟩:=hsg i hlt
  rw [List.drop_eq_getElem_cons hlt,List.all_cons,←Bool.and_assoc,←ih (i+1) (by omega)]
  refine iterI_next ?_
  unfold Lab.d at h3
  generalize ls[i].s=xs at*
  generalize ls[i].n=xn at*
  cases b<;>simp [lp72_0,hq,hsl,hlt,hii,hw,h2,h3]
theorem c72: ∀ (t:Ty),t.ok→ ∀ (σ:St),CI (.fn 72) [.agg t.cs] σ=some (.ret (.bool (t.cl tailC)),σ)
 | .mk k n s l ls tail,hok,σ=>by
  obtain ⟨hl1,hl2,hl3⟩:=hok
  have ih:=fun x (hx:x ∈ l) σ=>c72 x (tysOk_mem hl3 hx) σ
  obtain ⟨ld,hld,hll,hlg⟩:=opq Ty.d l
  have hcs: (Ty.mk k n s l ls tail).cs=[.int .i64 k, .int .i64 n, .str s, .slice ld, .slice (ls.map Lab.d), .int .i64 tail]:=by simp only [Ty.cs,tysD_map,hld]
  rw [hcs]
  have hq: (σ++[Obj.box [.int .i64 k, .int .i64 n, .str s, .slice ld, .slice (ls.map Lab.d), .int .i64 tail]])[σ.length]? =some (.box [.int .i64 k, .int .i64 n, .str s, .slice ld, .slice (ls.map Lab.d), .int .i64 tail]):=getA0
  have it0:=it72_0 k n s ld ls hl2 tail σ.length _ hq ls.length 0 (by omega)
  rw [Int.natCast_zero,List.drop_zero] at it0
  have it1: ∀ (m i:Nat),i+m=l.length→ ∀b:Bool,∃j:Int,iterI (evalI CI XB GI 56 false lp72_1) [(1, .ptr σ.length 0),(3, .bool b),(5, .int .i64 (i:Nat))] (σ++[Obj.box [.int .i64 k, .int .i64 n, .str s, .slice ld, .slice (ls.map Lab.d), .int .i64 tail]])=
   some (.exit 2,[(1, .ptr σ.length 0),(3, .bool (b&&(l.drop i).all fun t=>t.cl tailC)),(5, .int .i64 j),(46, .bool false)],σ++[Obj.box [.int .i64 k, .int .i64 n, .str s, .slice ld, .slice (ls.map Lab.d), .int .i64 tail]]):=by
   intro m
   induction m with
   |zero=>
    intro i hi b
    obtain rfl:i=l.length:=by omega
    refine ⟨l.length,iterI_end ?_ (by simp)⟩
    rw [List.drop_length]
    generalize ls.map Lab.d=sd at*
    simp [lp72_1,hq,hll]
   |succ m ihm=>
    intro i hi b
    have hlt:i<l.length:=by omega
    have hii: (i:Int) <l.length:=by omega
    have hw:=wrap_nat (n:=i) (by unfold maxL at*;omega)
    cases b
    ·refine ⟨i,iterI_end ?_ (by simp)⟩
     generalize ls.map Lab.d=sd at*
     simp [lp72_1,hq,hll,hlt]
    ·obtain ⟨h2,h3⟩:=hlg i hlt
     have ih:=ih l[i] (List.getElem_mem hlt)
     have y1:=l[i].cs_len
     have y2:=l[i].cs_take
     obtain ⟨j,hj⟩:=ihm (i+1) (by omega) (l[i].cl tailC)
     refine ⟨j, ?_⟩
     rw [List.drop_eq_getElem_cons hlt,List.all_cons,Bool.true_and,←hj]
     refine iterI_next ?_
     clear hj it0
     unfold Ty.d at h3
     generalize l[i].cl tailC=b at*
     generalize l[i].cs=xc at*
     generalize ls.map Lab.d=sd at*
     generalize σ++[Obj.box [.int .i64 k, .int .i64 n, .str s, .slice ld, .slice sd, .int .i64 tail]]=σ1 at*
     simp [lp72_1,hq,hll,hlt,hii,hw,h2,h3,y1,y2,ih]
  have it1:=it1 l.length 0 (by omega)
  rw [Int.natCast_zero,List.drop_zero] at it1
  have hτ:bodyI CI XB GI af72 [.agg [.int .i64 k, .int .i64 n, .str s, .slice ld, .slice (ls.map Lab.d), .int .i64 tail]] σ=some (.ret (.bool ((Ty.mk k n s l ls tail).cl tailC)),σ++[Obj.box [.int .i64 k, .int .i64 n, .str s, .slice ld, .slice (ls.map Lab.d), .int .i64 tail]]):=by
   rw [Ty.cl_eq2]
   generalize (ls.all fun x=>x.n==0)=lb at*
   generalize (l.all fun t=>t.cl tailC)=tb at*
   generalize ls.map Lab.d=sd at*
   have fin: ∀b,b= !(k==0|| (k==5&&tailC tail))→(∀j:Int,iterI (evalI CI XB GI 56 false lp72_1) [(1, .ptr σ.length 0),(3, .bool (b&&lb)),(5, .int .i64 0)] (σ++[Obj.box [.int .i64 k, .int .i64 n, .str s, .slice ld, .slice sd, .int .i64 tail]])=
    some (.exit 2,[(1, .ptr σ.length 0),(3, .bool (b&&lb&&tb)),(5, .int .i64 j),(46, .bool false)],σ++[Obj.box [.int .i64 k, .int .i64 n, .str s, .slice ld, .slice sd, .int .i64 tail]])→
     bodyI CI XB GI af72 [.agg [.int .i64 k, .int .i64 n, .str s, .slice ld, .slice sd, .int .i64 tail]] σ=some (.ret (.bool (b&&lb&&tb)),σ++[Obj.box [.int .i64 k, .int .i64 n, .str s, .slice ld, .slice sd, .int .i64 tail]])):=by
    intro b hb j it1
    have it0:=it0 b
    unfold tailC at hb
    cases hk:k==0
    ·have hk': (k != 0)=true:=by rw [bne,hk];rfl
     cases h5:k==5
     ·have h5': (k != 5)=true:=by rw [bne,h5];rfl
      rw [hk,h5] at hb
      have hb:b=true:=hb
      subst hb
      simp only [Bool.true_and,Bool.false_and] at it0 it1 ⊢
      simp [bodyI,af72,getA0,hk',h5',it0,it1]
     ·have h5': (k != 5)=false:=by rw [bne,h5];rfl
      rw [hk,h5] at hb
      cases ht:tail== -1
      ·have ht': (tail != -1)=true:=by rw [bne,ht];rfl
       rw [ht'] at hb
       have hb:b=false:=hb
       subst hb
       simp only [Bool.true_and,Bool.false_and] at it0 it1 ⊢
       simp [bodyI,af72,getA0,hk',h5',ht,it0,it1]
      ·have ht': (tail != -1)=false:=by rw [bne,ht];rfl
       rw [ht'] at hb
       have hb:b=true:=hb
       subst hb
       simp only [Bool.true_and,Bool.false_and] at it0 it1 ⊢
       simp [bodyI,af72,getA0,hk',h5',ht,it0,it1]
    ·have hk': (k != 0)=false:=by rw [bne,hk];rfl
     rw [hk] at hb
     have hb:b=false:=hb
     subst hb
     simp only [Bool.true_and,Bool.false_and] at it0 it1 ⊢
     simp [bodyI,af72,getA0,hk',it0,it1]
   obtain ⟨j,hj⟩:=it1 ((!(k==0|| (k==5&&tailC tail)))&&lb)
   have:=fin _ rfl j hj
   rw [this,Bool.and_assoc]
  exact CI_tree tab72 hτ rfl rfl
termination_by t=>SizeOf.sizeOf t
decreasing_by
 have:=List.sizeOf_lt_of_mem hx
 simp only [Ty.mk.sizeOf_spec]
 omega
def Prg.tyE (p:Prg) (t:Ty):Int:=orE p.decls (orE t.chk (if t.cl tailC then t.ord p [] else 1))
theorem c65 (p:Prg) (m:CMap) (hok:p.ok) (t:Ty) (ht:t.ok) (tb:Nat) (σ:St) (hT:IsT σ tb p m):CI (.fn 65) [.ptr tb 0, .agg t.cs] σ=some (outR (p.tyE t),σ):=by
 have hT2:IsT (σ++[.box t.cs]) tb p m:=hT.app
 have h56:=c56 p m hok tb _ hT2
 have h60:=fun σ=>c60 t ht σ
 have h116:=fun σ=>c116 t ht σ
 have h112:=c112 p m hok.dl hok.el [] (by unfold maxL;simp) .empty (.inr ⟨rfl,rfl⟩) tb t ht _ hT2
 have y1:=t.cs_len
 have y2:=t.cs_take
 have y3:t.cs.all D.one=true:=by cases t;rfl
 refine CI_out tab65 (τ:=[.box t.cs]) ?_
 unfold Prg.tyE orE
 generalize p.decls=z1 at*
 generalize t.chk=z2 at*
 generalize t.cl tailC=b at*
 generalize t.ord p []=z3 at*
 generalize t.cs=tc at*
 by_cases h1:z1=0
 ·subst h1
  rw [outR_zero] at h56
  by_cases h2:z2=0
  ·subst h2
   cases b
   ·simp [bodyI,af65,getA0,y1,y2,y3,h56,h60,h116,c58,c59,outR]
   ·by_cases h3:z3=0
    ·subst h3
     rw [outR_zero] at h112
     simp [bodyI,af65,getA0,y1,y2,y3,h56,h60,h116,h112,c59,outR_zero]
    ·rw [outR_ne h3] at h112
     simp [bodyI,af65,getA0,y1,y2,y3,h56,h60,h116,h112,c59,outR_zero,outR_ne h3]
  ·rw [if_pos rfl,if_neg h2]
   simp [bodyI,af65,getA0,y1,y2,y3,h56,h60,c59,outR_ne h2]
 ·rw [if_neg h1]
  rw [outR_ne h1] at h56
  simp [bodyI,af65,getA0,y1,y2,y3,h56,outR_ne h1]
theorem c23 (p:Prg) (hok:p.ok) (t:Ty) (ht:t.ok) (σ:St):CI (.fn 23) [.agg p.cs, .agg t.cs] σ=some (.ret (.int .i64 (p.tyE t)),σ):=by
 have h29:=fun σ=>c29 p hok σ
 have h71:=fun σ=>c71 t ht σ
 have h72:=fun σ=>c72 t ht σ
 have h73:=fun σ=>c73 p hok.dl hok.el [] (by unfold maxL;simp) .empty (.inr ⟨rfl,rfl⟩) t ht σ
 have hall:=p.cs_all
 have hpl:=p.cs_len
 have hpt:=p.cs_take
 have y1:=t.cs_len
 have y2:=t.cs_take
 have y3:t.cs.all D.one=true:=by cases t;rfl
 have hτ:bodyI CI XB GI af23 [.agg p.cs, .agg t.cs] σ=some (.ret (.int .i64 (p.tyE t)),σ++[.box p.cs, .box t.cs]):=by
  unfold Prg.tyE orE
  by_cases h2:t.chk=0
  ·rw [Ty.ordR_eq p [] t (Ty.chk_e h2)] at h73
   rw [h2] at h71 ⊢
   generalize p.decls=z1 at*
   generalize t.cl tailC=b at*
   generalize t.ord p []=z3 at*
   generalize t.cs=tc at*
   generalize p.cs=pc at*
   by_cases h1:z1=0
   ·subst h1
    cases b<;>simp [bodyI,af23,getA0,getA,hall,hpl,hpt,y1,y2,y3,h29,h71,h72,h73]
   ·have h1': (z1==0)=false:=by simpa using h1
    simp [bodyI,af23,getA0,getA,hall,hpl,hpt,y1,y2,y3,h29,h1,h1']
  ·rw [if_neg h2]
   have h2': (t.chk==0)=false:=by simpa using h2
   generalize p.decls=z1 at*
   generalize t.chk=z2 at*
   generalize t.cs=tc at*
   generalize p.cs=pc at*
   by_cases h1:z1=0
   ·subst h1
    simp [bodyI,af23,getA0,getA,hall,hpl,hpt,y1,y2,y3,h29,h71,h2,h2']
   ·have h1': (z1==0)=false:=by simpa using h1
    simp [bodyI,af23,getA0,getA,hall,hpl,hpt,y1,y2,y3,h29,h1,h1']
 exact CI_tree tab23 hτ rfl rfl
mutual
def Ty.rep (params:List Bs) (args:List Ty):Ty→Ty
 | .mk k n s l ls tail=>if k=1∧0≤indexP params s then args.getD (indexP params s).toNat (.mk k n s l ls tail) else .mk k n s (tysRep params args l) ls tail
def tysRep (params:List Bs) (args:List Ty):List Ty→List Ty
 | []=>[]
 |t::r=>t.rep params args::tysRep params args r
end
theorem tysRep_map (params:List Bs) (args:List Ty): ∀ (l:List Ty),tysRep params args l=l.map (Ty.rep params args)
 | []=>rfl
 |t::r=>by simp only [tysRep,List.map_cons,tysRep_map params args r]
mutual
def Ty.small:Ty→Prop
 | .mk k _ _ l ls _=>l.length≤4∧ls.length≤24∧(k=1→l=[])∧tysSmall l
def tysSmall:List Ty→Prop
 | []=>True
 |t::r=>t.small∧tysSmall r
end
theorem tysSmall_mem: ∀ {l:List Ty} {t:Ty},tysSmall l→t ∈ l→t.small
 |_::_,_,h, .head _=>h.1
 |_::_,_,h, .tail _ hm=>tysSmall_mem h.2 hm
theorem tnode_few {k n:Int} {s:Bs} {len:Nat} {ls:List Lab} {tail:Int} (h:tnodeE k n s len ls tail=0):len≤4∧(k=1→len=0):=by
 unfold tnodeE at h
 split at h
 ·cases h
 split at h
 ·cases h
 split at h
 ·cases h
 rename_i _ _ hr
 rw [Bool.not_eq_true,Bool.not_eq_false'] at hr
 unfold inR mostT leastT at hr
 simp only [Bool.and_eq_true,decide_eq_true_eq] at hr
 constructor
 ·split at hr<;>(try split at hr)<;>omega
 ·intro hk
  subst hk
  simp at hr
  omega
mutual
theorem Ty.small_of: ∀ (t:Ty) (n d:Int),t.e=0→0≤n→0≤t.left n d→t.small
 | .mk k m s l ls tail,n,d,he,hn,hl=>by
  simp only [Ty.e] at he
  simp only [Ty.left] at hl
  split at he
  ·rename_i ht
   obtain ⟨f1,f2⟩:=tnode_few ht
   split at hl
   ·omega
   ·rename_i hd
    refine ⟨f1,by omega,fun hk=>List.length_eq_zero_iff.1 (f2 hk), ?_⟩
    by_cases hz:n - 1<0
    ·rw [tysLeft_neg _ _ _ hz] at hl;omega
    ·exact tysSmall_of2 l (n - 1) (d - 1) he (by omega) hl
  ·rename_i ht;exact absurd he ht
theorem tysSmall_of2: ∀ (l:List Ty) (n d:Int),tysE l=0→0≤n→0≤tysLeft l n d→tysSmall l
 | [],_,_,_,_,_=>trivial
 |t::r,n,d,he,hn,hl=>by
  simp only [tysE] at he
  simp only [tysLeft] at hl
  rw [if_pos hn] at hl
  split at he
  ·rename_i ht
   by_cases hz:t.left n d<0
   ·rw [tysLeft_neg _ _ _ hz] at hl;omega
   ·exact ⟨Ty.small_of t n d ht hn (by omega),tysSmall_of2 r _ d he (by omega) hl⟩
  ·rename_i ht;exact absurd he ht
end
theorem Ty.small_chk {t:Ty} (h:t.chk=0):t.small:=by
 have he:=Ty.chk_e h
 rw [t.chk_left] at h
 split at h
 ·cases h
 ·exact Ty.small_of t 3000 200 he (by omega) (by omega)
mutual
theorem Ty.rep_nil: ∀ (t:Ty),t.rep [] []=t
 | .mk k n s l ls tail=>by
  simp only [Ty.rep]
  have: ¬(k=1∧0≤indexP [] s):=by
   rintro ⟨_,h⟩
   unfold indexP at h
   simp at h
  rw [if_neg this,tysRep_nil l]
theorem tysRep_nil: ∀ (l:List Ty),tysRep [] [] l=l
 | []=>rfl
 |t::r=>by simp only [tysRep,t.rep_nil,tysRep_nil r]
end
theorem k89 {pd:D} {l:List Bs} (h:StrsD pd l) (hl:l.length≤maxL) (s:Bs) (σ:St):CI (.fn 89) [pd, .str s] σ=some (.ret (.int .i64 (indexP l s)),σ):=by
 rcases h with rfl| ⟨rfl,rfl⟩
 ·exact c89 l s σ hl
 ·refine CI_tree0 tab89 (d:= .int .i64 (-1)) ?_ rfl rfl
  have hit:iterI (evalI CI XB GI 19 false lp89_0) [(0, .empty),(1, .str s),(7, .int .i64 0),(8, .int .i64 0)] σ=some (.exit 0,[(0, .empty),(1, .str s),(7, .int .i64 0),(8, .int .i64 0),(9, .bool false)],σ):=iterI_end (by simp [lp89_0]) (by simp)
  simp [bodyI,af89,hit]
theorem indexP_lt (l:List Bs) (s:Bs) (h:0≤indexP l s): ∃i:Nat,indexP l s=i∧i<l.length:=by
 unfold indexP at*
 cases hf:l.findIdx? (· ==s) with
 |none=>rw [hf] at h;simp at h
 |some i=>exact ⟨i,rfl,(List.findIdx?_eq_some_iff_getElem.1 hf).1⟩
def datIx (p:Prg) (s:Bs):Nat:=(idxOf (fun x:Dat=>x.name==s) p.data).toNat
mutual
def Ty.has (p:Prg) (params:List Bs) (T:Nat→Nat→Bool) (set:Nat):Ty→Bool
 | .mk k _ s l _ _=>if k=1 then (set / 2 ^ (indexP params s).toNat) % 2==1 else if k=6 then T (datIx p s) (tysBits p params T set l) else true
def tysBits (p:Prg) (params:List Bs) (T:Nat→Nat→Bool) (set:Nat):List Ty→Nat
 | []=>0
 |t::r=>(if t.has p params T set then 1 else 0) +2*tysBits p params T set r
end
def bitsL:List Bool→Nat
 | []=>0
 |b::r=>(if b then 1 else 0) +2*bitsL r
theorem tysBits_map (p:Prg) (params:List Bs) (T:Nat→Nat→Bool) (set:Nat): ∀ (l:List Ty),tysBits p params T set l=bitsL (l.map fun t=>t.has p params T set)
 | []=>rfl
 |t::r=>by simp only [tysBits,List.map_cons,bitsL,tysBits_map p params T set r]
theorem bitsL_lt: ∀ (l:List Bool),bitsL l<2 ^ l.length
 | []=>by simp [bitsL]
 |b::r=>by
  have:=bitsL_lt r
  simp only [bitsL,List.length_cons,Nat.pow_succ]
  split<;>omega
theorem bitsL_snoc: ∀ (l:List Bool) (b:Bool),bitsL (l++[b])=bitsL l+ (if b then 2 ^ l.length else 0)
 | [],b=>by cases b<;>rfl
 |a::r,b=>by
  simp only [List.cons_append,bitsL,bitsL_snoc r b,List.length_cons,Nat.pow_succ]
  cases b<;>simp<;>omega
def tabC (T:Nat→Nat→Bool):List D:=(List.range 192).map fun j=> .int .i64 (if T (j / 16) (j % 16) then 1 else 0)
theorem tabC_len (T:Nat→Nat→Bool): (tabC T).length=192:=by simp [tabC]
theorem tabC_get (T:Nat→Nat→Bool) (i s:Nat) (hi:i<12) (hs:s<16): (tabC T)[i*16+s]? =some (.int .i64 (if T i s then 1 else 0)):=by
 unfold tabC
 rw [List.getElem?_map,List.getElem?_range (by omega)]
 have h1: (i*16+s) / 16=i:=by omega
 have h2: (i*16+s) % 16=s:=by omega
 simp only [Option.map_some,h1,h2]
theorem or_fact: ∀ (i:Fin 4) (own:Fin 16),own.val<2 ^ i.val→IntKind.i64.wrap ((BitVec.ofNat 64 own.val|||BitVec.ofInt 64 (2 ^ i.val:Int)).toNat:Int)=(own.val:Int) +2 ^ i.val:=by decide+kernel
theorem shl_fact: ∀ (i:Fin 5),IntKind.i64.wrap (2 ^ (min i.val 64))=2 ^ i.val:=by decide+kernel
theorem shr_fact: ∀ (j:Fin 4) (set:Fin 16),IntKind.i64.wrap ((BitVec.ofInt 64 ((set.val:Int).fdiv (2 ^ (min j.val 64)))&&& 1#64).toNat:Int)=((set.val / 2 ^ j.val % 2:Nat):Int):=by decide+kernel
theorem ord_param {p:Prg} {params:List Bs} {s:Bs} {len:Nat} {ls:List Lab} (h:ordN p params 1 s len ls=0):0≤indexP params s:=by
 unfold ordN at h
 simp at h
 have h1:=indexP_ge params s
 rw [show params.contains s=true from h] at h1
 simpa using h1
theorem ord_data {p:Prg} {params:List Bs} {s:Bs} {len:Nat} {ls:List Lab} (h:ordN p params 6 s len ls=0): ∃i:Nat,idxOf (fun x:Dat=>x.name==s) p.data=i∧datIx p s=i∧ ∃hi:i<p.data.length,p.data[i].params.length=len:=by
 unfold ordN at h
 rw [if_neg (by decide),if_pos rfl] at h
 rcases idxOf_find (fun x:Dat=>x.name==s) p.data with ⟨_,hf⟩ | ⟨i,hi,hil,hf,_⟩
 ·rw [hf] at h;cases h
 ·rw [hf] at h
  simp only at h
  refine ⟨i,hi,by unfold datIx;rw [hi];rfl,hil, ?_⟩
  split at h
  ·assumption
  ·cases h
theorem ord_parts {p:Prg} {params:List Bs} {k n:Int} {s:Bs} {l:List Ty} {ls:List Lab} {tail:Int} (h: (Ty.mk k n s l ls tail).ord p params=0):ordN p params k s l.length ls=0∧ ∀t ∈ l,t.ord p params=0:=by
 simp only [Ty.ord] at h
 split at h
 ·rename_i h0
  rw [tysOrd_first,firstE_zero] at h
  exact ⟨h0,fun t ht=>h _ (List.mem_map_of_mem ht)⟩
 ·rename_i h0;exact absurd h h0
set_option maxHeartbeats 1000000 in
theorem c66 (p:Prg) (m:CMap) (hdl:p.data.length≤12) (T:Nat→Nat→Bool) (params:List Bs) (hpl:params.length≤4) (pd:D) (hpd:StrsD pd params) (set:Nat) (hset:set<16) (tb f:Nat):
 ∀ (t:Ty),t.small→t.ord p params=0→ ∀ (σ:St),IsT σ tb p m→σ[f]? =some (.box (tabC T))→CI (.fn 66) [.ptr tb 0, .ptr f 0, .agg t.cs,pd, .int .i64 set] σ=some (.ret (.bool (t.has p params T set)),σ)
 | .mk k n s l ls tail,hsm,hord,σ,hT,hf=>by
  obtain ⟨hl4,_,_,hls⟩:=hsm
  obtain ⟨ho,hop⟩:=ord_parts hord
  have ih:=fun x (hx:x ∈ l) σ=>c66 p m hdl T params hpl pd hpd set hset tb f x (tysSmall_mem hls hx) (hop x hx) σ
  obtain ⟨ld,hld,hll,hlg⟩:=opq Ty.d l
  obtain ⟨sd,hsd,hsl,hsg⟩:=opq Lab.d ls
  have hcs: (Ty.mk k n s l ls tail).cs=[.int .i64 k, .int .i64 n, .str s, .slice ld, .slice sd, .int .i64 tail]:=by simp only [Ty.cs,tysD_map,hld,hsd]
  rw [hcs]
  suffices h: ∃τ,bodyI CI XB GI af66 [.ptr tb 0, .ptr f 0, .agg [.int .i64 k, .int .i64 n, .str s, .slice ld, .slice sd, .int .i64 tail],pd, .int .i64 set] σ=some (.ret (.bool ((Ty.mk k n s l ls tail).has p params T set)),σ++τ) by
   obtain ⟨τ,h⟩:=h
   exact CI_tree tab66 h rfl rfl
  simp only [Ty.has]
  by_cases k1:k=1
  ·subst k1
   obtain ⟨j,hj,hjl⟩:=indexP_lt params s (ord_param ho)
   have h89:=fun σ=>k89 hpd (by unfold maxL;omega) s σ
   rw [hj] at h89
   refine ⟨[.box [.int .i64 1, .int .i64 n, .str s, .slice ld, .slice sd, .int .i64 tail]], ?_⟩
   have hsh:=shr_fact ⟨j,by omega⟩ ⟨set,hset⟩
   have hj0: ¬(j:Int) <0:=by omega
   rw [if_pos rfl,hj]
   simp only at hsh
   have hb: (((set / 2 ^ j % 2:Nat):Int) ==1)=(set / 2 ^ j % 2==1):=by
    rw [Bool.eq_iff_iff,beq_iff_eq,beq_iff_eq];omega
   have e0: ((j:Int)).toNat=j:=by omega
   rw [e0]
   generalize set / 2 ^ j % 2=v at*
   simp [bodyI,af66,getA0,getA,h89,arithD,intArith,hj0,IntKind.bits]
   exact (congrArg (fun z=>z==(1:Int)) hsh).trans hb
  rw [if_neg k1]
  have b1: (k==1)=false:=by simpa using k1
  by_cases k6:k=6
  rotate_left
  ·rw [if_neg k6]
   have b6: (k==6)=false:=by simpa using k6
   refine ⟨[.box [.int .i64 k, .int .i64 n, .str s, .slice ld, .slice sd, .int .i64 tail]], ?_⟩
   simp [bodyI,af66,getA0,getA,b1,b6]
  subst k6
  rw [if_pos rfl]
  obtain ⟨i,hi,hix,hil,_⟩:=ord_data ho
  have h117:=fun σ hT=>c117 p m (by unfold maxL;omega) s tb σ hT
  have hit:=loop_seek (f:=evalI CI XB GI 58 false lp66_0) (σ:=σ++[.box [.int .i64 6, .int .i64 n, .str s, .slice ld, .slice sd, .int .i64 tail]]) l (fun i=>[(0, .ptr tb 0),(1, .ptr f 0),(3,pd),(4, .int .i64 set),(7, .ptr σ.length 0),(11, .int .i64 (bitsL ((l.take i).map fun t=>t.has p params T set):Nat)),(29, .slice ld),(30, .int .i64 l.length),(31, .int .i64 (i:Nat))]) (fun _=>false) (fun _=>(.ret,[]))
   (.exit 1,[(0, .ptr tb 0),(1, .ptr f 0),(3,pd),(4, .int .i64 set),(7, .ptr σ.length 0),(11, .int .i64 (bitsL ((l.take l.length).map fun t=>t.has p params T set):Nat)),(29, .slice ld),(30, .int .i64 l.length),(31, .int .i64 l.length),(32, .bool false)]) (by simp) (by simp)
   (fun j hj τ=>by
     have hw:=wrap_nat (n:=j) (by omega)
     obtain ⟨h2,h3⟩:=hlg j hj
     have hjj: (j:Int) <l.length:=by omega
     have y1:=l[j].cs_len
     have y2:=l[j].cs_take
     have y3:l[j].cs.all D.one=true:=by cases l[j];rfl
     have ih:=ih l[j] (List.getElem_mem hj) (σ++[.box [.int .i64 6, .int .i64 n, .str s, .slice ld, .slice sd, .int .i64 tail]]++τ++[.box l[j].cs]) hT.app.app.app (getO (getO (getO hf)))
     refine ⟨τ++[.box l[j].cs], ?_⟩
     rw [←List.append_assoc]
     have htk: (l.take (j+1)).map (fun t=>t.has p params T set)=(l.take j).map (fun t=>t.has p params T set)++[l[j].has p params T set]:=by
      rw [List.take_succ_eq_append_getElem hj,List.map_append];rfl
     have hlt:=bitsL_lt ((l.take j).map fun t=>t.has p params T set)
     have htl: ((l.take j).map fun t=>t.has p params T set).length=j:=by simp;omega
     rw [htk,bitsL_snoc]
     rw [htl] at hlt ⊢
     unfold Ty.d at h3
     generalize bitsL ((l.take j).map fun t=>t.has p params T set)=own at*
     generalize l[j].has p params T set=b at*
     generalize l[j].cs=xc at*
     generalize σ++[Obj.box [.int .i64 6, .int .i64 n, .str s, .slice ld, .slice sd, .int .i64 tail]]++τ=σ1 at*
     have hp4:2 ^ j≤16:=by
      have:2 ^ j≤2 ^ 4:=Nat.pow_le_pow_right (by omega) (by omega)
      omega
     have hor:=or_fact ⟨j,by omega⟩ ⟨own,by omega⟩ hlt
     have hsh:=shl_fact ⟨j,by omega⟩
     simp only at hor hsh
     have hj0: ¬(j:Int) <0:=by omega
     have e0: ((j:Int)).toNat=j:=by omega
     have ecast: ((2 ^ j:Nat):Int)=2 ^ j:=by simp
     cases b
     ·simp [lp66_0,hj,hjj,hw,h2,h3,y1,y2,y3,getA0,setA0,ih]
     ·simp [lp66_0,hj,hjj,hw,h2,h3,y1,y2,y3,getA0,setA0,ih,arithD,intArith,hj0,hsh,IntKind.bits]
      exact hor) (fun τ=>⟨τ,by simp [lp66_0]⟩) []
  obtain ⟨τ,hit⟩:=hit
  rw [List.find?_eq_none.2 (by simp),List.append_nil,Int.natCast_zero,List.take_zero,List.take_length] at hit
  simp only [List.map_nil,bitsL,Int.natCast_zero] at hit
  rw [hix,tysBits_map]
  have hlt:=bitsL_lt (l.map fun t=>t.has p params T set)
  rw [List.length_map] at hlt
  have hp4:2 ^ l.length≤2 ^ 4:=Nat.pow_le_pow_right (by omega) (by omega)
  have hown:bitsL (l.map fun t=>t.has p params T set) <16:=by omega
  refine ⟨[.box [.int .i64 6, .int .i64 n, .str s, .slice ld, .slice sd, .int .i64 tail]]++τ, ?_⟩
  rw [←List.append_assoc]
  have hT2:IsT (σ++[Obj.box [.int .i64 6, .int .i64 n, .str s, .slice ld, .slice sd, .int .i64 tail]]++τ) tb p m:=hT.app.app
  have h117:=h117 _ hT2
  rw [hi] at h117
  have hf2: (σ++[Obj.box [.int .i64 6, .int .i64 n, .str s, .slice ld, .slice sd, .int .i64 tail]]++τ)[f]? =some (.box (tabC T)):=getO (getO hf)
  have hx2: (σ++[Obj.box [.int .i64 6, .int .i64 n, .str s, .slice ld, .slice sd, .int .i64 tail]]++τ)[σ.length]? =some (.box [.int .i64 6, .int .i64 n, .str s, .slice ld, .slice sd, .int .i64 tail]):=by rw [List.append_assoc];exact getA0
  have hti:=tabC_get T i (bitsL (l.map fun t=>t.has p params T set)) (by omega) hown
  generalize bitsL (l.map fun t=>t.has p params T set)=own at*
  generalize T i own=b at*
  have htl:=tabC_len T
  have q117:qI 117=true:=rfl
  have x117:XB 117=false:=rfl
  have hi12: (i:Int) <12:=by omega
  have ho16: (own:Int) <16:=by omega
  have hi0: (0:Int)≤i:=by omega
  have hhd: (List.drop (i*16+own) (tabC T)).head?=some (.int .i64 (if b then 1 else 0)):=by rw [List.head?_drop];exact hti
  generalize tabC T=tc at*
  generalize σ++[Obj.box [.int .i64 6, .int .i64 n, .str s, .slice ld, .slice sd, .int .i64 tail]]++τ=σ2 at*
  cases b<;>simp [bodyI,af66,getA0,getA,hll,hit,hf2,hx2,h117,hi12,ho16,hi0,hhd,hti,q117,x117,Nat.testBit_eq_decide_div_mod_eq]
termination_by t=>SizeOf.sizeOf t
decreasing_by
 have:=List.sizeOf_lt_of_mem hx
 simp only [Ty.mk.sizeOf_spec]
 omega
def conHas (p:Prg) (params:List Bs) (T:Nat→Nat→Bool) (set:Nat) (c:Con):Bool:=c.args.all fun x=>x.has p params T set
theorem seekM_all {α:Type} (q:α→Bool): ∀ (l:List α) (i:Nat),(l.all q=true∧seekM (fun i a=>if q a then none else some i) l i=none)∨(l.all q=false∧ ∃j,seekM (fun i a=>if q a then none else some i) l i=some j)
 | [],_=> .inl ⟨rfl,rfl⟩
 |a::r,i=>by
  rw [List.all_cons]
  simp only [seekM]
  cases hq:q a
  ·exact .inr ⟨rfl,i,by simp⟩
  ·simp only [if_true,Bool.true_and]
   exact seekM_all q r (i+1)
abbrev b67 (tb n0 dq:Nat) (v4 v6 v8 v24 v25 v26 v34 v35 v39 v40 v41:D):Env:=[(0, .ptr tb 0),(3, .ptr n0 0),(4,v4),(6,v6),(7, .ptr dq 0),(8,v8),(24,v24),(25,v25),(26,v26),(34,v34),(35,v35),(39,v39),(40,v40),(41,v41)]
set_option maxHeartbeats 2000000 in
theorem it67_0 (p:Prg) (m:CMap) (hdl:p.data.length≤12) (T:Nat→Nat→Bool) (params:List Bs) (hpl:params.length≤4) (set:Nat) (hset:set<16) (tb n0 dq:Nat) (dn:Bs) (dc:D) (v4 v6 v24 v25 v26 v34 v35 v39 v40 v41:D)
 (l:List Ty) (hl:l.length≤4) (hls: ∀x ∈ l,x.small∧x.ord p params=0) (σ:St) (hT:IsT σ tb p m) (hn:σ[n0]? =some (.box (tabC T))) (hd:σ[dq]? =some (.box [.str dn,slD params,dc])):
 (l.all (fun x=>x.has p params T set)=true∧ ∃τ,iterI (evalI CI XB GI 67 false lp67_0) (b67 tb n0 dq v4 v6 (.int .i64 set) v24 v25 v26 v34 v35 v39 v40 v41++[(46, .slice (l.map Ty.d)),(47, .int .i64 l.length),(48, .int .i64 (0:Nat))]) σ=
   some (.exit 8,b67 tb n0 dq v4 v6 (.int .i64 set) v24 v25 v26 v34 v35 v39 v40 v41++[(46, .slice (l.map Ty.d)),(47, .int .i64 l.length),(48, .int .i64 l.length),(49, .bool false)],σ++τ))∨
 (l.all (fun x=>x.has p params T set)=false∧ ∃τ,∃j:Nat,iterI (evalI CI XB GI 67 false lp67_0) (b67 tb n0 dq v4 v6 (.int .i64 set) v24 v25 v26 v34 v35 v39 v40 v41++[(46, .slice (l.map Ty.d)),(47, .int .i64 l.length),(48, .int .i64 (0:Nat))]) σ=
   some (.exit 7,b67 tb n0 dq v4 v6 (.int .i64 set) v24 v25 v26 v34 v35 v39 v40 v41++[(46, .slice (l.map Ty.d)),(47, .int .i64 l.length),(48, .int .i64 j),(58, .bool true)],σ++τ)):=by
 obtain ⟨ld,hld,hll,hlg⟩:=opq Ty.d l
 rw [hld]
 have hit:=loop_seekM (f:=evalI CI XB GI 67 false lp67_0) (σ:=σ) l (fun i=>b67 tb n0 dq v4 v6 (.int .i64 set) v24 v25 v26 v34 v35 v39 v40 v41++[(46, .slice ld),(47, .int .i64 l.length),(48, .int .i64 (i:Nat))]) (fun i a=>if a.has p params T set then none else some i)
  (fun j=>(.exit 7,b67 tb n0 dq v4 v6 (.int .i64 set) v24 v25 v26 v34 v35 v39 v40 v41++[(46, .slice ld),(47, .int .i64 l.length),(48, .int .i64 (j:Nat)),(58, .bool true)]))
  (.exit 8,b67 tb n0 dq v4 v6 (.int .i64 set) v24 v25 v26 v34 v35 v39 v40 v41++[(46, .slice ld),(47, .int .i64 l.length),(48, .int .i64 l.length),(49, .bool false)]) (by simp) (by simp)
  (fun j hj τ=>by
    have hw:=wrap_nat (n:=j) (by omega)
    obtain ⟨h2,h3⟩:=hlg j hj
    have hjj: (j:Int) <l.length:=by omega
    have y1:=l[j].cs_len
    have y2:=l[j].cs_take
    have y3:l[j].cs.all D.one=true:=by cases l[j];rfl
    obtain ⟨hsm,hord⟩:=hls l[j] (List.getElem_mem hj)
    have h66:=c66 p m hdl T params hpl (slD params) (.inl rfl) set hset tb n0 l[j] hsm hord (σ++τ++[.box l[j].cs]) hT.app.app (getO (getO hn))
    have y4:eqbL l[j].cs l[j].cs=true:=eqbL_tree _ l[j].plain.1
    have p4: (slD params).eqb (slD params)=true:=D.eqb_tree _ (plain_strs _).1
    have g1: ∀y,(σ++τ++y)[dq]? =some (.box [.str dn,slD params,dc]):=fun y=>getO (getO hd)
    refine ⟨τ++[.box l[j].cs], ?_⟩
    rw [←List.append_assoc]
    unfold Ty.d at h3
    have x66:XB 66=false:=rfl
    have q66:qI 66=false:=rfl
    generalize slD params=pd at*
    generalize l[j].cs=xc at*
    generalize σ++τ=σ1 at*
    generalize l[j].has p params T set=b at*
    cases b<;>simp [lp67_0,hj,hjj,hw,hll,h2,h3,y1,y2,y3,getA0,getA,setA0,setA,h66,g1,x66,q66,y4,p4,Nat.testBit_eq_decide_div_mod_eq]) (fun τ=>⟨τ,by simp [lp67_0]⟩) []
 obtain ⟨τ,hit⟩:=hit
 rw [List.append_nil] at hit
 rcases seekM_all (fun x:Ty=>x.has p params T set) l 0 with ⟨h1,h2⟩ | ⟨h1,j,h2⟩
 ·rw [h2] at hit
  exact .inl ⟨h1,τ,hit⟩
 ·rw [h2] at hit
  exact .inr ⟨h1,τ,j,hit⟩
def setT (T:Nat→Nat→Bool) (i s:Nat):Nat→Nat→Bool:=fun a b=>if a=i∧b=s then true else T a b
theorem setT_setT (T:Nat→Nat→Bool) (i s:Nat):setT (setT T i s) i s=setT T i s:=by
 funext a b;unfold setT;split<;>rfl
theorem tabC_at (T:Nat→Nat→Bool) (j:Nat) (hj:j<192): (tabC T)[j]? =some (.int .i64 (if T (j / 16) (j % 16)=true then 1 else 0)):=by
 unfold tabC
 rw [List.getElem?_map,List.getElem?_range hj]
 rfl
theorem tabC_set (T:Nat→Nat→Bool) (i s:Nat) (hi:i<12) (hs:s<16): (tabC T).take (i*16+s)++D.int .i64 1::(tabC T).drop (i*16+s+1)=tabC (setT T i s):=by
 have hl:=tabC_len T
 have h: (tabC T).take (i*16+s)++D.int .i64 1::(tabC T).drop (i*16+s+1)=(tabC T).set (i*16+s) (.int .i64 1):=by
  rw [List.set_eq_take_append_cons_drop,if_pos (by omega)]
 rw [h]
 apply List.ext_getElem?
 intro j
 rw [List.getElem?_set]
 by_cases hj:j<192
 ·rw [tabC_at _ j hj,tabC_at _ j hj]
  unfold setT
  split
  ·rename_i he
   rw [if_pos (by omega),if_pos (show j / 16=i∧j % 16=s by omega),if_pos rfl]
  ·rename_i he
   rw [if_neg (c:=j / 16=i∧j % 16=s) (by omega)]
 ·rw [if_neg (by omega),List.getElem?_eq_none (by rw [tabC_len];omega),List.getElem?_eq_none (by rw [tabC_len];omega)]
def S67 (σ:St) (bl:Obj) (τ0:St) (T:Nat→Nat→Bool):St:=σ++Obj.box (tabC T)::bl::τ0
theorem S67_get {σ:St} {bl:Obj} {τ0:St} {T:Nat→Nat→Bool} (y:St): (S67 σ bl τ0 T++y)[σ.length]? =some (.box (tabC T)):=by
 unfold S67;simp
theorem S67_set {σ:St} {bl:Obj} {τ0:St} {T T':Nat→Nat→Bool} (y:St): (S67 σ bl τ0 T++y).set σ.length (.box (tabC T'))=S67 σ bl τ0 T'++y:=by
 unfold S67;simp
theorem S67_isT {σ:St} {bl:Obj} {τ0:St} {T:Nat→Nat→Bool} {tb:Nat} {p:Prg} {m:CMap} (h:IsT σ tb p m):IsT (S67 σ bl τ0 T) tb p m:=h.app
def conStep (p:Prg) (params:List Bs) (i set:Nat) (T:Nat→Nat→Bool) (c:Con):Nat→Nat→Bool:=if conHas p params T set c then setT T i set else T
set_option maxHeartbeats 4000000 in
theorem rnd67_1 (p:Prg) (m:CMap) (hdl:p.data.length≤12) (T:Nat→Nat→Bool) (params:List Bs) (hpl:params.length≤4) (set di:Nat) (hset:set<16) (hdi:di<12) (tb dq:Nat) (dn:Bs) (dc:D) (v4 v24 v25 v26 v34 v35:D)
 (l:List Con) (hll:l.length≤100) (hls: ∀c ∈ l,c.args.length≤4∧ ∀x ∈ c.args,x.small∧x.ord p params=0) (σ:St) (bl:Obj) (τ0:St) (hT:IsT σ tb p m) (hd: ∀T y,(S67 σ bl τ0 T++y)[dq]? =some (.box [.str dn,slD params,dc])) (k:Nat) (hk:k<l.length) (τ:St):
 ∃τ',evalI CI XB GI 67 false lp67_1 (b67 tb σ.length dq v4 (.int .i64 di) (.int .i64 set) v24 v25 v26 v34 v35 (.slice (l.map Con.d)) (.int .i64 l.length) (.int .i64 (k:Nat))) (S67 σ bl τ0 T++τ)=
  some (.normal,b67 tb σ.length dq v4 (.int .i64 di) (.int .i64 set) v24 v25 v26 v34 v35 (.slice (l.map Con.d)) (.int .i64 l.length) (.int .i64 (k+1:Nat)),S67 σ bl τ0 (conStep p params di set T l[k])++τ'):=by
 have hw:=wrap_nat (n:=k) (by omega)
 obtain ⟨ld,hld,hlen,hlg⟩:=opq Con.d l
 rw [hld]
 obtain ⟨h2,h3⟩:=hlg k hk
 have hkk: (k:Int) <l.length:=by omega
 obtain ⟨ha4,has⟩:=hls l[k] (List.getElem_mem hk)
 have hS:=it67_0 p m hdl T params hpl set hset tb σ.length dq dn dc v4 (.int .i64 di) v24 v25 v26 v34 v35 (.slice ld) (.int .i64 l.length) (.int .i64 (k:Nat)) l[k].args ha4 has (S67 σ bl τ0 T++τ++[.box l[k].cs]) (S67_isT hT).app.app (getO (S67_get _)) (getO (hd _ _))
 have hcd:l[k].d= .agg [.str l[k].name, .slice (l[k].args.map Ty.d)]:=by unfold Con.d Con.cs;rw [tysD_map]
 have hcs:l[k].cs=[.str l[k].name, .slice (l[k].args.map Ty.d)]:=by unfold Con.cs;rw [tysD_map]
 rw [hcd] at h3
 rw [hcs] at hS
 have hal: (l[k].args.map Ty.d).length=l[k].args.length:=List.length_map _
 unfold conStep conHas
 have hg: ∀y,(S67 σ bl τ0 T++τ++y)[σ.length]? =some (.box (tabC T)):=fun y=>getO (S67_get _)
 have hdi16: (di:Int) <12:=by omega
 have hs16: (set:Int) <16:=by omega
 rcases hS with ⟨hall,τ1,hS⟩ | ⟨hall,τ1,j,hS⟩
 ·rw [hall,if_pos rfl]
  refine ⟨τ++([.box [.str l[k].name, .slice (l[k].args.map Ty.d)]]++τ1), ?_⟩
  have hst: ∀y,(S67 σ bl τ0 T++τ++y).set σ.length (.box ((tabC T).take (di*16+set)++D.int .i64 1::(tabC T).drop (di*16+set+1)))=S67 σ bl τ0 (setT T di set)++(τ++y):=fun y=>by
   rw [tabC_set T di set hdi hset,List.append_assoc,S67_set]
  rw [←hst]
  have htl:=tabC_len T
  have hb:di*16+set+1≤192:=by omega
  generalize l[k].args.map Ty.d=ad at*
  generalize l[k].args.length=an at*
  generalize l[k].name=nm at*
  generalize tabC T=tc at*
  generalize S67 σ bl τ0 T++τ=σ1 at*
  simp only [List.append_assoc,List.cons_append,List.nil_append,Int.natCast_zero] at hS
  simp [lp67_1,hk,hkk,hw,hlen,h2,h3,getA0,getA,setA0,setA,hal,hS,hg,hdi16,hs16,htl,hb,putCells]
 ·rw [hall,if_neg (by simp)]
  refine ⟨τ++([.box [.str l[k].name, .slice (l[k].args.map Ty.d)]]++τ1), ?_⟩
  rw [←List.append_assoc]
  generalize l[k].args.map Ty.d=ad at*
  generalize l[k].args.length=an at*
  generalize l[k].name=nm at*
  generalize S67 σ bl τ0 T++τ=σ1 at*
  simp only [List.append_assoc,List.cons_append,List.nil_append,Int.natCast_zero] at hS
  simp [lp67_1,hk,hkk,hw,hlen,h2,h3,getA0,getA,setA0,setA,hal,hS]
theorem foldS_inl {α β γ:Type} (g:β→α→β): ∀ (l:List α) (i:Nat) (b:β),foldS (γ:=γ) (fun _ a b=> .inl (g b a)) l i b= .inl (l.foldl g b)
 | [],_,_=>rfl
 |a::r,i,b=>by simp only [foldS,List.foldl_cons];exact foldS_inl g r _ _
set_option maxHeartbeats 2000000 in
theorem it67_1 (p:Prg) (m:CMap) (hdl:p.data.length≤12) (T:Nat→Nat→Bool) (params:List Bs) (hpl:params.length≤4) (set di:Nat) (hset:set<16) (hdi:di<12) (tb dq:Nat) (dn:Bs) (dc:D) (v4 v24 v25 v26 v34 v35:D)
 (l:List Con) (hll:l.length≤100) (hls: ∀c ∈ l,c.args.length≤4∧ ∀x ∈ c.args,x.small∧x.ord p params=0) (σ:St) (bl:Obj) (τ0:St) (hT:IsT σ tb p m) (hd: ∀T y,(S67 σ bl τ0 T++y)[dq]? =some (.box [.str dn,slD params,dc])) (τ:St):
 ∃τ',iterI (evalI CI XB GI 67 false lp67_1) (b67 tb σ.length dq v4 (.int .i64 di) (.int .i64 set) v24 v25 v26 v34 v35 (.slice (l.map Con.d)) (.int .i64 l.length) (.int .i64 (0:Nat))) (S67 σ bl τ0 T++τ)=
  some (.exit 6,b67 tb σ.length dq v4 (.int .i64 di) (.int .i64 set) v24 v25 v26 v34 v35 (.slice (l.map Con.d)) (.int .i64 l.length) (.int .i64 l.length)++[(42, .bool false)],S67 σ bl τ0 (l.foldl (conStep p params di set) T)++τ'):=by
 have h:=loop_foldS (γ:=Unit) (f:=evalI CI XB GI 67 false lp67_1) l (fun i _=>b67 tb σ.length dq v4 (.int .i64 di) (.int .i64 set) v24 v25 v26 v34 v35 (.slice (l.map Con.d)) (.int .i64 l.length) (.int .i64 (i:Nat)))
  (fun T=>S67 σ bl τ0 T) (fun _ _=>True) (fun _ c T=> .inl (conStep p params di set T c)) (fun _=>(.ret,[])) (fun _=>[]) (fun _=>(.exit 6,b67 tb σ.length dq v4 (.int .i64 di) (.int .i64 set) v24 v25 v26 v34 v35 (.slice (l.map Con.d)) (.int .i64 l.length) (.int .i64 l.length)++[(42, .bool false)]))
  (fun _=>by simp) (fun _=>by simp) (fun _ _ _ _ _ _=>trivial)
  (fun k hk T τ _=>rnd67_1 p m hdl T params hpl set di hset hdi tb dq dn dc v4 v24 v25 v26 v34 v35 l hll hls σ bl τ0 hT hd k hk τ)
  (fun T τ _=>⟨τ,by
    generalize l.map Con.d=ld
    simp [lp67_1]⟩) T τ trivial
 rw [foldS_inl] at h
 exact h
theorem conStep_fold (p:Prg) (params:List Bs) (i s:Nat): ∀ (l:List Con) (T:Nat→Nat→Bool),l.foldl (conStep p params i s) T=if l.any (conHas p params T s) then setT T i s else T
 | [],T=>rfl
 |c::r,T=>by
  rw [List.foldl_cons,conStep_fold p params i s r,List.any_cons]
  unfold conStep
  cases hc:conHas p params T s c
  ·simp
  ·simp [setT_setT]
def plcStep (p:Prg) (d:Dat) (i:Nat) (T:Nat→Nat→Bool) (s:Nat):Nat→Nat→Bool:=d.cons.foldl (conStep p d.params i s) T
def dtStep (p:Prg) (d:Dat) (i:Nat) (T:Nat→Nat→Bool):Nat→Nat→Bool:=(List.range (2 ^ d.params.length)).foldl (plcStep p d i) T
def rndGo (p:Prg):List Dat→Nat→(Nat→Nat→Bool)→Nat→Nat→Bool
 | [],_,T=>T
 |d::r,i,T=>rndGo p r (i+1) (dtStep p d i T)
def Dat.fit (p:Prg) (d:Dat):Prop:=d.params.length≤4∧d.cons.length≤100∧ ∀c ∈ d.cons,c.args.length≤4∧ ∀x ∈ c.args,x.small∧x.ord p d.params=0
abbrev b67a (tb n0 dq:Nat) (v4 v6 v24 v25 v26 v34 v35:D):Env:=[(0, .ptr tb 0),(3, .ptr n0 0),(4,v4),(6,v6),(7, .ptr dq 0),(24,v24),(25,v25),(26,v26),(34,v34),(35,v35)]
set_option maxHeartbeats 2000000 in
theorem rnd67_2 (p:Prg) (m:CMap) (hdl:p.data.length≤12) (T:Nat→Nat→Bool) (d:Dat) (hdf:d.fit p) (di:Nat) (hdi:di<12) (tb dq:Nat) (v4 v24 v25 v26:D) (σ:St) (bl:Obj) (τ0:St) (hT:IsT σ tb p m)
 (hd: ∀T y,(S67 σ bl τ0 T++y)[dq]? =some (.box d.cs)) (s:Nat) (hs:s<2 ^ d.params.length) (τ:St):
 ∃τ',evalI CI XB GI 67 false lp67_2 (b67a tb σ.length dq v4 (.int .i64 di) v24 v25 v26 (.int .i64 (2 ^ d.params.length:Nat)) (.int .i64 (s:Nat))) (S67 σ bl τ0 T++τ)=
  some (.normal,b67a tb σ.length dq v4 (.int .i64 di) v24 v25 v26 (.int .i64 (2 ^ d.params.length:Nat)) (.int .i64 (s+1:Nat)),S67 σ bl τ0 (plcStep p d di T s)++τ'):=by
 obtain ⟨hpl,hcl,hcs⟩:=hdf
 have hp4:2 ^ d.params.length≤2 ^ 4:=Nat.pow_le_pow_right (by omega) hpl
 have hw:=wrap_nat (n:=s) (by omega)
 obtain ⟨τ1,hit⟩:=it67_1 p m hdl T d.params hpl s di (by omega) hdi tb dq d.name (.slice (d.cons.map Con.d)) v4 v24 v25 v26 (.int .i64 (2 ^ d.params.length:Nat)) (.int .i64 (s:Nat)) d.cons hcl hcs σ bl τ0 hT hd τ
 refine ⟨τ1, ?_⟩
 unfold plcStep
 have hd': ∀y,(S67 σ bl τ0 T++y)[dq]? =some (.box [.str d.name,slD d.params, .slice (d.cons.map Con.d)]):=fun y=>hd T y
 have hlen: (d.cons.map Con.d).length=d.cons.length:=List.length_map _
 have hss: (s:Int) < (2 ^ d.params.length:Nat):=by omega
 simp only [Int.natCast_zero] at hit
 generalize d.cons.map Con.d=ld at*
 generalize 2 ^ d.params.length=n at*
 generalize slD d.params=pd at*
 generalize S67 σ bl τ0 (d.cons.foldl (conStep p d.params di s) T)=σ2 at*
 generalize S67 σ bl τ0 T=σ1 at*
 simp [lp67_2,hw,hss,hs,hd',hlen] at hit ⊢
 simp [hit,hw]
set_option maxHeartbeats 2000000 in
theorem it67_2 (p:Prg) (m:CMap) (hdl:p.data.length≤12) (T:Nat→Nat→Bool) (d:Dat) (hdf:d.fit p) (di:Nat) (hdi:di<12) (tb dq:Nat) (v4 v24 v25 v26:D) (σ:St) (bl:Obj) (τ0:St) (hT:IsT σ tb p m)
 (hd: ∀T y,(S67 σ bl τ0 T++y)[dq]? =some (.box d.cs)) (τ:St):
 ∃τ',iterI (evalI CI XB GI 67 false lp67_2) (b67a tb σ.length dq v4 (.int .i64 di) v24 v25 v26 (.int .i64 (2 ^ d.params.length:Nat)) (.int .i64 (0:Nat))) (S67 σ bl τ0 T++τ)=
  some (.exit 4,b67a tb σ.length dq v4 (.int .i64 di) v24 v25 v26 (.int .i64 (2 ^ d.params.length:Nat)) (.int .i64 (2 ^ d.params.length:Nat))++[(36, .bool false)],S67 σ bl τ0 (dtStep p d di T)++τ'):=by
 have hl: (List.range (2 ^ d.params.length)).length=2 ^ d.params.length:=List.length_range
 have h:=loop_foldS (γ:=Unit) (f:=evalI CI XB GI 67 false lp67_2) (List.range (2 ^ d.params.length)) (fun i _=>b67a tb σ.length dq v4 (.int .i64 di) v24 v25 v26 (.int .i64 (2 ^ d.params.length:Nat)) (.int .i64 (i:Nat)))
  (fun T=>S67 σ bl τ0 T) (fun _ _=>True) (fun _ s T=> .inl (plcStep p d di T s)) (fun _=>(.ret,[])) (fun _=>[]) (fun _=>(.exit 4,b67a tb σ.length dq v4 (.int .i64 di) v24 v25 v26 (.int .i64 (2 ^ d.params.length:Nat)) (.int .i64 (2 ^ d.params.length:Nat))++[(36, .bool false)]))
  (fun _=>by simp) (fun _=>by simp) (fun _ _ _ _ _ _=>trivial)
  (fun k hk T τ _=>by
    rw [List.getElem_range]
    exact rnd67_2 p m hdl T d hdf di hdi tb dq v4 v24 v25 v26 σ bl τ0 hT hd k (by rwa [hl] at hk) τ)
  (fun T τ _=>⟨τ,by
    rw [hl]
    generalize 2 ^ d.params.length=n
    simp [lp67_2]⟩) T τ trivial
 rw [foldS_inl] at h
 exact h
abbrev b67b (tb n0:Nat) (v4 v24 v25 v26:D):Env:=[(0, .ptr tb 0),(3, .ptr n0 0),(4,v4),(24,v24),(25,v25),(26,v26)]
theorem S67_len {σ:St} {bl:Obj} {τ0:St} {T:Nat→Nat→Bool} : (S67 σ bl τ0 T).length=σ.length+ (τ0.length+2):=by unfold S67;simp
set_option maxHeartbeats 2000000 in
theorem rnd67_3 (p:Prg) (m:CMap) (hdl:p.data.length≤12) (T:Nat→Nat→Bool) (l:List Dat) (hl:l.length≤12) (hls: ∀d ∈ l,d.fit p) (tb:Nat) (v4:D) (σ:St) (bl:Obj) (hT:IsT σ tb p m) (i:Nat) (hi:i<l.length) (τ:St):
 ∃τ',evalI CI XB GI 67 false lp67_3 (b67b tb σ.length v4 (.slice (l.map Dat.d)) (.int .i64 l.length) (.int .i64 (i:Nat))) (S67 σ bl [] T++τ)=
  some (.normal,b67b tb σ.length v4 (.slice (l.map Dat.d)) (.int .i64 l.length) (.int .i64 (i+1:Nat)),S67 σ bl [] (dtStep p l[i] i T)++τ'):=by
 have hw:=wrap_nat (n:=i) (by omega)
 obtain ⟨ld,hld,hlen,hlg⟩:=opq Dat.d l
 rw [hld]
 obtain ⟨h2,h3⟩:=hlg i hi
 have hii: (i:Int) <l.length:=by omega
 have hdf:=hls l[i] (List.getElem_mem hi)
 have hpl:=hdf.1
 obtain ⟨τ1,hit⟩:=it67_2 p m hdl T l[i] hdf i (by omega) tb (S67 σ bl [] T++τ).length v4 (.slice ld) (.int .i64 l.length) (.int .i64 (i:Nat)) σ bl (τ++[.box l[i].cs]) hT (fun U y=>by
  have:S67 σ bl (τ++[.box l[i].cs]) U++y=S67 σ bl [] U++τ++(.box l[i].cs::y):=by unfold S67;simp
  rw [this]
  have: (S67 σ bl [] T++τ).length=(S67 σ bl [] U++τ).length:=by simp [S67_len]
  rw [this,getA0];rfl) []
 have e1: ∀U y,S67 σ bl (τ++[.box l[i].cs]) U++y=S67 σ bl [] U++(τ++[.box l[i].cs]++y):=fun U y=>by unfold S67;simp
 rw [e1,e1] at hit
 refine ⟨τ++[.box l[i].cs]++τ1, ?_⟩
 have hcd:l[i].d= .agg [.str l[i].name,slD l[i].params, .slice (l[i].cons.map Con.d)]:=rfl
 have hcs:l[i].cs=[.str l[i].name,slD l[i].params, .slice (l[i].cons.map Con.d)]:=rfl
 rw [hcd] at h3
 rw [hcs] at hit ⊢
 have hsl:slD l[i].params= .slice (l[i].params.map D.str):=rfl
 rw [hsl] at hit h3 ⊢
 have hpn: (l[i].params.map D.str).length=l[i].params.length:=List.length_map _
 have hsh:=shl_fact ⟨l[i].params.length,by omega⟩
 simp only at hsh
 have ecast: (2 ^ l[i].params.length:Int)=((2 ^ l[i].params.length:Nat):Int):=by simp
 rw [ecast] at hsh
 have ep: ¬((l[i].params.length:Int) <0):=by omega
 have et: ((l[i].params.length:Int)).toNat=l[i].params.length:=by omega
 simp only [Int.natCast_zero,List.append_nil,←List.append_assoc] at hit
 rw [←List.append_assoc,←List.append_assoc]
 generalize l[i].cons.map Con.d=cd at*
 generalize l[i].params.map D.str=pd at*
 generalize S67 σ bl [] (dtStep p l[i] i T)=σ2 at*
 generalize S67 σ bl [] T++τ=σ1 at*
 generalize 2 ^ l[i].params.length=n at*
 generalize l[i].params.length=pn at*
 generalize l[i].name=nm at*
 simp [lp67_3,hi,hii,hw,hlen,h2,h3,getA0,getA,setA0,setA,hpn,arithD,intArith,IntKind.bits,ep,et,hsh] at hit ⊢
 simp [hit,hw]
theorem foldS_rndGo (p:Prg): ∀ (l:List Dat) (i:Nat) (T:Nat→Nat→Bool),foldS (γ:=Unit) (fun i d T=> .inl (dtStep p d i T)) l i T= .inl (rndGo p l i T)
 | [],_,_=>rfl
 |d::r,i,T=>by simp only [foldS,rndGo];exact foldS_rndGo p r _ _
set_option maxHeartbeats 2000000 in
theorem it67_3 (p:Prg) (m:CMap) (hdl:p.data.length≤12) (T:Nat→Nat→Bool) (l:List Dat) (hl:l.length≤12) (hls: ∀d ∈ l,d.fit p) (tb:Nat) (v4:D) (σ:St) (bl:Obj) (hT:IsT σ tb p m) (τ:St):
 ∃τ',iterI (evalI CI XB GI 67 false lp67_3) (b67b tb σ.length v4 (.slice (l.map Dat.d)) (.int .i64 l.length) (.int .i64 (0:Nat))) (S67 σ bl [] T++τ)=
  some (.exit 2,b67b tb σ.length v4 (.slice (l.map Dat.d)) (.int .i64 l.length) (.int .i64 l.length)++[(27, .bool false)],S67 σ bl [] (rndGo p l 0 T)++τ'):=by
 have h:=loop_foldS (γ:=Unit) (f:=evalI CI XB GI 67 false lp67_3) l (fun i _=>b67b tb σ.length v4 (.slice (l.map Dat.d)) (.int .i64 l.length) (.int .i64 (i:Nat)))
  (fun T=>S67 σ bl [] T) (fun _ _=>True) (fun i d T=> .inl (dtStep p d i T)) (fun _=>(.ret,[])) (fun _=>[]) (fun _=>(.exit 2,b67b tb σ.length v4 (.slice (l.map Dat.d)) (.int .i64 l.length) (.int .i64 l.length)++[(27, .bool false)]))
  (fun _=>by simp) (fun _=>by simp) (fun _ _ _ _ _ _=>trivial)
  (fun k hk T τ _=>rnd67_3 p m hdl T l hl hls tb v4 σ bl hT k hk τ)
  (fun T τ _=>⟨τ,by
    generalize l.map Dat.d=ld
    simp [lp67_3]⟩) T τ trivial
 rw [foldS_rndGo] at h
 exact h
theorem eqChunks_sc: ∀ (n:Nat) (x y:List Int),x.length=n→y.length=n→eqChunks (eqDeep (.sc 1)) (fun l=>(EqC.sc 1).part 1 l) 1 n (x.map (D.int .i64)) (y.map (D.int .i64))=some (x==y)
 |0,x,y,hx,hy=>by
  obtain rfl:=List.length_eq_zero_iff.1 hx
  obtain rfl:=List.length_eq_zero_iff.1 hy
  rfl
 |n+1,[],_,hx,_=>by simp at hx
 |n+1,_::_,[],_,hy=>by simp at hy
 |n+1,a::x,b::y,hx,hy=>by
  have ih:=eqChunks_sc n x y (by simpa using hx) (by simpa using hy)
  show Option.map ((a==b)&& ·) (eqChunks (eqDeep (.sc 1)) (fun l=>(EqC.sc 1).part 1 l) 1 n (x.map (D.int .i64)) (y.map (D.int .i64)))=_
  rw [ih];rfl
theorem eqChunks_arr: ∀ (n:Nat) (x y:List Int),x.length=n*16→y.length=n*16→eqChunks (eqDeep (.arr 16 1 (.sc 1))) (fun l=>(EqC.arr 16 1 (.sc 1)).part 16 l) 16 n (x.map (D.int .i64)) (y.map (D.int .i64))=some (x==y)
 |0,x,y,hx,hy=>by
  obtain rfl:=List.length_eq_zero_iff.1 (by simpa using hx)
  obtain rfl:=List.length_eq_zero_iff.1 (by simpa using hy)
  rfl
 |n+1,x,y,hx,hy=>by
  have ih:=eqChunks_arr n (x.drop 16) (y.drop 16) (by rw [List.length_drop];omega) (by rw [List.length_drop];omega)
  have hx16: (x.take 16).length=16:=by rw [List.length_take];omega
  have hy16: (y.take 16).length=16:=by rw [List.length_take];omega
  have h1:=eqChunks_sc 16 (x.take 16) (y.take 16) hx16 hy16
  rw [List.map_take,List.map_take] at h1
  rw [List.map_drop,List.map_drop] at ih
  have h2:eqDeep (.arr 16 1 (.sc 1)) (.agg ((x.map (D.int .i64)).take 16)) (.agg ((y.map (D.int .i64)).take 16))=some (x.take 16==y.take 16):=by
   rw [←h1]
   show (if _ then _ else _)=_
   rw [if_pos (by rw [List.length_take,List.length_take,List.length_map,List.length_map];omega)]
  show (match eqDeep (.arr 16 1 (.sc 1)) (.agg ((x.map (D.int .i64)).take 16)) (.agg ((y.map (D.int .i64)).take 16)) with
   |some t=>(eqChunks (eqDeep (.arr 16 1 (.sc 1))) (fun l=>(EqC.arr 16 1 (.sc 1)).part 16 l) 16 n ((x.map (D.int .i64)).drop 16) ((y.map (D.int .i64)).drop 16)).map (t&& ·)
   |none=>none)=_
  rw [h2,ih]
  show some _=some _
  congr 1
  rw [Bool.eq_iff_iff,Bool.and_eq_true,beq_iff_eq,beq_iff_eq,beq_iff_eq]
  constructor
  ·intro ⟨ha,hb⟩
   rw [←List.take_append_drop 16 x,ha,hb,List.take_append_drop]
  ·rintro rfl;exact ⟨rfl,rfl⟩
def tabI (T:Nat→Nat→Bool):List Int:=(List.range 192).map fun j=>if T (j / 16) (j % 16) then 1 else 0
theorem tabC_tabI (T:Nat→Nat→Bool):tabC T=(tabI T).map (D.int .i64):=by unfold tabC tabI;rw [List.map_map];rfl
theorem eqD_arr (n m:Nat) (c:EqC) (x y:List D) (h:x.length=n*m∧y.length=n*m∧0<m):eqD (.arr n m c) (.agg x) (.agg y)=eqChunks (eqDeep c) (fun l=>c.part m l) m n x y:=if_pos h
theorem eqD_tab (T U:Nat→Nat→Bool):eqD (.arr 12 16 (.arr 16 1 (.sc 1))) (.agg (tabC T)) (.agg (tabC U))=some (tabI T==tabI U):=by
 have hT: (tabI T).length=12*16:=by simp [tabI]
 have hU: (tabI U).length=12*16:=by simp [tabI]
 rw [tabC_tabI,tabC_tabI,←eqChunks_arr 12 _ _ hT hU]
 exact eqD_arr _ _ _ _ _ (by rw [List.length_map,List.length_map];omega)
def inT (T:Nat→Nat→Bool):Prop:= ∀i s,T i s=true→i<12∧s<16
theorem tabI_inj {T U:Nat→Nat→Bool} (hT:inT T) (hU:inT U) (h:tabI T=tabI U):T=U:=by
 funext i s
 by_cases hi:i<12∧s<16
 ·have h1:=congrArg (fun l=>l[i*16+s]?) h
  unfold tabI at h1
  simp only [List.getElem?_map] at h1
  rw [List.getElem?_range (by omega)] at h1
  have e1: (i*16+s) / 16=i:=by omega
  have e2: (i*16+s) % 16=s:=by omega
  simp only [Option.map_some,e1,e2] at h1
  cases hT1:T i s<;>cases hU1:U i s<;>simp_all
 ·rw [Bool.eq_false_iff.2 fun h=>hi (hT i s h),Bool.eq_false_iff.2 fun h=>hi (hU i s h)]
end Go.AI
