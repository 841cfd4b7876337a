/- Texts of the proof: what functions of the program compute, step by step. No conditions of its own. -/
import Derived.Test.YtgenoggafhhgfaaGreatDoorI7
import Derived.Test.YtgenoggafhhgfaaGreatDoorTie
import Derived.Test.YtgenoggafhhgfaaGreatDoorCards
import Derived.ProofKit
import Derived.OpenShut
import Derived.ShutString
import Derived.LaidMore
import Derived.Lay
import Derived.SevenTiedAt
import Derived.Stop.Joined
import Derived.Stop.LaidErr
import Derived.MakeChecks
import Derived.Lib.LaidTab
import Derived.SizedLaws
import Derived.ChangeOld
import Derived.ChangeArms
import Derived.Below
import Derived.Test.YtgenoggafhhgfaaGreatDoorI5
set_option linter.unusedVariables false
set_option linter.unusedSimpArgs false
namespace Go.AI
open Go Go.Proofs Go.Lx
set_option maxRecDepth 100000
structure Sh where
 s:Int
 t:Int
 n:Int
 m:Int
 p:Int
 q:Int
 a:Bool
 lo:Int
 hi:Int
 deriving DecidableEq,Inhabited
def Sh.cs (x:Sh):List D:=sh x.s x.t x.n x.m x.p x.q x.a x.lo x.hi
def shapesL:List Sh:=[⟨1,0,0,0,0,0,false,0,0⟩,⟨0,0,0,0,0,0,false,(-999999999),999999999⟩,⟨0,0,0,0,0,0,false,0,1⟩,⟨0,0,0,0,0,0,false,0,0⟩,⟨0,0,1,0,1,0,false,0,0⟩,⟨0,0,0,0,2,0,false,0,0⟩,⟨0,0,1,0,2,0,false,0,0⟩,⟨0,0,2,0,2,0,false,0,0⟩,⟨0,0,0,0,3,0,false,0,0⟩,⟨3,0,0,0,2,0,false,0,0⟩,⟨2,0,0,0,0,4,false,0,0⟩,⟨0,0,0,0,1,0,true,0,0⟩,⟨1,0,0,0,1,0,false,0,0⟩,⟨1,1,0,0,1,0,false,0,0⟩,⟨2,0,0,0,1,0,true,0,1⟩,⟨2,0,1,0,1,0,true,0,0⟩,⟨2,0,0,0,1,0,false,0,0⟩,⟨0,0,1,12,3,0,false,0,0⟩,⟨1,0,0,0,1,0,false,0,0⟩,⟨1,0,0,0,0,0,false,0,0⟩]
def shapeOf (k:Int):Sh:=shapesL.getD k.toNat default
theorem shape_row: ∀ (j:Nat),j<20→(shapes.drop (j*9)).take 9=(shapesL.getD j default).cs
 |0,_=>rfl
 |1,_=>rfl
 |2,_=>rfl
 |3,_=>rfl
 |4,_=>rfl
 |5,_=>rfl
 |6,_=>rfl
 |7,_=>rfl
 |8,_=>rfl
 |9,_=>rfl
 |10,_=>rfl
 |11,_=>rfl
 |12,_=>rfl
 |13,_=>rfl
 |14,_=>rfl
 |15,_=>rfl
 |16,_=>rfl
 |17,_=>rfl
 |18,_=>rfl
 |19,_=>rfl
 |j+20,h=>by omega
theorem shape_len:shapes.length=180:=rfl
theorem shape_small: ∀x ∈ shapesL,0≤x.n∧x.n≤100∧0≤x.m∧x.m≤100∧0≤x.p∧x.p≤100∧0≤x.q∧x.q≤100:=by decide
theorem shapeOf_mem {k:Int} (h:inR k 0 19=true):shapeOf k ∈ shapesL:=by
 unfold inR at h
 simp only [Bool.and_eq_true,decide_eq_true_eq] at h
 unfold shapeOf
 have:k.toNat<shapesL.length:=by simp [shapesL];omega
 rw [List.getD,List.getElem?_eq_getElem this]
 exact List.getElem_mem this
def armsE (k:Int):List Bs→List Arm→Int
 |_,[]=>0
 |pre,a::r=>if armE k pre a=0 then armsE k (pre++[a.op]) r else armE k pre a
theorem it174 (k n:Int) (s t:Bs) (names l:List D) (p:Nat) (d3:D) (σ:St): ∀ (r pre:List Arm),(pre++r).length≤maxL→armsOk (pre++r)→σ[p]? =some (.box [.int .i64 k, .int .i64 n, .str s, .str t, .slice names, .slice l, .slice (armsD (pre++r))])→ ∀m,m=pre.length→
 iterI (evalI CI XB GI 132 false lp174_0) [(1, .ptr p 0),(3,d3),(108, .int .i64 (pre++r).length),(109, .int .i64 (m:Nat))] σ=
  some (if armsE k (pre.map Arm.op) r=0 then (.exit 1,[(1, .ptr p 0),(3,d3),(108, .int .i64 (pre++r).length),(109, .int .i64 (pre++r).length),(110, .bool false)],σ) else (.ret,[(2, .int .i64 (armsE k (pre.map Arm.op) r))],σ))
 | [],pre,hl,hok,hσ,m,hm=>by
  have:m=(pre++([]:List Arm)).length:=by rw [hm];simp
  refine iterI_end ?_ (by simp [armsE])
  generalize (pre++([]:List Arm)).length=q at*
  simp [lp174_0,this,armsE]
 |a::r,pre,hl,hok,hσ,m,hm=>by
  have hmt:m< (pre++a::r).length:=by simp;omega
  have hget: (pre++a::r)[m]=a:=by simp [hm]
  have htk: ((pre++a::r).take m).map Arm.op=pre.map Arm.op:=by rw [hm];simp
  have hw:=wrap_nat (n:=m) (by unfold maxL at hl;simp at hl;omega)
  have hao: (pre++a::r)[m].ok:=by rw [hget];exact armsOk_mem hok (by simp)
  have hc:=c203 k n s t names l (pre++a::r) m hmt σ hl hao
  rw [hget,htk] at hc
  have hp:pre++[a]++r=pre++a::r:=by simp
  have ih:=it174 k n s t names l p d3 σ r (pre++[a]) (by rw [hp];exact hl) (by rw [hp];exact hok) (by rw [hp];exact hσ) (m+1) (by simp [hm])
  rw [hp] at ih
  simp only [List.map_append,List.map_cons,List.map_nil] at ih
  simp only [armsE]
  clear hget hao
  generalize (pre++a::r).length=q at*
  generalize armsD (pre++a::r)=ad at*
  have hmt': (m:Int) <q:=by omega
  by_cases he:armE k (pre.map Arm.op) a=0
  ·simp only [if_pos he]
   rw [←ih]
   refine iterI_next ?_
   rw [he] at hc
   simp [lp174_0,hmt,hmt',hw,hσ,hc]
  ·simp only [if_neg he]
   have he': (armE k (pre.map Arm.op) a != 0)=true:=by simpa using he
   refine iterI_end ?_ (by simp)
   simp [lp174_0,hmt,hmt',hw,hσ,hc,he,he']
def nodeE (k n:Int) (s t:Bs) (names:List Bs) (nl:Nat) (arms:List Arm):Int:=
 if inR k 0 19 then
  if inR n (shapeOf k).lo (shapeOf k).hi then
   if isC s (shapeOf k).s&&isC t (shapeOf k).t then
    if inR names.length (shapeOf k).n ((shapeOf k).n+ (shapeOf k).m)&&inR nl (shapeOf k).p ((shapeOf k).p+ (shapeOf k).q) then
     if (!(shapeOf k).a&&decide (0<arms.length)) ||decide (9<arms.length) then 7
     else if distE (names.take (if k=17 then 1 else names.length)) 1=0 then
      if distE (names.drop (if k=17 then 1 else names.length)) 2=0 then
       if armsE k [] arms=0 then (if k != 11&&((shapeOf k).a&&decide (arms.length=0)) then 7 else 0) else armsE k [] arms
      else distE (names.drop (if k=17 then 1 else names.length)) 2
     else distE (names.take (if k=17 then 1 else names.length)) 1
    else 7
   else 4
  else 1
 else 1
theorem Sh.cs_eq (x:Sh):x.cs=[.int .i64 x.s, .int .i64 x.t, .int .i64 x.n, .int .i64 x.m, .int .i64 x.p, .int .i64 x.q, .bool x.a, .int .i64 x.lo, .int .i64 x.hi]:=rfl
set_option maxHeartbeats 4000000 in
theorem c174 (e:Ex) (hok:e.ok) (σ:St): ∀ (k n:Int) (s t:Bs) (names:List Bs) (l:List Ex) (arms:List Arm),e= .mk k n s t names l arms→CI (.fn 174) [.agg e.cs] σ=some (.ret (.int .i64 (nodeE k n s t names l.length arms)),σ):=by
 rintro k n s t names l arms rfl
 obtain ⟨hnl,hll,hal,hlo,hao⟩:=hok
 have hit:=it174 k n s t (names.map D.str) (exsD l) σ.length (.ptr (σ.length+1) 0) (σ++[.box (Ex.mk k n s t names l arms).cs, .box (shapeOf k).cs]) arms [] hal hao (by rw [getA0];rfl) 0 rfl
 rw [Int.natCast_zero,List.nil_append,List.map_nil] at hit
 simp only [Ex.cs] at*
 have hexl:=exsD_len l
 have harl:=armsD_len arms
 have h182a:=fun f (hf:f≤names.length)=>fun σ=>c182 (names.take f) 1 σ (by simp;omega)
 have h182b:=fun f (hf:f≤names.length)=>fun σ=>c182 (names.drop f) 2 σ (by simp;unfold maxL at*;omega)
 simp only [slD,List.map_take,List.map_drop] at h182a h182b
 have hndl: (names.map D.str).length=names.length:=by simp
 unfold nodeE
 obtain ⟨τ,hτ⟩: ∃τ,bodyI CI XB GI af174 [.agg [.int .i64 k, .int .i64 n, .str s, .str t,slD names, .slice (exsD l), .slice (armsD arms)]] σ=some (.ret (.int .i64 (nodeE k n s t names l.length arms)),σ++τ):=by
  unfold nodeE
  simp only [slD] at*
  by_cases hk:inR k 0 19=true
  rotate_left
  ·rw [if_neg hk]
   rw [Bool.not_eq_true] at hk
   refine ⟨[.box [.int .i64 k, .int .i64 n, .str s, .str t, .slice (names.map D.str), .slice (exsD l), .slice (armsD arms)]], ?_⟩
   simp [bodyI,af174,getA0,k198,hk]
  rw [if_pos hk]
  refine ⟨[.box [.int .i64 k, .int .i64 n, .str s, .str t, .slice (names.map D.str), .slice (exsD l), .slice (armsD arms)], .box (shapeOf k).cs], ?_⟩
  have hk0:0≤k∧k<20:=by unfold inR at hk;simp at hk;omega
  have hk1:=hk0.1
  have hk2:=hk0.2
  have hrow: (shapes.drop (k.toNat*9)).take 9=(shapeOf k).cs:=shape_row k.toNat (by omega)
  have hrl:9≤shapes.length - k.toNat*9:=by rw [shape_len];omega
  have hsm:=shape_small _ (shapeOf_mem hk)
  have hw1:IntKind.i64.wrap ((shapeOf k).n+ (shapeOf k).m)=(shapeOf k).n+ (shapeOf k).m:=wrap_i64 (by omega) (by omega)
  have hw2:IntKind.i64.wrap ((shapeOf k).p+ (shapeOf k).q)=(shapeOf k).p+ (shapeOf k).q:=wrap_i64 (by omega) (by omega)
  have hg:globT 0=some shapes:=rfl
  rw [Sh.cs_eq] at*
  generalize hxs:shapeOf k=xs at*
  rcases xs with ⟨s1,s2,s3,s4,s5,s6,s7,s8,s9⟩
  simp only at*
  generalize exsD l=ld at*
  generalize armsD arms=ad at*
  generalize hnd:names.map D.str=nd at*
  by_cases hr:inR n s8 s9=true
  rotate_left
  ·rw [if_neg hr]
   rw [Bool.not_eq_true] at hr
   simp [bodyI,af174,getA0,getA,setA,k198,hk,hk1,hk2,hg,hrow,hrl,putCells,hr]
  rw [if_pos hr]
  by_cases hs:isC s s1=true
  rotate_left
  ·rw [Bool.not_eq_true] at hs
   rw [if_neg (by simp [hs])]
   simp [bodyI,af174,getA0,getA,setA,k198,c143,hk,hk1,hk2,hg,hrow,hrl,putCells,hr,hs]
  by_cases ht:isC t s2=true
  rotate_left
  ·rw [Bool.not_eq_true] at ht
   rw [if_neg (by simp [ht])]
   simp [bodyI,af174,getA0,getA,setA,k198,c143,hk,hk1,hk2,hg,hrow,hrl,putCells,hr,hs,ht]
  rw [if_pos (by simp [hs,ht])]
  by_cases hn1:inR names.length s3 (s3+s4)=true
  rotate_left
  ·rw [Bool.not_eq_true] at hn1
   rw [if_neg (by simp [hn1])]
   simp [bodyI,af174,getA0,getA,setA,k198,c143,hk,hk1,hk2,hg,hrow,hrl,putCells,hr,hs,ht,hndl,hw1,hn1]
  by_cases hl1:inR l.length s5 (s5+s6)=true
  rotate_left
  ·rw [Bool.not_eq_true] at hl1
   rw [if_neg (by simp [hl1])]
   simp [bodyI,af174,getA0,getA,setA,k198,c143,hk,hk1,hk2,hg,hrow,hrl,putCells,hr,hs,ht,hndl,hw1,hn1,hexl,hw2,hl1]
  rw [if_pos (by simp [hn1,hl1])]
  by_cases ha0:s7=false∧0<arms.length
  ·obtain ⟨rfl,ha0⟩:=ha0
   have ha0': (0:Int) <arms.length:=by omega
   rw [if_pos (by simp [ha0])]
   simp [bodyI,af174,getA0,getA,setA,k198,c143,hk,hk1,hk2,hg,hrow,hrl,putCells,hr,hs,ht,hndl,hw1,hn1,hexl,hw2,hl1,harl,ha0,ha0']
  by_cases ha9:9<arms.length
  ·obtain rfl:s7=true:=by
    cases s7 with
    |true=>rfl
    |false=>exact absurd ⟨rfl,by omega⟩ ha0
   have ha9': (9:Int) <arms.length:=by omega
   rw [if_pos (by simp [ha9])]
   simp [bodyI,af174,getA0,getA,setA,k198,c143,hk,hk1,hk2,hg,hrow,hrl,putCells,hr,hs,ht,hndl,hw1,hn1,hexl,hw2,hl1,harl,ha9,ha9']
  have ha9': ¬(9:Int) <arms.length:=by omega
  have hneg: ¬((!s7&&decide (0<arms.length) ||decide (9<arms.length))=true):=by
   intro h
   rw [Bool.or_eq_true,Bool.and_eq_true] at h
   rcases h with ⟨h1,h2⟩ |h
   ·exact ha0 ⟨by simpa using h1,by simpa using h2⟩
   ·exact ha9 (by simpa using h)
  rw [if_neg hneg]
  obtain ⟨f,hf,hfl,hfk⟩: ∃f:Nat,(if k=17 then 1 else names.length)=f∧f≤names.length∧ ∀ (P:Prop),((k=17→f=1→P)→(k≠17→f=names.length→P)→P):=by
   by_cases h17:k=17
   ·refine ⟨1,by rw [if_pos h17], ?_,fun P h1 _=>h1 h17 rfl⟩
    subst h17
    have h3:s3=1:=by
     have: (shapeOf 17).n=1:=rfl
     rw [hxs] at this
     exact this
    unfold inR at hn1
    simp at hn1
    omega
   ·exact ⟨names.length,by rw [if_neg h17],Nat.le_refl _,fun P _ h2=>h2 h17 rfl⟩
  rw [hf]
  have q1:=h182a f hfl
  have q2:=h182b f hfl
  clear h182a h182b
  have hfl': (f:Int)≤names.length:=by omega
  have hs7:s7=false→arms.length=0:=fun h=>Nat.eq_zero_of_not_pos fun h0=>ha0 ⟨h,h0⟩
  have hall1: (nd.all fun e=>e.cells.length==1)=true:=by
   rw [←hnd]
   exact List.all_eq_true.2 fun x hx=>by
    obtain ⟨y,_,rfl⟩:=List.mem_map.1 hx
    rfl
  simp only [D.cells] at hall1
  have key:bodyI CI XB GI af174 [.agg [.int .i64 k, .int .i64 n, .str s, .str t, .slice nd, .slice ld, .slice ad]] σ=
   some (.ret (.int .i64 (if distE (names.take f) 1=0 then if distE (names.drop f) 2=0 then if armsE k [] arms=0 then (if k != 11&&(s7&&decide (arms.length=0)) then 7 else 0) else armsE k [] arms else distE (names.drop f) 2 else distE (names.take f) 1)),
    σ++[.box [.int .i64 k, .int .i64 n, .str s, .str t, .slice nd, .slice ld, .slice ad], .box [.int .i64 s1, .int .i64 s2, .int .i64 s3, .int .i64 s4, .int .i64 s5, .int .i64 s6, .bool s7, .int .i64 s8, .int .i64 s9]]):=by
   generalize hN:names.length=N at*
   generalize distE (names.take f) 1=d1 at*
   generalize distE (names.drop f) 2=d2 at*
   have hfl2: (f:Int)≤N:=by omega
   have htk:f=N→nd.take N=nd:=fun h=>List.take_of_length_le (by omega)
   refine hfk _ (fun h17 hf1=> ?_) (fun h17 hfN=> ?_)
   ·subst hf1
    have h17b: (k==17)=true:=by simpa using h17
    have hN1:1≤N:=by omega
    have hN1': (1:Int)≤N:=by omega
    have htkN:nd.take N=nd:=List.take_of_length_le (by omega)
    rw [List.drop_one] at q2
    by_cases hd1:d1=0
    ·rw [if_pos hd1]
     rw [hd1] at q1
     by_cases hd2:d2=0
     ·rw [if_pos hd2]
      rw [hd2] at q2
      by_cases he:armsE k [] arms=0
      ·rw [if_pos he]
       rw [if_pos he] at hit
       by_cases h11:k=11
       ·have h11b: (k==11)=true:=by simpa using h11
        have h11c: (k != 11)=false:=by simpa using h11
        cases s7
        ·have ha00:=hs7 rfl
         simp only [ha00,Int.natCast_zero] at hit
         simp [bodyI,af174,getA0,getA,setA,k198,c143,hk,hk1,hk2,hg,hrow,hrl,putCells,hr,hs,ht,hndl,hw1,hn1,hexl,hw2,hl1,harl,bound,hall1, -List.all_eq_true,ha00,h17b,hfl,hfl',hfl2,hN1,hN1',htkN,q1,q2,hit,h11b,h11c]
        ·simp [bodyI,af174,getA0,getA,setA,k198,c143,hk,hk1,hk2,hg,hrow,hrl,putCells,hr,hs,ht,hndl,hw1,hn1,hexl,hw2,hl1,harl,bound,hall1, -List.all_eq_true,ha9,ha9',h17b,hfl,hfl',hfl2,hN1,hN1',htkN,q1,q2,hit,h11b,h11c]
       ·have h11b: (k==11)=false:=by simpa using h11
        have h11c: (k != 11)=true:=by simpa using h11
        cases s7
        ·have ha00:=hs7 rfl
         simp only [ha00,Int.natCast_zero] at hit
         simp [bodyI,af174,getA0,getA,setA,k198,c143,hk,hk1,hk2,hg,hrow,hrl,putCells,hr,hs,ht,hndl,hw1,hn1,hexl,hw2,hl1,harl,bound,hall1, -List.all_eq_true,ha00,h17b,hfl,hfl',hfl2,hN1,hN1',htkN,q1,q2,hit,h11b,h11c]
        ·by_cases haz:arms.length=0
         ·have haz': (arms.length:Int)=0:=by omega
          simp only [haz,Int.natCast_zero] at hit
          simp [bodyI,af174,getA0,getA,setA,k198,c143,hk,hk1,hk2,hg,hrow,hrl,putCells,hr,hs,ht,hndl,hw1,hn1,hexl,hw2,hl1,harl,bound,hall1, -List.all_eq_true,ha9,ha9',h17b,hfl,hfl',hfl2,hN1,hN1',htkN,q1,q2,hit,h11b,h11c,haz,haz']
         ·have haz': ¬(arms.length:Int)=0:=by omega
          have haz'': ((arms.length:Int) ==0)=false:=by simpa using haz'
          simp [bodyI,af174,getA0,getA,setA,k198,c143,hk,hk1,hk2,hg,hrow,hrl,putCells,hr,hs,ht,hndl,hw1,hn1,hexl,hw2,hl1,harl,bound,hall1, -List.all_eq_true,ha9,ha9',h17b,hfl,hfl',hfl2,hN1,hN1',htkN,q1,q2,hit,h11b,h11c,haz,haz',haz'']
      ·rw [if_neg he]
       rw [if_neg he] at hit
       cases s7
       ·have ha00:=hs7 rfl
        simp only [ha00,Int.natCast_zero] at hit
        simp [bodyI,af174,getA0,getA,setA,k198,c143,hk,hk1,hk2,hg,hrow,hrl,putCells,hr,hs,ht,hndl,hw1,hn1,hexl,hw2,hl1,harl,bound,hall1, -List.all_eq_true,ha00,h17b,hfl,hfl',hfl2,hN1,hN1',htkN,q1,q2,hit]
       ·simp [bodyI,af174,getA0,getA,setA,k198,c143,hk,hk1,hk2,hg,hrow,hrl,putCells,hr,hs,ht,hndl,hw1,hn1,hexl,hw2,hl1,harl,bound,hall1, -List.all_eq_true,ha9,ha9',h17b,hfl,hfl',hfl2,hN1,hN1',htkN,q1,q2,hit]
     ·rw [if_neg hd2]
      have hd2': (d2 != 0)=true:=by simpa using hd2
      cases s7
      ·have ha00:=hs7 rfl
       simp [bodyI,af174,getA0,getA,setA,k198,c143,hk,hk1,hk2,hg,hrow,hrl,putCells,hr,hs,ht,hndl,hw1,hn1,hexl,hw2,hl1,harl,bound,hall1, -List.all_eq_true,ha00,h17b,hfl,hfl',hfl2,hN1,hN1',htkN,q1,q2,hd2,hd2']
      ·simp [bodyI,af174,getA0,getA,setA,k198,c143,hk,hk1,hk2,hg,hrow,hrl,putCells,hr,hs,ht,hndl,hw1,hn1,hexl,hw2,hl1,harl,bound,hall1, -List.all_eq_true,ha9,ha9',h17b,hfl,hfl',hfl2,hN1,hN1',htkN,q1,q2,hd2,hd2']
    ·rw [if_neg hd1]
     have hd1': (d1 != 0)=true:=by simpa using hd1
     cases s7
     ·have ha00:=hs7 rfl
      simp [bodyI,af174,getA0,getA,setA,k198,c143,hk,hk1,hk2,hg,hrow,hrl,putCells,hr,hs,ht,hndl,hw1,hn1,hexl,hw2,hl1,harl,bound,hall1, -List.all_eq_true,ha00,h17b,hfl,hfl',hfl2,hN1,hN1',htkN,q1,hd1,hd1']
     ·simp [bodyI,af174,getA0,getA,setA,k198,c143,hk,hk1,hk2,hg,hrow,hrl,putCells,hr,hs,ht,hndl,hw1,hn1,hexl,hw2,hl1,harl,bound,hall1, -List.all_eq_true,ha9,ha9',h17b,hfl,hfl',hfl2,hN1,hN1',htkN,q1,hd1,hd1']
   ·subst hfN
    have h17': (k==17)=false:=by simpa using h17
    have htk:=htk rfl
    have hdr:nd.drop f=[]:=List.drop_of_length_le (by omega)
    rw [htk] at q1
    rw [hdr] at q2
    by_cases hd1:d1=0
    ·rw [if_pos hd1]
     rw [hd1] at q1
     by_cases hd2:d2=0
     ·rw [if_pos hd2]
      rw [hd2] at q2
      by_cases he:armsE k [] arms=0
      ·rw [if_pos he]
       rw [if_pos he] at hit
       by_cases h11:k=11
       ·have h11b: (k==11)=true:=by simpa using h11
        have h11c: (k != 11)=false:=by simpa using h11
        cases s7
        ·have ha00:=hs7 rfl
         simp only [ha00,Int.natCast_zero] at hit
         simp [bodyI,af174,getA0,getA,setA,k198,c143,hk,hk1,hk2,hg,hrow,hrl,putCells,hr,hs,ht,hndl,hw1,hn1,hexl,hw2,hl1,harl,bound,hall1, -List.all_eq_true,ha00,h17,h17',htk,hdr,q1,q2,hit,h11b,h11c]
        ·simp [bodyI,af174,getA0,getA,setA,k198,c143,hk,hk1,hk2,hg,hrow,hrl,putCells,hr,hs,ht,hndl,hw1,hn1,hexl,hw2,hl1,harl,bound,hall1, -List.all_eq_true,ha9,ha9',h17,h17',htk,hdr,q1,q2,hit,h11b,h11c]
       ·have h11b: (k==11)=false:=by simpa using h11
        have h11c: (k != 11)=true:=by simpa using h11
        cases s7
        ·have ha00:=hs7 rfl
         simp only [ha00,Int.natCast_zero] at hit
         simp [bodyI,af174,getA0,getA,setA,k198,c143,hk,hk1,hk2,hg,hrow,hrl,putCells,hr,hs,ht,hndl,hw1,hn1,hexl,hw2,hl1,harl,bound,hall1, -List.all_eq_true,ha00,h17,h17',htk,hdr,q1,q2,hit,h11b,h11c]
        ·by_cases haz:arms.length=0
         ·have haz': (arms.length:Int)=0:=by omega
          simp only [haz,Int.natCast_zero] at hit
          simp [bodyI,af174,getA0,getA,setA,k198,c143,hk,hk1,hk2,hg,hrow,hrl,putCells,hr,hs,ht,hndl,hw1,hn1,hexl,hw2,hl1,harl,bound,hall1, -List.all_eq_true,ha9,ha9',h17,h17',htk,hdr,q1,q2,hit,h11b,h11c,haz,haz']
         ·have haz': ¬(arms.length:Int)=0:=by omega
          have haz'': ((arms.length:Int) ==0)=false:=by simpa using haz'
          simp [bodyI,af174,getA0,getA,setA,k198,c143,hk,hk1,hk2,hg,hrow,hrl,putCells,hr,hs,ht,hndl,hw1,hn1,hexl,hw2,hl1,harl,bound,hall1, -List.all_eq_true,ha9,ha9',h17,h17',htk,hdr,q1,q2,hit,h11b,h11c,haz,haz',haz'']
      ·rw [if_neg he]
       rw [if_neg he] at hit
       cases s7
       ·have ha00:=hs7 rfl
        simp only [ha00,Int.natCast_zero] at hit
        simp [bodyI,af174,getA0,getA,setA,k198,c143,hk,hk1,hk2,hg,hrow,hrl,putCells,hr,hs,ht,hndl,hw1,hn1,hexl,hw2,hl1,harl,bound,hall1, -List.all_eq_true,ha00,h17,h17',htk,hdr,q1,q2,hit]
       ·simp [bodyI,af174,getA0,getA,setA,k198,c143,hk,hk1,hk2,hg,hrow,hrl,putCells,hr,hs,ht,hndl,hw1,hn1,hexl,hw2,hl1,harl,bound,hall1, -List.all_eq_true,ha9,ha9',h17,h17',htk,hdr,q1,q2,hit]
     ·rw [if_neg hd2]
      have hd2': (d2 != 0)=true:=by simpa using hd2
      cases s7
      ·have ha00:=hs7 rfl
       simp [bodyI,af174,getA0,getA,setA,k198,c143,hk,hk1,hk2,hg,hrow,hrl,putCells,hr,hs,ht,hndl,hw1,hn1,hexl,hw2,hl1,harl,bound,hall1, -List.all_eq_true,ha00,h17,h17',htk,hdr,q1,q2,hd2,hd2']
      ·simp [bodyI,af174,getA0,getA,setA,k198,c143,hk,hk1,hk2,hg,hrow,hrl,putCells,hr,hs,ht,hndl,hw1,hn1,hexl,hw2,hl1,harl,bound,hall1, -List.all_eq_true,ha9,ha9',h17,h17',htk,hdr,q1,q2,hd2,hd2']
    ·rw [if_neg hd1]
     have hd1': (d1 != 0)=true:=by simpa using hd1
     cases s7
     ·have ha00:=hs7 rfl
      simp [bodyI,af174,getA0,getA,setA,k198,c143,hk,hk1,hk2,hg,hrow,hrl,putCells,hr,hs,ht,hndl,hw1,hn1,hexl,hw2,hl1,harl,bound,hall1, -List.all_eq_true,ha00,h17,h17',htk,hdr,q1,hd1,hd1']
     ·simp [bodyI,af174,getA0,getA,setA,k198,c143,hk,hk1,hk2,hg,hrow,hrl,putCells,hr,hs,ht,hndl,hw1,hn1,hexl,hw2,hl1,harl,bound,hall1, -List.all_eq_true,ha9,ha9',h17,h17',htk,hdr,q1,hd1,hd1']
  exact key
 exact CI_tree tab174 hτ rfl rfl
mutual
def Ex.e:Ex→Int
 | .mk k n s t names l arms=>if nodeE k n s t names l.length arms=0 then (if exsE l=0 then armsBE arms else exsE l) else nodeE k n s t names l.length arms
def exsE:List Ex→Int
 | []=>0
 |x::r=>if x.e=0 then exsE r else x.e
def armsBE:List Arm→Int
 | []=>0
 | .mk _ _ b::r=>if b.e=0 then armsBE r else b.e
end
def stepE (x:Ex) (_:Int):Bool × Int:=(x.e==0,x.e)
theorem foldE: ∀ (l:List Ex),foldB stepE l 0=(exsE l==0,exsE l)
 | []=>rfl
 |x::r=>by
  by_cases h:x.e=0
  ·have hb: (x.e==0)=true:=by simpa using h
   simp only [foldB,stepE,exsE,hb,h,if_true]
   exact foldE r
  ·have hb: (x.e==0)=false:=by simpa using h
   simp only [foldB,stepE,exsE,hb,if_neg h,Bool.false_eq_true,if_false]
theorem armsBE_map: ∀ (l:List Arm),armsBE l=exsE (l.map Arm.body)
 | []=>rfl
 | .mk _ _ b::r=>by simp only [armsBE,List.map_cons,exsE,Arm.body,armsBE_map r]
theorem exsE_app: ∀ (a b:List Ex),exsE (a++b)=if exsE a=0 then exsE b else exsE a
 | [],b=>by simp [exsE]
 |x::a,b=>by
  simp only [List.cons_append,exsE]
  by_cases h:x.e=0
  ·simp only [if_pos h];exact exsE_app a b
  ·simp only [if_neg h]
theorem Ex.e_eq (k n:Int) (s t:Bs) (names:List Bs) (l:List Ex) (arms:List Arm):
 (Ex.mk k n s t names l arms).e=if nodeE k n s t names l.length arms=0 then exsE (Ex.mk k n s t names l arms).parts else nodeE k n s t names l.length arms:=by
 simp only [Ex.e,Ex.parts,exsE_app,armsBE_map]
theorem c131: ∀ (e:Ex),e.ok→ ∀ (σ:St),CI (.fn 131) [.agg e.cs] σ=some (.ret (.int .i64 e.e),σ)
 | .mk k n s t names l arms,hok,σ=>by
  have h174:=fun σ=>c174 _ hok σ k n s t names l arms rfl
  have h175: ∀x ∈ (Ex.mk k n s t names l arms).parts,∀ (i:Nat) (b:Int) (σ:St),σ[i]? =some (.box [.int .i64 b])→CI (.fn 175) [.agg x.cs, .ptr i 0] σ=some (.ret (.bool (x.e==0)),σ.set i (.box [.int .i64 x.e])):=fun x hx i b σ hi=>by
   have ih:=c131 x (Ex.parts_ok hok hx)
   have hall:=x.cs_all
   have hlt:=lt_of_get hi
   have hτ:bodyI CI XB GI af175 [.agg x.cs, .ptr i 0] σ=some (.ret (.bool (x.e==0)),σ.set i (.box [.int .i64 x.e])++[.box x.cs]):=by
    simp [bodyI,af175,getA0,getO hi,setO hlt,getSs hlt,hall,ih,putCells]
   exact CI_fn tab175 hτ (postI_set (by simp [Obj.under,underL,D.under]) rfl rfl)
  rw [Ex.e_eq]
  have h172:=fun (i:Nat) (σ:St) (hi:i<σ.length)=>p172 175 [.ptr i 0] i (fun b:Int=> .box [.int .i64 b]) (fun _=>True) stepE σ hi (fun b m=>by simp [Obj.under,underL,D.under]) (Ex.mk k n s t names l arms) hok (fun _ _ _ _ _=>trivial)
   (fun x hx b τ _=>by
     have:=h175 x hx i b (σ.set i (.box [.int .i64 b])++τ) (getSs hi)
     rw [setSs hi] at this
     exact this) 0 trivial
  rw [foldE] at h172
  generalize (Ex.mk k n s t names l arms).parts=ps at*
  have hall:=(Ex.mk k n s t names l arms).cs_all
  have hcl:=(Ex.mk k n s t names l arms).cs_len
  have htk:=(Ex.mk k n s t names l arms).cs_take
  obtain ⟨τ,hτ⟩: ∃τ,bodyI CI XB GI af131 [.agg (Ex.mk k n s t names l arms).cs] σ=some (.ret (.int .i64 (if nodeE k n s t names l.length arms=0 then exsE ps else nodeE k n s t names l.length arms)),σ++τ):=by
   generalize (Ex.mk k n s t names l arms).cs=ec at*
   by_cases hz:nodeE k n s t names l.length arms=0
   ·rw [if_pos hz]
    rw [hz] at h174
    refine ⟨[.box ec, .box [.int .i64 (exsE ps)]], ?_⟩
    have h:=h172 (σ.length+1) (σ++[.box ec, .box [.int .i64 0]]) (by simp)
    simp only [setA,List.set] at h
    simp [bodyI,af131,getA0,getA,setA,hall,hcl,htk,h174,putCells,h]
   ·rw [if_neg hz]
    have hz': (nodeE k n s t names l.length arms==0)=false:=by simpa using hz
    refine ⟨[.box ec, .box [.int .i64 (nodeE k n s t names l.length arms)]], ?_⟩
    simp [bodyI,af131,getA0,getA,setA,hall,hcl,htk,h174,putCells,hz,hz']
  exact CI_tree tab131 hτ rfl rfl
termination_by e=>SizeOf.sizeOf e
decreasing_by exact Ex.parts_lt hx
mutual
def Ex.take:Ex→Int→Int × Int→Bool × (Int × Int)
 | .mk _ _ _ _ _ l arms,d,b=>if b.1 - 1<0∨200<d then (false,(b.1 - 1,if d>b.2 then d else b.2))
  else if (exsTake l (d+1) (b.1 - 1,if d>b.2 then d else b.2)).1 then armsTake arms (d+1) (exsTake l (d+1) (b.1 - 1,if d>b.2 then d else b.2)).2
  else (false,(exsTake l (d+1) (b.1 - 1,if d>b.2 then d else b.2)).2)
def exsTake:List Ex→Int→Int × Int→Bool × (Int × Int)
 | [],_,b=>(true,b)
 |x::r,d,b=>if (x.take d b).1 then exsTake r d (x.take d b).2 else (false,(x.take d b).2)
def armsTake:List Arm→Int→Int × Int→Bool × (Int × Int)
 | [],_,b=>(true,b)
 | .mk _ _ x::r,d,b=>if (x.take d b).1 then armsTake r d (x.take d b).2 else (false,(x.take d b).2)
end
theorem exsTake_fold (d:Int): ∀ (l:List Ex) (b:Int × Int),exsTake l d b=foldB (fun x=>x.take d) l b
 | [],b=>rfl
 |x::r,b=>by simp only [exsTake,foldB,exsTake_fold d r]
theorem armsTake_fold (d:Int): ∀ (l:List Arm) (b:Int × Int),armsTake l d b=foldB (fun x=>x.take d) (l.map Arm.body) b
 | [],b=>rfl
 | .mk _ _ x::r,b=>by simp only [armsTake,List.map_cons,foldB,Arm.body,armsTake_fold d r]
def deepM (d b:Int):Int:=if d>b then d else b
theorem Ex.take_eq (e:Ex) (d:Int) (b:Int × Int):e.take d b=if b.1 - 1<0∨200<d then (false,(b.1 - 1,deepM d b.2)) else foldB (fun x=>x.take (d+1)) e.parts (b.1 - 1,deepM d b.2):=by
 rcases e with ⟨k,n,s,t,names,l,arms⟩
 simp only [Ex.take,Ex.parts,foldB_app,exsTake_fold,armsTake_fold,deepM]
def inB (B:Int) (b:Int × Int):Prop:=0≤b.1∧b.1≤B
theorem Ex.take_in (B:Int): ∀ (e:Ex) (d:Int) (b:Int × Int),inB B b→(e.take d b).1=true→inB B (e.take d b).2
 |e,d,b,hb,h=>by
  rw [Ex.take_eq] at h ⊢
  by_cases h0:b.1 - 1<0∨200<d
  ·rw [if_pos h0] at h;cases h
  ·rw [if_neg h0] at h ⊢
   refine foldB_inv e.parts (fun x hx b hb hs=>Ex.take_in B x (d+1) b hb hs) _ ?_ h
   obtain ⟨h1,h2⟩:=hb
   exact ⟨by simp only;omega,by simp only;omega⟩
termination_by e=>SizeOf.sizeOf e
decreasing_by exact Ex.parts_lt hx
theorem log512:Nat.log2 512=9:=by decide
theorem tb511:Nat.testBit 511 4=true:=by decide
set_option maxHeartbeats 1000000 in
theorem c130: ∀ (e:Ex),e.ok→ ∀ (d:Int) (b:Int × Int) (i:Nat) (σ:St),inB 1000000 b→0≤d→d≤1000→σ[i]? =some (mBox b.1 b.2)→
 CI (.fn 130) [.ptr i 0, .agg e.cs, .int .i64 d] σ=some (.ret (.bool (e.take d b).1),σ.set i (mBox (e.take d b).2.1 (e.take d b).2.2))
 |e,hok,d,b,i,σ,hb,hd0,hd1,hσ=>by
  have hi:=lt_of_get hσ
  have hall:=e.cs_all
  have hcl:=e.cs_len
  have htk:=e.cs_take
  have hw:IntKind.i64.wrap (b.1 - 1)=b.1 - 1:=wrap_i64 (by have:=hb.1;omega) (by have:=hb.2;omega)
  have hwd:IntKind.i64.wrap (d+1)=d+1:=wrap_i64 (by omega) (by omega)
  have h173:d≤200→ ∀x ∈ e.parts,∀ (pm pd:Nat) (b:Int × Int) (σ:St),inB 1000000 b→σ[i]? =some (mBox b.1 b.2)→σ[pm]? =some (.box [.ptr i 0])→σ[pd]? =some (.box [.int .i64 d])→
   CI (.fn 173) [.agg x.cs, .ptr pm 0, .ptr pd 0] σ=some (.ret (.bool (x.take (d+1) b).1),σ.set i (mBox (x.take (d+1) b).2.1 (x.take (d+1) b).2.2)):=fun hd x hx pm pd b σ hb hσ hpm hpd=>by
   have hi:=lt_of_get hσ
   have ih:=c130 x (Ex.parts_ok hok hx) (d+1) b i (σ++[.box x.cs]) hb (by omega) (by omega) (getO hσ)
   rw [setO hi] at ih
   have hall:=x.cs_all
   have hcl:=x.cs_len
   have htk:=x.cs_take
   have hτ:bodyI CI XB GI af173 [.agg x.cs, .ptr pm 0, .ptr pd 0] σ=some (.ret (.bool (x.take (d+1) b).1),σ.set i (mBox (x.take (d+1) b).2.1 (x.take (d+1) b).2.2)++[.box x.cs]):=by
    generalize x.take (d+1) b=r at*
    simp [bodyI,af173,getA0,getO hpm,getO hpd,hall,hcl,htk,hwd,ih]
   exact CI_fn tab173 hτ (postI_set mBox_under rfl rfl)
  obtain ⟨τ,hτ⟩: ∃τ,bodyI CI XB GI af130 [.ptr i 0, .agg e.cs, .int .i64 d] σ=some (.ret (.bool (e.take d b).1),σ.set i (mBox (e.take d b).2.1 (e.take d b).2.2)++τ):=by
   refine ⟨[.box [.ptr i 0], .box e.cs, .box [.int .i64 d]], ?_⟩
   rw [Ex.take_eq]
   have h172: ¬b.1 - 1<0→ ¬200<d→_:=fun h0 hd=>p172 173 [.ptr σ.length 0, .ptr (σ.length+2) 0] i (fun b:Int × Int=>mBox b.1 b.2) (inB 1000000) (fun x=>x.take (d+1)) (σ++[.box [.ptr i 0], .box e.cs, .box [.int .i64 d]]) (by simp;omega) (fun b m=>mBox_under) e hok
    (fun x hx b hb hs=>Ex.take_in _ x _ b hb hs)
    (fun x hx b τ hb=>by
      rw [setO hi]
      have:=h173 (by omega) x hx σ.length (σ.length+2) b (σ.set i (mBox b.1 b.2)++[.box [.ptr i 0], .box e.cs, .box [.int .i64 d]]++τ) hb (by rw [List.append_assoc];exact getSs hi) (by rw [List.append_assoc];exact getAs0) (by rw [List.append_assoc];exact getAs)
      rw [List.append_assoc,setSs hi] at this
      rw [List.append_assoc,setO hi,List.append_assoc]
      exact this) (b.1 - 1,deepM d b.2) ⟨by simp only;omega,by have:=hb.2;simp only;omega⟩
   simp only [setO hi] at h172
   unfold deepM at*
   by_cases h0:b.1 - 1<0
   ·rw [if_pos (.inl h0)]
    simp [bodyI,af130,log512,tb511,mBox,getA0,getA,getO hσ,getAs0,getAs,getSs hi,setSs hi,setO hi,hall,hcl,htk,hw,h0]
   ·by_cases hd:200<d
    ·rw [if_pos (.inr hd)]
     simp [bodyI,af130,log512,tb511,mBox,getA0,getA,getO hσ,getAs0,getAs,getSs hi,setSs hi,setO hi,hall,hcl,htk,hw,h0,hd]
    ·rw [if_neg (by simp [h0,hd])]
     have h:=h172 h0 hd
     simp only [gt_iff_lt] at h ⊢
     generalize foldB (fun x=>x.take (d+1)) e.parts _=r at*
     simp only [mBox] at h
     simp [bodyI,af130,log512,tb511,mBox,getA0,getA,getO hσ,getAs0,getAs,getSs hi,setSs hi,setO hi,hall,hcl,htk,hw,h0,hd,h]
  exact CI_fn tab130 hτ (postI_set mBox_under rfl rfl)
termination_by e=>SizeOf.sizeOf e
decreasing_by exact Ex.parts_lt hx
def Dfn.ok (d:Dfn):Prop:=d.body.ok
structure Prg.ok (p:Prg):Prop where
 dl:p.data.length≤maxL
 d: ∀d ∈ p.data,d.ok
 el:p.effects.length≤maxL
 e: ∀e ∈ p.effects,e.ok
 fl:p.defs.length≤maxL
 f: ∀f ∈ p.defs,f.ok
 m:p.main.ok
def nest1 (d:Dfn) (out:Ex):Ex:= .mk 6 0 [] [] [d.name] [d.body,out] []
def nestE (l:List Dfn) (m:Ex):Ex:=l.foldr nest1 m
theorem nestE_ok {m:Ex} (hm:m.ok): ∀ {l:List Dfn},(∀d ∈ l,d.ok)→(nestE l m).ok
 | [],_=>hm
 |d::r,h=>⟨by unfold maxL;simp,by unfold maxL;simp,by unfold maxL;simp,⟨h d List.mem_cons_self,nestE_ok hm fun x hx=>h x (List.mem_cons_of_mem _ hx),trivial⟩,trivial⟩
def idx:Nat→Int
 |0=> -1
 |k+1=>k
theorem b142 (p:Prg) (out:Ex) (σ:St) (p1 p2 p3 k:Nat) (h1:σ[p1]? =some (.box p.cs)) (h3:σ[p3]? =some (.box out.cs)) (hk:k<p.defs.length) (hl:p.defs.length≤maxL):
 evalI CI XB GI 30 false lp142_0 [(1, .ptr p1 0),(2, .ptr p2 0),(3, .ptr p3 0),(4, .int .i64 k)] σ=
  some (.normal,[(1, .ptr p1 0),(2, .ptr p2 0),(3, .ptr p3 0),(4, .int .i64 (idx k))],σ.set p3 (.box (nest1 p.defs[k] out).cs)++[.box p.defs[k].cs]):=by
 rcases p with ⟨data,effects,defs,main⟩
 have hw:IntKind.i64.wrap ((k:Int) - 1)=idx k:=by
  cases k with
  |zero=>rfl
  |succ k=>rw [wrap_i64 (by omega) (by unfold maxL at hl;simp only at hk hl;omega)];simp only [idx];omega
 have hi3:=lt_of_get h3
 simp only [Prg.cs] at h1 hk ⊢
 have hget: (defs.map Dfn.d)[k]? =some (.agg defs[k].cs):=by simp [Dfn.d,hk]
 have hlen: (defs.map Dfn.d).length=defs.length:=by simp
 generalize defs[k]=dk at*
 rcases dk with ⟨name,body⟩
 simp only [Dfn.cs,nest1,Ex.cs,exsD,slD,List.map_cons,List.map_nil,armsD] at*
 have hc1:=body.cs_len
 have hc2:=body.cs_take
 have hc3:=body.cs_all
 have ho1:=out.cs_len
 have ho2:=out.cs_take
 have ho3:=out.cs_all
 have ho4:out.cs.drop 7=[]:=List.drop_eq_nil_of_le (by simp)
 generalize body.cs=bc at*
 generalize out.cs=oc at*
 generalize main.cs=mc at*
 generalize data.map Dat.d=dd at*
 generalize effects.map Eff.d=ed at*
 generalize defs.map Dfn.d=ld at*
 have h2:k<ld.length:=by omega
 have h4:ld[k]= .agg (.str name::bc):=by rw [List.getElem?_eq_getElem h2] at hget;exact Option.some.inj hget
 simp [lp142_0,h1,h3,h2,h4,hw,getO h1,getO h3,getA0,setA0,setO hi3,hc1,hc2,hc3,ho1,ho2,ho3,ho4,putCells,fillRow,fillD]
theorem it142 (p:Prg) (hl:p.defs.length≤maxL) (σ:St) (z:Obj): ∀ (m:Nat) (τ:St),m≤p.defs.length→
 ∃τ',iterI (evalI CI XB GI 30 false lp142_0) [(1, .ptr σ.length 0),(2, .ptr (σ.length+1) 0),(3, .ptr (σ.length+2) 0),(4, .int .i64 (idx m))] (σ++([.box p.cs,z, .box (nestE (p.defs.drop m) p.main).cs]++τ))=
  some (.exit 0,[(1, .ptr σ.length 0),(2, .ptr (σ.length+1) 0),(3, .ptr (σ.length+2) 0),(4, .int .i64 (-1)),(13, .bool false)],σ++([.box p.cs,z, .box (nestE p.defs p.main).cs]++τ'))
 |0,τ,_=>⟨τ,iterI_end (by simp [lp142_0,idx]) (by simp)⟩
 |m+1,τ,hm=>by
  have hb:=b142 p (nestE (p.defs.drop (m+1)) p.main) (σ++([.box p.cs,z, .box (nestE (p.defs.drop (m+1)) p.main).cs]++τ)) σ.length (σ.length+1) (σ.length+2) m getA0 getA (by omega) hl
  obtain ⟨τ',ih⟩:=it142 p hl σ z m (τ++[.box p.defs[m].cs]) (by omega)
  refine ⟨τ', ?_⟩
  simp only [idx]
  have hd:nestE (p.defs.drop m) p.main=nest1 p.defs[m] (nestE (p.defs.drop (m+1)) p.main):=by
   rw [List.drop_eq_getElem_cons (show m<p.defs.length by omega)];rfl
  rw [iterI_next hb,←ih,setA,hd]
  simp
theorem c142 (p:Prg) (hl:p.defs.length≤maxL) (σ:St):CI (.fn 142) [.agg p.cs] σ=some (.ret (.agg (nestE p.defs p.main).cs),σ):=by
 obtain ⟨τ,hit⟩:=it142 p hl σ (.box z7a) p.defs.length [] (by omega)
 rw [List.drop_length] at hit
 obtain ⟨τ,hτ⟩: ∃τ,bodyI CI XB GI af142 [.agg p.cs] σ=some (.ret (.agg (nestE p.defs p.main).cs),σ++τ):=by
  refine ⟨[.box p.cs, .box (nestE p.defs p.main).cs, .box (nestE p.defs p.main).cs]++τ, ?_⟩
  ·have hw:IntKind.i64.wrap ((p.defs.length:Int) - 1)=idx p.defs.length:=by
    unfold maxL at hl
    cases hn:p.defs.length with
    |zero=>rfl
    |succ k=>rw [wrap_i64 (by omega) (by omega)];simp only [idx];omega
   have hlen: (p.defs.map Dfn.d).length=p.defs.length:=by simp
   have hn:nestE [] p.main=p.main:=rfl
   rw [hn] at hit
   have ho1:=(nestE p.defs p.main).cs_len
   have ho2:=(nestE p.defs p.main).cs_take
   have ho3:=(nestE p.defs p.main).cs_all
   have ho4: (nestE p.defs p.main).cs.drop 7=[]:=List.drop_eq_nil_of_le (by simp)
   have hm1:=p.main.cs_len
   have hm2:=p.main.cs_take
   have hm3:=p.main.cs_all
   have hm4:p.main.cs.drop 7=[]:=List.drop_eq_nil_of_le (by simp)
   generalize nestE p.defs p.main=out at*
   rcases p with ⟨data,effects,defs,main⟩
   simp only [Prg.cs] at*
   generalize out.cs=oc at*
   generalize main.cs=mc at*
   generalize data.map Dat.d=dd at*
   generalize effects.map Eff.d=ed at*
   generalize defs.map Dfn.d=ld at*
   simp only [List.cons_append,List.nil_append,List.append_nil] at hit
   simp [bodyI,af142,getA0,getA,setA,setA0,ho1,ho2,ho3,ho4,hm1,hm2,hm3,hm4,putCells,hlen,hw,hit]
 exact CI_tree tab142 hτ (Ex.plain _).agg.1 (Ex.plain _).agg.2
def orE (a b:Int):Int:=if a=0 then b else a
def dfnE (d:Dfn):Int:=if varW d.name then d.body.e else 4
def Prg.syn (p:Prg):Int:=
 if 12<p.data.length∨12<p.effects.length∨60<p.defs.length then 3
 else orE (firstE (p.data.map datE)) (orE (firstE (p.effects.map effE)) (if ((nestE p.defs p.main).take 1 (3000,0)).1 then orE (firstE (p.defs.map dfnE)) p.main.e else 3))
theorem c95 (p:Prg) (hok:p.ok) (σ:St):CI (.fn 95) [.agg p.cs] σ=some (.ret (.int .i64 p.syn),σ):=by
 obtain ⟨hdl,hd,hel,he,hfl,hf,hm⟩:=hok
 have h142:=fun σ=>c142 p hfl σ
 have h131:=fun σ=>c131 p.main hm σ
 have hno:=nestE_ok hm hf
 have h130:=fun i σ h=>c130 (nestE p.defs p.main) hno 1 (3000,0) i σ ⟨by simp,by simp⟩ (by omega) (by omega) h
 obtain ⟨τ1,hit1⟩:=loop_seek (f:=evalI CI XB GI 81 false lp95_0) (σ:=σ++[.box p.cs]) p.data (fun i=>[(1, .ptr σ.length 0),(30, .slice (p.data.map Dat.d)),(31, .int .i64 p.data.length),(32, .int .i64 (i:Nat))]) (fun a=>datE a != 0) (fun a=>(.ret,[(2, .int .i64 (datE a))]))
  (.exit 0,[(1, .ptr σ.length 0),(30, .slice (p.data.map Dat.d)),(31, .int .i64 p.data.length),(32, .int .i64 p.data.length),(33, .bool false)]) (by simp) (by simp)
  (fun i hi τ=>by
    have hw:=wrap_nat (n:=i) (by unfold maxL at hdl;omega)
    have hcall:=fun σ=>c140 _ (hd _ (List.getElem_mem hi)) σ
    have hlen: (p.data.map Dat.d).length=p.data.length:=by simp
    have hget: (p.data.map Dat.d)[i]? =some (Dat.d p.data[i]):=by simp [hi]
    generalize p.data.map Dat.d=ld at*
    have h2:i<ld.length:=by omega
    have h3:ld[i]=Dat.d p.data[i]:=by rw [List.getElem?_eq_getElem h2] at hget;exact Option.some.inj hget
    generalize p.data[i]=x at*
    refine ⟨τ++[.box (Dat.cs x)], ?_⟩
    rw [←List.append_assoc]
    generalize σ++[.box p.cs]++τ=σ1 at*
    have hxl:x.cs.length=3:=rfl
    have hxt:x.cs.take 3=x.cs:=rfl
    have hxd:x.cs.drop 3=[]:=rfl
    have hxa:x.cs.all D.one=true:=rfl
    simp only [Dat.d] at*
    generalize x.cs=xc at*
    cases hx:datE x != 0
    ·have h0:datE x=0:=by simpa using hx
     simp [lp95_0,hi,hw,h2,h3,getA0,setA0,hcall,h0,hxl,hxt,hxd,hxa,putCells]
    ·have h0: ¬datE x=0:=by simpa using hx
     simp [lp95_0,hi,hw,h2,h3,getA0,setA0,hcall,h0,hx,hxl,hxt,hxd,hxa,putCells]) (fun τ=>⟨τ,by simp [lp95_0]⟩) []
 rw [Int.natCast_zero,List.append_nil] at hit1
 obtain ⟨τ2,hit2⟩:=loop_seek (f:=evalI CI XB GI 81 false lp95_1) (σ:=σ++[.box p.cs]) p.effects (fun i=>[(1, .ptr σ.length 0),(43, .slice (p.effects.map Eff.d)),(44, .int .i64 p.effects.length),(45, .int .i64 (i:Nat))]) (fun a=>effE a != 0) (fun a=>(.ret,[(2, .int .i64 (effE a))]))
  (.exit 2,[(1, .ptr σ.length 0),(43, .slice (p.effects.map Eff.d)),(44, .int .i64 p.effects.length),(45, .int .i64 p.effects.length),(46, .bool false)]) (by simp) (by simp)
  (fun i hi τ=>by
    have hw:=wrap_nat (n:=i) (by unfold maxL at hel;omega)
    have hcall:=fun σ=>c141 _ (he _ (List.getElem_mem hi)) σ
    have hlen: (p.effects.map Eff.d).length=p.effects.length:=by simp
    have hget: (p.effects.map Eff.d)[i]? =some (Eff.d p.effects[i]):=by simp [hi]
    generalize p.effects.map Eff.d=ld at*
    have h2:i<ld.length:=by omega
    have h3:ld[i]=Eff.d p.effects[i]:=by rw [List.getElem?_eq_getElem h2] at hget;exact Option.some.inj hget
    generalize p.effects[i]=x at*
    refine ⟨τ++[.box (Eff.cs x)], ?_⟩
    rw [←List.append_assoc]
    generalize σ++[.box p.cs]++τ=σ1 at*
    have hxl:x.cs.length=2:=rfl
    have hxt:x.cs.take 2=x.cs:=rfl
    have hxd:x.cs.drop 2=[]:=rfl
    have hxa:x.cs.all D.one=true:=rfl
    simp only [Eff.d] at*
    generalize x.cs=xc at*
    cases hx:effE x != 0
    ·have h0:effE x=0:=by simpa using hx
     simp [lp95_1,hi,hw,h2,h3,getA0,setA0,hcall,h0,hxl,hxt,hxd,hxa,putCells]
    ·have h0: ¬effE x=0:=by simpa using hx
     simp [lp95_1,hi,hw,h2,h3,getA0,setA0,hcall,h0,hx,hxl,hxt,hxd,hxa,putCells]) (fun τ=>⟨τ,by simp [lp95_1]⟩) τ1
 rw [Int.natCast_zero] at hit2
 have hit3:=fun τ=>loop_seek (f:=evalI CI XB GI 81 false lp95_2) (σ:=σ++[.box p.cs]) p.defs (fun i=>[(1, .ptr σ.length 0),(61, .slice (p.defs.map Dfn.d)),(62, .int .i64 p.defs.length),(63, .int .i64 (i:Nat))]) (fun a=>dfnE a != 0) (fun a=>(.ret,[(2, .int .i64 (dfnE a))]))
  (.exit 4,[(1, .ptr σ.length 0),(61, .slice (p.defs.map Dfn.d)),(62, .int .i64 p.defs.length),(63, .int .i64 p.defs.length),(64, .bool false)]) (by simp) (by simp)
  (fun i hi τ=>by
    have hw:=wrap_nat (n:=i) (by unfold maxL at hfl;omega)
    have hcall:=fun σ=>c131 _ (hf _ (List.getElem_mem hi)) σ
    have hlen: (p.defs.map Dfn.d).length=p.defs.length:=by simp
    have hget: (p.defs.map Dfn.d)[i]? =some (Dfn.d p.defs[i]):=by simp [hi]
    generalize p.defs.map Dfn.d=ld at*
    have h2:i<ld.length:=by omega
    have h3:ld[i]=Dfn.d p.defs[i]:=by rw [List.getElem?_eq_getElem h2] at hget;exact Option.some.inj hget
    generalize p.defs[i]=x at*
    refine ⟨τ++[.box (Dfn.cs x)], ?_⟩
    rw [←List.append_assoc]
    generalize σ++[.box p.cs]++τ=σ1 at*
    rcases x with ⟨name,body⟩
    have hxl:=body.cs_len
    have hxt:=body.cs_take
    have hxa:=body.cs_all
    have hxd:body.cs.drop 7=[]:=List.drop_eq_nil_of_le (by simp)
    simp only [Dfn.d,Dfn.cs,dfnE] at*
    generalize body.cs=xc at*
    cases hv:varW name
    ·simp [lp95_2,hi,hw,h2,h3,getA0,setA0,c143,isC1,hv,hcall,hxl,hxt,hxd,hxa,putCells]
    ·cases hx:body.e != 0
     ·have h0:body.e=0:=by simpa using hx
      simp [lp95_2,hi,hw,h2,h3,getA0,setA0,c143,isC1,hv,hcall,h0,hxl,hxt,hxd,hxa,putCells]
     ·have h0: ¬body.e=0:=by simpa using hx
      simp [lp95_2,hi,hw,h2,h3,getA0,setA0,c143,isC1,hv,hcall,h0,hx,hxl,hxt,hxd,hxa,putCells]) (fun τ=>⟨τ,by simp [lp95_2]⟩) τ
 simp only [Int.natCast_zero] at hit3
 obtain ⟨τ,hτ⟩: ∃τ,bodyI CI XB GI af95 [.agg p.cs] σ=some (.ret (.int .i64 p.syn),σ++τ):=by
  unfold Prg.syn
  have hg: ∀τ,(σ++[.box p.cs]++τ)[σ.length]? =some (.box p.cs):=fun τ=>by rw [List.append_assoc];exact getA0
  have hg1:=hg τ1
  have hg2:=hg τ2
  obtain ⟨σ1,hσ1⟩: ∃σ1,σ++[.box p.cs]++τ1=σ1:=⟨_,rfl⟩
  obtain ⟨σ2,hσ2⟩: ∃σ2,σ++[.box p.cs]++τ2=σ2:=⟨_,rfl⟩
  rw [hσ1] at hg1 hit1 hit2
  rw [hσ2] at hg2 hit2
  have hall:p.cs.all D.one=true:=by rcases p with ⟨_,_,_,main⟩;simp only [Prg.cs,List.all_append,main.cs_all];rfl
  have hdL: (p.data.map Dat.d).length=p.data.length:=by simp
  have heL: (p.effects.map Eff.d).length=p.effects.length:=by simp
  have hfL: (p.defs.map Dfn.d).length=p.defs.length:=by simp
  have hm1:=p.main.cs_len
  have hm2:=p.main.cs_take
  have hm3:=p.main.cs_all
  have hpc:p.cs= .slice (p.data.map Dat.d):: .slice (p.effects.map Eff.d):: .slice (p.defs.map Dfn.d)::p.main.cs:=by cases p;rfl
  have hpl:p.cs.length=10:=by rw [hpc];simp
  have hpt:p.cs.take 10=p.cs:=List.take_of_length_le (by omega)
  rw [firstE_find,firstE_find]
  by_cases hA:12<p.data.length
  ·refine ⟨[.box p.cs], ?_⟩
   have hA': (12:Int) <p.data.length:=by omega
   rw [if_pos (.inl hA)]
   rw [hpc] at hall ⊢
   generalize p.data.map Dat.d=dd at*
   generalize p.effects.map Eff.d=ed at*
   generalize p.defs.map Dfn.d=fd at*
   generalize p.main.cs=mc at*
   simp [bodyI,af95,getA0,hm3,hdL,hA,hA']
  by_cases hB:12<p.effects.length
  ·refine ⟨[.box p.cs], ?_⟩
   have hA': ¬(12:Int) <p.data.length:=by omega
   have hB': (12:Int) <p.effects.length:=by omega
   rw [if_pos (.inr (.inl hB))]
   rw [hpc] at hall ⊢
   generalize p.data.map Dat.d=dd at*
   generalize p.effects.map Eff.d=ed at*
   generalize p.defs.map Dfn.d=fd at*
   generalize p.main.cs=mc at*
   simp [bodyI,af95,getA0,hm3,hdL,heL,hA,hA',hB,hB']
  by_cases hC:60<p.defs.length
  ·refine ⟨[.box p.cs], ?_⟩
   have hA': ¬(12:Int) <p.data.length:=by omega
   have hB': ¬(12:Int) <p.effects.length:=by omega
   have hC': (60:Int) <p.defs.length:=by omega
   rw [if_pos (.inr (.inr hC))]
   rw [hpc] at hall ⊢
   generalize p.data.map Dat.d=dd at*
   generalize p.effects.map Eff.d=ed at*
   generalize p.defs.map Dfn.d=fd at*
   generalize p.main.cs=mc at*
   simp [bodyI,af95,getA0,hm3,hdL,heL,hfL,hA,hA',hB,hB',hC,hC']
  have hA': ¬(12:Int) <p.data.length:=by omega
  have hB': ¬(12:Int) <p.effects.length:=by omega
  have hC': ¬(60:Int) <p.defs.length:=by omega
  rw [if_neg (by omega)]
  cases hf1:p.data.find? (fun a=>datE a != 0) with
  |some a=>
   rw [hf1] at hit1
   have h0: ¬datE a=0:=by have:=List.find?_some hf1;simpa using this
   refine ⟨[.box p.cs]++τ1, ?_⟩
   rw [←List.append_assoc,hσ1]
   simp only [orE,if_neg h0]
   simp only [hpc] at hall hit1 hg1 ⊢
   generalize p.data.map Dat.d=dd at*
   generalize p.effects.map Eff.d=ed at*
   generalize p.defs.map Dfn.d=fd at*
   generalize p.main.cs=mc at*
   simp [bodyI,af95,getA0,hm3,hdL,heL,hfL,hA,hA',hB,hB',hC,hC',hit1]
  |none=>
  rw [hf1] at hit1
  simp only [orE,if_pos rfl]
  cases hf2:p.effects.find? (fun a=>effE a != 0) with
  |some a=>
   rw [hf2] at hit2
   have h0: ¬effE a=0:=by have:=List.find?_some hf2;simpa using this
   refine ⟨[.box p.cs]++τ2, ?_⟩
   rw [←List.append_assoc,hσ2]
   simp only [if_neg h0]
   simp only [hpc] at hall hit1 hg1 hg2 ⊢
   generalize p.data.map Dat.d=dd at*
   generalize p.effects.map Eff.d=ed at*
   generalize p.defs.map Dfn.d=fd at*
   generalize p.main.cs=mc at*
   simp [bodyI,af95,getA0,hm3,hdL,heL,hfL,hA,hA',hB,hB',hC,hC',hit1,hg1,hit2]
  |none=>
  rw [hf2] at hit2
  simp only [if_pos rfl]
  obtain ⟨q,hq⟩: ∃q,(nestE p.defs p.main).take 1 (3000,0)=q:=⟨_,rfl⟩
  rw [hq]
  have h130':=h130 σ2.length (σ2++[mBox 3000 0]) (by rw [getA0];rfl)
  rw [setA0,hq] at h130'
  obtain ⟨τ3,hit3⟩:=hit3 (τ2++[mBox q.2.1 q.2.2])
  rw [←List.append_assoc,hσ2] at hit3
  have hg3:=hg τ3
  simp only [mBox,List.set] at h130' hit3
  cases hq1:q.1
  ·refine ⟨[.box p.cs]++(τ2++[mBox q.2.1 q.2.2]), ?_⟩
   rw [hq1] at h130'
   rw [←List.append_assoc,←List.append_assoc,hσ2]
   simp only [mBox]
   simp only [hpc] at hall hit1 hg1 hg2 hpl hpt h142 ⊢
   generalize p.data.map Dat.d=dd at*
   generalize p.effects.map Eff.d=ed at*
   generalize p.defs.map Dfn.d=fd at*
   generalize p.main.cs=mc at*
   simp [bodyI,af95,getA0,hm1,hm3,hm2,hdL,heL,hfL,hA,hA',hB,hB',hC,hC',hit1,hg1,hit2,hg2,setA0,getO hg2,fillD,putCells,h142,h130']
  ·rw [hq1] at h130'
   rw [firstE_find]
   cases hf3:p.defs.find? (fun a=>dfnE a != 0) with
   |some a=>
    rw [hf3] at hit3
    have h0: ¬dfnE a=0:=by have:=List.find?_some hf3;simpa using this
    refine ⟨[.box p.cs]++τ3, ?_⟩
    rw [←List.append_assoc]
    generalize hσ3:σ++[.box p.cs]++τ3=σ3 at*
    simp only [if_neg h0]
    simp only [hpc] at hall hit1 hg1 hg2 hg3 hpl hpt h142 ⊢
    generalize p.data.map Dat.d=dd at*
    generalize p.effects.map Eff.d=ed at*
    generalize p.defs.map Dfn.d=fd at*
    generalize p.main.cs=mc at*
    simp [bodyI,af95,getA0,hm1,hm3,hm2,hdL,heL,hfL,hA,hA',hB,hB',hC,hC',hit1,hg1,hit2,hg2,setA0,getO hg2,fillD,putCells,h142,h130',hit3]
   |none=>
    rw [hf3] at hit3
    refine ⟨[.box p.cs]++τ3, ?_⟩
    rw [←List.append_assoc]
    generalize hσ3:σ++[.box p.cs]++τ3=σ3 at*
    simp only [hpc] at hall hit1 hg1 hg2 hg3 hpl hpt h142 ⊢
    generalize p.data.map Dat.d=dd at*
    generalize p.effects.map Eff.d=ed at*
    generalize p.defs.map Dfn.d=fd at*
    generalize p.main.cs=mc at*
    simp [bodyI,af95,getA0,hm1,hm3,hm2,hdL,heL,hfL,hA,hA',hB,hB',hC,hC',hit1,hg1,hit2,hg2,setA0,getO hg2,fillD,putCells,h142,h130',hit3,hg3,h131]
 exact CI_tree tab95 hτ rfl rfl
end Go.AI
namespace Go.Proofs.YtgenoggafhhgfaaGreatDoor
open Go Go.AI Go.ChangeShapes Go.WideShapes Go.ChangeAt Go.RowKit
set_option maxRecDepth 100000
def oldB (W:World) (b:Nat):Prop:=b<W.heap.size
def RC (W:World) (ds:List D) (cs:List Value):Prop:=ds.length=cs.length∧ ∀ (j:Nat) (d:D),ds[j]? =some d→ ∃v,cs[j]? =some v∧R (bare (oldB W)) W d v
theorem RC.one {W:World} {d:D} {v:Value} (h:R (bare (oldB W)) W d v):RC W [d] [v]:=
 ⟨rfl,fun j x hx=>by
  match j,hx with
  |0,hx=>cases hx;exact ⟨v,rfl,h⟩⟩
theorem RC.nil {W:World} {cs:List Value} {off:Nat} (h:cs.length≤off):RC W [] (cs.drop off):=⟨by rw [List.drop_eq_nil_of_le h];rfl,fun j x hx=>by simp at hx⟩
theorem RC.cons {W:World} {a rest:List D} {cs:List Value} {off s:Nat} (h:RC W a ((cs.drop off).take s)) (hr:RC W rest (cs.drop (off+s))) (hl:off+s≤cs.length):RC W (a++rest) (cs.drop off):=by
 obtain ⟨h1,h2⟩:=h
 obtain ⟨r1,r2⟩:=hr
 simp only [List.length_take,List.length_drop] at h1 r1
 have hal:a.length=s:=by omega
 refine ⟨by simp only [List.length_append,List.length_drop];omega,fun j d hd=> ?_⟩
 by_cases hj:j<a.length
 ·rw [List.getElem?_append_left hj] at hd
  obtain ⟨v,hv,hvr⟩:=h2 j d hd
  rw [List.getElem?_take_of_lt (by omega)] at hv
  exact ⟨v,hv,hvr⟩
 ·rw [List.getElem?_append_right (by omega)] at hd
  obtain ⟨v,hv,hvr⟩:=r2 (j - a.length) d hd
  rw [List.getElem?_drop] at hv ⊢
  exact ⟨v,by rw [←hv];congr 1;omega,hvr⟩
section
variable {H:Type} {enc:TypeId × Value→H} {W:World} {sp:Nat→Bool} {held:Bool}
def Fit {H:Type} (t:TypeId) (d:DataW H):Prop:=(d.weights Tryz.prog t).all (· ≤reachBytes)=true
def Opens {α:Type} (enc:TypeId × Value→H) (W:World) (sp:Nat→Bool) (held:Bool) (t:TypeId) (f:α→List D) (ok:α→Prop) (m:Nat):Prop:=
 ∀ (cs:List Value) (x:DataW H × List MemPlace),DataW.trod enc Tryz.prog W 0 sp held m t cs=some x→Fit t x.1→ ∃a,RC W (f a) cs∧ok a
theorem fit_each: ∀ (ts:List TypeId) (ds:List (DataW H)),(DataW.weightsEach Tryz.prog ts ds).all (· ≤reachBytes)=true→ ∀ (i:Nat) (t:TypeId) (d:DataW H),ts[i]? =some t→ds[i]? =some d→Fit t d
 | [],_,_,i,t,d,ht,_=>by simp at ht
 |_::_,[],_,i,t,d,_,hd=>by simp at hd
 |t::ts,d::ds,h,0,u,e,ht,hd=>by
  cases ht;cases hd
  simp only [DataW.weightsEach,List.all_append,Bool.and_eq_true] at h
  exact h.1
 |t::ts,d::ds,h,i+1,u,e,ht,hd=>by
  simp only [DataW.weightsEach,List.all_append,Bool.and_eq_true] at h
  exact fit_each ts ds h.2 i u e (by simpa using ht) (by simpa using hd)
theorem fit_all (e:TypeId): ∀ (ds:List (DataW H)),(DataW.weightsAll Tryz.prog e ds).all (· ≤reachBytes)=true→ ∀d ∈ ds,Fit e d
 | [],_,d,hd=>by cases hd
 |a::r,h,d,hd=>by
  simp only [DataW.weightsAll,List.all_append,Bool.and_eq_true] at h
  cases hd with
  |head=>exact h.1
  |tail _ hd=>exact fit_all e r h.2 d hd
theorem opens_int {t:TypeId} {k:IntKind} (ht:Tryz.prog.underlying t=some (.int k)) (m:Nat):Opens enc W sp held t (fun n:Int=>[.int k n]) (fun n=>(Lit.int k n).wf=true) m:=by
 intro cs x h _
 obtain ⟨n,rfl,rfl,hw⟩:=DataW.trod_int ht h
 exact ⟨n, .one (.int _ _),hw⟩
theorem opens_str {t:TypeId} (ht:Tryz.prog.underlying t=some .string) (m:Nat):Opens enc W sp held t (fun s:Bs=>[.str s]) (fun _=>True) m:=by
 intro cs x h _
 obtain ⟨s,rfl,rfl,_⟩:=DataW.trod_string ht h
 exact ⟨s.data.toList, .one (R.str (ρ:=bare (oldB W)) (W:=W) s),trivial⟩
theorem opens_bool {t:TypeId} (ht:Tryz.prog.underlying t=some .bool) (m:Nat):Opens enc W sp held t (fun b:Bool=>[.bool b]) (fun _=>True) m:=by
 intro cs x h _
 obtain ⟨b,rfl,rfl⟩:=DataW.trod_bool ht h
 exact ⟨b, .one (.bool _),trivial⟩
theorem list_of {α:Type} {P:Nat→α→Prop} : ∀ (n:Nat),(∀i,i<n→ ∃t,P i t)→ ∃l:List α,l.length=n∧ ∀i t,l[i]? =some t→P i t
 |0,_=>⟨[],rfl,fun i t h=>by simp at h⟩
 |n+1,h=>by
  obtain ⟨l,h1,h2⟩:=list_of n fun i hi=>h i (by omega)
  obtain ⟨t,ht⟩:=h n (by omega)
  refine ⟨l++[t],by simp [h1],fun i u hu=> ?_⟩
  rw [List.getElem?_append] at hu
  split at hu
  ·exact h2 i u hu
  ·rename_i hi
   have hin:i=n:=by
    have:=(List.getElem?_eq_some_iff.1 hu).1
    simp at this;omega
   subst hin
   rw [h1] at hu
   simp at hu
   rw [←hu];exact ht
theorem opens_sliceB {α:Type} {f:α→List D} {ok:α→Prop} (g:α→D) (hg: ∀a,(g a).cells=f a) {t e:TypeId} {sz bytes:Nat} (ht:Tryz.prog.underlying t=some (.slice e)) (hsz:Tryz.prog.cellsOf e=sz) (hsz0:0<sz) (hfl: ∀a,(f a).length=sz)
 (hb:Tryz.prog.bytesOf e=bytes) {m:Nat} (ih: ∀n,n<m→Opens enc W sp held e f ok n):
 Opens enc W sp held t (fun l:List α=>[.slice (l.map g)]) (fun l=>l.length*bytes≤reachBytes∧ ∀a ∈ l,ok a) m:=by
 intro cs x h hfit
 rcases DataW.trod_slice ht h with ⟨rfl,rfl⟩ | ⟨a,len,cap,elems,rest,n,rfl,rfl,rfl,_,hlc,_,hlen,hel,_,_⟩
 ·exact ⟨[], .one (.slice0 none 0),by simp,by simp⟩
 ·rw [hsz] at hel
  have hF: (elems.length+rest.length) *bytes≤reachBytes∧(∀d ∈ elems.map (·.1),Fit e d):=by
   unfold Fit at hfit
   simp only [DataW.weights,ht,List.all_cons,List.all_append,Bool.and_eq_true,decide_eq_true_eq,List.length_map,hb] at hfit
   exact ⟨hfit.1,fit_all e _ hfit.2.1⟩
  have hlm:len*bytes≤reachBytes:=by
   have h1:=hF.1
   rw [hlen] at h1
   exact Nat.le_trans (Nat.mul_le_mul_right _ (by omega)) h1
  obtain ⟨ls,h1,h2⟩:=list_of (P:=fun i (v:α)=>ok v∧ ∃csi,W.cells? 0 (a.add (i*sz)) sz=some csi∧RC W (f v) csi) len fun i hi=>by
   have hi2:=hel i hi
   rw [List.getElem?_eq_getElem (by omega)] at hi2
   obtain ⟨csi,hcs,htr⟩:=Option.bind_eq_some_iff.1 hi2
   obtain ⟨v,hv,hok⟩:=ih n (by omega) csi _ htr (hF.2 _ (List.mem_map_of_mem (List.getElem_mem _)))
   exact ⟨v,hok,csi,hcs,hv⟩
  refine ⟨ls, ?_,by rw [h1];exact hlm,fun v hv=>by
   obtain ⟨i,hi⟩:=List.mem_iff_getElem?.1 hv
   exact (h2 i v hi).1⟩
  refine .one ?_
  by_cases h0:len=0
  ·subst h0
   have:ls=[]:=List.length_eq_zero_iff.1 h1
   subst this
   exact .slice0 (some a) cap
  ·have cell: ∀i v,ls[i]? =some v→ ∀j d,(f v)[j]? =some d→ ∃w,W.cell? ((a.add (i*sz)).add j)=some w∧R (bare (oldB W)) W d w:=by
    intro i v hv j d hd
    obtain ⟨_,csi,hcs,hr1,hr2⟩:=h2 i v hv
    obtain ⟨w,hw,hwr⟩:=hr2 j d hd
    unfold World.cells? at hcs
    rw [if_pos (Nat.zero_le _)] at hcs
    have hj:j<sz:=by have:=(List.getElem?_eq_some_iff.1 hd).1;rw [hfl] at this;exact this
    obtain ⟨w',hw',hwc⟩:=Lib.mapM_at hcs j j (by simp [hj])
    rw [hw'] at hw
    cases hw
    exact ⟨w,hwc,hwr⟩
   obtain ⟨v0,hv0⟩: ∃v,ls[0]? =some v:=⟨ls[0]'(by omega),by simp⟩
   obtain ⟨d0,hd0⟩: ∃d,(f v0)[0]? =some d:=⟨(f v0)[0]'(by rw [hfl];omega),by simp⟩
   obtain ⟨w0,hc0,_⟩:=cell 0 v0 hv0 0 d0 hd0
   simp only [Nat.zero_mul] at hc0
   obtain ⟨b,off,sp'⟩:=a
   have hs:sp'=none:=by
    cases sp' with
    |none=>rfl
    |some q=>
     simp only [Addr.add,if_true,World.cell?] at hc0
     split at hc0<;>simp at hc0
   subst hs
   have hblk:oldB W b:=by
    simp only [Addr.add,if_true,World.cell?] at hc0
    split at hc0
    ·rename_i hb';exact (Array.getElem?_eq_some_iff.1 hb').1
    ·cases hc0
   have hadd: ∀i j:Nat,((⟨b,off,none⟩:Addr).add (i*sz)).add j=⟨b,off+ (i*sz+j),none⟩:=by
    intro i j
    unfold Addr.add
    by_cases hi:i*sz=0<;>by_cases hj:j=0<;>simp [hi,hj]<;>omega
   have key: ∀ (i jj:Nat) (e dd:D),(ls.map g)[i]? =some e→e.cells[jj]? =some dd→ ∃v,W.cell? ⟨b,off+ (i*sz+jj),none⟩=some v∧R (bare (oldB W)) W dd v:=by
    intro i jj e dd he hdd
    rw [List.getElem?_map] at he
    obtain ⟨v,hv,rfl⟩:=Option.map_eq_some_iff.1 he
    rw [hg] at hdd
    obtain ⟨w,hw,hr⟩:=cell i v hv jj dd hdd
    rw [hadd] at hw
    exact ⟨w,hw,hr⟩
   refine R.slice (sz:=sz) (f:=fun i jj=>(W.cell? ⟨b,off+ (i*sz+jj),none⟩).getD undef) hblk (by simp [h1]) hlc ?_ ?_ ?_
   ·intro i e he
    rw [List.getElem?_map] at he
    obtain ⟨v,_,rfl⟩:=Option.map_eq_some_iff.1 he
    rw [hg,hfl]
   ·intro i jj e dd he hdd
    obtain ⟨v,hv,_⟩:=key i jj e dd he hdd
    simp only [hv,Option.getD_some]
   ·intro i jj e dd he hdd
    obtain ⟨v,hv,hr⟩:=key i jj e dd he hdd
    simp only [hv,Option.getD_some]
    exact hr
theorem opens_slice {α:Type} {f:α→List D} {ok:α→Prop} (g:α→D) (hg: ∀a,(g a).cells=f a) {t e:TypeId} {sz bytes:Nat} (ht:Tryz.prog.underlying t=some (.slice e)) (hsz:Tryz.prog.cellsOf e=sz) (hsz0:0<sz) (hfl: ∀a,(f a).length=sz)
 (hb:Tryz.prog.bytesOf e=bytes) (hb16:16≤bytes) {m:Nat} (ih: ∀n,n<m→Opens enc W sp held e f ok n):
 Opens enc W sp held t (fun l:List α=>[.slice (l.map g)]) (fun l=>l.length≤maxL∧ ∀a ∈ l,ok a) m:=by
 intro cs x h hfit
 obtain ⟨a,hr,h1,h2⟩:=opens_sliceB g hg ht hsz hsz0 hfl hb ih cs x h hfit
 refine ⟨a,hr, ?_,h2⟩
 have h3:a.length*16≤a.length*bytes:=Nat.mul_le_mul_left _ hb16
 unfold reachBytes at h1
 unfold maxL
 omega
theorem opens_struct {t:TypeId} {fs:Array Field} (ht:Tryz.prog.underlying t=some (.struct fs)) {m:Nat} {cs:List Value} {x:DataW H × List MemPlace} (h:DataW.trod enc Tryz.prog W 0 sp held m t cs=some x) (hfit:Fit t x.1):
 cs.length=Tryz.prog.cellsOf t∧ ∃n,n<m∧ ∀ (i:Nat) (f:Field),fs[i]? =some f→ ∃y,DataW.trod enc Tryz.prog W 0 sp held n f.type ((cs.drop f.offset).take (Tryz.prog.cellsOf f.type))=some y∧Fit f.type y.1:=by
 obtain ⟨xs,n,rfl,rfl,hl,hlen,hf⟩:=DataW.trod_struct ht h
 refine ⟨hl,n,by omega,fun i f hi=> ?_⟩
 have hi':i<fs.size:=(Array.getElem?_eq_some_iff.1 hi).1
 have h1:=hf i f hi
 rw [List.getElem?_eq_getElem (by omega)] at h1
 refine ⟨_,h1, ?_⟩
 unfold Fit at hfit
 simp only [DataW.weights,ht] at hfit
 refine fit_each _ _ hfit i f.type _ ?_ ?_
 ·rw [List.getElem?_map,Array.getElem?_toList,hi];rfl
 ·rw [List.getElem?_map,List.getElem?_eq_getElem (by omega)];rfl
theorem field_open {α:Type} {f:α→List D} {ok:α→Prop} {cs:List Value} {fs:Array Field} {n:Nat} (h: ∀ (i:Nat) (f:Field),fs[i]? =some f→ ∃y,DataW.trod enc Tryz.prog W 0 sp held n f.type ((cs.drop f.offset).take (Tryz.prog.cellsOf f.type))=some y∧Fit f.type y.1)
 {t:TypeId} (ho:Opens enc W sp held t f ok n) (i off sz:Nat) (hi: (fs[i]?).map (fun q=>(q.type,q.offset))=some (t,off)) (hsz:Tryz.prog.cellsOf t=sz): ∃a,RC W (f a) ((cs.drop off).take sz)∧ok a:=by
 obtain ⟨fd,hfd,he⟩:=Option.map_eq_some_iff.1 hi
 cases he
 obtain ⟨y,hy,hfit⟩:=h i fd hfd
 rw [hsz] at hy
 exact ho _ y hy hfit
end
end Go.Proofs.YtgenoggafhhgfaaGreatDoor
namespace Go.Proofs.YtgenoggafhhgfaaGreatDoor
open Go Go.AI Go.ChangeShapes Go.WideShapes Go.ChangeAt Go.RowKit
set_option maxRecDepth 100000
section
variable {H:Type} {enc:TypeId × Value→H} {W:World} {sp:Nat→Bool} {held:Bool}
theorem opens_strs (m:Nat):Opens enc W sp held 26 (fun l:List Bs=>[slD l]) (fun l=>l.length≤maxL∧ ∀a ∈ l,True) m:=
 opens_slice (α:=Bs) (f:=fun s=>[D.str s]) D.str (fun _=>rfl) Tryz.underlying26 (e:=9) (by kernel_rfl) Nat.one_pos (fun _=>rfl) (by kernel_rfl) (bytes:=16) (Nat.le_refl _) fun n _=>opens_str Tryz.underlying9 n
def Lab.cs (x:Lab):List D:=[.str x.s, .int .i64 x.n]
theorem opens_Lab (m:Nat):Opens enc W sp held 151 Lab.cs (fun _=>True) m:=by
 intro cs x h hfit
 obtain ⟨hl,n,hn,hfs⟩:=opens_struct Tryz.underlying151 h hfit
 have hl:cs.length=2:=hl.trans (by kernel_rfl)
 obtain ⟨s,rs,_⟩:=field_open hfs (opens_str Tryz.underlying9 n) 0 0 1 rfl (by kernel_rfl)
 obtain ⟨k,rk,_⟩:=field_open hfs (opens_int Tryz.underlying3 n) 1 1 1 rfl (by kernel_rfl)
 have hR:=RC.cons (off:=0) (s:=1) rs (RC.cons (off:=1) (s:=1) rk (RC.nil (W:=W) (cs:=cs) (off:=2) (by omega)) (by omega)) (by omega)
 rw [List.drop_zero] at hR
 refine ⟨⟨s,k⟩, ?_,trivial⟩
 simpa [Lab.cs] using hR
theorem opens_labs (m:Nat):Opens enc W sp held 43 (fun l:List Lab=>[.slice (l.map Lab.d)]) (fun l=>l.length≤maxL∧ ∀a ∈ l,True) m:=
 opens_slice (α:=Lab) (f:=Lab.cs) Lab.d (fun _=>rfl) Tryz.underlying43 (e:=151) (sz:=2) (by kernel_rfl) (by omega) (fun _=>rfl) (by kernel_rfl) (bytes:=24) (by omega) fun n _=>opens_Lab n
theorem opens_row (m:Nat):Opens enc W sp held 45 (fun x:List Lab × Int=>[.slice (x.1.map Lab.d), .int .i64 x.2]) (fun x=>x.1.length≤maxL) m:=by
 intro cs x h hfit
 obtain ⟨hl,n,hn,hfs⟩:=opens_struct Tryz.underlying45 h hfit
 have hl:cs.length=2:=hl.trans (by kernel_rfl)
 obtain ⟨ls,rls,ols⟩:=field_open hfs (opens_labs n) 0 0 1 rfl (by kernel_rfl)
 obtain ⟨k,rk,_⟩:=field_open hfs (opens_int Tryz.underlying3 n) 1 1 1 rfl (by kernel_rfl)
 have hR:=RC.cons (off:=0) (s:=1) rls (RC.cons (off:=1) (s:=1) rk (RC.nil (W:=W) (cs:=cs) (off:=2) (by omega)) (by omega)) (by omega)
 rw [List.drop_zero] at hR
 refine ⟨(ls,k), ?_,ols.1⟩
 simpa using hR
theorem tysOk_all: ∀ {l:List Ty},(∀a ∈ l,a.ok)→tysOk l
 | [],_=>trivial
 |t::r,h=>⟨h t List.mem_cons_self,tysOk_all fun a ha=>h a (List.mem_cons_of_mem _ ha)⟩
theorem opens_tys_of {m:Nat} (ih: ∀n,n<m→Opens enc W sp held 47 Ty.cs Ty.ok n):Opens enc W sp held 33 (fun l:List Ty=>[.slice (l.map Ty.d)]) (fun l=>l.length≤maxL∧ ∀a ∈ l,a.ok) m:=
 opens_slice (α:=Ty) (f:=Ty.cs) Ty.d (fun _=>rfl) Tryz.underlying33 (e:=47) (sz:=6) (by kernel_rfl) (by omega) (fun _=>by simp) (by kernel_rfl) (bytes:=88) (by omega) ih
theorem opens_Ty: ∀ (m:Nat),Opens enc W sp held 47 Ty.cs Ty.ok m:=by
 intro m
 induction m using Nat.strongRecOn with
 |_ m ih=>
  intro cs x h hfit
  obtain ⟨hl,n,hn,hfs⟩:=opens_struct Tryz.underlying47 h hfit
  have hl:cs.length=6:=hl.trans (by kernel_rfl)
  obtain ⟨kd,rkd,_⟩:=field_open hfs (opens_int Tryz.underlying42 n) 0 0 1 rfl (by kernel_rfl)
  obtain ⟨k,rk,_⟩:=field_open hfs (opens_int Tryz.underlying3 n) 1 1 1 rfl (by kernel_rfl)
  obtain ⟨s,rs,_⟩:=field_open hfs (opens_str Tryz.underlying9 n) 2 2 1 rfl (by kernel_rfl)
  obtain ⟨l,rl,ol⟩:=field_open hfs (opens_tys_of fun q hq=>ih q (by omega)) 3 3 1 rfl (by kernel_rfl)
  obtain ⟨rr,rrr,orw⟩:=field_open hfs (opens_row n) 4 4 2 rfl (by kernel_rfl)
  have hR:=RC.cons (off:=0) (s:=1) rkd (RC.cons (off:=1) (s:=1) rk (RC.cons (off:=2) (s:=1) rs (RC.cons (off:=3) (s:=1) rl (RC.cons (off:=4) (s:=2) rrr (RC.nil (W:=W) (cs:=cs) (off:=6) (by omega)) (by omega)) (by omega)) (by omega)) (by omega)) (by omega)
  rw [List.drop_zero] at hR
  refine ⟨.mk kd k s l rr.1 rr.2, ?_,⟨ol.1,orw,tysOk_all ol.2⟩⟩
  simpa [Ty.cs,tysD_map] using hR
theorem opens_tys (m:Nat):Opens enc W sp held 33 (fun l:List Ty=>[.slice (l.map Ty.d)]) (fun l=>l.length≤maxL∧ ∀a ∈ l,a.ok) m:=opens_tys_of fun n _=>opens_Ty n
theorem exsOk_all: ∀ {l:List Ex},(∀a ∈ l,a.ok)→exsOk l
 | [],_=>trivial
 |t::r,h=>⟨h t List.mem_cons_self,exsOk_all fun a ha=>h a (List.mem_cons_of_mem _ ha)⟩
theorem armsOk_all: ∀ {l:List Arm},(∀a ∈ l,a.ok)→armsOk l
 | [],_=>trivial
 |t::r,h=>⟨h t List.mem_cons_self,armsOk_all fun a ha=>h a (List.mem_cons_of_mem _ ha)⟩
theorem opens_exs_of {m:Nat} (ih: ∀n,n<m→Opens enc W sp held 30 Ex.cs Ex.ok n):Opens enc W sp held 27 (fun l:List Ex=>[.slice (l.map Ex.d)]) (fun l=>l.length≤maxL∧ ∀a ∈ l,a.ok) m:=
 opens_slice (α:=Ex) (f:=Ex.cs) Ex.d (fun _=>rfl) Tryz.underlying27 (e:=30) (sz:=7) (by kernel_rfl) (by omega) (fun _=>by simp) (by kernel_rfl) (bytes:=120) (by omega) ih
theorem opens_arms_of {m:Nat} (ih: ∀n,n<m→Opens enc W sp held 107 Arm.cs Arm.ok n):Opens enc W sp held 28 (fun l:List Arm=>[.slice (l.map Arm.d)]) (fun l=>l.length≤maxL∧ ∀a ∈ l,a.ok) m:=
 opens_slice (α:=Arm) (f:=Arm.cs) Arm.d (fun _=>rfl) Tryz.underlying28 (e:=107) (sz:=9) (by kernel_rfl) (by omega) (fun _=>by simp) (by kernel_rfl) (bytes:=160) (by omega) ih
theorem opens_ExArm: ∀ (m:Nat),Opens enc W sp held 30 Ex.cs Ex.ok m∧Opens enc W sp held 107 Arm.cs Arm.ok m:=by
 intro m
 induction m using Nat.strongRecOn with
 |_ m ih=>
  constructor
  ·intro cs x h hfit
   obtain ⟨hl,n,hn,hfs⟩:=opens_struct Tryz.underlying30 h hfit
   have hl:cs.length=7:=hl.trans (by kernel_rfl)
   obtain ⟨kd,rkd,_⟩:=field_open hfs (opens_int Tryz.underlying25 n) 0 0 1 rfl (by kernel_rfl)
   obtain ⟨k,rk,_⟩:=field_open hfs (opens_int Tryz.underlying3 n) 1 1 1 rfl (by kernel_rfl)
   obtain ⟨s,rs,_⟩:=field_open hfs (opens_str Tryz.underlying9 n) 2 2 1 rfl (by kernel_rfl)
   obtain ⟨u,ru,_⟩:=field_open hfs (opens_str Tryz.underlying9 n) 3 3 1 rfl (by kernel_rfl)
   obtain ⟨ns,rns,ons⟩:=field_open hfs (opens_strs n) 4 4 1 rfl (by kernel_rfl)
   obtain ⟨l,rl,ol⟩:=field_open hfs (opens_exs_of fun q hq=>(ih q (by omega)).1) 5 5 1 rfl (by kernel_rfl)
   obtain ⟨ar,rar,oar⟩:=field_open hfs (opens_arms_of fun q hq=>(ih q (by omega)).2) 6 6 1 rfl (by kernel_rfl)
   have hR:=RC.cons (off:=0) (s:=1) rkd (RC.cons (off:=1) (s:=1) rk (RC.cons (off:=2) (s:=1) rs (RC.cons (off:=3) (s:=1) ru (RC.cons (off:=4) (s:=1) rns (RC.cons (off:=5) (s:=1) rl (RC.cons (off:=6) (s:=1) rar (RC.nil (W:=W) (cs:=cs) (off:=7) (by omega)) (by omega)) (by omega)) (by omega)) (by omega)) (by omega)) (by omega)) (by omega)
   rw [List.drop_zero] at hR
   refine ⟨.mk kd k s u ns l ar, ?_,⟨ons.1,ol.1,oar.1,exsOk_all ol.2,armsOk_all oar.2⟩⟩
   simpa [Ex.cs,exsD_map,armsD_map] using hR
  ·intro cs x h hfit
   obtain ⟨hl,n,hn,hfs⟩:=opens_struct Tryz.underlying107 h hfit
   have hl:cs.length=9:=hl.trans (by kernel_rfl)
   obtain ⟨s,rs,_⟩:=field_open hfs (opens_str Tryz.underlying9 n) 0 0 1 rfl (by kernel_rfl)
   obtain ⟨ns,rns,ons⟩:=field_open hfs (opens_strs n) 1 1 1 rfl (by kernel_rfl)
   obtain ⟨bd,rbd,obd⟩:=field_open hfs (ih n hn).1 2 2 7 rfl (by kernel_rfl)
   have hR:=RC.cons (off:=0) (s:=1) rs (RC.cons (off:=1) (s:=1) rns (RC.cons (off:=2) (s:=7) rbd (RC.nil (W:=W) (cs:=cs) (off:=9) (by omega)) (by omega)) (by omega)) (by omega)
   rw [List.drop_zero] at hR
   refine ⟨.mk s ns bd, ?_,⟨ons.1,obd⟩⟩
   simpa [Arm.cs] using hR
theorem opens_Con (m:Nat):Opens enc W sp held 54 Con.cs Con.ok m:=by
 intro cs x h hfit
 obtain ⟨hl,n,hn,hfs⟩:=opens_struct Tryz.underlying54 h hfit
 have hl:cs.length=2:=hl.trans (by kernel_rfl)
 obtain ⟨s,rs,_⟩:=field_open hfs (opens_str Tryz.underlying9 n) 0 0 1 rfl (by kernel_rfl)
 obtain ⟨l,rl,ol⟩:=field_open hfs (opens_tys n) 1 1 1 rfl (by kernel_rfl)
 have hR:=RC.cons (off:=0) (s:=1) rs (RC.cons (off:=1) (s:=1) rl (RC.nil (W:=W) (cs:=cs) (off:=2) (by omega)) (by omega)) (by omega)
 rw [List.drop_zero] at hR
 refine ⟨⟨s,l⟩, ?_,⟨ol.1,tysOk_all ol.2⟩⟩
 simpa [Con.cs,tysD_map] using hR
theorem opens_cons (m:Nat):Opens enc W sp held 39 (fun l:List Con=>[.slice (l.map Con.d)]) (fun l=>l.length≤maxL∧ ∀a ∈ l,a.ok) m:=
 opens_slice (α:=Con) (f:=Con.cs) Con.d (fun _=>rfl) Tryz.underlying39 (e:=54) (sz:=2) (by kernel_rfl) (by omega) (fun _=>rfl) (by kernel_rfl) (bytes:=40) (by omega) fun n _=>opens_Con n
theorem opens_Dat (m:Nat):Opens enc W sp held 41 Dat.cs Dat.ok m:=by
 intro cs x h hfit
 obtain ⟨hl,n,hn,hfs⟩:=opens_struct Tryz.underlying41 h hfit
 have hl:cs.length=3:=hl.trans (by kernel_rfl)
 obtain ⟨s,rs,_⟩:=field_open hfs (opens_str Tryz.underlying9 n) 0 0 1 rfl (by kernel_rfl)
 obtain ⟨ns,rns,ons⟩:=field_open hfs (opens_strs n) 1 1 1 rfl (by kernel_rfl)
 obtain ⟨l,rl,ol⟩:=field_open hfs (opens_cons n) 2 2 1 rfl (by kernel_rfl)
 have hR:=RC.cons (off:=0) (s:=1) rs (RC.cons (off:=1) (s:=1) rns (RC.cons (off:=2) (s:=1) rl (RC.nil (W:=W) (cs:=cs) (off:=3) (by omega)) (by omega)) (by omega)) (by omega)
 rw [List.drop_zero] at hR
 refine ⟨⟨s,ns,l⟩, ?_,⟨ons.1,ol.1,ol.2⟩⟩
 simpa [Dat.cs] using hR
theorem opens_Opn (m:Nat):Opens enc W sp held 89 Opn.cs Opn.ok m:=by
 intro cs x h hfit
 obtain ⟨hl,n,hn,hfs⟩:=opens_struct Tryz.underlying89 h hfit
 have hl:cs.length=14:=hl.trans (by kernel_rfl)
 obtain ⟨s,rs,_⟩:=field_open hfs (opens_str Tryz.underlying9 n) 0 0 1 rfl (by kernel_rfl)
 obtain ⟨a,ra,oa⟩:=field_open hfs (opens_Ty n) 1 1 6 rfl (by kernel_rfl)
 obtain ⟨b,rb,ob⟩:=field_open hfs (opens_Ty n) 2 7 6 rfl (by kernel_rfl)
 obtain ⟨o,ro,_⟩:=field_open hfs (opens_bool Tryz.underlying4 n) 3 13 1 rfl (by kernel_rfl)
 have hR:=RC.cons (off:=0) (s:=1) rs (RC.cons (off:=1) (s:=6) ra (RC.cons (off:=7) (s:=6) rb (RC.cons (off:=13) (s:=1) ro (RC.nil (W:=W) (cs:=cs) (off:=14) (by omega)) (by omega)) (by omega)) (by omega)) (by omega)
 rw [List.drop_zero] at hR
 refine ⟨⟨s,a,b,o⟩, ?_,⟨oa,ob⟩⟩
 simpa [Opn.cs] using hR
theorem opens_opns (m:Nat):Opens enc W sp held 85 (fun l:List Opn=>[.slice (l.map Opn.d)]) (fun l=>l.length≤maxL∧ ∀a ∈ l,a.ok) m:=
 opens_slice (α:=Opn) (f:=Opn.cs) Opn.d (fun _=>rfl) Tryz.underlying85 (e:=89) (sz:=14) (by kernel_rfl) (by omega) (fun _=>by simp [Opn.cs]) (by kernel_rfl) (bytes:=200) (by omega) fun n _=>opens_Opn n
theorem opens_Eff (m:Nat):Opens enc W sp held 87 Eff.cs Eff.ok m:=by
 intro cs x h hfit
 obtain ⟨hl,n,hn,hfs⟩:=opens_struct Tryz.underlying87 h hfit
 have hl:cs.length=2:=hl.trans (by kernel_rfl)
 obtain ⟨s,rs,_⟩:=field_open hfs (opens_str Tryz.underlying9 n) 0 0 1 rfl (by kernel_rfl)
 obtain ⟨l,rl,ol⟩:=field_open hfs (opens_opns n) 1 1 1 rfl (by kernel_rfl)
 have hR:=RC.cons (off:=0) (s:=1) rs (RC.cons (off:=1) (s:=1) rl (RC.nil (W:=W) (cs:=cs) (off:=2) (by omega)) (by omega)) (by omega)
 rw [List.drop_zero] at hR
 refine ⟨⟨s,l⟩, ?_,⟨ol.1,ol.2⟩⟩
 simpa [Eff.cs] using hR
theorem opens_Dfn (m:Nat):Opens enc W sp held 84 Dfn.cs Dfn.ok m:=by
 intro cs x h hfit
 obtain ⟨hl,n,hn,hfs⟩:=opens_struct Tryz.underlying84 h hfit
 have hl:cs.length=8:=hl.trans (by kernel_rfl)
 obtain ⟨s,rs,_⟩:=field_open hfs (opens_str Tryz.underlying9 n) 0 0 1 rfl (by kernel_rfl)
 obtain ⟨b,rb,ob⟩:=field_open hfs (opens_ExArm n).1 1 1 7 rfl (by kernel_rfl)
 have hR:=RC.cons (off:=0) (s:=1) rs (RC.cons (off:=1) (s:=7) rb (RC.nil (W:=W) (cs:=cs) (off:=8) (by omega)) (by omega)) (by omega)
 rw [List.drop_zero] at hR
 refine ⟨⟨s,b⟩, ?_,ob⟩
 simpa [Dfn.cs] using hR
theorem opens_dfns (m:Nat):Opens enc W sp held 24 (fun l:List Dfn=>[.slice (l.map Dfn.d)]) (fun l=>l.length≤maxL∧ ∀a ∈ l,a.ok) m:=
 opens_slice (α:=Dfn) (f:=Dfn.cs) Dfn.d (fun _=>rfl) Tryz.underlying24 (e:=84) (sz:=8) (by kernel_rfl) (by omega) (fun _=>by simp [Dfn.cs]) (by kernel_rfl) (bytes:=136) (by omega) fun n _=>opens_Dfn n
theorem arg_struct {α:Type} {f:α→List D} {ok:α→Prop} {t:TypeId} {fs:Array Field} (ht:Tryz.prog.underlying t=some (.struct fs)) (ho: ∀m,Opens enc W sp held t f ok m) {r:Reach} {b0:Nat} {v:Value} {d:DataW H} {ps:List MemPlace}
 (hv:Value.okWide Tryz.prog W r b0 t v) (h:DataW.Trod enc Tryz.prog W 0 sp held t v d ps) (hfit:Fit t d): ∃a,R (bare (oldB W)) W (.agg (f a)) v∧ok a:=by
 obtain ⟨fuel,hf⟩:=h
 unfold Value.okWide at hv
 rw [ht] at hv
 obtain ⟨cs,rfl,hcs,_⟩:=hv
 obtain ⟨a,⟨h1,h2⟩,hok⟩:=ho fuel _ _ hf hfit
 refine ⟨a, .agg (by simpa [Value.cells] using h1.symm) fun j d hd=> ?_,hok⟩
 obtain ⟨v,hv,hr⟩:=h2 j d hd
 have:cs.getD j undef=v:=by
  have hv':cs[j]? =some v:=by simpa [Value.cells] using hv
  simp [Array.getD,Array.getElem?_eq_some_iff.1 hv']
  obtain ⟨hlt,he⟩:=Array.getElem?_eq_some_iff.1 hv'
  simp [hlt,he]
 rw [this];exact hr
end
end Go.Proofs.YtgenoggafhhgfaaGreatDoor
namespace Go.AI
open Go Go.Proofs
end Go.AI
namespace Go.Proofs.YtgenoggafhhgfaaGreatDoor
open Go Go.AI Go.ChangeShapes Go.WideShapes Go.ChangeAt Go.RowKit
set_option maxRecDepth 100000
abbrev laid3:List (String × DataW Unit):=[("unicode.White_Space",Rows.laid_unicode_White_Space),("strings.asciiSpace",Rows.laid_strings_asciiSpace),("reprise/syntax.shapes",Rows.laid_reprise_syntax_shapes)]
theorem plain3: (laid3.all fun x=>x.2.handleName?.isNone)=true:=by kernel_rfl
theorem tab_space {W:World} (h:laidMetH Tryz.prog laid3 W):Lib.TabIs Tryz.prog W "strings.asciiSpace" .u8 Lib.asciiSpaceTab:=by
 rw [MakeChecks.laidMetH_plain _ _ _ plain3] at h
 have h3:=h.tail
 have e: (Rows.laid_strings_asciiSpace:DataW Unit)=Lib.tabData .u8 Lib.asciiSpaceTab:=by kernel_rfl
 rw [e] at h3
 exact Lib.tabIs_of_head (g:=1) (t:=251) (e:=5) (n:=256) (by kernel_rfl) (by kernel_rfl) (by kernel_rfl) (by kernel_rfl) (by kernel_rfl) (by kernel_rfl) h3
theorem glob_of_tab {W:World} {name:String} {g:Nat} {k:IntKind} {zs:List Int} (hg:Tryz.prog.globalNamed name=some g) (h:Lib.TabIs Tryz.prog W name k zs) (_h0:0<zs.length):
 R (bare (oldB W)) W (.tptr (zs.map (.int k))) (.pointer (some ⟨g,0,none⟩))∧ ∃c ty fz,W.heap[g]? =some (.cells c ty fz)∧c.size=(zs.map (D.int k)).length:=by
 have hcell:=fun i hi=>h.cell hg i hi
 unfold Lib.TabIs World.var? at h
 rw [hg] at h
 simp only [Option.bind_some] at h
 split at h
 ·rename_i cs ty fz hb
  have hcs:=Option.some.inj h
  refine ⟨.tptr (f:=fun j=> .int k (zs.getD j 0)) ?_ (fun j hj=> ?_) (fun j d hd=> ?_),cs,ty,fz,hb,by rw [hcs];simp⟩
  ·exact (Array.getElem?_eq_some_iff.1 hb).1
  ·have:=hcell j (by simpa using hj)
   simpa using this
  ·have hj:j<zs.length:=by have:=(List.getElem?_eq_some_iff.1 hd).1;simpa using this
   have:d= .int k (zs.getD j 0):=by
    have:=(List.getElem?_eq_some_iff.1 hd).2
    simp at this
    simp [List.getD,hj,this]
   rw [this]
   exact .int _ _
 ·cases h
def litD:DataW Unit→List D
 | .lit (.int k n)=>[.int k n]
 | .lit (.bool b)=>[.bool b]
 |_=>[]
theorem cell_lit {enc:TypeId × Value→Unit} {W:World} {sp:Nat→Bool} {held:Bool} {m:Nat} {t:TypeId} {cs:List Value} {x:DataW Unit × List MemPlace} (ht:Tryz.prog.underlying t=some (.int .i64)∨Tryz.prog.underlying t=some .bool)
 (h:DataW.trod enc Tryz.prog W 0 sp held m t cs=some x):RC W (litD x.1) cs:=by
 rcases ht with ht|ht
 ·obtain ⟨n,rfl,rfl,_⟩:=DataW.trod_int ht h
  exact .one (.int _ _)
 ·obtain ⟨b,rfl,rfl⟩:=DataW.trod_bool ht h
  exact .one (.bool _)
theorem shape_row {enc:TypeId × Value→Unit} {W:World} {sp:Nat→Bool} {held:Bool} {m:Nat} {cs:List Value} {parts:List (DataW Unit)} {ps:List MemPlace}
 (h:DataW.trod enc Tryz.prog W 0 sp held m 231 cs=some (.agg parts,ps)):RC W (parts.flatMap litD) cs:=by
 have hu:=Tryz.underlying231
 obtain ⟨xs,n,rfl,hx,hl,hlen,hf⟩:=DataW.trod_struct hu h
 have hl:cs.length=9:=hl.trans (by kernel_rfl)
 have hlen:xs.length=9:=hlen
 obtain ⟨rfl,_⟩:parts=xs.map (·.1)∧ps=_:=by simpa using hx
 have c3:Tryz.prog.cellsOf 3=1:=by kernel_rfl
 have c4:Tryz.prog.cellsOf 4=1:=by kernel_rfl
 obtain ⟨x0,x1,x2,x3,x4,x5,x6,x7,x8,rfl⟩: ∃x0 x1 x2 x3 x4 x5 x6 x7 x8,xs=[x0,x1,x2,x3,x4,x5,x6,x7,x8]:=by
  rcases xs with _| ⟨x0,_| ⟨x1,_| ⟨x2,_| ⟨x3,_| ⟨x4,_| ⟨x5,_| ⟨x6,_| ⟨x7,_| ⟨x8,_| ⟨x9,xs⟩⟩⟩⟩⟩⟩⟩⟩⟩⟩<;>simp at hlen
  exact ⟨_,_,_,_,_,_,_,_,_,rfl⟩
 have u3:=Tryz.underlying3
 have u4:=Tryz.underlying4
 have f0:RC W (litD x0.1) ((cs.drop 0).take 1):=c3 ▸ cell_lit (.inl u3) (hf 0 _ rfl)
 have f1:RC W (litD x1.1) ((cs.drop 1).take 1):=c3 ▸ cell_lit (.inl u3) (hf 1 _ rfl)
 have f2:RC W (litD x2.1) ((cs.drop 2).take 1):=c3 ▸ cell_lit (.inl u3) (hf 2 _ rfl)
 have f3:RC W (litD x3.1) ((cs.drop 3).take 1):=c3 ▸ cell_lit (.inl u3) (hf 3 _ rfl)
 have f4:RC W (litD x4.1) ((cs.drop 4).take 1):=c3 ▸ cell_lit (.inl u3) (hf 4 _ rfl)
 have f5:RC W (litD x5.1) ((cs.drop 5).take 1):=c3 ▸ cell_lit (.inl u3) (hf 5 _ rfl)
 have f6:RC W (litD x6.1) ((cs.drop 6).take 1):=c4 ▸ cell_lit (.inr u4) (hf 6 _ rfl)
 have f7:RC W (litD x7.1) ((cs.drop 7).take 1):=c3 ▸ cell_lit (.inl u3) (hf 7 _ rfl)
 have f8:RC W (litD x8.1) ((cs.drop 8).take 1):=c3 ▸ cell_lit (.inl u3) (hf 8 _ rfl)
 have hR:=RC.cons (off:=0) (s:=1) f0 (RC.cons (off:=1) (s:=1) f1 (RC.cons (off:=2) (s:=1) f2 (RC.cons (off:=3) (s:=1) f3 (RC.cons (off:=4) (s:=1) f4 (RC.cons (off:=5) (s:=1) f5 (RC.cons (off:=6) (s:=1) f6 (RC.cons (off:=7) (s:=1) f7 (RC.cons (off:=8) (s:=1) f8 (RC.nil (W:=W) (cs:=cs) (off:=9) (by omega)) (by omega)) (by omega)) (by omega)) (by omega)) (by omega)) (by omega)) (by omega)) (by omega)) (by omega)
 rw [List.drop_zero] at hR
 simpa using hR
def rowD:DataW Unit→List D
 | .agg ps=>ps.flatMap litD
 |_=>[]
theorem shape_row' {enc:TypeId × Value→Unit} {W:World} {sp:Nat→Bool} {held:Bool} {m:Nat} {cs:List Value} {x:DataW Unit × List MemPlace}
 (h:DataW.trod enc Tryz.prog W 0 sp held m 231 cs=some x):RC W (rowD x.1) cs:=by
 have hu:=Tryz.underlying231
 obtain ⟨xs,n,_,hx,_⟩:=DataW.trod_struct hu h
 rcases x with ⟨d,ps⟩
 obtain ⟨rfl,_⟩:=Prod.mk.inj hx
 exact shape_row h
theorem shape_rows {W:World} {cs:List Value} {parts:List (DataW Unit)} (hl:cs.length=parts.length*9) (h: ∀i d,parts[i]? =some d→RC W (rowD d) ((cs.drop (i*9)).take 9)):
 ∀ (k i:Nat),i+k=parts.length→RC W ((parts.drop i).flatMap rowD) (cs.drop (i*9))
 |0,i,hi=>by
  have:i=parts.length:=by omega
  subst this
  rw [List.drop_length]
  exact RC.nil (by omega)
 |k+1,i,hi=>by
  have hlt:i<parts.length:=by omega
  rw [List.drop_eq_getElem_cons hlt,List.flatMap_cons]
  have ih:=shape_rows hl h k (i+1) (by omega)
  rw [show (i+1) *9=i*9+9 by omega] at ih
  exact RC.cons (h i _ (by simp [hlt])) ih (by rw [hl];omega)
theorem tab_shapes {W:World} (h:laidMetH Tryz.prog laid3 W):R (bare (oldB W)) W (.tptr shapes) (.pointer (some ⟨0,0,none⟩))∧ ∃c ty fz,W.heap[0]? =some (.cells c ty fz)∧c.size=shapes.length:=by
 rw [MakeChecks.laidMetH_plain _ _ _ plain3] at h
 obtain ⟨ps,⟨g,t,cs,fuel,p,q,hg,ht,hvar,hd,_,_⟩,_⟩:=h.tail.tail
 have hg0:Tryz.prog.globalNamed "reprise/syntax.shapes" =some 0:=by kernel_rfl
 obtain rfl:=Option.some.inj (hg0.symm.trans hg)
 have ht0: (Tryz.prog.globals[0]?).map (·.type)=some 232:=by kernel_rfl
 obtain rfl:=Option.some.inj (ht0.symm.trans ht)
 have hu:Tryz.prog.underlying 232=some (.array 20 231):=by kernel_rfl
 obtain ⟨xs,m,rfl,hx,hl,hlen,hf⟩:=DataW.trod_array hu hd
 have hl:cs.toList.length=20*9:=hl.trans (by kernel_rfl)
 have c9:Tryz.prog.cellsOf 231=9:=by kernel_rfl
 obtain ⟨hparts,_⟩:=Prod.mk.inj hx
 have hR:RC W ((xs.map (·.1)).flatMap rowD) cs.toList:=by
  have:=shape_rows (W:=W) (cs:=cs.toList) (parts:=xs.map (·.1)) (by rw [hl];simp [hlen]) (fun i d hi=>by
   rw [List.getElem?_map] at hi
   obtain ⟨x,hx,rfl⟩:=Option.map_eq_some_iff.1 hi
   have hi20:i<20:=by have:=(List.getElem?_eq_some_iff.1 hx).1;omega
   have:=hf i hi20
   rw [c9,hx] at this
   exact shape_row' this) 20 0 (by simp [hlen])
  simpa using this
 have hsh: (xs.map (·.1)).flatMap rowD=shapes:=by
  have e: (Rows.laid_reprise_syntax_shapes:DataW Unit)= .agg (xs.map (·.1)):=hparts
  have: (match (Rows.laid_reprise_syntax_shapes:DataW Unit) with| .agg ps=>ps.flatMap rowD|_=>[])=shapes:=by kernel_rfl
  rw [e] at this
  exact this
 rw [hsh] at hR
 obtain ⟨hR1,hR2⟩:=hR
 unfold World.var? at hvar
 rw [hg0] at hvar
 simp only [Option.bind_some] at hvar
 split at hvar
 ·rename_i cs' ty fz hb
  cases hvar
  have hsz:shapes.length=cs.size:=by rw [hR1];simp
  refine ⟨.tptr (f:=fun j=>cs.getD j undef) (Array.getElem?_eq_some_iff.1 hb).1 (fun j hj=> ?_) (fun j d hd=> ?_),cs,ty,fz,hb,hsz.symm⟩
  ·have hj':j<cs.size:=by omega
   simp [World.cell?,hb,Array.getD,hj']
  ·obtain ⟨v,hv,hr⟩:=hR2 j d hd
   have hv':cs[j]? =some v:=by simpa using hv
   obtain ⟨hlt,he⟩:=Array.getElem?_eq_some_iff.1 hv'
   have:cs.getD j undef=v:=by simp [Array.getD,hlt,he]
   rw [this];exact hr
 ·cases hvar
theorem glob_ok {W:World} (h:laidMetH Tryz.prog laid3 W):GlobR (bare (oldB W)) W GI:=by
 intro g cs hg
 simp only [GI_g,globT] at hg
 split at hg
 ·rename_i hg1;subst hg1
  cases hg
  exact tab_shapes h
 ·split at hg
  ·rename_i hg3;subst hg3
   cases hg
   exact glob_of_tab (by kernel_rfl) (tab_space h) (by rw [Lib.asciiSpaceTab_length];omega)
  ·cases hg
theorem own:ownKnob Tryz.prog.godebug=none:=by kernel_rfl
theorem laid_witness (os:Os) (args:Array Value):laidMetH Tryz.prog laid3 ((World.laidAll Tryz.prog os laid3).forCall (fun _ _=>0) ⟨#[],args,[]⟩).memory:=by
 rw [MakeChecks.laidMetH_plain _ _ _ plain3];exact laidMet_laidAll _ (by kernel_rfl) (by kernel_rfl)
theorem laidOut:laidOutB Tryz.prog=true:=by kernel_rfl
theorem rs_mk3 {ρ:Ren} {W:World} {d d' d'':D} {v v' v'':Value} (h:R ρ W d v) (h':R ρ W d' v') (h'':R ρ W d'' v''):Rs ρ W [d,d',d''] #[v,v',v'']:=
 ⟨rfl,fun j x hx=>by
  match j,hx with
  |0,hx=>cases hx;exact h
  |1,hx=>cases hx;exact h'
  |2,hx=>cases hx;exact h''⟩
end Go.Proofs.YtgenoggafhhgfaaGreatDoor
namespace Go.AI
open Go Go.Proofs Go.Lx
set_option maxRecDepth 100000
def refD (e:Int):D:= .iface 154 (.agg [.int .i64 e])
def outR (e:Int):FRes:=if e=0 then .ret (.tuple []) else .panic (refD e)
theorem CI_panic {f:FuncId} {af:AFunc} (hT:tabT f=some af) {args:List D} {σ τ:St} {d:D} (h:bodyI CI XB GI af args σ=some (.panic d,σ++τ)) (hd:d.tree=true)
 (hx:okF f:=by exact ⟨⟨rfl,rfl⟩,rfl⟩):CI (.fn f) args σ=some (.panic d,σ):=
 CI_fn hT h (postI_panic hd) hx
theorem CI_out {f:FuncId} {af:AFunc} (hT:tabT f=some af) {args:List D} {σ τ:St} {e:Int} (h:bodyI CI XB GI af args σ=some (outR e,σ++τ))
 (hx:okF f:=by exact ⟨⟨rfl,rfl⟩,rfl⟩):CI (.fn f) args σ=some (outR e,σ):=by
 unfold outR at*
 by_cases he:e=0
 ·rw [if_pos he] at h ⊢;exact CI_tree hT h rfl rfl hx
 ·rw [if_neg he] at h ⊢;exact CI_panic hT h rfl hx
theorem outR_zero:outR 0= .ret (.tuple []):=rfl
theorem outR_ne {e:Int} (h: ¬e=0):outR e= .panic (refD e):=by unfold outR;rw [if_neg h]
theorem c58 (e:Int) (σ:St):CI (.fn 58) [.int .i64 e] σ=some (.panic (refD e),σ):=by
 refine CI_panic tab58 (τ:=[]) ?_ rfl
 simp [bodyI,af58,fillD,putCells,refD]
theorem c59 (e:Int) (σ:St):CI (.fn 59) [.int .i64 e] σ=some (outR e,σ):=by
 refine CI_out tab59 (τ:=[]) ?_
 rw [List.append_nil]
 by_cases h:e=0
 ·subst h
  simp [bodyI,af59,outR_zero]
 ·have h': (e != 0)=true:=by simpa using h
  rw [outR_ne h]
  simp [bodyI,af59,h,h',c58]
def idxOf {α:Type} (Q:α→Bool) (l:List α):Int:=match l.findIdx? Q with|some i=>i|none=> -1
theorem p139 (l:List Eff) (f:Nat) (caps:List D) (Q:Eff→Bool) (σ:St) (hl:l.length≤maxL) (h: ∀x ∈ l,CI (.fn f) (.agg x.cs::caps) σ=some (.ret (.bool (Q x)),σ)):
 CI (.fn 139) [.slice (l.map Eff.d), .func f [] caps] σ=some (.ret (.int .i64 (idxOf Q l)),σ):=by
 unfold maxL at hl
 have hlen: (l.map Eff.d).length=l.length:=by simp
 have hit:=loop_find (f:=evalI CI XB GI 19 false lp139_0) (σ:=σ) l (fun i=>[(0, .slice (l.map Eff.d)),(1, .func f [] caps),(7, .int .i64 l.length),(8, .int .i64 (i:Nat))]) Q (fun i=>(.ret,[(4, .int .i64 (i:Nat))],σ)) (.exit 0,[(0, .slice (l.map Eff.d)),(1, .func f [] caps),(7, .int .i64 l.length),(8, .int .i64 l.length),(9, .bool false)],σ) (by simp) (by simp)
  (fun i hi=>by
    have hw:=wrap_nat (n:=i) (by omega)
    have hc:=h l[i] (List.getElem_mem hi)
    have hget: (l.map Eff.d)[i]? =some (.agg l[i].cs):=by simp [hi];rfl
    generalize l.map Eff.d=ld at*
    have h2:i<ld.length:=by omega
    have h3:ld[i]= .agg l[i].cs:=by rw [List.getElem?_eq_getElem h2] at hget;exact Option.some.inj hget
    have hxl:l[i].cs.length=2:=by first|rfl|simp
    have hxt:l[i].cs.take 2=l[i].cs:=by first|rfl|simp
    generalize l[i].cs=xc at*
    cases hb:Q l[i]<;>rw [hb] at hc<;>simp [lp139_0,hi,hw,h2,h3,hc,hxl,hxt]) (by
    generalize l.map Eff.d=ld at*
    simp [lp139_0])
 rw [Int.natCast_zero] at hit
 generalize l.map Eff.d=ld at*
 unfold idxOf
 cases hf:l.findIdx? Q with
 |none=>
  rw [hf] at hit
  refine CI_tree0 tab139 (d:= .int .i64 (-1)) ?_ rfl rfl
  simp [bodyI,af139,hlen,hit]
 |some i=>
  rw [hf] at hit
  refine CI_tree0 tab139 (d:= .int .i64 i) ?_ rfl rfl
  simp [bodyI,af139,hlen,hit]
theorem p92 (l:List Eff) (f:Nat) (caps:List D) (Q:Eff→Bool) (σ:St) (hl:l.length≤maxL) (h: ∀x ∈ l,CI (.fn f) (.agg x.cs::caps) σ=some (.ret (.bool (Q x)),σ)):
 CI (.fn 92) [.slice (l.map Eff.d), .func f [] caps] σ=some (.ret (.int .i64 (idxOf Q l)),σ):=by
 refine CI_tree0 tab92 (d:= .int .i64 (idxOf Q l)) ?_ rfl rfl
 have:=p139 l f caps Q σ hl h
 generalize l.map Eff.d=ld at*
 simp [bodyI,af92,this]
theorem p201 (l:List Dat) (f:Nat) (caps:List D) (Q:Dat→Bool) (σ:St) (hl:l.length≤maxL) (h: ∀x ∈ l,CI (.fn f) (.agg x.cs::caps) σ=some (.ret (.bool (Q x)),σ)):
 CI (.fn 201) [.slice (l.map Dat.d), .func f [] caps] σ=some (.ret (.int .i64 (idxOf Q l)),σ):=by
 unfold maxL at hl
 have hlen: (l.map Dat.d).length=l.length:=by simp
 have hit:=loop_find (f:=evalI CI XB GI 19 false lp201_0) (σ:=σ) l (fun i=>[(0, .slice (l.map Dat.d)),(1, .func f [] caps),(7, .int .i64 l.length),(8, .int .i64 (i:Nat))]) Q (fun i=>(.ret,[(4, .int .i64 (i:Nat))],σ)) (.exit 0,[(0, .slice (l.map Dat.d)),(1, .func f [] caps),(7, .int .i64 l.length),(8, .int .i64 l.length),(9, .bool false)],σ) (by simp) (by simp)
  (fun i hi=>by
    have hw:=wrap_nat (n:=i) (by omega)
    have hc:=h l[i] (List.getElem_mem hi)
    have hget: (l.map Dat.d)[i]? =some (.agg l[i].cs):=by simp [hi];rfl
    generalize l.map Dat.d=ld at*
    have h2:i<ld.length:=by omega
    have h3:ld[i]= .agg l[i].cs:=by rw [List.getElem?_eq_getElem h2] at hget;exact Option.some.inj hget
    have hxl:l[i].cs.length=3:=by first|rfl|simp
    have hxt:l[i].cs.take 3=l[i].cs:=by first|rfl|simp
    generalize l[i].cs=xc at*
    cases hb:Q l[i]<;>rw [hb] at hc<;>simp [lp201_0,hi,hw,h2,h3,hc,hxl,hxt]) (by
    generalize l.map Dat.d=ld at*
    simp [lp201_0])
 rw [Int.natCast_zero] at hit
 generalize l.map Dat.d=ld at*
 unfold idxOf
 cases hf:l.findIdx? Q with
 |none=>
  rw [hf] at hit
  refine CI_tree0 tab201 (d:= .int .i64 (-1)) ?_ rfl rfl
  simp [bodyI,af201,hlen,hit]
 |some i=>
  rw [hf] at hit
  refine CI_tree0 tab201 (d:= .int .i64 i) ?_ rfl rfl
  simp [bodyI,af201,hlen,hit]
theorem p164 (l:List Dat) (f:Nat) (caps:List D) (Q:Dat→Bool) (σ:St) (hl:l.length≤maxL) (h: ∀x ∈ l,CI (.fn f) (.agg x.cs::caps) σ=some (.ret (.bool (Q x)),σ)):
 CI (.fn 164) [.slice (l.map Dat.d), .func f [] caps] σ=some (.ret (.int .i64 (idxOf Q l)),σ):=by
 refine CI_tree0 tab164 (d:= .int .i64 (idxOf Q l)) ?_ rfl rfl
 have:=p201 l f caps Q σ hl h
 generalize l.map Dat.d=ld at*
 simp [bodyI,af164,this]
theorem tb63:Nat.testBit 63 3=true:=by decide
theorem Prg.cs_eq (p:Prg):p.cs= .slice (p.data.map Dat.d):: .slice (p.effects.map Eff.d):: .slice (p.defs.map Dfn.d)::p.main.cs:=by cases p;rfl
theorem Prg.cs_len (p:Prg):p.cs.length=10:=by rw [p.cs_eq];simp
theorem Prg.cs_take (p:Prg):p.cs.take 10=p.cs:=List.take_of_length_le (by rw [p.cs_len];exact Nat.le_refl _)
theorem Prg.cs_all (p:Prg):p.cs.all D.one=true:=by rw [p.cs_eq];simp [D.one,Ex.cs_all]
theorem c93 (x:Eff) (s:Bs) (q:Nat) (σ:St) (hq:σ[q]? =some (.box [.str s])):CI (.fn 93) [.agg x.cs, .ptr q 0] σ=some (.ret (.bool (x.name==s)),σ):=by
 have hτ:bodyI CI XB GI af93 [.agg x.cs, .ptr q 0] σ=some (.ret (.bool (x.name==s)),σ++[.box x.cs]):=by
  rcases x with ⟨name,ops⟩
  simp only [Eff.cs]
  generalize ops.map Opn.d=od
  simp [bodyI,af93,getA0,getO hq]
 exact CI_tree tab93 hτ rfl rfl
theorem c165 (x:Dat) (s:Bs) (q:Nat) (σ:St) (hq:σ[q]? =some (.box [.str s])):CI (.fn 165) [.agg x.cs, .ptr q 0] σ=some (.ret (.bool (x.name==s)),σ):=by
 have hτ:bodyI CI XB GI af165 [.agg x.cs, .ptr q 0] σ=some (.ret (.bool (x.name==s)),σ++[.box x.cs]):=by
  rcases x with ⟨name,params,cons⟩
  simp only [Dat.cs]
  simp only [slD]
  generalize cons.map Con.d=od
  generalize params.map D.str=pd
  simp [bodyI,af165,getA0,getO hq]
 exact CI_tree tab165 hτ rfl rfl
def nIO:Bs:=[73,79]
def findEffI (l:List Eff) (s:Bs):Int:=if 0≤idxOf (fun x:Eff=>x.name==s) l then idxOf (fun x:Eff=>x.name==s) l else if s==nIO then -1 else 0
def findEffE (l:List Eff) (s:Bs):Int:=if 0≤idxOf (fun x:Eff=>x.name==s) l then 0 else if s==nIO then 0 else 6
theorem c34 (p:Prg) (hl:p.effects.length≤maxL) (s:Bs) (σ:St):CI (.fn 34) [.agg p.cs, .str s] σ=some (.ret (.tuple [.int .i64 (findEffI p.effects s), .int .i64 (findEffE p.effects s)]),σ):=by
 obtain ⟨τ,hτ⟩: ∃τ,bodyI CI XB GI af34 [.agg p.cs, .str s] σ=some (.ret (.tuple [.int .i64 (findEffI p.effects s), .int .i64 (findEffE p.effects s)]),σ++τ):=by
  refine ⟨[.box p.cs, .box [.str s]], ?_⟩
  have h92:=p92 p.effects 93 [.ptr (σ.length+1) 0] (fun x=>x.name==s) (σ++[.box p.cs, .box [.str s]]) hl (fun x _=>c93 x s (σ.length+1) _ (by rw [getA];rfl))
  unfold findEffI findEffE
  have hall:=p.cs_all
  rw [p.cs_eq] at*
  generalize idxOf (fun x:Eff=>x.name==s) p.effects=k at*
  generalize p.data.map Dat.d=dd at*
  generalize p.effects.map Eff.d=ed at*
  generalize p.defs.map Dfn.d=fd at*
  have hm3:=p.main.cs_all
  generalize p.main.cs=mc at*
  by_cases hk:0≤k
  ·simp [bodyI,af34,getA0,getA,hall,hm3,h92,hk]
  ·unfold nIO
   cases hs:s==[73,79]<;>simp [bodyI,af34,getA0,getA,hall,hm3,h92,hk,hs]
 exact CI_tree tab34 hτ rfl rfl
abbrev CMap:=List (Bs × Nat × Nat)
def plD (x:Nat × Nat):D:= .agg [.int .i64 x.1, .int .i64 x.2]
def kvs (m:CMap):List (D × D):=m.map fun x=>(.str x.1,plD x.2)
def IsT (σ:St) (t:Nat) (p:Prg) (m:CMap):Prop:= ∃j,σ[t]? =some (.box (p.cs++[.map j]))∧σ[j]? =some (.map (kvs m))
theorem IsT.app {σ τ:St} {t:Nat} {p:Prg} {m:CMap} (h:IsT σ t p m):IsT (σ++τ) t p m:=by
 obtain ⟨j,h1,h2⟩:=h
 exact ⟨j,getO h1,getO h2⟩
theorem c117 (p:Prg) (m:CMap) (hl:p.data.length≤maxL) (s:Bs) (t:Nat) (σ:St) (h:IsT σ t p m):CI (.fn 117) [.ptr t 0, .str s] σ=some (.ret (.int .i64 (idxOf (fun x:Dat=>x.name==s) p.data)),σ):=by
 obtain ⟨j,h1,_⟩:=h
 have h164:=p164 p.data 165 [.ptr σ.length 0] (fun x=>x.name==s) (σ++[.box [.str s]]) hl (fun x _=>c165 x s σ.length _ (by rw [getA0];rfl))
 have hτ:bodyI CI XB GI af117 [.ptr t 0, .str s] σ=some (.ret (.int .i64 (idxOf (fun x:Dat=>x.name==s) p.data)),σ++[.box [.str s]]):=by
  rw [p.cs_eq] at h1
  generalize idxOf (fun x:Dat=>x.name==s) p.data=k at*
  generalize p.data.map Dat.d=dd at*
  generalize p.effects.map Eff.d=ed at*
  generalize p.defs.map Dfn.d=fd at*
  generalize p.main.cs=mc at*
  simp [bodyI,af117,getA0,getO h1,h164]
 exact CI_tree tab117 hτ rfl rfl
theorem loop_seekP_from {α:Type} {f:Env→St→Option (AExit × Env × St)} {σ:St} (l:List α) (E:Nat→Env) (e:α→Int) (X:Int→AExit) (Y:AExit × Env) (hX: ∀b,X b≠ .normal) (hY:Y.1≠ .normal)
 (h: ∀i (hi:i<l.length) (τ:St),∃τ' ev,f (E i) (σ++τ)=some (if e l[i]=0 then (.normal,E (i+1),σ++τ') else (X (e l[i]),ev,σ++τ'))) (hf: ∀τ,∃τ',f (E l.length) (σ++τ)=some (Y.1,Y.2,σ++τ')):
 ∀ (m j:Nat) (τ:St),j+m=l.length→ ∃τ' ev,iterI f (E j) (σ++τ)=some (if firstE ((l.drop j).map e)=0 then (Y.1,Y.2,σ++τ') else (X (firstE ((l.drop j).map e)),ev,σ++τ'))
 |0,j,τ,hj=>by
  obtain rfl:j=l.length:=by omega
  rw [List.drop_length]
  obtain ⟨τ',h1⟩:=hf τ
  exact ⟨τ',[],iterI_end h1 hY⟩
 |m+1,j,τ,hj=>by
  have hlt:j<l.length:=by omega
  obtain ⟨τ1,ev,hb⟩:=h j hlt τ
  rw [List.drop_eq_getElem_cons hlt]
  simp only [List.map_cons,firstE]
  by_cases hq:e l[j]=0
  ·rw [if_pos hq] at hb ⊢
   rw [iterI_next hb]
   exact loop_seekP_from l E e X Y hX hY h hf m (j+1) τ1 (by omega)
  ·simp only [if_neg hq] at hb ⊢
   exact ⟨τ1,ev,iterI_end hb (hX _)⟩
theorem loop_seekP {α:Type} {f:Env→St→Option (AExit × Env × St)} {σ:St} (l:List α) (E:Nat→Env) (e:α→Int) (X:Int→AExit) (Y:AExit × Env) (hX: ∀b,X b≠ .normal) (hY:Y.1≠ .normal)
 (h: ∀i (hi:i<l.length) (τ:St),∃τ' ev,f (E i) (σ++τ)=some (if e l[i]=0 then (.normal,E (i+1),σ++τ') else (X (e l[i]),ev,σ++τ'))) (hf: ∀τ,∃τ',f (E l.length) (σ++τ)=some (Y.1,Y.2,σ++τ')) (τ:St):
 ∃τ' ev,iterI f (E 0) (σ++τ)=some (if firstE (l.map e)=0 then (Y.1,Y.2,σ++τ') else (X (firstE (l.map e)),ev,σ++τ')):=by
 have:=loop_seekP_from l E e X Y hX hY h hf l.length 0 τ (by omega)
 rw [List.drop_zero] at this
 exact this
def StrsD (pd:D) (l:List Bs):Prop:=pd=slD l∨(pd= .empty∧l=[])
theorem c111e (s:Bs) (σ:St):CI (.fn 111) [.empty, .str s] σ=some (.ret (.bool false),σ):=by
 have h:iterI (evalI CI XB GI 19 false lp89_0) [(0, .empty),(1, .str s),(7, .int .i64 0),(8, .int .i64 0)] σ=some (.exit 0,[(0, .empty),(1, .str s),(7, .int .i64 0),(8, .int .i64 0),(9, .bool false)],σ):=iterI_end (by simp [lp89_0]) (by simp)
 have h89:CI (.fn 89) [.empty, .str s] σ=some (.ret (.int .i64 (-1)),σ):=by
  refine CI_tree0 tab89 (d:= .int .i64 (-1)) ?_ rfl rfl
  simp [bodyI,af89,h]
 refine CI_tree0 tab111 (d:= .bool false) ?_ rfl rfl
 simp [bodyI,af111,h89]
theorem k111e {pd:D} {l:List Bs} (h:StrsD pd l) (hl:l.length≤maxL) (s:Bs) (σ:St):CI (.fn 111) [pd, .str s] σ=some (.ret (.bool (hasS l s)),σ):=by
 rcases h with rfl| ⟨rfl,rfl⟩
 ·exact h111 l s σ hl
 ·exact c111e s σ
def ordN (p:Prg) (params:List Bs) (k:Int) (s:Bs) (n:Nat) (ls:List Lab):Int:=
 if k=1 then (if hasS params s then 0 else 6)
 else if k=6 then (match p.data.find? (fun x:Dat=>x.name==s) with|none=>6|some d=>if d.params.length=n then 0 else 7)
 else if k=5 then firstE (ls.map fun x=>findEffE p.effects x.s) else 0
mutual
def Ty.ord (p:Prg) (params:List Bs):Ty→Int
 | .mk k _ s l ls _=>if ordN p params k s l.length ls=0 then tysOrd p params l else ordN p params k s l.length ls
def tysOrd (p:Prg) (params:List Bs):List Ty→Int
 | []=>0
 |t::r=>if t.ord p params=0 then tysOrd p params r else t.ord p params
end
theorem tysOrd_first (p:Prg) (params:List Bs): ∀ (l:List Ty),tysOrd p params l=firstE (l.map fun t=>t.ord p params)
 | []=>rfl
 |t::r=>by
  simp only [tysOrd,List.map_cons,firstE,tysOrd_first p params r]
theorem it112 (p:Prg) (m:CMap) (hel:p.effects.length≤maxL) (tb:Nat) (pd:D) (ls:List Lab) (hls:ls.length≤maxL) (q:Nat) (σ:St) (hT:IsT σ tb p m):
 ∃τ' ev,iterI (evalI CI XB GI 82 false lp112_0) [(0, .ptr tb 0),(2,pd),(4, .ptr q 0),(51, .slice (ls.map Lab.d)),(52, .int .i64 ls.length),(53, .int .i64 0)] σ=
  some (if firstE (ls.map fun x=>findEffE p.effects x.s)=0 then (.exit 1,[(0, .ptr tb 0),(2,pd),(4, .ptr q 0),(51, .slice (ls.map Lab.d)),(52, .int .i64 ls.length),(53, .int .i64 ls.length),(54, .bool false)],σ++τ') else (.panic (refD (firstE (ls.map fun x=>findEffE p.effects x.s))),ev,σ++τ')):=by
 unfold maxL at hls
 have:=loop_seekP (f:=evalI CI XB GI 82 false lp112_0) (σ:=σ) ls (fun i=>[(0, .ptr tb 0),(2,pd),(4, .ptr q 0),(51, .slice (ls.map Lab.d)),(52, .int .i64 ls.length),(53, .int .i64 (i:Nat))]) (fun x=>findEffE p.effects x.s) (fun e=> .panic (refD e))
  (.exit 1,[(0, .ptr tb 0),(2,pd),(4, .ptr q 0),(51, .slice (ls.map Lab.d)),(52, .int .i64 ls.length),(53, .int .i64 ls.length),(54, .bool false)]) (by simp) (by simp)
  (fun i hi τ=>by
    have hw:=wrap_nat (n:=i) (by omega)
    have hT':=hT.app (τ:=τ)
    rcases hx:ls[i] with ⟨s,n⟩
    refine ⟨τ++[.box [.str s, .int .i64 n]],[(0, .ptr tb 0),(2,pd),(4, .ptr q 0),(10, .int .i64 (findEffE p.effects s)),(51, .slice (ls.map Lab.d)),(52, .int .i64 ls.length),(53, .int .i64 (i:Nat))], ?_⟩
    rw [←List.append_assoc]
    generalize σ++τ=σ1 at*
    obtain ⟨j,h1,_⟩:=hT'
    have h34:=fun σ=>c34 p hel s σ
    have q34:qI 34=false:=rfl
    have x34:XB 34=false:=rfl
    have hpl:=p.cs_len
    have hpt:=p.cs_take
    generalize p.cs=pc at*
    generalize findEffI p.effects s=fi at*
    generalize findEffE p.effects s=fe at*
    by_cases he:fe=0
    ·rw [if_pos he]
     subst he
     simp [lp112_0,hi,hw,hx,Lab.d,getA0,setA0,getO h1,hpl,hpt,h34,c59,outR_zero,q34,x34,tb63]
    ·rw [if_neg he]
     simp [lp112_0,hi,hw,hx,Lab.d,getA0,setA0,getO h1,hpl,hpt,h34,c59,outR_ne he,q34,x34,tb63]) (fun τ=>⟨τ,by simp [lp112_0]⟩) []
 simpa using this
theorem idxOf_find {α:Type} (Q:α→Bool) (l:List α): (idxOf Q l<0∧l.find? Q=none)∨(∃i,idxOf Q l=(i:Nat)∧ ∃h:i<l.length,l.find? Q=some l[i]∧Q l[i]=true):=by
 unfold idxOf
 cases h:l.findIdx? Q with
 |none=>
  left
  rw [List.findIdx?_eq_none_iff] at h
  exact ⟨by simp,List.find?_eq_none.2 fun x hx=>by simp [h x hx]⟩
 |some i=>
  right
  obtain ⟨h1,h2,h3⟩:=List.findIdx?_eq_some_iff_getElem.1 h
  refine ⟨i,rfl,h1, ?_,h2⟩
  rw [List.find?_eq_some_iff_getElem]
  exact ⟨h2,i,h1,rfl,fun j hj=>by simpa using h3 j hj⟩
set_option maxHeartbeats 1000000 in
theorem c112 (p:Prg) (m:CMap) (hdl:p.data.length≤maxL) (hel:p.effects.length≤maxL) (params:List Bs) (hpar:params.length≤maxL) (pd:D) (hpd:StrsD pd params) (tb:Nat):
 ∀ (t:Ty),t.ok→ ∀ (σ:St),IsT σ tb p m→CI (.fn 112) [.ptr tb 0, .agg t.cs,pd] σ=some (outR (t.ord p params),σ)
 | .mk k n s l ls tail,hok,σ,hT=>by
  obtain ⟨hl1,hl2,hl3⟩:=hok
  have htail: ∀τ,∃τ' ev,iterI (evalI CI XB GI 82 false lp112_1) [(0, .ptr tb 0),(2,pd),(71, .slice (tysD l)),(72, .int .i64 l.length),(73, .int .i64 0)] (σ++[.box (Ty.mk k n s l ls tail).cs]++τ)=
   some (if tysOrd p params l=0 then (.exit 3,[(0, .ptr tb 0),(2,pd),(71, .slice (tysD l)),(72, .int .i64 l.length),(73, .int .i64 l.length),(74, .bool false)],σ++[.box (Ty.mk k n s l ls tail).cs]++τ') else (.panic (refD (tysOrd p params l)),ev,σ++[.box (Ty.mk k n s l ls tail).cs]++τ')):=by
   intro τ
   have hlen:=tysD_len l
   have:=loop_seekP (f:=evalI CI XB GI 82 false lp112_1) (σ:=σ++[.box (Ty.mk k n s l ls tail).cs]) l (fun i=>[(0, .ptr tb 0),(2,pd),(71, .slice (tysD l)),(72, .int .i64 l.length),(73, .int .i64 (i:Nat))]) (fun t=>t.ord p params) (fun e=> .panic (refD e))
    (.exit 3,[(0, .ptr tb 0),(2,pd),(71, .slice (tysD l)),(72, .int .i64 l.length),(73, .int .i64 l.length),(74, .bool false)]) (by simp) (by simp)
    (fun i hi τ=>by
      have hw:=wrap_nat (n:=i) (by unfold maxL at hl1;omega)
      have ih:=c112 p m hdl hel params hpar pd hpd tb l[i] (tysOk_mem hl3 (List.getElem_mem hi)) (σ++[Obj.box (Ty.mk k n s l ls tail).cs]++τ++[Obj.box l[i].cs]) hT.app.app.app
      have hget: (tysD l)[i]? =some (.agg l[i].cs):=by rw [tysD_map];simp [Ty.d,hi]
      refine ⟨τ++[.box l[i].cs],[(0, .ptr tb 0),(2,pd),(12, .ptr (σ++[Obj.box (Ty.mk k n s l ls tail).cs]++τ).length 0),(71, .slice (tysD l)),(72, .int .i64 l.length),(73, .int .i64 (i:Nat)),(78, .agg l[i].cs)], ?_⟩
      rw [←List.append_assoc]
      generalize σ++[.box (Ty.mk k n s l ls tail).cs]++τ=σ1 at*
      generalize tysD l=ld at*
      have h2:i<ld.length:=by omega
      have h3:ld[i]= .agg l[i].cs:=by rw [List.getElem?_eq_getElem h2] at hget;exact Option.some.inj hget
      generalize l[i]=x at*
      have hx1:=x.cs_len
      have hx2:=x.cs_take
      have hx3:x.cs.all D.one=true:=by cases x;rfl
      have hx4:x.cs.drop 6=[]:=List.drop_eq_nil_of_le (by simp)
      generalize x.cs=xc at*
      by_cases he:x.ord p params=0
      ·rw [if_pos he]
       rw [he,outR_zero] at ih
       simp [lp112_1,hi,hw,h2,h3,getA0,setA0,hx1,hx2,hx3,hx4,putCells,ih]
      ·rw [if_neg he]
       rw [outR_ne he] at ih
       simp [lp112_1,hi,hw,h2,h3,getA0,setA0,hx1,hx2,hx3,hx4,putCells,ih]) (fun τ=>⟨τ,by generalize tysD l=ld at*;simp [lp112_1]⟩) τ
   rw [←tysOrd_first,Int.natCast_zero] at this
   exact this
  obtain ⟨τ,hτ⟩: ∃τ,bodyI CI XB GI af112 [.ptr tb 0, .agg (Ty.mk k n s l ls tail).cs,pd] σ=some (outR ((Ty.mk k n s l ls tail).ord p params),σ++τ):=by
   have hlen:=tysD_len l
   have hlsl: (ls.map Lab.d).length=ls.length:=by simp
   have h111:=fun σ=>k111e hpd hpar s σ
   have h117:=fun τ=>c117 p m hdl s tb (σ++τ) hT.app
   have it:=it112 p m hel tb pd ls hl2 σ.length (σ++[Obj.box (Ty.mk k n s l ls tail).cs]) hT.app
   simp only [Ty.ord]
   have hfin: ∀τ0,(∀τ' r,(∃ev,iterI (evalI CI XB GI 82 false lp112_1) [(0, .ptr tb 0),(2,pd),(71, .slice (tysD l)),(72, .int .i64 l.length),(73, .int .i64 0)] (σ++[.box (Ty.mk k n s l ls tail).cs]++τ0)=some (if tysOrd p params l=0 then (.exit 3,[(0, .ptr tb 0),(2,pd),(71, .slice (tysD l)),(72, .int .i64 l.length),(73, .int .i64 l.length),(74, .bool false)],σ++τ') else (.panic (refD (tysOrd p params l)),ev,σ++τ')))→r=outR (tysOrd p params l)→
    bodyI CI XB GI af112 [.ptr tb 0, .agg (Ty.mk k n s l ls tail).cs,pd] σ=some (r,σ++τ'))→ ∃τ,bodyI CI XB GI af112 [.ptr tb 0, .agg (Ty.mk k n s l ls tail).cs,pd] σ=some (outR (tysOrd p params l),σ++τ):=by
    intro τ0 h
    obtain ⟨τ',ev,h1⟩:=htail τ0
    exact ⟨_,h ([.box (Ty.mk k n s l ls tail).cs]++τ') _ ⟨ev,by rw [h1];simp only [List.append_assoc]⟩ rfl⟩
   clear htail
   by_cases hk1:k=1
   ·subst hk1
    cases hh:hasS params s
    ·refine ⟨[.box (Ty.mk 1 n s l ls tail).cs], ?_⟩
     have ho:ordN p params 1 s l.length ls=6:=by simp [ordN,hh]
     rw [ho,if_neg (by omega)]
     simp only [Ty.cs] at*
     generalize ls.map Lab.d=lsd at*
     generalize tysD l=ld at*
     simp [bodyI,af112,getA0,h111,hh,c58,outR]
    ·have ho:ordN p params 1 s l.length ls=0:=by simp [ordN,hh]
     rw [ho,if_pos rfl]
     refine hfin [] fun τ' r ⟨ev,hit⟩ hr=> ?_
     subst hr
     simp only [Ty.cs] at*
     generalize ls.map Lab.d=lsd at*
     generalize tysD l=ld at*
     by_cases hz:tysOrd p params l=0
     ·rw [if_pos hz,List.append_nil] at hit
      rw [hz]
      simp [bodyI,af112,getA0,h111,hh,hlen,hit,outR]
     ·rw [if_neg hz,List.append_nil] at hit
      rw [outR_ne hz]
      simp [bodyI,af112,getA0,h111,hh,hlen,hit]
   have hk1': (k==1)=false:=by simpa using hk1
   by_cases hk6:k=6
   ·subst hk6
    have h117:=h117 [.box (Ty.mk 6 n s l ls tail).cs]
    obtain ⟨j,hj,_⟩:=hT
    rw [p.cs_eq] at hj
    rcases idxOf_find (fun x:Dat=>x.name==s) p.data with ⟨hneg,hnone⟩ | ⟨i,hi,hlt,hsome,_⟩
    ·have ho:ordN p params 6 s l.length ls=6:=by simp [ordN,hnone]
     rw [ho,if_neg (by omega)]
     refine ⟨[.box (Ty.mk 6 n s l ls tail).cs], ?_⟩
     generalize idxOf (fun x:Dat=>x.name==s) p.data=z at*
     simp only [Ty.cs] at*
     generalize ls.map Lab.d=lsd at*
     generalize tysD l=ld at*
     simp [bodyI,af112,getA0,h117,hneg,c58,outR]
    ·have hget: (p.data.map Dat.d)[i]? =some (.agg p.data[i].cs):=by simp [hlt];rfl
     have hdlen: (p.data.map Dat.d).length=p.data.length:=by simp
     rw [hi] at h117
     have hni: ¬(i:Int) <0:=by omega
     have ho:ordN p params 6 s l.length ls=if p.data[i].params.length=l.length then 0 else 7:=by simp only [ordN,hsome];rfl
     rw [ho]
     generalize p.data[i]=d at*
     rcases d with ⟨dn,dp,dc⟩
     simp only [Dat.cs,slD] at*
     have hpl: (dp.map D.str).length=dp.length:=by simp
     generalize p.data.map Dat.d=dd at*
     generalize p.effects.map Eff.d=ed at*
     generalize p.defs.map Dfn.d=fd at*
     generalize p.main.cs=mc at*
     have h2:i<dd.length:=by omega
     have h3:dd[i]= .agg [.str dn, .slice (dp.map D.str), .slice (dc.map Con.d)]:=by rw [List.getElem?_eq_getElem h2] at hget;exact Option.some.inj hget
     generalize dc.map Con.d=cd at*
     generalize dp.map D.str=pdd at*
     by_cases hp:dp.length=l.length
     ·rw [if_pos hp,if_pos rfl]
      refine hfin [] fun τ' r ⟨ev,hit⟩ hr=> ?_
      subst hr
      simp only [Ty.cs] at*
      generalize ls.map Lab.d=lsd at*
      generalize tysD l=ld at*
      by_cases hz:tysOrd p params l=0
      ·rw [if_pos hz,List.append_nil] at hit
       rw [hz]
       simp [bodyI,af112,getA0,h117,hlen,hit,outR,h2,h3,hni,getO hj,hpl,hp]
      ·rw [if_neg hz,List.append_nil] at hit
       rw [outR_ne hz]
       simp [bodyI,af112,getA0,h117,hlen,hit,h2,h3,hni,getO hj,hpl,hp]
     ·rw [if_neg hp,if_neg (by omega)]
      refine ⟨[.box (Ty.mk 6 n s l ls tail).cs], ?_⟩
      have hp': ((dp.length:Int) ==(l.length:Int))=false:=by simp;omega
      have hp2: ¬(dp.length:Int)=(l.length:Int):=by omega
      simp only [Ty.cs] at*
      generalize ls.map Lab.d=lsd at*
      generalize tysD l=ld at*
      simp [bodyI,af112,getA0,h117,hlen,c58,outR,h2,h3,hni,getO hj,hpl,hp,hp',hp2,bne]
   have hk6': (k==6)=false:=by simpa using hk6
   by_cases hk5:k=5
   ·subst hk5
    obtain ⟨τl,evl,hitl⟩:=it
    have ho:ordN p params 5 s l.length ls=firstE (ls.map fun x=>findEffE p.effects x.s):=by simp [ordN]
    rw [ho]
    generalize firstE (ls.map fun x=>findEffE p.effects x.s)=fe at*
    by_cases hfe:fe=0
    ·rw [if_pos hfe] at hitl ⊢
     have hg: (σ++[.box (Ty.mk 5 n s l ls tail).cs]++τl)[σ.length]? =some (.box (Ty.mk 5 n s l ls tail).cs):=by rw [List.append_assoc];exact getA0
     refine hfin τl fun τ' r ⟨ev,hit⟩ hr=> ?_
     subst hr
     generalize hσ1:σ++[.box (Ty.mk 5 n s l ls tail).cs]++τl=σ1 at*
     simp only [Ty.cs] at*
     generalize ls.map Lab.d=lsd at*
     generalize tysD l=ld at*
     by_cases hz:tysOrd p params l=0
     ·rw [if_pos hz] at hit
      rw [hz]
      simp [bodyI,af112,getA0,hg,hlsl,hitl,hlen,hit,outR]
     ·rw [if_neg hz] at hit
      rw [outR_ne hz]
      simp [bodyI,af112,getA0,hg,hlsl,hitl,hlen,hit]
    ·rw [if_neg hfe] at hitl ⊢
     refine ⟨[.box (Ty.mk 5 n s l ls tail).cs]++τl, ?_⟩
     rw [←List.append_assoc,outR_ne hfe]
     generalize hσ1:σ++[.box (Ty.mk 5 n s l ls tail).cs]++τl=σ1 at*
     simp only [Ty.cs] at*
     generalize ls.map Lab.d=lsd at*
     generalize tysD l=ld at*
     simp [bodyI,af112,getA0,hlsl,hitl]
   have hk5': (k==5)=false:=by simpa using hk5
   have ho:ordN p params k s l.length ls=0:=by simp [ordN,hk1,hk5,hk6]
   rw [ho,if_pos rfl]
   refine hfin [] fun τ' r ⟨ev,hit⟩ hr=> ?_
   subst hr
   simp only [Ty.cs] at*
   generalize ls.map Lab.d=lsd at*
   generalize tysD l=ld at*
   by_cases hz:tysOrd p params l=0
   ·rw [if_pos hz,List.append_nil] at hit
    rw [hz]
    simp [bodyI,af112,getA0,hk1',hk5',hk6',hlen,hit,outR]
   ·rw [if_neg hz,List.append_nil] at hit
    rw [outR_ne hz]
    simp [bodyI,af112,getA0,hk1',hk5',hk6',hlen,hit]
  exact CI_out tab112 hτ
termination_by t=>SizeOf.sizeOf t
decreasing_by
 have:=List.sizeOf_lt_of_mem (List.getElem_mem hi)
 simp only [Ty.mk.sizeOf_spec]
 omega
theorem mapFind_kvs (s:Bs): ∀ (m:CMap),mapFind 2 (.str s) (kvs m)=some ((m.find? (fun x=>x.1==s)).map fun x=>plD x.2)
 | []=>rfl
 |x::r=>by
  have:kvs (x::r)=(.str x.1,plD x.2)::kvs r:=rfl
  rw [this]
  simp only [mapFind,D.kindEq,List.find?_cons]
  have hc: (s==x.1)=(x.1==s):=BEq.comm
  rw [hc]
  cases h:x.1==s
  ·exact mapFind_kvs s r
  ·rfl
theorem mapSet_kvs (s:Bs) (v:Nat × Nat): ∀ (m:CMap),m.find? (fun x=>x.1==s)=none→mapSet 2 (.str s) (plD v) (kvs m)=some (kvs (m++[(s,v)]))
 | [],_=>rfl
 |x::r,h=>by
  have:kvs (x::r)=(.str x.1,plD x.2)::kvs r:=rfl
  rw [this]
  rw [List.find?_cons] at h
  simp only [mapSet,D.kindEq]
  have hc: (s==x.1)=(x.1==s):=BEq.comm
  rw [hc]
  cases hx:x.1==s
  ·rw [hx] at h
   simp only
   rw [mapSet_kvs s v r h]
   rfl
  ·rw [hx] at h;cases h
def addC (i k:Nat) (c:Con) (m:CMap):CMap:=match m.find? (fun x=>x.1==c.name) with|some _=>m|none=>m++[(c.name,i,k)]
def addCs (i:Nat):List Con→Nat→CMap→CMap
 | [],_,m=>m
 |c::r,k,m=>addCs i r (k+1) (addC i k c m)
def addDs:List Dat→Nat→CMap→CMap
 | [],_,m=>m
 |d::r,i,m=>addDs r (i+1) (addCs i d.cons 0 m)
def Prg.cm (p:Prg):CMap:=addDs p.data 0 []
set_option maxHeartbeats 2000000 in
theorem b55 (pc:List D) (hpl:pc.length=10) (tb j:Nat) (m:CMap) (σ:St) (htb:σ[tb]? =some (.box (pc++[.map j]))) (hj:σ[j]? =some (.map (kvs m))) (i k:Nat) (cons:List Con) (hk:k<cons.length) (hcl:cons.length≤maxL) (d15:D) (d16:Int):
 ∃τ,evalI CI XB GI 54 false lp55_0 [(3, .ptr tb 0),(4, .int .i64 i),(15,d15),(16, .int .i64 d16),(17, .int .i64 i),(23, .slice (cons.map Con.d)),(24, .int .i64 cons.length),(25, .int .i64 k)] σ=
  some (.normal,[(3, .ptr tb 0),(4, .int .i64 i),(15,d15),(16, .int .i64 d16),(17, .int .i64 i),(23, .slice (cons.map Con.d)),(24, .int .i64 cons.length),(25, .int .i64 ((k+1:Nat):Int))],σ.set j (.map (kvs (addC i k cons[k] m)))++τ):=by
 have hw:=wrap_nat (n:=k) (by unfold maxL at hcl;omega)
 have hget: (cons.map Con.d)[k]? =some (Con.d cons[k]):=by simp [hk]
 have hlen: (cons.map Con.d).length=cons.length:=by simp
 generalize cons.map Con.d=ld at*
 have h2:k<ld.length:=by omega
 have h3:ld[k]=Con.d cons[k]:=by rw [List.getElem?_eq_getElem h2] at hget;exact Option.some.inj hget
 generalize cons[k]=c at*
 rcases c with ⟨cn,args⟩
 simp only [Con.d,Con.cs] at*
 generalize tysD args=ad at*
 have hpd:pc.drop 10=[]:=List.drop_eq_nil_of_le (by omega)
 have hmf:=mapFind_kvs cn m
 have hms:=mapSet_kvs cn (i,k) m
 have hjl:=lt_of_get hj
 unfold addC
 cases hf:m.find? (fun x=>x.1==cn) with
 |some v=>
  rw [hf] at hmf
  have hs:σ.set j (.map (kvs m))=σ:=by
   rw [←(List.getElem?_eq_some_iff.1 hj).2];exact List.set_getElem_self _
  simp only [hs]
  refine ⟨[.box [.str cn, .slice ad], .box [.int .i64 v.2.1, .int .i64 v.2.2]], ?_⟩
  generalize kvs m=km at*
  simp [lp55_0,hk,hw,h2,h3,getA0,getA,setA0,setA,getO htb,getO hj,hpl,hpd,hmf,plD,D.kindEq,Nat.testBit_eq_decide_div_mod_eq]
 |none=>
  rw [hf] at hmf
  have hms:=hms hf
  refine ⟨[.box [.str cn, .slice ad], .box [.int .i64 0, .int .i64 0]], ?_⟩
  generalize kvs m=km at*
  generalize kvs (m++[(cn,i,k)])=km' at*
  simp only [plD] at hms
  simp [lp55_0,hk,hw,h2,h3,getA0,getA,setA0,setA,setO hjl,getO htb,getO hj,hpl,hpd,hmf,hms,plD,fillD,putCells,D.kindEq,Nat.testBit_eq_decide_div_mod_eq]
theorem foldS_addC (i:Nat): ∀ (l:List Con) (k:Nat) (m:CMap),foldS (γ:=Unit) (fun k c m=> .inl (addC i k c m)) l k m= .inl (addCs i l k m)
 | [],k,m=>rfl
 |c::r,k,m=>by simp only [foldS,addCs,foldS_addC i r]
theorem foldS_addD: ∀ (l:List Dat) (i:Nat) (m:CMap),foldS (γ:=Unit) (fun i (d:Dat) m=> .inl (addCs i d.cons 0 m)) l i m= .inl (addDs l i m)
 | [],k,m=>rfl
 |c::r,k,m=>by simp only [foldS,addDs,foldS_addD r]
def lookS (p:Prg) (σ:St) (m:CMap):St:=σ++[.box p.cs, .map (kvs m), .box (p.cs++[.map (σ.length+1)])]
theorem lookS_set (p:Prg) (σ τ:St) (m m':CMap): (lookS p σ m++τ).set (σ.length+1) (.map (kvs m'))=lookS p σ m'++τ:=by
 unfold lookS
 rw [List.append_assoc,setA];simp
theorem lookS_1 (p:Prg) (σ τ:St) (m:CMap): (lookS p σ m++τ)[σ.length+1]? =some (.map (kvs m)):=by
 unfold lookS;rw [List.append_assoc];exact getA
theorem lookS_2 (p:Prg) (σ τ:St) (m:CMap): (lookS p σ m++τ)[σ.length+2]? =some (.box (p.cs++[.map (σ.length+1)])):=by
 unfold lookS;rw [List.append_assoc];exact getA
theorem it55_0 (p:Prg) (σ:St) (i:Nat) (cons:List Con) (hcl:cons.length≤maxL) (d15:D) (d16:Int) (m:CMap) (τ:St):
 ∃τ',iterI (evalI CI XB GI 54 false lp55_0) [(3, .ptr (σ.length+2) 0),(4, .int .i64 i),(15,d15),(16, .int .i64 d16),(17, .int .i64 i),(23, .slice (cons.map Con.d)),(24, .int .i64 cons.length),(25, .int .i64 0)] (lookS p σ m++τ)=
  some (.exit 2,[(3, .ptr (σ.length+2) 0),(4, .int .i64 i),(15,d15),(16, .int .i64 d16),(17, .int .i64 i),(23, .slice (cons.map Con.d)),(24, .int .i64 cons.length),(25, .int .i64 cons.length),(26, .bool false)],lookS p σ (addCs i cons 0 m)++τ'):=by
 obtain ⟨τ',h⟩:=loop_foldS (γ:=Unit) (f:=evalI CI XB GI 54 false lp55_0) cons (fun k _=>[(3, .ptr (σ.length+2) 0),(4, .int .i64 i),(15,d15),(16, .int .i64 d16),(17, .int .i64 i),(23, .slice (cons.map Con.d)),(24, .int .i64 cons.length),(25, .int .i64 (k:Nat))])
  (fun m=>lookS p σ m) (fun _ _=>True) (fun k c m=> .inl (addC i k c m)) (fun _=>(.ret,[])) (fun _=>[]) (fun _=>(.exit 2,[(3, .ptr (σ.length+2) 0),(4, .int .i64 i),(15,d15),(16, .int .i64 d16),(17, .int .i64 i),(23, .slice (cons.map Con.d)),(24, .int .i64 cons.length),(25, .int .i64 cons.length),(26, .bool false)]))
  (by simp) (by simp) (fun _ _ _ _ _ _=>trivial)
  (fun k hk m τ _=>by
    obtain ⟨τ1,h1⟩:=b55 p.cs p.cs_len (σ.length+2) (σ.length+1) m (lookS p σ m++τ) (lookS_2 ..) (lookS_1 ..) i k cons hk hcl d15 d16
    refine ⟨τ++τ1, ?_⟩
    rw [h1,lookS_set,List.append_assoc])
  (fun m τ _=>⟨τ,by
    generalize cons.map Con.d=ld
    simp [lp55_0]⟩) m τ trivial
 rw [foldS_addC] at h
 exact ⟨τ',h⟩
theorem it55_1 (p:Prg) (hdl:p.data.length≤maxL) (hd: ∀d ∈ p.data,d.ok) (σ:St):
 ∃τ',iterI (evalI CI XB GI 54 false lp55_1) [(3, .ptr (σ.length+2) 0),(15, .slice (p.data.map Dat.d)),(16, .int .i64 p.data.length),(17, .int .i64 0)] (lookS p σ [])=
  some (.exit 0,[(3, .ptr (σ.length+2) 0),(15, .slice (p.data.map Dat.d)),(16, .int .i64 p.data.length),(17, .int .i64 p.data.length),(18, .bool false)],lookS p σ p.cm++τ'):=by
 obtain ⟨τ',h⟩:=loop_foldS (γ:=Unit) (f:=evalI CI XB GI 54 false lp55_1) p.data (fun i _=>[(3, .ptr (σ.length+2) 0),(15, .slice (p.data.map Dat.d)),(16, .int .i64 p.data.length),(17, .int .i64 (i:Nat))])
  (fun m=>lookS p σ m) (fun _ _=>True) (fun i d m=> .inl (addCs i d.cons 0 m)) (fun _=>(.ret,[])) (fun _=>[]) (fun _=>(.exit 0,[(3, .ptr (σ.length+2) 0),(15, .slice (p.data.map Dat.d)),(16, .int .i64 p.data.length),(17, .int .i64 p.data.length),(18, .bool false)]))
  (by simp) (by simp) (fun _ _ _ _ _ _=>trivial)
  (fun i hi m τ _=>by
    have hw:=wrap_nat (n:=i) (by unfold maxL at hdl;omega)
    have hx:=hd _ (List.getElem_mem hi)
    have hget: (p.data.map Dat.d)[i]? =some (Dat.d p.data[i]):=by simp [hi]
    have hlen: (p.data.map Dat.d).length=p.data.length:=by simp
    obtain ⟨τ1,hit⟩:=it55_0 p σ i p.data[i].cons hx.2.1 (.slice (p.data.map Dat.d)) p.data.length m (τ++[.box p.data[i].cs])
    refine ⟨τ1, ?_⟩
    generalize p.data.map Dat.d=ld at*
    have h2:i<ld.length:=by omega
    have h3:ld[i]=Dat.d p.data[i]:=by rw [List.getElem?_eq_getElem h2] at hget;exact Option.some.inj hget
    generalize p.data[i]=d at*
    rcases d with ⟨dn,dp,dc⟩
    have hcl: (dc.map Con.d).length=dc.length:=by simp
    simp only [Dat.d,Dat.cs,slD] at*
    generalize dc.map Con.d=cd at*
    generalize dp.map D.str=pd at*
    rw [←List.append_assoc] at hit
    generalize lookS p σ (addCs i dc 0 m)++τ1=σ2 at*
    generalize lookS p σ m++τ=σ1 at*
    simp [lp55_1,hi,hw,h2,h3,hcl,getA0,setA0,hit])
  (fun m τ _=>⟨τ,by
    generalize p.data.map Dat.d=ld
    simp [lp55_1]⟩) [] [] trivial
 rw [foldS_addD,List.append_nil] at h
 exact ⟨τ',h⟩
theorem CI_new {f:FuncId} {af:AFunc} (hT:tabT f=some af) {args:List D} {σ τ:St} {i:Nat} (h:bodyI CI XB GI af args σ=some (.ret (.ptr (σ.length+i) 0),σ++τ)) (hq:qI f=false)
 (hx:okF f:=by exact ⟨⟨rfl,rfl⟩,rfl⟩):CI (.fn f) args σ=some (.ret (.ptr (σ.length+i) 0),σ++τ):=by
 refine CI_fn hT h ?_ hx
 have ht:trim σ (some (.ret (.ptr (σ.length+i) 0),σ++τ))=some (.ret (.ptr (σ.length+i) 0),σ++τ):=by
  unfold trim
  have:trimV σ.length (σ++τ) (.ret (.ptr (σ.length+i) 0))=none:=by simp [trimV,strip,D.tree,D.under]
  simp only [this,if_pos keeps_app]
 unfold postI
 rw [ht]
 simp [hq]
theorem c55 (p:Prg) (hdl:p.data.length≤maxL) (hd: ∀d ∈ p.data,d.ok) (σ:St): ∃τ,CI (.fn 55) [.agg p.cs] σ=some (.ret (.ptr (σ.length+2) 0),lookS p σ p.cm++τ):=by
 obtain ⟨τ,hit⟩:=it55_1 p hdl hd σ
 refine ⟨τ, ?_⟩
 have hτ:bodyI CI XB GI af55 [.agg p.cs] σ=some (.ret (.ptr (σ.length+2) 0),lookS p σ p.cm++τ):=by
  have hall:=p.cs_all
  have hpl:=p.cs_len
  have hpt:=p.cs_take
  have hlen: (p.data.map Dat.d).length=p.data.length:=by simp
  generalize lookS p σ p.cm++τ=σ2 at*
  unfold lookS at hit
  have hpd:p.cs.drop 10=[]:=List.drop_eq_nil_of_le (by omega)
  have hg: ∀τ,(σ++ .box p.cs::τ)[σ.length]? =some (.box (.slice (p.data.map Dat.d):: .slice (p.effects.map Eff.d):: .slice (p.defs.map Dfn.d)::p.main.cs)):=fun τ=>by rw [←p.cs_eq];exact getA0
  simp only [kvs,List.map_nil] at hit
  have hd11: (p.cs++[D.nilmap]).drop 11=[]:=List.drop_eq_nil_of_le (by simp [hpl])
  have hh:p.cs.head?=some (.slice (p.data.map Dat.d)):=by rw [p.cs_eq];rfl
  clear hg
  generalize p.data.map Dat.d=dd at*
  generalize p.cs=pc at*
  simp [bodyI,af55,hall,hpl,hpt,hpd,getA0,fillD,putCells,hh,hlen,hit,hd11]
 have e:lookS p σ p.cm++τ=σ++([.box p.cs, .map (kvs p.cm), .box (p.cs++[.map (σ.length+1)])]++τ):=by unfold lookS;rw [List.append_assoc]
 rw [e] at hτ ⊢
 exact CI_new tab55 hτ rfl
theorem lookS_T (p:Prg) (σ τ:St):IsT (lookS p σ p.cm++τ) (σ.length+2) p p.cm:=⟨_,lookS_2 ..,lookS_1 ..⟩
def rowS (l:List Bs):Obj:= .row 1 (l.map .str) 0
def refS (r:Nat) (l:List Bs):Obj:= .box [.arr r l.length 0 l.length]
theorem c89r (l:List Bs) (s:Bs) (r:Nat) (σ:St) (hr:σ[r]? =some (rowS l)) (hl:l.length≤maxL):CI (.fn 89) [.arr r l.length 0 l.length, .str s] σ=some (.ret (.int .i64 (indexP l s)),σ):=by
 unfold maxL at hl
 unfold rowS at hr
 refine CI_tree0 tab89 (d:= .int .i64 (indexP l s)) ?_ rfl rfl
 have hit:=loop_find (f:=evalI CI XB GI 19 false lp89_0) (σ:=σ) l (fun i=>[(0, .arr r l.length 0 l.length),(1, .str s),(7, .int .i64 l.length),(8, .int .i64 (i:Nat))]) (· ==s) (fun i=>(.ret,[(4, .int .i64 (i:Nat))],σ)) (.exit 0,[(0, .arr r l.length 0 l.length),(1, .str s),(7, .int .i64 l.length),(8, .int .i64 l.length),(9, .bool false)],σ) (by simp) (by simp)
  (fun i hi=>by
    have hw:=wrap_nat (n:=i) (by omega)
    have hc: (s==l[i])=(l[i] ==s):=BEq.comm
    cases hb:l[i] ==s<;>simp [lp89_0,hi,hw,hb,hc,hr]) (by
    simp [lp89_0])
 rw [Int.natCast_zero] at hit
 unfold indexP
 cases hf:l.findIdx? (· ==s)<;>(rw [hf] at hit;simp [bodyI,af89,hit])
theorem h111r (l:List Bs) (s:Bs) (r:Nat) (σ:St) (hr:σ[r]? =some (rowS l)) (hl:l.length≤maxL):CI (.fn 111) [.arr r l.length 0 l.length, .str s] σ=some (.ret (.bool (hasS l s)),σ):=by
 refine CI_tree0 tab111 (d:= .bool (hasS l s)) ?_ rfl rfl
 unfold hasS
 rw [←indexP_ge]
 simp [bodyI,af111,c89r l s r σ hr hl]
theorem c110 (l:List Bs) (s:Bs) (b r:Nat) (σ:St) (hb:σ[b]? =some (refS r l)) (hr:σ[r]? =some (rowS l)) (hne:b≠r) (hl:l.length≤1000000):
 CI (.fn 110) [.ptr b 0, .str s] σ=some (if hasS l s then (.panic (refD 5),σ) else (.ret (.tuple []),(σ.set r (rowS (l++[s]))).set b (refS r (l++[s])))):=by
 have h111:=h111r l s r σ hr (by unfold maxL;omega)
 have hbl:=lt_of_get hb
 have hrl:=lt_of_get hr
 cases hh:hasS l s
 ·rw [hh] at h111
  have hτ:bodyI CI XB GI af110 [.ptr b 0, .str s] σ=some (.ret (.tuple []),(σ.set r (rowS (l++[s]))).set b (refS r (l++[s]))):=by
   unfold refS rowS at*
   have hb2: (σ.set r (.row 1 (l.map .str++[.str s]) 0))[b]? =some (.box [.arr r l.length 0 l.length]):=by rw [List.getElem?_set_ne hne.symm];exact hb
   have hlen: (l.map D.str).length=l.length:=by simp
   have hba: ((l.length:Nat) +1) *16≤140737488355328:=by omega
   simp [bodyI,af110,hb,hr,hb2,h111,rowOf,fillRow,hba,List.map_append]
  exact CI_fn tab110 hτ (postI_len (by simp) rfl rfl rfl)
 ·rw [hh] at h111
  have hτ:bodyI CI XB GI af110 [.ptr b 0, .str s] σ=some (.panic (refD 5),σ++[]):=by
   unfold refS rowS at*
   simp [bodyI,af110,hb,h111,c58]
  exact CI_panic tab110 hτ rfl
def onceS (σ:St) (a b:List Bs):St:=σ++[rowS a,rowS b,refS σ.length a,refS (σ.length+1) b]
theorem onceS_r (σ τ:St) (a b:List Bs): (onceS σ a b++τ)[σ.length]? =some (rowS a):=by unfold onceS;rw [List.append_assoc];exact getA0
theorem onceS_r1 (σ τ:St) (a b:List Bs): (onceS σ a b++τ)[σ.length+1]? =some (rowS b):=by unfold onceS;rw [List.append_assoc];exact getA
theorem onceS_b (σ τ:St) (a b:List Bs): (onceS σ a b++τ)[σ.length+2]? =some (refS σ.length a):=by unfold onceS;rw [List.append_assoc];exact getA
theorem onceS_b1 (σ τ:St) (a b:List Bs): (onceS σ a b++τ)[σ.length+3]? =some (refS (σ.length+1) b):=by unfold onceS;rw [List.append_assoc];exact getA
theorem onceS_set (σ τ:St) (a b a':List Bs): ((onceS σ a b++τ).set σ.length (rowS a')).set (σ.length+2) (refS σ.length a')=onceS σ a' b++τ:=by
 unfold onceS;rw [List.append_assoc,setA0,setA];simp
theorem onceS_set1 (σ τ:St) (a b b':List Bs): ((onceS σ a b++τ).set (σ.length+1) (rowS b')).set (σ.length+3) (refS (σ.length+1) b')=onceS σ a b'++τ:=by
 unfold onceS;rw [List.append_assoc,setA,setA];simp
theorem onceS_app (σ τ:St) (a b:List Bs):onceS σ a b++τ=σ++([rowS a,rowS b,refS σ.length a,refS (σ.length+1) b]++τ):=by unfold onceS;rw [List.append_assoc]
theorem it56_0 (p:Prg) (m:CMap) (hdl:p.data.length≤maxL) (hel:p.effects.length≤maxL) (params:List Bs) (hpar:params.length≤maxL) (dn:Bs) (dc:D) (q tb:Nat) (σ σ1:St) (hT:IsT σ1 tb p m) (hq:σ1[q]? =some (.box [.str dn,slD params,dc]))
 (args:List Ty) (hal:args.length≤maxL) (hok:tysOk args) (d37 d38 d39 d48 d49 d50:D):
 ∃τ' ev,iterI (evalI CI XB GI 110 false lp56_0) [(0, .ptr tb 0),(2, .ptr (σ.length+2) 0),(3, .ptr (σ.length+3) 0),(4, .func 110 [] []),(6, .ptr q 0),(37,d37),(38,d38),(39,d39),(48,d48),(49,d49),(50,d50),(59, .slice (tysD args)),(60, .int .i64 args.length),(61, .int .i64 0)] σ1=
  some (if firstE (args.map fun t=>t.ord p params)=0 then (.exit 4,[(0, .ptr tb 0),(2, .ptr (σ.length+2) 0),(3, .ptr (σ.length+3) 0),(4, .func 110 [] []),(6, .ptr q 0),(37,d37),(38,d38),(39,d39),(48,d48),(49,d49),(50,d50),(59, .slice (tysD args)),(60, .int .i64 args.length),(61, .int .i64 args.length),(62, .bool false)],σ1++τ') else (.panic (refD (firstE (args.map fun t=>t.ord p params))),ev,σ1++τ')):=by
 have hlen:=tysD_len args
 have:=loop_seekP (f:=evalI CI XB GI 110 false lp56_0) (σ:=σ1) args (fun i=>[(0, .ptr tb 0),(2, .ptr (σ.length+2) 0),(3, .ptr (σ.length+3) 0),(4, .func 110 [] []),(6, .ptr q 0),(37,d37),(38,d38),(39,d39),(48,d48),(49,d49),(50,d50),(59, .slice (tysD args)),(60, .int .i64 args.length),(61, .int .i64 (i:Nat))]) (fun t=>t.ord p params) (fun e=> .panic (refD e))
  (.exit 4,[(0, .ptr tb 0),(2, .ptr (σ.length+2) 0),(3, .ptr (σ.length+3) 0),(4, .func 110 [] []),(6, .ptr q 0),(37,d37),(38,d38),(39,d39),(48,d48),(49,d49),(50,d50),(59, .slice (tysD args)),(60, .int .i64 args.length),(61, .int .i64 args.length),(62, .bool false)]) (by simp) (by simp)
  (fun i hi τ=>by
    have hw:=wrap_nat (n:=i) (by unfold maxL at hal;omega)
    have hc:=c112 p m hdl hel params hpar (slD params) (.inl rfl) tb args[i] (tysOk_mem hok (List.getElem_mem hi)) (σ1++τ++[Obj.box args[i].cs]) hT.app.app
    have hget: (tysD args)[i]? =some (.agg args[i].cs):=by rw [tysD_map];simp [Ty.d,hi]
    have hq':=getO (τ:=τ) hq
    refine ⟨τ++[.box args[i].cs],[(0, .ptr tb 0),(2, .ptr (σ.length+2) 0),(3, .ptr (σ.length+3) 0),(4, .func 110 [] []),(6, .ptr q 0),(10, .ptr (σ1++τ).length 0),(37,d37),(38,d38),(39,d39),(48,d48),(49,d49),(50,d50),(59, .slice (tysD args)),(60, .int .i64 args.length),(61, .int .i64 (i:Nat)),(66, .agg args[i].cs),(67, .ptr q 1),(68,slD params)], ?_⟩
    rw [←List.append_assoc]
    generalize σ1++τ=σ2 at*
    generalize tysD args=ld at*
    have h2:i<ld.length:=by omega
    have h3:ld[i]= .agg args[i].cs:=by rw [List.getElem?_eq_getElem h2] at hget;exact Option.some.inj hget
    generalize args[i]=x at*
    have hx1:=x.cs_len
    have hx2:=x.cs_take
    have hx3:x.cs.all D.one=true:=by cases x;rfl
    have hx4:x.cs.drop 6=[]:=List.drop_eq_nil_of_le (by simp)
    generalize x.cs=xc at*
    unfold slD at*
    generalize params.map D.str=pd at*
    by_cases he:x.ord p params=0
    ·rw [if_pos he]
     rw [he,outR_zero] at hc
     simp [lp56_0,hi,hw,h2,h3,getA0,setA0,getO hq',hx1,hx2,hx3,hx4,putCells,hc]
    ·rw [if_neg he]
     rw [outR_ne he] at hc
     simp [lp56_0,hi,hw,h2,h3,getA0,setA0,getO hq',hx1,hx2,hx3,hx4,putCells,hc]) (fun τ=>⟨τ,by generalize tysD args=ld at*;simp [lp56_0]⟩) []
 simpa using this
end Go.AI
