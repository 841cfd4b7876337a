/- Texts of the proof: what functions of the program compute, step by step. No conditions of its own. -/
import Derived.Test.YtgenoggafhhgfaaGreatDoorE11
import Derived.Test.YtgenoggafhhgfaaGreatDoorE5
set_option linter.unusedVariables false
set_option linter.unusedSimpArgs false
namespace Go.AI
open Go Go.Proofs Go.Lx
set_option maxRecDepth 100000
theorem it132 (k n:Int) (s t:Bs) (nd:List D) (l:List Ex) (arms:List Arm) (hl:l.length≤maxL) (ha:arms.length≤maxL) (d:Int) (hd0:1≤d) (hd1:d≤1000) (p:Nat) (σ:St) (hσ:σ[p]? =some (.box [.int .i64 k, .int .i64 n, .str s, .str t, .slice nd, .slice (exsD l), .slice (armsD arms)]))
 (ih: ∀x ∈ l++arms.map Arm.body,∀ (left:Int),0≤left→left≤1000000→CI (.fn 132) [.agg x.cs, .int .i64 left, .int .i64 (d - 1)] σ=some (.ret (.int .i64 (x.left left (d - 1))),σ)):
 ∀ (r pre:List Ex),pre++r=l++arms.map Arm.body→ ∀ (left:Int), -1≤left→left≤1000000→ ∀ (m:Nat),m=pre.length→
 ∃j:Int,iterI (evalI CI XB GI 58 false lp132_0) [(1, .int .i64 left),(2, .int .i64 d),(3, .ptr p 0),(7, .int .i64 (l.length+arms.length:Nat)),(8, .int .i64 (m:Nat))] σ=
  some (.exit 0,[(1, .int .i64 (exsLeft r left (d - 1))),(2, .int .i64 d),(3, .ptr p 0),(7, .int .i64 (l.length+arms.length:Nat)),(8, .int .i64 j),(26, .bool false)],σ)
 | [],pre,hp,left,h0,h1,m,hm=>by
  refine ⟨(m:Int),iterI_end ?_ (by simp)⟩
  have hmm:m=l.length+arms.length:=by
   have:=congrArg List.length hp
   simp at this
   omega
  generalize hN:l.length+arms.length=N at*
  have hnm: ¬(m:Int) < (N:Int):=by omega
  simp [lp132_0,hσ,hmm,exsLeft]
 |x::r,pre,hp,left,h0,h1,m,hm=>by
  have hmt:m<l.length+arms.length:=by
   have:=congrArg List.length hp
   simp at this
   omega
  have hmt': (m:Int) < ((l.length+arms.length:Nat):Int):=by omega
  have hget: (l++arms.map Arm.body)[m]? =some x:=by rw [←hp,hm];simp
  have hw:=wrap_nat (n:=m) (by unfold maxL at hl ha;omega)
  have hwd:IntKind.i64.wrap (d - 1)=d - 1:=wrap_i64 (by omega) (by omega)
  have hel:=exsD_len l
  have hal:=armsD_len arms
  have y1:=x.cs_len
  have y2:=x.cs_take
  by_cases hlt:0≤left
  ·have hx:=ih x (List.mem_of_getElem? hget) left hlt h1
   have ht:=x.left_le left (d - 1) hlt
   obtain ⟨j,ih2⟩:=it132 k n s t nd l arms hl ha d hd0 hd1 p σ hσ ih r (pre++[x]) (by rw [←hp];simp) (x.left left (d - 1)) ht.1 (by omega) (m+1) (by simp [hm])
   refine ⟨j, ?_⟩
   simp only [exsLeft,if_pos hlt]
   rw [←ih2]
   refine iterI_next ?_
   by_cases hml:m<l.length
   ·rw [List.getElem?_append_left hml] at hget
    have hg: (exsD l)[m]? =some (.agg x.cs):=by rw [exsD_map,List.getElem?_map,hget];rfl
    have hml': (m:Int) < (l.length:Int):=by omega
    generalize exsD l=ed at*
    generalize armsD arms=ad at*
    generalize hN:l.length+arms.length=N at*
    have h2:m<ed.length:=by omega
    have h3:ed[m]= .agg x.cs:=by rw [List.getElem?_eq_getElem h2] at hg;exact Option.some.inj hg
    generalize x.left left (d - 1)=xl at*
    generalize x.cs=xc at*
    simp [lp132_0,hσ,hmt,hmt',hml,hml',hel,h2,h3,y1,y2,hw,hwd,hlt,hx]
   ·rw [List.getElem?_append_right (by omega),List.getElem?_map] at hget
    obtain ⟨a,hga,rfl⟩:=Option.map_eq_some_iff.1 hget
    have hg: (armsD arms)[m - l.length]? =some (Arm.d a):=by rw [armsD_map,List.getElem?_map,hga];rfl
    have hml': ¬(m:Int) < (l.length:Int):=by omega
    have hws:IntKind.i64.wrap ((m:Int) - (l.length:Int))=((m - l.length:Nat):Int):=by rw [wrap_i64 (by omega) (by unfold maxL at hl ha;omega)];omega
    have hqa:m - l.length<arms.length:=by omega
    generalize exsD l=ed at*
    generalize armsD arms=ad at*
    generalize hN:l.length+arms.length=N at*
    generalize m - l.length=q at*
    have h2:q<ad.length:=by
     cases h:ad[q]? with
     |none=>rw [h] at hg;cases hg
     |some _=>exact (List.getElem?_eq_some_iff.1 h).1
    have h3:ad[q]=Arm.d a:=by rw [List.getElem?_eq_getElem h2] at hg;exact Option.some.inj hg
    rcases a with ⟨op,names,body⟩
    simp only [Arm.d,Arm.cs,Arm.body] at*
    generalize body.left left (d - 1)=xl at*
    generalize body.cs=xc at*
    simp [lp132_0,hσ,hmt,hmt',hml,hml',hel,hal,hqa,h2,h3,y1,y2,hw,hwd,hws,hlt,hx]
  ·refine ⟨(m:Int),iterI_end ?_ (by simp)⟩
   simp only [exsLeft,if_neg hlt]
   generalize l.length+arms.length=N at*
   simp [lp132_0,hσ,hmt,hmt',hlt]
theorem c132: ∀ (x:Ex),x.ok→ ∀ (left d:Int) (σ:St),0≤left→left≤1000000→0≤d→d≤1000→
 CI (.fn 132) [.agg x.cs, .int .i64 left, .int .i64 d] σ=some (.ret (.int .i64 (x.left left d)),σ)
 | .mk k n s t names l arms,hok,left,d,σ,h0,h1,hd0,hd1=>by
  have hw:IntKind.i64.wrap (left - 1)=left - 1:=wrap_i64 (by omega) (by omega)
  have ih:=fun x (hx:x ∈ l++arms.map Arm.body) (left d:Int) (σ:St)=>c132 x (Ex.parts_ok hok hx) left d σ
  obtain ⟨hn1,hl1,ha1, -⟩:=hok
  have hel:=exsD_len l
  have hal:=armsD_len arms
  have hws:IntKind.i64.wrap ((l.length:Int) + (arms.length:Int))=((l.length+arms.length:Nat):Int):=by rw [wrap_i64 (by omega) (by unfold maxL at*;omega)];omega
  have hτ:bodyI CI XB GI af132 [.agg (Ex.mk k n s t names l arms).cs, .int .i64 left, .int .i64 d] σ=some (.ret (.int .i64 ((Ex.mk k n s t names l arms).left left d)),σ++[.box (Ex.mk k n s t names l arms).cs]):=by
   rw [Ex.left_parts]
   by_cases hdd:d<1
   ·rw [if_pos hdd]
    simp only [Ex.cs]
    generalize exsD l=ed at*
    generalize armsD arms=ad at*
    simp [bodyI,af132,getA0,hw,hdd]
   ·rw [if_neg hdd]
    obtain ⟨j,hit⟩:=it132 k n s t (names.map D.str) l arms hl1 ha1 d (by omega) hd1 σ.length (σ++[.box (Ex.mk k n s t names l arms).cs]) (by rw [getA0];rfl) (fun x hx left h0 h1=>ih x hx left (d - 1) _ h0 h1 (by omega) (by omega)) _ [] rfl (left - 1) (by omega) (by omega) 0 rfl
    rw [Int.natCast_zero] at hit
    generalize exsLeft (l++arms.map Arm.body) (left - 1) (d - 1)=v at*
    simp only [Ex.cs] at hit ⊢
    generalize exsD l=ed at*
    generalize armsD arms=ad at*
    generalize hN:l.length+arms.length=N at*
    simp [bodyI,af132,getA0,hw,hdd,hel,hal,hws,hit]
  exact CI_tree tab132 hτ rfl rfl
termination_by x=>SizeOf.sizeOf x
decreasing_by
 rcases List.mem_append.1 hx with h|h
 ·have:=List.sizeOf_lt_of_mem h
  simp only [Ex.mk.sizeOf_spec]
  omega
 ·obtain ⟨a,ha,rfl⟩:=List.mem_map.1 h
  have:=List.sizeOf_lt_of_mem ha
  rcases a with ⟨op,nm,b⟩
  simp only [Ex.mk.sizeOf_spec,Arm.mk.sizeOf_spec,Arm.body] at*
  omega
theorem it206 (k n:D) (s t:D) (l arms:D) (a:Bs) (p:Nat) (σ:St): ∀ (r pre:List Bs),(a::(pre++r)).length≤maxL→σ[p]? =some (.box [k,n,s,t,slD (a::(pre++r)),l,arms])→ ∀m,m=pre.length+1→
 iterI (evalI CI XB GI 42 false lp206_0) [(1, .ptr p 0),(4, .int .i64 (m:Nat))] σ=
  some (if distFrom pre r 2=0 then (.exit 0,[(1, .ptr p 0),(4, .int .i64 (a::(pre++r)).length),(22, .bool false)],σ) else (.ret,[(2, .int .i64 (distFrom pre r 2))],σ))
 | [],pre,hl,hσ,m,hm=>by
  have:m=(a::(pre++([]:List Bs))).length:=by rw [hm];simp
  refine iterI_end ?_ (by simp [distFrom])
  generalize a::(pre++([]:List Bs))=q at*
  simp [lp206_0,hσ,this,distFrom]
 |s1::r,pre,hl,hσ,m,hm=>by
  have hmt:m< (a::(pre++s1::r)).length:=by simp;omega
  have hget: (a::(pre++s1::r))[m]? =some s1:=by rw [hm];simp
  have htk: (((a::(pre++s1::r)).map D.str).take m).drop 1=pre.map D.str:=by rw [hm];simp
  have htk2: (((a::(pre++s1::r)).map D.str).drop 1).take (m - 1)=pre.map D.str:=by rw [hm];simp
  have hw:=wrap_nat (n:=m) (by unfold maxL at hl;omega)
  have h122:=h122 pre s1 σ (by unfold maxL at*;simp at hl;omega)
  have hp:pre++[s1]++r=pre++s1::r:=by simp
  have ih:=it206 k n s t l arms a p σ r (pre++[s1]) (by rw [hp];exact hl) (by rw [hp];exact hσ) (m+1) (by simp [hm])
  rw [hp] at ih
  simp only [distFrom]
  simp only [slD] at h122
  generalize hq:a::(pre++s1::r)=q at*
  have h3:q[m]=s1:=by rw [List.getElem?_eq_getElem hmt] at hget;exact Option.some.inj hget
  have hm': (m:Int)≤q.length:=by omega
  have hm1: (1:Int)≤m:=by omega
  have hv:isC s1 2=upW s1:=rfl
  have q122:qI 122=false:=rfl
  have x122:XB 122=false:=rfl
  by_cases hc:upW s1=true
  ·by_cases hh:hasS pre s1=true
   ·simp only [hv,hc,hh,if_true]
    refine iterI_end ?_ (by simp)
    rw [hh] at h122
    simp [lp206_0,hσ,hmt,h3,c176,hc,bound,hm',hm1,htk,htk2,h122,q122,x122,Nat.testBit_eq_decide_div_mod_eq]
   ·simp only [hv,hc,if_true,if_neg hh]
    rw [←ih]
    refine iterI_next ?_
    rw [Bool.not_eq_true] at hh
    rw [hh] at h122
    simp [lp206_0,hσ,hmt,h3,c176,hc,hw,bound,hm',hm1,htk,htk2,h122,q122,x122,Nat.testBit_eq_decide_div_mod_eq]
  ·simp only [hv,if_neg hc]
   refine iterI_end ?_ (by simp)
   rw [Bool.not_eq_true] at hc
   simp [lp206_0,hσ,hmt,h3,c176,hc]
def namesE (k:Int) (names:List Bs):Int:=
 if distE (names.take (if k=17 then 1 else names.length)) 1=0 then distE (names.drop (if k=17 then 1 else names.length)) 2
 else distE (names.take (if k=17 then 1 else names.length)) 1
theorem c206 (k n:Int) (s t:Bs) (names:List Bs) (l:List Ex) (arms:List Arm) (hl:names.length≤maxL) (h17:k=17→0<names.length) (σ:St):
 CI (.fn 206) [.agg (Ex.mk k n s t names l arms).cs] σ=some (.ret (.int .i64 (namesE k names)),σ):=by
 have hτ:bodyI CI XB GI af206 [.agg (Ex.mk k n s t names l arms).cs] σ=some (.ret (.int .i64 (namesE k names)),σ++[.box (Ex.mk k n s t names l arms).cs]):=by
  unfold namesE
  by_cases hk:k=17
  ·subst hk
   have h17:=h17 rfl
   rcases names with _| ⟨a,r⟩
   ·simp at h17
   ·have hit:=it206 (.int .i64 17) (.int .i64 n) (.str s) (.str t) (.slice (exsD l)) (.slice (armsD arms)) a σ.length (σ++[.box (Ex.mk 17 n s t (a::r) l arms).cs]) r [] hl (by rw [getA0];rfl) 1 rfl
    have h177:=fun σ=>c177 [a] σ (by unfold maxL;simp)
    have e1: (if (17:Int)=17 then 1 else (a::r).length)=1:=rfl
    rw [e1]
    simp only [List.take_succ_cons,List.take_zero,List.drop_succ_cons,List.drop_zero]
    have hr:distFrom [] r 2=distE r 2:=rfl
    rw [hr] at hit
    simp only [Ex.cs,slD,List.nil_append,List.map_cons,List.map_nil] at*
    generalize exsD l=ed at*
    generalize armsD arms=ad at*
    have hb: (1:Int)≤(r.length:Int) +1:=by omega
    rw [show ((1:Nat):Int)=1 from rfl] at hit
    by_cases hd:distE [a] 1=0
    ·rw [hd] at h177
     rw [if_pos hd]
     by_cases he:distE r 2=0
     ·rw [if_pos he] at hit
      simp [bodyI,af206,getA0,bound,hb,h177,he,hit]
     ·rw [if_neg he] at hit
      simp [bodyI,af206,getA0,bound,hb,h177,hit]
    ·have hd': (distE [a] 1 != 0)=true:=by simpa using hd
     rw [if_neg hd]
     simp [bodyI,af206,getA0,bound,hb,h177,hd']
  ·have h177:=fun σ=>c177 names σ hl
   have hk': (k != 17)=true:=by simpa using hk
   rw [if_neg hk,List.take_length,List.drop_length]
   have e:distE [] 2=0:=rfl
   have e2: (if distE names 1=0 then distE [] 2 else distE names 1)=distE names 1:=by rw [e];split<;>simp_all
   rw [e2]
   simp only [Ex.cs,slD] at*
   generalize exsD l=ed at*
   generalize armsD arms=ad at*
   simp [bodyI,af206,getA0,hk',h177]
 exact CI_tree tab206 hτ rfl rfl
def Sh.r (x:Sh):List D:=[.int .i64 x.s, .int .i64 x.t, .int .i64 x.n, .int .i64 x.p, .bool x.a, .int .i64 x.lo, .int .i64 x.hi]
def shapesR:List D:=shapesL.map fun x=> .agg x.r
theorem c205 (σ:St):CI (.fn 205) [] σ=some (.ret (.slice shapesR),σ):=by
 refine CI_tree0 tab205 (d:= .slice shapesR) ?_ rfl rfl
 simp [bodyI,af205,shapesR,shapesL,Sh.r,fillRow,fillD,putCells]
theorem hasS_ops (l:List Arm) (s:Bs):hasS (l.map Arm.op) s= !(l.all fun a=> !(a.op==s)):=by
 unfold hasS
 induction l with
 |nil=>rfl
 |cons a r ih=>
  simp only [List.map_cons,List.contains_cons,List.all_cons,Bool.not_and,Bool.not_not,ih]
  cases h:s==a.op
  ·have: (a.op==s)=false:=by
    cases h2:a.op==s
    ·rfl
    ·rw [eq_of_beq h2] at h;simp at h
   rw [this]
  ·have: (a.op==s)=true:=by rw [eq_of_beq h];simp
   rw [this]
theorem it207 (arms:List Arm) (hl:arms.length≤maxL) (i:Nat) (hi:i<arms.length) (c0 c1 c2 c3 c4 c5:D) (rest:List D) (op:Bs) (b:D) (p q:Nat) (σ:St) (hp:σ[p]? =some (.box [c0,c1,c2,c3,c4,c5, .slice (armsD arms)])) (hq:σ[q]? =some (.box (.str op::rest))):
 iterI (evalI CI XB GI 116 false lp207_0) [(1, .ptr p 0),(3,b),(4, .int .i64 (i:Nat)),(5, .ptr q 0),(8, .int .i64 0)] σ=
  some (if hasS ((arms.take i).map Arm.op) op then (.ret,[(2, .int .i64 5)],σ) else (.exit 2,[(1, .ptr p 0),(3,b),(4, .int .i64 (i:Nat)),(5, .ptr q 0),(8, .int .i64 (i:Nat)),(97, .bool false)],σ)):=by
 have hlen: (arms.take i).length=i:=by simp;omega
 have hal:=armsD_len arms
 have:=loop_all (f:=evalI CI XB GI 116 false lp207_0) (σ:=σ) (arms.take i) (fun j=>[(1, .ptr p 0),(3,b),(4, .int .i64 (i:Nat)),(5, .ptr q 0),(8, .int .i64 (j:Nat))]) (fun a=> !(a.op==op)) (.ret,[(2, .int .i64 5)],σ) (.exit 2,[(1, .ptr p 0),(3,b),(4, .int .i64 (i:Nat)),(5, .ptr q 0),(8, .int .i64 (i:Nat)),(97, .bool false)],σ) (by simp) (by simp)
  (fun j hj=>by
    rw [hlen] at hj
    have hw:=wrap_nat (n:=j) (by unfold maxL at hl;omega)
    have hja:j<arms.length:=by omega
    have hget: (armsD arms)[j]? =some (Arm.d arms[j]):=by rw [armsD_map];simp [hja]
    have hjt: (arms.take i)[j]'(by rw [hlen];exact hj)=arms[j]:=by simp
    rw [hjt]
    clear hjt
    have hji: (j:Int) < (i:Int):=by omega
    generalize armsD arms=ad at*
    have h2:j<ad.length:=by omega
    have h3:ad[j]=Arm.d arms[j]:=by rw [List.getElem?_eq_getElem h2] at hget;exact Option.some.inj hget
    generalize arms[j]=a at*
    obtain ⟨Q,hQ⟩: ∃Q,(a.op==op)=Q:=⟨_,rfl⟩
    rw [hQ]
    rcases a with ⟨aop,nm,body⟩
    have y1:=body.cs_len
    simp only [Arm.d,Arm.cs,Arm.op] at*
    cases Q<;>simp [lp207_0,hp,hq,hj,hji,hw,hal,hja,h2,h3,y1,hQ,Nat.testBit_eq_decide_div_mod_eq])
  (by rw [hlen];simp [lp207_0])
 rw [Int.natCast_zero] at this
 rw [this,hasS_ops]
 cases (arms.take i).all fun a=> !(a.op==op)<;>rfl
set_option maxHeartbeats 4000000 in
theorem rnd207 (k n:Int) (s t:Bs) (names l:List D) (p:Nat) (pre r:List Arm) (a:Arm) (hl: (pre++a::r).length≤maxL) (hok:a.ok) (σ:St) (hσ:σ[p]? =some (.box [.int .i64 k, .int .i64 n, .str s, .str t, .slice names, .slice l, .slice (armsD (pre++a::r))])) (m:Nat) (hm:m=pre.length):
 evalI CI XB GI 116 false lp207_1 [(1, .ptr p 0),(3, .bool (k != 11)),(4, .int .i64 (m:Nat))] σ=
  some (if armE k (pre.map Arm.op) a=0 then (.normal,[(1, .ptr p 0),(3, .bool (k != 11)),(4, .int .i64 (m+1:Nat))],σ++[.box a.cs]) else (.ret,[(2, .int .i64 (armE k (pre.map Arm.op) a))],σ++[.box a.cs])):=by
 have hmt:m< (pre++a::r).length:=by simp;omega
 have hget: (armsD (pre++a::r))[m]? =some (.agg a.cs):=by rw [armsD_map,hm];simp [Arm.d]
 have hw:=wrap_nat (n:=m) (by unfold maxL at hl;simp at hl;omega)
 have htk: ((pre++a::r).take m).map Arm.op=pre.map Arm.op:=by rw [hm];simp
 have hlen:=armsD_len (pre++a::r)
 have hpl: (pre.map Arm.op==[])=decide (m=0):=by
  rw [Bool.eq_iff_iff]
  simp only [beq_iff_eq,decide_eq_true_eq,List.map_eq_nil_iff]
  rw [hm,List.length_eq_zero_iff]
 have h0:m=0→hasS (pre.map Arm.op) a.op=false:=fun h=>by
  rw [hm,List.length_eq_zero_iff] at h;subst h;rfl
 have hq: (σ++[Obj.box a.cs])[σ.length]? =some (.box (.str a.op::slD a.names::a.body.cs)):=by rw [getA0,Arm.cs_eq];rfl
 have hit:=fun b=>it207 (pre++a::r) hl m hmt (.int .i64 k) (.int .i64 n) (.str s) (.str t) (.slice names) (.slice l) (slD a.names::a.body.cs) a.op b p σ.length (σ++[Obj.box a.cs]) (getO hσ) hq
 rw [htk] at hit
 have ha':a.names.length≤maxL:=by
  rcases a with ⟨_,_,_⟩
  exact hok.1
 have h177:=fun σ=>c177 a.names σ ha'
 have hbl:=a.body.cs_len
 have hbd:=a.body.cs_all
 have hbt:a.body.cs.take 7=a.body.cs:=List.take_of_length_le (by omega)
 rw [Arm.cs_eq] at*
 unfold armE armF armC
 rw [hpl]
 have hnl: (a.names.map D.str).length=a.names.length:=by simp
 simp only [slD] at*
 generalize hasS (pre.map Arm.op) a.op=hs at*
 generalize (pre++a::r).length=q at*
 generalize armsD (pre++a::r)=ad at*
 generalize a.op=xo at*
 generalize distE a.names 1=dE at*
 generalize a.names.length=nl at*
 generalize a.names.map D.str=nd at*
 generalize a.body.cs=bd at*
 have h2:m<ad.length:=by omega
 have h3:ad[m]= .agg (.str xo:: .slice nd::bd):=by rw [List.getElem?_eq_getElem h2] at hget;exact Option.some.inj hget
 have hmt': (m:Int) <q:=by omega
 by_cases hk:k=11
 ·subst hk
  simp only [beq_self_eq_true,if_true]
  have hne: ((11:Int) != 11)=false:=rfl
  rw [hne]
  by_cases h4:nl≤4
  ·have h4': (nl:Int)≤4:=by omega
   have h4'': ¬(4:Int) <nl:=by omega
   have h5: ((2:Int) != 0)=true:=rfl
   simp only [decide_eq_true h4,if_true,h5,Bool.true_and]
   cases hc:isC xo 2
   ·simp [lp207_1,hσ,hmt,hmt',hw,hlen,h2,h3,getA0,setA0,hbl,hbt,hbd,hnl,h4'',c167,hc]
   ·by_cases hd:dE=0
    ·subst hd
     cases hs
     ·simp [lp207_1,hσ,hmt,hmt',hw,hlen,h2,h3,getA0,setA0,hbl,hbt,hbd,hnl,h4'',c167,hc,h177,hit]
     ·simp [lp207_1,hσ,hmt,hmt',hw,hlen,h2,h3,getA0,setA0,hbl,hbt,hbd,hnl,h4'',c167,hc,h177,hit]
    ·have hd': (dE != 0)=true:=by simpa using hd
     simp [lp207_1,hσ,hmt,hmt',hw,hlen,h2,h3,getA0,setA0,hbl,hbt,hbd,hnl,h4'',c167,hc,h177,hd,hd']
  ·have h4': (4:Int) <nl:=by omega
   simp [lp207_1,hσ,hmt,hmt',hw,hlen,h2,h3,getA0,setA0,hbl,hbt,hbd,hnl,h4,h4',c167]
 ·have hk1: (k==11)=false:=by simpa using hk
  have hk2: (k != 11)=true:=by simpa using hk
  rw [hk1,hk2]
  have e1: ((nl:Int) ==1)=decide (nl=1):=by rw [Bool.eq_iff_iff];simp;omega
  have e2: ((nl:Int) ==2)=decide (nl=2):=by rw [Bool.eq_iff_iff];simp;omega
  have e1b: ((nl:Int) != 1)= !decide (nl=1):=by rw [bne,e1]
  have e2b: ((nl:Int) != 2)= !decide (nl=2):=by rw [bne,e2]
  have b0: (nl==1)=decide (nl=1):=by rw [Bool.eq_iff_iff];simp
  have b2: (nl==2)=decide (nl=2):=by rw [Bool.eq_iff_iff];simp
  rw [b0,b2]
  by_cases hm0:m=0
  ·subst hm0
   have h0:=h0 rfl
   subst h0
   have hr:nReturn=[114,101,116,117,114,110]:=rfl
   rw [hr]
   simp only [Int.natCast_zero] at hit
   have hw1:IntKind.i64.wrap 1=1:=rfl
   cases ho:xo==[114,101,116,117,114,110]
   ·simp [lp207_1,hσ,hmt,hmt',hw,hlen,h2,h3,getA0,setA0,hbl,hbt,hbd,hnl,c167,ho]
   ·by_cases h1:nl=1
    ·by_cases hd:dE=0
     ·subst hd
      simp [lp207_1,hσ,hmt,hmt',hw,hlen,h2,h3,getA0,setA0,hbl,hbt,hbd,hnl,c167,ho,e1,e1b,h1,h177,hit,hw1]
     ·have hd': (dE != 0)=true:=by simpa using hd
      simp [lp207_1,hσ,hmt,hmt',hw,hlen,h2,h3,getA0,setA0,hbl,hbt,hbd,hnl,c167,ho,e1,e1b,h1,h177,hd,hd']
    ·simp [lp207_1,hσ,hmt,hmt',hw,hlen,h2,h3,getA0,setA0,hbl,hbt,hbd,hnl,c167,ho,e1,e1b,h1]
  ·have hm1: ((m:Int) ==0)=false:=by simpa using hm0
   have h5: ((1:Int) != 0)=true:=rfl
   by_cases h1:nl=2
   ·cases hc:isC xo 1
    ·cases hc2:isC xo 2<;>simp [lp207_1,hσ,hmt,hmt',hw,hlen,h2,h3,getA0,setA0,hbl,hbt,hbd,hnl,c167,hm0,hm1,e2,e2b,h1,hc,hc2]
    ·by_cases hd:dE=0
     ·subst hd
      cases hc2:isC xo 2<;>cases hs<;>simp [lp207_1,hσ,hmt,hmt',hw,hlen,h2,h3,getA0,setA0,hbl,hbt,hbd,hnl,c167,hm0,hm1,e2,e2b,h1,hc,hc2,h177,hit]
     ·have hd': (dE != 0)=true:=by simpa using hd
      cases hc2:isC xo 2<;>simp [lp207_1,hσ,hmt,hmt',hw,hlen,h2,h3,getA0,setA0,hbl,hbt,hbd,hnl,c167,hm0,hm1,e2,e2b,h1,hc,hc2,h177,hd,hd']
   ·simp [lp207_1,hσ,hmt,hmt',hw,hlen,h2,h3,getA0,setA0,hbl,hbt,hbd,hnl,c167,hm0,hm1,e2,e2b,h1]
theorem it207o (k n:Int) (s t:Bs) (names l:List D) (p:Nat): ∀ (r pre:List Arm),(pre++r).length≤maxL→armsOk (pre++r)→ ∀ (σ:St),σ[p]? =some (.box [.int .i64 k, .int .i64 n, .str s, .str t, .slice names, .slice l, .slice (armsD (pre++r))])→ ∀m,m=pre.length→
 ∃τ,iterI (evalI CI XB GI 116 false lp207_1) [(1, .ptr p 0),(3, .bool (k != 11)),(4, .int .i64 (m:Nat))] σ=
  some (if armsE k (pre.map Arm.op) r=0 then (.exit 0,[(1, .ptr p 0),(3, .bool (k != 11)),(4, .int .i64 (pre++r).length),(16, .bool false)],σ++τ) else (.ret,[(2, .int .i64 (armsE k (pre.map Arm.op) r))],σ++τ))
 | [],pre,hl,hok,σ,hσ,m,hm=>by
  have:m=(pre++([]:List Arm)).length:=by rw [hm];simp
  have hlen:=armsD_len (pre++([]:List Arm))
  refine ⟨[],iterI_end ?_ (by simp [armsE])⟩
  generalize (pre++([]:List Arm)).length=q at*
  generalize armsD (pre++([]:List Arm))=ad at*
  simp [lp207_1,hσ,hlen,this,armsE]
 |a::r,pre,hl,hok,σ,hσ,m,hm=>by
  have hr:=rnd207 k n s t names l p pre r a hl (armsOk_mem hok (by simp)) σ hσ m hm
  simp only [armsE]
  by_cases he:armE k (pre.map Arm.op) a=0
  ·simp only [if_pos he] at hr ⊢
   have hp:pre++[a]++r=pre++a::r:=by simp
   obtain ⟨τ,ih⟩:=it207o k n s t names l p r (pre++[a]) (by rw [hp];exact hl) (by rw [hp];exact hok) (σ++[.box a.cs]) (by rw [hp];exact getO hσ) (m+1) (by simp [hm])
   rw [hp] at ih
   simp only [List.map_append,List.map_cons,List.map_nil] at ih
   rw [iterI_next hr,ih]
   exact ⟨[.box a.cs]++τ,by rw [←List.append_assoc]⟩
  ·simp only [if_neg he] at hr ⊢
   exact ⟨[.box a.cs],iterI_end hr (by simp)⟩
def armsR (k:Int) (arms:List Arm):Int:=if armsE k [] arms=0 then (if k != 11&&decide (arms.length=0) then 7 else 0) else armsE k [] arms
theorem c207 (k n:Int) (s t:Bs) (names:List Bs) (l:List Ex) (arms:List Arm) (hl:arms.length≤maxL) (hok:armsOk arms) (σ:St):CI (.fn 207) [.agg (Ex.mk k n s t names l arms).cs] σ=some (.ret (.int .i64 (armsR k arms)),σ):=by
 obtain ⟨τ,hit⟩:=it207o k n s t (names.map .str) (exsD l) σ.length arms [] hl hok (σ++[.box (Ex.mk k n s t names l arms).cs]) (by rw [getA0];rfl) 0 rfl
 rw [Int.natCast_zero,List.nil_append,List.map_nil] at hit
 have hlen:=armsD_len arms
 have hτ:bodyI CI XB GI af207 [.agg (Ex.mk k n s t names l arms).cs] σ=some (.ret (.int .i64 (armsR k arms)),σ++([.box (Ex.mk k n s t names l arms).cs]++τ)):=by
  have hg: (σ++([Obj.box (Ex.mk k n s t names l arms).cs]++τ))[σ.length]? =some (.box (Ex.mk k n s t names l arms).cs):=getA0
  rw [List.append_assoc] at hit
  unfold armsR
  simp only [Ex.cs,slD] at*
  generalize names.map D.str=nd at*
  generalize exsD l=ed at*
  generalize armsD arms=ad at*
  generalize armsE k [] arms=ae at*
  by_cases he:ae=0
  ·subst he
   rw [if_pos rfl] at hit
   by_cases hk:k=11
   ·subst hk
    have hk2: ((11:Int) != 11)=false:=rfl
    rw [hk2] at hit
    simp [bodyI,af207,getA0,hit]
   ·have hk2: (k != 11)=true:=by simpa using hk
    rw [hk2] at hit
    by_cases h0:arms.length=0
    ·simp [bodyI,af207,getA0,hk2,hit,hg,hlen,h0]
    ·have hb: ((arms.length:Int) ==0)=false:=by simpa using h0
     simp [bodyI,af207,getA0,hk2,hit,hg,hlen,h0,hb]
  ·rw [if_neg he] at hit
   simp [bodyI,af207,getA0,hit,he]
 exact CI_tree tab207 hτ rfl rfl
theorem shape_kinds: ∀j,j<20→((shapesL.getD j default).m=if j=17 then 12 else 0)∧((shapesL.getD j default).q=if j=10 then 4 else 0):=by decide
theorem shapesR_at (j:Nat) (hj:j<20): ∃h:j<shapesR.length,shapesR[j]= .agg (shapesL.getD j default).r:=by
 have hl:shapesL.length=20:=rfl
 have:j<shapesL.length:=by omega
 refine ⟨by unfold shapesR;simpa using this, ?_⟩
 unfold shapesR
 rw [List.getElem_map,List.getD_eq_getElem?_getD,List.getElem?_eq_getElem this]
 rfl
theorem if_or2 (a b A:Int): (if a=0 then if b=0 then A else b else a)=if (if a=0 then b else a)=0 then A else if a=0 then b else a:=by
 by_cases h:a=0<;>simp [h]
set_option maxHeartbeats 4000000 in
theorem c181 (e:Ex) (hok:e.ok) (σ:St): ∀ (k n:Int) (s t:Bs) (names:List Bs) (l:List Ex) (arms:List Arm),e= .mk k n s t names l arms→CI (.fn 181) [.agg e.cs] σ=some (.ret (.int .i64 (nodeE k n s t names l.length arms)),σ):=by
 rintro k n s t names l arms rfl
 obtain ⟨hnl,hll,hal,hlo,hao⟩:=hok
 have h205:=fun σ=>c205 σ
 have hrl: (shapesR.length:Int)=20:=rfl
 have hrn:shapesR.length=20:=rfl
 have h207:=fun σ=>c207 k n s t names l arms hal hao σ
 have hexl:=exsD_len l
 have harl:=armsD_len arms
 have hndl: (names.map D.str).length=names.length:=by simp
 have hw19:IntKind.i64.wrap (20 - 1)=19:=rfl
 have hw19':IntKind.i64.wrap 19=19:=rfl
 have fin: ∀z,(∃τ,bodyI CI XB GI af181 [.agg (Ex.mk k n s t names l arms).cs] σ=some (.ret (.int .i64 z),σ++τ))→CI (.fn 181) [.agg (Ex.mk k n s t names l arms).cs] σ=some (.ret (.int .i64 z),σ):=fun z ⟨τ,h⟩=>CI_tree tab181 h rfl rfl
 apply fin
 clear fin
 unfold nodeE
 by_cases hk:inR k 0 19=true
 rotate_left
 ·rw [if_neg hk]
  rw [Bool.not_eq_true] at hk
  refine ⟨[.box (Ex.mk k n s t names l arms).cs], ?_⟩
  simp only [Ex.cs,slD] at*
  generalize names.map D.str=nd at*
  generalize exsD l=ed at*
  generalize armsD arms=ad at*
  generalize shapesR=sr at*
  simp [bodyI,af181,getA0,k157,hk,h205,hrl,hrn,hw19,hw19']
 rw [if_pos hk]
 refine ⟨[.box (Ex.mk k n s t names l arms).cs, .box (shapeOf k).r], ?_⟩
 obtain ⟨j,rfl⟩: ∃j:Nat,k=j:=⟨k.toNat,by unfold inR at hk;simp at hk;omega⟩
 have hj:j<20:=by unfold inR at hk;simp at hk;omega
 obtain ⟨hs2,hs3⟩:=shapesR_at j hj
 obtain ⟨hm,hq⟩:=shape_kinds j hj
 have hsh:shapeOf (j:Int)=shapesL.getD j default:=rfl
 rw [←hsh] at hs3 hm hq
 have h206:=fun h17 σ=>c206 (j:Int) n s t names l arms hnl h17 σ
 have hxn:=hsh ▸ (shape_small _ (shapeOf_mem hk))
 have h17:j=17→shapesL.getD j default=⟨0,0,1,12,3,0,false,0,0⟩:=fun h=>by subst h;rfl
 have h10:j=10→shapesL.getD j default=⟨2,0,0,0,0,4,false,0,0⟩:=fun h=>by subst h;rfl
 rw [←hsh] at h17 h10
 have hnE: ∀ (A:Int),(if distE (names.take (if (j:Int)=17 then 1 else names.length)) 1=0 then if distE (names.drop (if (j:Int)=17 then 1 else names.length)) 2=0 then A else distE (names.drop (if (j:Int)=17 then 1 else names.length)) 2
  else distE (names.take (if (j:Int)=17 then 1 else names.length)) 1)=if namesE j names=0 then A else namesE j names:=fun A=>if_or2 _ _ A
 rw [hnE]
 clear hnE
 have hA: (if armsE (j:Int) [] arms=0 then if ((j:Int) != 11&&((shapeOf j).a&&decide (arms.length=0)))=true then 7 else 0 else armsE j [] arms)=if (shapeOf j).a=true then armsR j arms else if arms.length=0 then 0 else (if armsE (j:Int) [] arms=0 then 0 else armsE j [] arms):=by
  unfold armsR
  cases (shapeOf (j:Int)).a
  ·simp only [Bool.false_and,Bool.and_false,Bool.false_eq_true,if_false]
   split
   ·split<;>rfl
   ·split
    ·rename_i h1 h2
     rw [List.length_eq_zero_iff] at h2
     subst h2
     exact absurd rfl h1
    ·rfl
  ·simp only [Bool.true_and,if_true]
 rw [hA]
 clear hA
 generalize shapeOf (j:Int)=x at*
 unfold Sh.r at*
 have hj': (j:Int) <20:=by omega
 generalize namesE (j:Int) names=nE at*
 generalize armsR (j:Int) arms=aR at*
 generalize armsE (j:Int) [] arms=aE at*
 simp only [Ex.cs,slD] at*
 generalize names.map D.str=nd at*
 generalize exsD l=ed at*
 generalize armsD arms=ad at*
 generalize shapesR=sr at*
 by_cases hin:inR n x.lo x.hi=true
 rotate_left
 ·rw [if_neg hin]
  rw [Bool.not_eq_true] at hin
  simp [bodyI,af181,getA0,getA,setA0,setA,k157,hk,h205,hrl,hrn,hw19,hw19',hs2,hs3,hj,hj',hin]
 rw [if_pos hin]
 cases hs:isC s x.s
 ·simp [bodyI,af181,getA0,getA,setA0,setA,k157,hk,h205,hrl,hrn,hw19,hw19',hs2,hs3,hj,hj',hin,c167,hs]
 cases ht:isC t x.t
 ·simp [bodyI,af181,getA0,getA,setA0,setA,k157,hk,h205,hrl,hrn,hw19,hw19',hs2,hs3,hj,hj',hin,c167,hs,ht]
 by_cases k17:j=17
 ·subst k17
  have hx:=h17 rfl
  subst hx
  clear h17 h10 hm hq
  have hk7: ((17:Nat):Int)=17:=rfl
  simp only [hk7,Int.natCast_zero] at*
  have hM:inR names.length 1 (1+12)=(decide ((1:Int)≤names.length)&&decide ((names.length:Int)≤13)):=rfl
  have hP:inR l.length 3 (3+0)=((l.length:Int) ==3):=by
   unfold inR;rw [Bool.eq_iff_iff];simp only [Bool.and_eq_true,decide_eq_true_eq,beq_iff_eq];omega
  rw [hM,hP]
  by_cases m1: (1:Int)≤names.length
  rotate_left
  ·have h1: ((names.length:Int) ==1)=false:=by rw [beq_eq_false_iff_ne];omega
   cases h2: (l.length:Int) ==3<;>simp [bodyI,af181,getA0,getA,setA0,setA,k157,hk,h205,hrl,hrn,hw19,hw19',hs2,hs3,hj,hj',hin,c167,hs,ht,hexl,harl,hndl,h1,h2,m1]
  by_cases m13: (names.length:Int)≤13
  rotate_left
  ·have h1: ((names.length:Int) ==1)=false:=by rw [beq_eq_false_iff_ne];omega
   cases h2: (l.length:Int) ==3<;>simp [bodyI,af181,getA0,getA,setA0,setA,k157,hk,h205,hrl,hrn,hw19,hw19',hs2,hs3,hj,hj',hin,c167,hs,ht,hexl,harl,hndl,h1,h2,m1,m13]
  have h206:=h206 (fun _=>by omega)
  cases h2: (l.length:Int) ==3
  ·cases h1: (names.length:Int) ==1<;>simp [bodyI,af181,getA0,getA,setA0,setA,k157,hk,h205,hrl,hrn,hw19,hw19',hs2,hs3,hj,hj',hin,c167,hs,ht,hexl,harl,hndl,h1,h2,m1,m13]
  ·by_cases h0:0<arms.length
   ·have h0': (0:Int) <arms.length:=by omega
    cases h1: (names.length:Int) ==1<;>simp [bodyI,af181,getA0,getA,setA0,setA,k157,hk,h205,hrl,hrn,hw19,hw19',hs2,hs3,hj,hj',hin,c167,hs,ht,hexl,harl,hndl,h1,h2,m1,m13,h0,h0']
   ·have h0': ¬(0:Int) <arms.length:=by omega
    have h0'':arms.length=0:=by omega
    have h9: ¬9<arms.length:=by omega
    have h9': ¬(9:Int) <arms.length:=by omega
    by_cases hnz:nE=0
    ·cases h1: (names.length:Int) ==1<;>simp [bodyI,af181,getA0,getA,setA0,setA,k157,hk,h205,hrl,hrn,hw19,hw19',hs2,hs3,hj,hj',hin,c167,hs,ht,hexl,harl,hndl,h1,h2,m1,m13,h9,h9',h0,h0',h0'',h206,hnz]
    ·have hnz': (nE != 0)=true:=by simpa using hnz
     cases h1: (names.length:Int) ==1<;>simp [bodyI,af181,getA0,getA,setA0,setA,k157,hk,h205,hrl,hrn,hw19,hw19',hs2,hs3,hj,hj',hin,c167,hs,ht,hexl,harl,hndl,h1,h2,m1,m13,h9,h9',h0,h0',h0'',h206,hnz,hnz']
 by_cases k10:j=10
 ·subst k10
  have hx:=h10 rfl
  subst hx
  clear h17 h10 hm hq k17
  have hk7: ((10:Nat):Int)=10:=rfl
  simp only [hk7,Int.natCast_zero] at*
  have hM:inR names.length 0 (0+0)=((names.length:Int) ==0):=by
   unfold inR;rw [Bool.eq_iff_iff];simp only [Bool.and_eq_true,decide_eq_true_eq,beq_iff_eq];omega
  have hP:inR l.length 0 (0+4)=decide ((l.length:Int)≤4):=by
   unfold inR;rw [Bool.eq_iff_iff];simp only [Bool.and_eq_true,decide_eq_true_eq];omega
  rw [hM,hP]
  have h206:=h206 (by omega)
  by_cases p4: (l.length:Int)≤4
  rotate_left
  ·have h2: ((l.length:Int) ==0)=false:=by rw [beq_eq_false_iff_ne];omega
   cases h1: (names.length:Int) ==0<;>simp [bodyI,af181,getA0,getA,setA0,setA,k157,hk,h205,hrl,hrn,hw19,hw19',hs2,hs3,hj,hj',hin,c167,hs,ht,hexl,harl,hndl,h1,h2,p4]
  cases h1: (names.length:Int) ==0
  ·cases h2: (l.length:Int) ==0<;>simp [bodyI,af181,getA0,getA,setA0,setA,k157,hk,h205,hrl,hrn,hw19,hw19',hs2,hs3,hj,hj',hin,c167,hs,ht,hexl,harl,hndl,h1,h2,p4]
  ·by_cases h0:0<arms.length
   ·have h0': (0:Int) <arms.length:=by omega
    cases h2: (l.length:Int) ==0<;>simp [bodyI,af181,getA0,getA,setA0,setA,k157,hk,h205,hrl,hrn,hw19,hw19',hs2,hs3,hj,hj',hin,c167,hs,ht,hexl,harl,hndl,h1,h2,p4,h0,h0']
   ·have h0': ¬(0:Int) <arms.length:=by omega
    have h0'':arms.length=0:=by omega
    have h9: ¬9<arms.length:=by omega
    have h9': ¬(9:Int) <arms.length:=by omega
    by_cases hnz:nE=0
    ·cases h2: (l.length:Int) ==0<;>simp [bodyI,af181,getA0,getA,setA0,setA,k157,hk,h205,hrl,hrn,hw19,hw19',hs2,hs3,hj,hj',hin,c167,hs,ht,hexl,harl,hndl,h1,h2,p4,h9,h9',h0,h0',h0'',h206,hnz]
    ·have hnz': (nE != 0)=true:=by simpa using hnz
     cases h2: (l.length:Int) ==0<;>simp [bodyI,af181,getA0,getA,setA0,setA,k157,hk,h205,hrl,hrn,hw19,hw19',hs2,hs3,hj,hj',hin,c167,hs,ht,hexl,harl,hndl,h1,h2,p4,h9,h9',h0,h0',h0'',h206,hnz,hnz']
 have b17: ((j:Int) ==17)=false:=by rw [beq_eq_false_iff_ne];omega
 have b10: ((j:Int) ==10)=false:=by rw [beq_eq_false_iff_ne];omega
 rw [if_neg k17] at hm
 rw [if_neg k10] at hq
 have h206:=h206 (by omega)
 have hM:inR names.length x.n (x.n+x.m)=((names.length:Int) ==x.n):=by
  unfold inR;rw [hm,Bool.eq_iff_iff];simp only [Bool.and_eq_true,decide_eq_true_eq,beq_iff_eq];omega
 have hP:inR l.length x.p (x.p+x.q)=((l.length:Int) ==x.p):=by
  unfold inR;rw [hq,Bool.eq_iff_iff];simp only [Bool.and_eq_true,decide_eq_true_eq,beq_iff_eq];omega
 rw [hM,hP]
 cases h1: (names.length:Int) ==x.n
 ·cases h2: (l.length:Int) ==x.p<;>simp [bodyI,af181,getA0,getA,setA0,setA,k157,hk,h205,hrl,hrn,hw19,hw19',hs2,hs3,hj,hj',hin,c167,hs,ht,hexl,harl,hndl,b17,b10,h1,h2]
 cases h2: (l.length:Int) ==x.p
 ·simp [bodyI,af181,getA0,getA,setA0,setA,k157,hk,h205,hrl,hrn,hw19,hw19',hs2,hs3,hj,hj',hin,c167,hs,ht,hexl,harl,hndl,b17,b10,h1,h2]
 by_cases h9:9<arms.length
 ·have h9': (9:Int) <arms.length:=by omega
  have h0:0<arms.length:=by omega
  have h0': (0:Int) <arms.length:=by omega
  cases ha:x.a<;>simp [bodyI,af181,getA0,getA,setA0,setA,k157,hk,h205,hrl,hrn,hw19,hw19',hs2,hs3,hj,hj',hin,c167,hs,ht,hexl,harl,hndl,b17,b10,h1,h2,h9,h9',h0,h0',ha]
 have h9': ¬(9:Int) <arms.length:=by omega
 cases ha:x.a
 ·by_cases h0:0<arms.length
  ·have h0': (0:Int) <arms.length:=by omega
   simp [bodyI,af181,getA0,getA,setA0,setA,k157,hk,h205,hrl,hrn,hw19,hw19',hs2,hs3,hj,hj',hin,c167,hs,ht,hexl,harl,hndl,b17,b10,h1,h2,h9,h9',h0,h0',ha]
  ·have h0': ¬(0:Int) <arms.length:=by omega
   have h0'':arms.length=0:=by omega
   by_cases hnz:nE=0
   ·simp [bodyI,af181,getA0,getA,setA0,setA,k157,hk,h205,hrl,hrn,hw19,hw19',hs2,hs3,hj,hj',hin,c167,hs,ht,hexl,harl,hndl,b17,b10,h1,h2,h9,h9',h0,h0',h0'',ha,h206,hnz]
   ·have hnz': (nE != 0)=true:=by simpa using hnz
    simp [bodyI,af181,getA0,getA,setA0,setA,k157,hk,h205,hrl,hrn,hw19,hw19',hs2,hs3,hj,hj',hin,c167,hs,ht,hexl,harl,hndl,b17,b10,h1,h2,h9,h9',h0,h0',h0'',ha,h206,hnz,hnz']
 ·by_cases hnz:nE=0
  ·simp [bodyI,af181,getA0,getA,setA0,setA,k157,hk,h205,hrl,hrn,hw19,hw19',hs2,hs3,hj,hj',hin,c167,hs,ht,hexl,harl,hndl,b17,b10,h1,h2,h9,h9',ha,h206,h207,hnz]
  ·have hnz': (nE != 0)=true:=by simpa using hnz
   simp [bodyI,af181,getA0,getA,setA0,setA,k157,hk,h205,hrl,hrn,hw19,hw19',hs2,hs3,hj,hj',hin,c167,hs,ht,hexl,harl,hndl,b17,b10,h1,h2,h9,h9',ha,h206,hnz,hnz']
end Go.AI
namespace Go.AI
open Go Go.Proofs Go.Lx
end Go.AI
namespace Go.AI
open Go Go.Proofs Go.Lx
set_option maxRecDepth 100000
theorem k16 (σ:St):CI (.fn 16) [] σ=some (.ret (.bool true),σ):=by
 exact callI_ext postN (g:=fun a=>g16 (weakL a)) rfl rfl
theorem find_none {α:Type} (l:List α):l.findIdx? (fun _=>false)=none:=by
 rw [List.findIdx?_eq_none_iff];intros;rfl
theorem exsD_app (a b:List Ex):exsD (a++b)=exsD a++exsD b:=by simp only [exsD_map,List.map_append]
theorem foldS_body: ∀ (l:List Arm) (i:Nat) (b:List Ex),foldS (γ:=Unit) (fun _ (a:Arm) b=> .inl (b++[a.body])) l i b= .inl (b++l.map Arm.body)
 | [],i,b=>by simp [foldS]
 |a::r,i,b=>by simp only [foldS,foldS_body r];simp
set_option maxHeartbeats 1000000 in
theorem c52 (k n:Int) (s t:Bs) (names:List Bs) (l:List Ex) (arms:List Arm) (hb:l.length+arms.length≤1000000) (σ:St):
 CI (.fn 52) [.agg (Ex.mk k n s t names l arms).cs] σ=some (.ret (.slice (exsD (Ex.mk k n s t names l arms).parts)),σ):=by
 have hel:=exsD_len l
 have hal:=armsD_len arms
 obtain ⟨τ,hit⟩:=loop_foldS (γ:=Unit) (f:=evalI CI XB GI 26 false lp52_0) arms (fun j b=>[(1, .ptr σ.length 0),(3, .arr (σ.length+1) b.length 0 b.length),(4, .int .i64 (j:Nat))])
  (fun b=>σ++[.box (Ex.mk k n s t names l arms).cs, .row 7 (exsD b) 0]) (fun j b=>b.length=l.length+j) (fun _ (a:Arm) b=> .inl (b++[a.body])) (fun _=>(.ret,[])) (fun _=>[]) (fun b=>(.exit 0,[(1, .ptr σ.length 0),(3, .arr (σ.length+1) b.length 0 b.length),(4, .int .i64 arms.length),(13, .bool false)]))
  (by simp) (by simp) (fun j hj b b' hb hs=>by cases hs;simp [hb];omega)
  (fun j hj b τ hbl=>by
    have hw:=wrap_nat (n:=j) (by omega)
    have hget: (armsD arms)[j]? =some (.agg arms[j].cs):=by rw [armsD_map];simp [Arm.d,hj]
    have hg0: (σ++[.box (Ex.mk k n s t names l arms).cs, .row 7 (exsD b) 0]++τ)[σ.length]? =some (.box [.int .i64 k, .int .i64 n, .str s, .str t,slD names, .slice (exsD l), .slice (armsD arms)]):=by rw [List.append_assoc];exact getA0
    have hg1: (σ++[.box (Ex.mk k n s t names l arms).cs, .row 7 (exsD b) 0]++τ)[σ.length+1]? =some (.row 7 (exsD b) 0):=by rw [List.append_assoc];exact getA
    have hs1: (σ++[Obj.box (Ex.mk k n s t names l arms).cs,Obj.row 7 (exsD b) 0]++τ).set (σ.length+1) (Obj.row 7 (exsD b++[D.agg arms[j].body.cs]) 0)=σ++[.box (Ex.mk k n s t names l arms).cs, .row 7 (exsD (b++[arms[j].body])) 0]++τ:=by
     rw [List.append_assoc,setA,exsD_app];simp [exsD]
    have hbl2:=exsD_len b
    refine ⟨τ, ?_⟩
    rw [Arm.cs_eq] at hget
    have hx1:=arms[j].body.cs_all
    have hx2:=arms[j].body.cs_len
    have hx3:=arms[j].body.cs_take
    simp only
    rw [←hs1]
    generalize σ++[.box (Ex.mk k n s t names l arms).cs, .row 7 (exsD b) 0]++τ=σ1 at*
    generalize exsD b=bd at*
    generalize armsD arms=ad at*
    have h2:j<ad.length:=by omega
    have h3:ad[j]= .agg (.str arms[j].op::slD arms[j].names::arms[j].body.cs):=by rw [List.getElem?_eq_getElem h2] at hget;exact Option.some.inj hget
    unfold slD at*
    generalize arms[j].names.map D.str=nd at*
    generalize arms[j].op=aop at*
    generalize arms[j].body.cs=bc at*
    generalize names.map D.str=nmd at*
    generalize exsD l=ld at*
    have hba: (b.length+1) *120≤140737488355328:=by omega
    simp [lp52_0,hj,hw,hal,h2,h3,hg0,hg1,hbl2,hba,rowOf,fillRow,hx1,hx2,hx3])
  (fun b τ hb=>⟨τ,by
    have hg0: (σ++[.box (Ex.mk k n s t names l arms).cs, .row 7 (exsD b) 0]++τ)[σ.length]? =some (.box [.int .i64 k, .int .i64 n, .str s, .str t,slD names, .slice (exsD l), .slice (armsD arms)]):=by rw [List.append_assoc];exact getA0
    generalize σ++[.box (Ex.mk k n s t names l arms).cs, .row 7 (exsD b) 0]++τ=σ1 at*
    generalize armsD arms=ad at*
    simp [lp52_0,hg0,hal]⟩) l [] rfl
 rw [foldS_body,List.append_nil,Int.natCast_zero] at hit
 have hparts: (Ex.mk k n s t names l arms).parts=l++arms.map Arm.body:=rfl
 rw [hparts]
 simp only at hit
 have hall: (exsD l).all (fun e=>e.cells.length==7&&e.cells.all D.one)=true:=by
  rw [exsD_map,List.all_map];simp [Ex.d,D.cells,Ex.cs_all]
 have hτ:bodyI CI XB GI af52 [.agg (Ex.mk k n s t names l arms).cs] σ=some (.ret (.arr (σ.length+1) (l++arms.map Arm.body).length 0 (l++arms.map Arm.body).length),σ++([.box (Ex.mk k n s t names l arms).cs, .row 7 (exsD (l++arms.map Arm.body)) 0]++τ)):=by
  rw [←List.append_assoc]
  generalize σ++[.box (Ex.mk k n s t names l arms).cs, .row 7 (exsD (l++arms.map Arm.body)) 0]++τ=σ2 at*
  generalize (l++arms.map Arm.body).length=pl at*
  simp only [Ex.cs,slD] at*
  generalize names.map D.str=nmd at*
  generalize exsD l=ld at*
  generalize armsD arms=ad at*
  simp only [D.cells] at hall
  have hba:l.length*120≤140737488355328:=by omega
  simp [bodyI,af52,getA0,getA,setA,fillRow,rowOf,hall,hel,hba,hit, -List.all_eq_true]
 refine CI_fn tab52 hτ ?_
 have hl: (l++arms.map Arm.body).length=(exsD (l++arms.map Arm.body)).length:=(exsD_len _).symm
 rw [hl,postI_row (sz:=7) (since:=0) (by rw [getA];rfl) (by omega) (by omega) (exs_plain _).1]
 rw [(exs_plain _).2]
theorem nodeE_few {k n:Int} {s t:Bs} {names:List Bs} {nl:Nat} {arms:List Arm} (h:nodeE k n s t names nl arms=0):nl≤4∧arms.length≤9:=by
 unfold nodeE at h
 split at h
 ·rename_i hk
  have hk':0≤k∧k≤19:=by unfold inR at hk;simpa using hk
  have hpq: (shapeOf k).p+ (shapeOf k).q≤4:=by
   have:k=0∨k=1∨k=2∨k=3∨k=4∨k=5∨k=6∨k=7∨k=8∨k=9∨k=10∨k=11∨k=12∨k=13∨k=14∨k=15∨k=16∨k=17∨k=18∨k=19:=by omega
   rcases this with rfl|rfl|rfl|rfl|rfl|rfl|rfl|rfl|rfl|rfl|rfl|rfl|rfl|rfl|rfl|rfl|rfl|rfl|rfl|rfl<;>decide
  split at h
  ·split at h
   ·split at h
    ·rename_i hr
     simp only [Bool.and_eq_true,inR,decide_eq_true_eq] at hr
     split at h
     ·cases h
     ·rename_i ha
      simp only [Bool.or_eq_true,Bool.and_eq_true,Bool.not_eq_true',decide_eq_true_eq,not_or] at ha
      exact ⟨by omega,by omega⟩
    ·cases h
   ·cases h
  ·cases h
 ·cases h
theorem exsE_first: ∀ (l:List Ex),exsE l=firstE (l.map Ex.e)
 | []=>rfl
 |a::r=>by simp only [exsE,List.map_cons,firstE,exsE_first r]
theorem c136: ∀ (e:Ex),e.ok→ ∀ (σ:St),CI (.fn 136) [.agg e.cs] σ=some (.ret (.int .i64 e.e),σ)
 | .mk k n s t names l arms,hok,σ=>by
  have ih:=fun x (hx:x ∈ (Ex.mk k n s t names l arms).parts) (σ:St)=>c136 x (Ex.parts_ok hok hx) σ
  have h181:=fun σ=>c181 _ hok σ k n s t names l arms rfl
  have y1:=(Ex.mk k n s t names l arms).cs_len
  have y2:=(Ex.mk k n s t names l arms).cs_take
  have y3:=(Ex.mk k n s t names l arms).cs_all
  have h52:=fun hb σ=>c52 k n s t names l arms hb σ
  have hτ:bodyI CI XB GI af136 [.agg (Ex.mk k n s t names l arms).cs] σ=some (.ret (.int .i64 (Ex.mk k n s t names l arms).e),σ++[.box (Ex.mk k n s t names l arms).cs]):=by
   rw [Ex.e_eq]
   by_cases hz:nodeE k n s t names l.length arms=0
   ·rw [if_pos hz,exsE_first]
    rw [hz] at h181
    have hfew:=nodeE_few hz
    have h52:=h52 (by omega)
    have hpl: (Ex.mk k n s t names l arms).parts.length≤13:=by simp [Ex.parts];omega
    generalize (Ex.mk k n s t names l arms).parts=ps at*
    obtain ⟨pd,hpd,hpdl,hpg⟩:=opq Ex.d ps
    rw [exsD_map,hpd] at h52
    generalize (Ex.mk k n s t names l arms).cs=xc at*
    have hit:=loop_err (f:=evalI CI XB GI 28 false lp136_0) (σ:=σ++[.box xc]) ps (fun i=>[(4, .slice pd),(5, .int .i64 (i:Nat))]) Ex.e (fun z=>(.ret,[(2, .int .i64 z)],σ++[.box xc])) (.exit 0,[(4, .slice pd),(5, .int .i64 ps.length),(17, .bool false)],σ++[.box xc]) (by simp) (by simp)
     (fun i hi=>by
       have hw:=wrap_nat (n:=i) (by omega)
       obtain ⟨h2,h3⟩:=hpg i hi
       have ih:=ih ps[i] (List.getElem_mem hi)
       have hii: (i:Int) <ps.length:=by omega
       have z1:=ps[i].cs_len
       have z2:=ps[i].cs_take
       simp only [Ex.d] at h3
       generalize ps[i].e=z at*
       generalize ps[i].cs=zc at*
       by_cases h0:z=0
       ·simp [lp136_0,hi,hii,hw,hpdl,h2,h3,z1,z2,ih,h0]
       ·have h0': (z != 0)=true:=by simpa using h0
        simp [lp136_0,hi,hii,hw,hpdl,h2,h3,z1,z2,ih,h0,h0']) (by
       simp [lp136_0,hpdl])
    rw [Int.natCast_zero] at hit
    by_cases h0:firstE (ps.map Ex.e)=0
    ·rw [h0] at hit ⊢
     simp [bodyI,af136,getA0,y1,y2,y3,h181,h52,hit]
    ·rw [if_neg h0] at hit
     simp [bodyI,af136,getA0,y1,y2,y3,h181,h52,hit]
   ·rw [if_neg hz]
    have hz': (nodeE k n s t names l.length arms != 0)=true:=by simpa using hz
    generalize nodeE k n s t names l.length arms=z at*
    generalize (Ex.mk k n s t names l arms).cs=xc at*
    simp [bodyI,af136,getA0,y1,y2,y3,h181,hz']
  exact CI_tree tab136 hτ rfl rfl
termination_by e=>SizeOf.sizeOf e
decreasing_by exact Ex.parts_lt hx
theorem Ex.chk_left (e:Ex):e.chk=if e.left 3000 200<0 then 3 else e.e:=by
 unfold Ex.chk
 obtain ⟨h1,_⟩:=e.take_left2 1 (3000,0) (by simp)
 have e1: (201:Int) - 1=200:=rfl
 simp only [e1] at h1
 by_cases h: (e.take 1 (3000,0)).1=true
 ·rw [if_pos h,if_neg (by have:=h1.1 h;omega)]
 ·rw [if_neg h,if_pos (by have:=mt h1.2 h;omega)]
theorem Ex.left_m1 (e:Ex) (d:Int) (hd:1≤d):e.left (-1) d= -2:=by
 rcases e with ⟨k,n,s,t,names,l,arms⟩
 rw [Ex.left_parts,if_neg (by omega),exsLeft_neg _ _ _ (by omega)]
 rfl
theorem c132m (e:Ex) (hok:e.ok) (d:Int) (σ:St) (hd:1≤d) (hd1:d≤1000):CI (.fn 132) [.agg e.cs, .int .i64 (-1), .int .i64 d] σ=some (.ret (.int .i64 (e.left (-1) d)),σ):=by
 rw [e.left_m1 d hd]
 rcases e with ⟨k,n,s,t,names,l,arms⟩
 have hw:IntKind.i64.wrap (-1 - 1)= -2:=rfl
 have hw':IntKind.i64.wrap (-2)= -2:=rfl
 have hel:=exsD_len l
 have hal:=armsD_len arms
 obtain ⟨hn1,hl1,ha1, -⟩:=hok
 have hws:IntKind.i64.wrap ((l.length:Int) + (arms.length:Int))=((l.length+arms.length:Nat):Int):=by rw [wrap_i64 (by omega) (by unfold maxL at*;omega)];omega
 have hτ:bodyI CI XB GI af132 [.agg (Ex.mk k n s t names l arms).cs, .int .i64 (-1), .int .i64 d] σ=some (.ret (.int .i64 (-2)),σ++[.box (Ex.mk k n s t names l arms).cs]):=by
  simp only [Ex.cs,slD]
  generalize exsD l=ed at*
  generalize armsD arms=ad at*
  generalize names.map D.str=nd at*
  have hdd: ¬d<1:=by omega
  generalize hN:l.length+arms.length=N at*
  have hit: ∀ (v:Int) (σ:St),¬0≤v→iterI (evalI CI XB GI 58 false lp132_0) [(1, .int .i64 v),(2, .int .i64 d),(3, .ptr σ.length 0),(7, .int .i64 N),(8, .int .i64 0)] (σ++[.box [.int .i64 k, .int .i64 n, .str s, .str t, .slice nd, .slice ed, .slice ad]])=some (.exit 0,[(1, .int .i64 v),(2, .int .i64 d),(3, .ptr σ.length 0),(7, .int .i64 N),(8, .int .i64 0),(26, .bool false)],σ++[.box [.int .i64 k, .int .i64 n, .str s, .str t, .slice nd, .slice ed, .slice ad]]):=fun v σ hv=>by
   refine iterI_end ?_ (by simp)
   by_cases h0:0<N<;>simp [lp132_0,h0,hv]
  have hit:=hit (-2) σ (by omega)
  simp [bodyI,af132,getA0,hw,hw',hdd,hel,hal,hws,hit]
 exact CI_tree tab132 hτ rfl rfl
def dfsLeft (m:Ex):List Dfn→Int→Int→Int
 | [],n,d=>m.left n d
 |f::r,n,d=>if f.body.left (n - 1) (d - 1) <0 then f.body.left (n - 1) (d - 1) else dfsLeft m r (f.body.left (n - 1) (d - 1)) (d - 1)
theorem nest_left (m:Ex): ∀ (l:List Dfn) (n d:Int),0≤n→(l.length:Int) +1≤d→(0≤(nestE l m).left n d↔0≤dfsLeft m l n d)
 | [],n,d,_,_=>Iff.rfl
 |f::r,n,d,hn,hd=>by
  simp only [List.length_cons] at hd
  have e:nestE (f::r) m= .mk 6 0 [] [] [f.name] [f.body,nestE r m] []:=rfl
  rw [e,Ex.left_parts,if_neg (by omega)]
  simp only [List.map_nil,List.append_nil,exsLeft,dfsLeft]
  by_cases h0:n - 1<0
  ·obtain rfl:n=0:=by omega
   have:=f.body.left_m1 (d - 1) (by omega)
   have e0: (0:Int) - 1= -1:=rfl
   rw [e0,this]
   simp
  ·rw [if_pos (by omega)]
   by_cases h1:f.body.left (n - 1) (d - 1) <0
   ·rw [if_neg (by omega),if_pos h1]
   ·rw [if_pos (by omega),if_neg h1]
    exact nest_left m r _ (d - 1) (by omega) (by omega)
theorem nest_take_left (m:Ex) (l:List Dfn) (hl:l.length≤60): ((nestE l m).take 1 (3000,0)).1=true↔0≤dfsLeft m l 3000 200:=by
 obtain ⟨h1,_⟩:=(nestE l m).take_left2 1 (3000,0) (by simp)
 have e1: (201:Int) - 1=200:=rfl
 simp only [e1] at h1
 rw [h1,nest_left m l 3000 200 (by omega) (by omega)]
theorem k132 (e:Ex) (hok:e.ok) (n d:Int) (σ:St) (hn: -1≤n) (hn1:n≤3000) (hd:1≤d) (hd1:d≤1000):CI (.fn 132) [.agg e.cs, .int .i64 n, .int .i64 d] σ=some (.ret (.int .i64 (e.left n d)),σ):=by
 by_cases h:0≤n
 ·exact c132 e hok n d σ h (by omega) (by omega) hd1
 ·obtain rfl:n= -1:=by omega
  exact c132m e hok d σ hd hd1
theorem it84_2 (p:Prg) (hok:p.ok) (hf:p.defs.length≤60) (q:Nat) (σ:St) (hq:σ[q]? =some (.box p.cs)): ∀ (r pre:List Dfn),pre++r=p.defs→ ∀ (n:Int),0≤n→n≤3000→ ∀ (m:Nat),m=pre.length→ ∀τ,∃τ',
 iterI (evalI CI XB GI 121 false lp84_2) [(1, .ptr q 0),(7, .int .i64 n),(8, .int .i64 (m:Nat))] (σ++τ)=
  some (if dfsLeft p.main r n (200 - m) <0 then (.ret,[(2, .int .i64 3)],σ++τ') else (.exit 4,[(1, .ptr q 0),(7, .int .i64 (dfsLeft p.main r n (200 - m))),(8, .int .i64 (p.defs.length+1:Nat)),(65, .bool false)],σ++τ'))
 | [],pre,hp,n,hn,hn1,m,hm,τ=>by
  have hml:m=p.defs.length:=by rw [←hp,hm];simp
  have hqq: (σ++τ)[q]? =some (.box p.cs):=getO hq
  rw [←List.append_nil (σ++τ)]
  obtain ⟨fd,hfd,hfl,hfg⟩:=opq Dfn.d p.defs
  have hh:p.cs[2]? =some (.slice fd):=by rw [p.cs_eq,hfd];rfl
  have hd3: (p.cs.drop 3).take 7=p.main.cs:=by rw [p.cs_eq];simp
  have hd3':p.cs.drop 3=p.main.cs:=by rw [p.cs_eq];simp
  have hpl:=p.cs_len
  have hml1:=p.main.cs_len
  have hmt:=p.main.cs_take
  have hma:=p.main.cs_all
  have hh2: ∀h:2<p.cs.length,p.cs[2]= .slice fd:=fun h=>by rw [List.getElem?_eq_getElem h] at hh;exact Option.some.inj hh
  have h132:=fun σ=>k132 p.main hok.m n (200 - m) σ (by omega) hn1 (by omega) (by omega)
  have hw:=wrap_nat (n:=m) (by omega)
  have hw2:IntKind.i64.wrap (200 - (m:Int))=200 - m:=wrap_i64 (by omega) (by omega)
  have hmn: ¬m<p.defs.length:=by omega
  have hml':m≤p.defs.length:=by omega
  have hmn1: ¬p.defs.length+1≤p.defs.length:=by omega
  refine ⟨τ++[.box p.main.cs], ?_⟩
  rw [←List.append_assoc σ]
  rw [List.append_nil]
  have hdl:dfsLeft p.main [] n (200 - (m:Int))=p.main.left n (200 - m):=rfl
  rw [hdl]
  have hq2: (σ++τ++[Obj.box p.main.cs])[q]? =some (.box p.cs):=getO hqq
  generalize σ++τ=σ1 at*
  generalize p.main.left n (200 - (m:Int))=z at*
  generalize p.main.cs=mc at*
  generalize p.cs=pc at*
  by_cases hz:z<0
  ·rw [if_pos hz]
   refine iterI_end ?_ (by simp)
   simp [lp84_2,hqq,getO hqq,hh,hh2,hpl,hfl,hd3,hd3',hml1,hmt,hma,hw,hw2,hmn,hml',h132,hz,getA0,getA,setA0,setA]
  ·rw [if_neg hz]
   have hstep:evalI CI XB GI 121 false lp84_2 [(1, .ptr q 0),(7, .int .i64 n),(8, .int .i64 (m:Nat))] σ1=some (.normal,[(1, .ptr q 0),(7, .int .i64 z),(8, .int .i64 (m+1:Nat))],σ1++[.box mc]):=by
    simp [lp84_2,hqq,getO hqq,hh,hh2,hpl,hfl,hd3,hd3',hml1,hmt,hma,hw,hw2,hmn,hml',h132,hz,getA0,getA,setA0,setA]
   rw [iterI_next hstep]
   refine iterI_end ?_ (by simp)
   subst hml
   have e1: ¬((p.defs.length:Int) +1≤p.defs.length):=by omega
   simp [lp84_2,hq2,hh,hh2,hpl,hfl,hmn1,e1]
 |f::r,pre,hp,n,hn,hn1,m,hm,τ=>by
  have hml:m<p.defs.length:=by rw [←hp,hm];simp
  have hqq: (σ++τ)[q]? =some (.box p.cs):=getO hq
  obtain ⟨fd,hfd,hfl,hfg⟩:=opq Dfn.d p.defs
  have hh:p.cs[2]? =some (.slice fd):=by rw [p.cs_eq,hfd];rfl
  have hd3: (p.cs.drop 3).take 7=p.main.cs:=by rw [p.cs_eq];simp
  have hd3':p.cs.drop 3=p.main.cs:=by rw [p.cs_eq];simp
  have hpl:=p.cs_len
  have hml1:=p.main.cs_len
  have hmt:=p.main.cs_take
  have hma:=p.main.cs_all
  have hh2: ∀h:2<p.cs.length,p.cs[2]= .slice fd:=fun h=>by rw [List.getElem?_eq_getElem h] at hh;exact Option.some.inj hh
  have hfm:p.defs[m]=f:=by
   have:p.defs[m]? =some f:=by rw [←hp,hm];simp
   rw [List.getElem?_eq_getElem hml] at this;exact Option.some.inj this
  have hfo:f.body.ok:=hok.f _ (hfm ▸ List.getElem_mem hml)
  obtain ⟨h2,h3⟩:=hfg m hml
  rw [hfm] at h3
  have h132:=fun σ=>k132 f.body hfo (n - 1) (200 - m - 1) σ (by omega) (by omega) (by omega) (by omega)
  have hw:=wrap_nat (n:=m) (by omega)
  have hw2:IntKind.i64.wrap (200 - (m:Int))=200 - m:=wrap_i64 (by omega) (by omega)
  have hw3:IntKind.i64.wrap (200 - (m:Int) - 1)=200 - m - 1:=wrap_i64 (by omega) (by omega)
  have hw4:IntKind.i64.wrap (n - 1)=n - 1:=wrap_i64 (by omega) (by omega)
  have hml':m≤p.defs.length:=by omega
  have ih:=it84_2 p hok hf q σ hq r (pre++[f]) (by rw [←hp];simp)
  have hle: -1≤n - 1:=by omega
  have hbd: ¬f.body.left (n - 1) (200 - (m:Int) - 1) <0→f.body.left (n - 1) (200 - (m:Int) - 1)≤3000:=fun h=>by
   by_cases h0:0≤n - 1
   ·have:=(f.body.left_le (n - 1) (200 - (m:Int) - 1) h0).2;omega
   ·obtain rfl:n=0:=by omega
    rw [show (0:Int) - 1= -1 from rfl,f.body.left_m1 _ (by omega)] at h ⊢
    omega
  rcases f with ⟨fn,fb⟩
  have y1:=fb.cs_len
  have y2:=fb.cs_take
  have y3:=fb.cs_all
  have hdl:dfsLeft p.main (⟨fn,fb⟩::r) n (200 - (m:Int))=if fb.left (n - 1) (200 - m - 1) <0 then fb.left (n - 1) (200 - m - 1) else dfsLeft p.main r (fb.left (n - 1) (200 - m - 1)) (200 - m - 1):=rfl
  rw [hdl]
  clear hdl
  simp only [Dfn.d,Dfn.cs] at*
  by_cases hz:fb.left (n - 1) (200 - (m:Int) - 1) <0
  ·refine ⟨τ++[.box fb.cs], ?_⟩
   rw [←List.append_assoc σ]
   rw [if_pos hz,if_pos hz]
   clear ih hbd
   generalize σ++τ=σ1 at*
   generalize fb.left (n - 1) (200 - (m:Int) - 1)=z at*
   generalize p.main.cs=mc at*
   generalize fb.cs=fc at*
   generalize p.cs=pc at*
   refine iterI_end ?_ (by simp)
   simp [lp84_2,hqq,getO hqq,hh,hh2,hpl,hfl,hd3,hd3',hml1,hmt,hma,hw,hw2,hw3,hw4,hml,hml',h2,h3,y1,y2,y3,h132,hz,getA0,getA,setA0,setA]
  ·obtain ⟨τ',ih⟩:=ih (fb.left (n - 1) (200 - (m:Int) - 1)) (by omega) (hbd hz) (m+1) (by simp [hm]) (τ++[.box fb.cs])
   refine ⟨τ', ?_⟩
   have e2: (200:Int) - ((m+1:Nat):Int)=200 - m - 1:=by omega
   rw [e2,←List.append_assoc] at ih
   rw [if_neg hz,←ih]
   refine iterI_next ?_
   clear ih hbd
   generalize σ++τ=σ1 at*
   generalize fb.left (n - 1) (200 - (m:Int) - 1)=z at*
   generalize p.main.cs=mc at*
   generalize fb.cs=fc at*
   generalize p.cs=pc at*
   simp [lp84_2,hqq,getO hqq,hh,hh2,hpl,hfl,hd3,hd3',hml1,hmt,hma,hw,hw2,hw3,hw4,hml,hml',h2,h3,y1,y2,y3,h132,hz,getA0,getA,setA0,setA]
theorem it84_0 (p:Prg) (hok:p.ok) (q:Nat) (σ:St) (hq:σ[q]? =some (.box p.cs)):
 iterI (evalI CI XB GI 121 false lp84_0) [(1, .ptr q 0),(3, .int .i64 0)] σ=
  some (if firstE (p.data.map datE)=0 then (.exit 0,[(1, .ptr q 0),(3, .int .i64 p.data.length),(33, .bool false)],σ) else (.ret,[(2, .int .i64 (firstE (p.data.map datE)))],σ)):=by
 obtain ⟨dd,hdd,hdl,hdg⟩:=opq Dat.d p.data
 have hh:p.cs.head?=some (.slice dd):=by rw [p.cs_eq,hdd];rfl
 have hml:=hok.dl
 have:=loop_err (f:=evalI CI XB GI 121 false lp84_0) (σ:=σ) p.data (fun i=>[(1, .ptr q 0),(3, .int .i64 (i:Nat))]) datE (fun z=>(.ret,[(2, .int .i64 z)],σ)) (.exit 0,[(1, .ptr q 0),(3, .int .i64 p.data.length),(33, .bool false)],σ) (by simp) (by simp)
  (fun i hi=>by
    have hw:=wrap_nat (n:=i) (by unfold maxL at hml;omega)
    obtain ⟨h2,h3⟩:=hdg i hi
    have hc:=fun σ=>c133 p.data[i] (hok.d _ (List.getElem_mem hi)) σ
    have hdlen:p.data[i].cs.length=3:=rfl
    have hdt:p.data[i].cs.take 3=p.data[i].cs:=rfl
    unfold Dat.d at*
    generalize datE p.data[i]=z at*
    generalize p.data[i].cs=zc at*
    generalize p.cs=pc at*
    by_cases h0:z=0
    ·simp [lp84_0,hq,hh,hi,hw,hdl,h2,h3,hdlen,hdt,hc,h0]
    ·have h0': (z != 0)=true:=by simpa using h0
     simp [lp84_0,hq,hh,hi,hw,hdl,h2,h3,hdlen,hdt,hc,h0,h0']) (by
    generalize p.cs=pc at*
    simp [lp84_0,hq,hh,hdl])
 rw [Int.natCast_zero] at this
 exact this
theorem it84_1 (p:Prg) (hok:p.ok) (q:Nat) (σ:St) (hq:σ[q]? =some (.box p.cs)):
 iterI (evalI CI XB GI 121 false lp84_1) [(1, .ptr q 0),(5, .int .i64 0)] σ=
  some (if firstE (p.effects.map effE)=0 then (.exit 2,[(1, .ptr q 0),(5, .int .i64 p.effects.length),(49, .bool false)],σ) else (.ret,[(2, .int .i64 (firstE (p.effects.map effE)))],σ)):=by
 obtain ⟨dd,hdd,hdl,hdg⟩:=opq Eff.d p.effects
 have hh:p.cs[1]? =some (.slice dd):=by rw [p.cs_eq,hdd];rfl
 have hh2: ∀h:1<p.cs.length,p.cs[1]= .slice dd:=fun h=>by rw [List.getElem?_eq_getElem h] at hh;exact Option.some.inj hh
 have hpl:=p.cs_len
 have hml:=hok.el
 have:=loop_err (f:=evalI CI XB GI 121 false lp84_1) (σ:=σ) p.effects (fun i=>[(1, .ptr q 0),(5, .int .i64 (i:Nat))]) effE (fun z=>(.ret,[(2, .int .i64 z)],σ)) (.exit 2,[(1, .ptr q 0),(5, .int .i64 p.effects.length),(49, .bool false)],σ) (by simp) (by simp)
  (fun i hi=>by
    have hw:=wrap_nat (n:=i) (by unfold maxL at hml;omega)
    obtain ⟨h2,h3⟩:=hdg i hi
    have hc:=fun σ=>c134 p.effects[i] (hok.e _ (List.getElem_mem hi)) σ
    have hdlen:p.effects[i].cs.length=2:=rfl
    have hdt:p.effects[i].cs.take 2=p.effects[i].cs:=rfl
    unfold Eff.d at*
    generalize effE p.effects[i]=z at*
    generalize p.effects[i].cs=zc at*
    generalize p.cs=pc at*
    by_cases h0:z=0
    ·simp [lp84_1,hq,hh2,hpl,hi,hw,hdl,h2,h3,hdlen,hdt,hc,h0]
    ·have h0': (z != 0)=true:=by simpa using h0
     simp [lp84_1,hq,hh2,hpl,hi,hw,hdl,h2,h3,hdlen,hdt,hc,h0,h0']) (by
    generalize p.cs=pc at*
    simp [lp84_1,hq,hh2,hpl,hdl])
 rw [Int.natCast_zero] at this
 exact this
theorem it84_3 (p:Prg) (hok:p.ok) (q:Nat) (σ:St) (hq:σ[q]? =some (.box p.cs)):
 iterI (evalI CI XB GI 121 false lp84_3) [(1, .ptr q 0),(11, .int .i64 0)] σ=
  some (if firstE (p.defs.map dfnE)=0 then (.exit 6,[(1, .ptr q 0),(11, .int .i64 p.defs.length),(97, .bool false)],σ) else (.ret,[(2, .int .i64 (firstE (p.defs.map dfnE)))],σ)):=by
 obtain ⟨dd,hdd,hdl,hdg⟩:=opq Dfn.d p.defs
 have hh:p.cs[2]? =some (.slice dd):=by rw [p.cs_eq,hdd];rfl
 have hh2: ∀h:2<p.cs.length,p.cs[2]= .slice dd:=fun h=>by rw [List.getElem?_eq_getElem h] at hh;exact Option.some.inj hh
 have hpl:=p.cs_len
 have hml:=hok.fl
 have:=loop_err (f:=evalI CI XB GI 121 false lp84_3) (σ:=σ) p.defs (fun i=>[(1, .ptr q 0),(11, .int .i64 (i:Nat))]) dfnE (fun z=>(.ret,[(2, .int .i64 z)],σ)) (.exit 6,[(1, .ptr q 0),(11, .int .i64 p.defs.length),(97, .bool false)],σ) (by simp) (by simp)
  (fun i hi=>by
    have hw:=wrap_nat (n:=i) (by unfold maxL at hml;omega)
    obtain ⟨h2,h3⟩:=hdg i hi
    have hc:=fun σ=>c136 p.defs[i].body (hok.f _ (List.getElem_mem hi)) σ
    generalize p.defs[i]=f at*
    rcases f with ⟨fn,fb⟩
    have y1:=fb.cs_len
    have y2:=fb.cs_take
    unfold dfnE
    simp only [Dfn.d,Dfn.cs] at*
    generalize fb.e=z at*
    generalize fb.cs=zc at*
    generalize p.cs=pc at*
    cases hv:varW fn
    ·simp [lp84_3,hq,hh2,hpl,hi,hw,hdl,h2,h3,y1,y2,c135,hv]
    ·by_cases h0:z=0
     ·simp [lp84_3,hq,hh2,hpl,hi,hw,hdl,h2,h3,y1,y2,c135,hv,hc,h0]
     ·have h0': (z != 0)=true:=by simpa using h0
      simp [lp84_3,hq,hh2,hpl,hi,hw,hdl,h2,h3,y1,y2,c135,hv,hc,h0,h0']) (by
    generalize p.cs=pc at*
    simp [lp84_3,hq,hh2,hpl,hdl])
 rw [Int.natCast_zero] at this
 exact this
theorem c84 (p:Prg) (hok:p.ok) (σ:St):CI (.fn 84) [.agg p.cs] σ=some (.ret (.int .i64 p.syn),σ):=by
 have hq: (σ++[Obj.box p.cs])[σ.length]? =some (.box p.cs):=getA0
 have hi0:=it84_0 p hok σ.length _ hq
 have hi1:=it84_1 p hok σ.length _ hq
 have h136:=fun σ=>c136 p.main hok.m σ
 have hall:=p.cs_all
 have hpl:=p.cs_len
 have hd3: (p.cs.drop 3).take 7=p.main.cs:=by rw [p.cs_eq];simp
 have hd3':p.cs.drop 3=p.main.cs:=by rw [p.cs_eq];simp
 have hm1:=p.main.cs_len
 have hm2:=p.main.cs_take
 obtain ⟨dd,hdd,hdl,_⟩:=opq Dat.d p.data
 obtain ⟨ed,hed,hel,_⟩:=opq Eff.d p.effects
 obtain ⟨fd,hfd,hfl,_⟩:=opq Dfn.d p.defs
 have hg0:p.cs.head?=some (.slice dd):=by rw [p.cs_eq,hdd];rfl
 have hg1:p.cs[1]? =some (.slice ed):=by rw [p.cs_eq,hed];rfl
 have hg2:p.cs[2]? =some (.slice fd):=by rw [p.cs_eq,hfd];rfl
 have hh1: ∀h:1<p.cs.length,p.cs[1]= .slice ed:=fun h=>by rw [List.getElem?_eq_getElem h] at hg1;exact Option.some.inj hg1
 have hh2: ∀h:2<p.cs.length,p.cs[2]= .slice fd:=fun h=>by rw [List.getElem?_eq_getElem h] at hg2;exact Option.some.inj hg2
 have fin: ∀z,(∃τ,bodyI CI XB GI af84 [.agg p.cs] σ=some (.ret (.int .i64 z),σ++τ))→CI (.fn 84) [.agg p.cs] σ=some (.ret (.int .i64 z),σ):=fun z ⟨τ,h⟩=>CI_tree tab84 h rfl rfl
 apply fin
 clear fin
 unfold Prg.syn
 by_cases hn:12<p.data.length∨12<p.effects.length∨60<p.defs.length
 ·rw [if_pos hn]
  refine ⟨[.box p.cs], ?_⟩
  clear hi0 hi1 h136 hq hd3 hd3'
  generalize p.cs=pc at*
  by_cases h1:12<p.data.length
  ·have h1': (12:Int) <p.data.length:=by omega
   simp [bodyI,af84,getA0,hall,hpl,hg0,hdl,h1,h1']
  ·have h1': ¬(12:Int) <p.data.length:=by omega
   by_cases h2:12<p.effects.length
   ·have h2': (12:Int) <p.effects.length:=by omega
    simp [bodyI,af84,getA0,hall,hpl,hg0,hh1,hdl,hel,h1,h1',h2,h2']
   ·have h2': ¬(12:Int) <p.effects.length:=by omega
    have h3:60<p.defs.length:=by omega
    have h3': (60:Int) <p.defs.length:=by omega
    simp [bodyI,af84,getA0,hall,hpl,hg0,hh1,hh2,hdl,hel,hfl,h1,h1',h2,h2',h3,h3']
 rw [if_neg hn]
 have h1: ¬12<p.data.length:=by omega
 have h2: ¬12<p.effects.length:=by omega
 have h3: ¬60<p.defs.length:=by omega
 have h1': ¬(12:Int) <p.data.length:=by omega
 have h2': ¬(12:Int) <p.effects.length:=by omega
 have h3': ¬(60:Int) <p.defs.length:=by omega
 unfold orE
 by_cases hz0:firstE (p.data.map datE)=0
 rotate_left
 ·rw [if_neg hz0] at hi0 ⊢
  refine ⟨[.box p.cs], ?_⟩
  clear hi1 h136 hq hd3 hd3'
  generalize p.cs=pc at*
  simp [bodyI,af84,getA0,hall,hpl,hg0,hh1,hh2,hdl,hel,hfl,h1,h1',h2,h2',h3,h3',hi0]
 rw [if_pos hz0] at hi0 ⊢
 by_cases hz1:firstE (p.effects.map effE)=0
 rotate_left
 ·rw [if_neg hz1] at hi1 ⊢
  refine ⟨[.box p.cs], ?_⟩
  clear h136 hq hd3 hd3'
  generalize p.cs=pc at*
  simp [bodyI,af84,getA0,hall,hpl,hg0,hh1,hh2,hdl,hel,hfl,h1,h1',h2,h2',h3,h3',hi0,hi1]
 rw [if_pos hz1] at hi1 ⊢
 obtain ⟨τ',hi2⟩:=it84_2 p hok (by omega) σ.length _ hq p.defs [] rfl 3000 (by omega) (by omega) 0 rfl []
 rw [Int.natCast_zero,List.append_nil,Int.sub_zero] at hi2
 have ht:=nest_take_left p.main p.defs (by omega)
 by_cases hl:dfsLeft p.main p.defs 3000 200<0
 ·rw [if_pos hl] at hi2
  rw [if_neg (by rw [ht];omega)]
  refine ⟨[.box p.cs]++τ', ?_⟩
  rw [←List.append_assoc]
  clear h136 hq hd3 hd3' ht
  generalize p.cs=pc at*
  simp [bodyI,af84,getA0,hall,hpl,hg0,hh1,hh2,hdl,hel,hfl,h1,h1',h2,h2',h3,h3',hi0,hi1,hi2]
 ·rw [if_neg hl] at hi2
  rw [if_pos (by rw [ht];omega)]
  have hq2: (σ++[Obj.box p.cs]++τ')[σ.length]? =some (.box p.cs):=getO hq
  have hi3:=it84_3 p hok σ.length _ hq2
  refine ⟨[.box p.cs]++τ', ?_⟩
  rw [←List.append_assoc]
  clear hq ht
  generalize p.main.cs=mc at*
  generalize p.main.e=me at*
  generalize p.cs=pc at*
  generalize hs2:σ++[Obj.box pc]++τ'=σ2 at*
  by_cases hz3:firstE (p.defs.map dfnE)=0
  ·rw [if_pos hz3] at hi3 ⊢
   simp [bodyI,af84,getA0,hall,hpl,hg0,hh1,hh2,hdl,hel,hfl,h1,h1',h2,h2',h3,h3',hi0,hi1,hi2,hi3,hq2,hd3,hd3',hm1,hm2,h136]
  ·rw [if_neg hz3] at hi3 ⊢
   simp [bodyI,af84,getA0,hall,hpl,hg0,hh1,hh2,hdl,hel,hfl,h1,h1',h2,h2',h3,h3',hi0,hi1,hi2,hi3]
theorem it85_0 (p:Prg) (hok:p.ok) (params:List Bs) (hpar:params.length≤maxL) (dn:Bs) (cons:List Con) (k:Nat) (hk:k<cons.length) (hc:cons[k].ok) (he: ∀t ∈ cons[k].args,t.e=0) (q dq:Nat) (d3 d4 d5:D) (σ:St) (hq:σ[q]? =some (.box p.cs)) (hd:σ[dq]? =some (.box [.str dn,slD params, .slice (cons.map Con.d)])):
 iterI (evalI CI XB GI 87 false lp85_0) [(1, .ptr q 0),(3,d3),(4,d4),(5,d5),(6, .ptr dq 0),(7, .int .i64 (k:Nat)),(8, .int .i64 0)] σ=
  some (if firstE (cons[k].args.map fun t=>t.ord p params)=0 then (.exit 4,[(1, .ptr q 0),(3,d3),(4,d4),(5,d5),(6, .ptr dq 0),(7, .int .i64 (k:Nat)),(8, .int .i64 cons[k].args.length),(68, .bool false)],σ) else (.ret,[(2, .int .i64 (firstE (cons[k].args.map fun t=>t.ord p params)))],σ)):=by
 obtain ⟨cd,hcd,hcl,hcg⟩:=opq Con.d cons
 obtain ⟨h2,h3⟩:=hcg k hk
 rw [hcd] at hd
 have hpl:=p.cs_len
 have hpt:=p.cs_take
 have q73:qI 73=false:=rfl
 have x73:XB 73=false:=rfl
 generalize cons[k]=c at*
 rcases c with ⟨cn,args⟩
 obtain ⟨hal,hao⟩:=hc
 simp only at hal hao he ⊢
 obtain ⟨ad,had,hadl,hag⟩:=opq Ty.d args
 simp only [Con.d,Con.cs,tysD_map] at h3
 rw [had] at h3
 have h73:=fun t (ht:t ∈ args) σ=>c73 p hok.dl hok.el params hpar (slD params) (.inl rfl) t (tysOk_mem hao ht) σ
 have:=loop_err (f:=evalI CI XB GI 87 false lp85_0) (σ:=σ) args (fun i=>[(1, .ptr q 0),(3,d3),(4,d4),(5,d5),(6, .ptr dq 0),(7, .int .i64 (k:Nat)),(8, .int .i64 (i:Nat))]) (fun t=>t.ord p params) (fun z=>(.ret,[(2, .int .i64 z)],σ)) (.exit 4,[(1, .ptr q 0),(3,d3),(4,d4),(5,d5),(6, .ptr dq 0),(7, .int .i64 (k:Nat)),(8, .int .i64 args.length),(68, .bool false)],σ) (by simp) (by simp)
  (fun i hi=>by
    have hw:=wrap_nat (n:=i) (by unfold maxL at hal;omega)
    obtain ⟨h4,h5⟩:=hag i hi
    have h73:=h73 args[i] (List.getElem_mem hi)
    rw [Ty.ordR_eq p params _ (he _ (List.getElem_mem hi))] at h73
    have y1:=args[i].cs_len
    have y2:=args[i].cs_take
    simp only [Ty.d,slD] at*
    generalize args[i].ord p params=z at*
    generalize args[i].cs=tc at*
    generalize params.map D.str=pd at*
    generalize p.cs=pc at*
    by_cases h0:z=0
    ·simp [lp85_0,hq,hd,hpl,hpt,hcl,hk,h2,h3,hi,hw,hadl,h4,h5,y1,y2,h73,q73,x73,h0,Nat.testBit_eq_decide_div_mod_eq]
    ·have h0': (z != 0)=true:=by simpa using h0
     simp [lp85_0,hq,hd,hpl,hpt,hcl,hk,h2,h3,hi,hw,hadl,h4,h5,y1,y2,h73,q73,x73,h0,h0',Nat.testBit_eq_decide_div_mod_eq]) (by
    simp only [slD] at*
    generalize params.map D.str=pd at*
    generalize p.cs=pc at*
    simp [lp85_0,hq,hd,hcl,hk,h2,h3,hadl])
 rw [Int.natCast_zero] at this
 exact this
theorem h122r (l:List Bs) (s:Bs) (r:Nat) (σ:St) (hr:σ[r]? =some (rowS l)) (hl:l.length≤maxL):CI (.fn 122) [.arr r l.length 0 l.length, .str s] σ=some (.ret (.bool (hasS l s)),σ):=by
 have h152:CI (.fn 152) [.arr r l.length 0 l.length, .str s] σ=some (.ret (.int .i64 (indexP l s)),σ):=by
  unfold maxL at hl
  unfold rowS at hr
  refine CI_tree0 tab152 (d:= .int .i64 (indexP l s)) ?_ rfl rfl
  have hit:=loop_find (f:=evalI CI XB GI 19 false lp152_0) (σ:=σ) l (fun i=>[(0, .arr r l.length 0 l.length),(1, .str s),(5, .int .i64 (i:Nat))]) (· ==s) (fun i=>(.ret,[(4, .int .i64 (i:Nat))],σ)) (.exit 0,[(0, .arr r l.length 0 l.length),(1, .str s),(5, .int .i64 l.length),(9, .bool false)],σ) (by simp) (by simp)
   (fun i hi=>by
     have hw:=wrap_nat (n:=i) (by omega)
     cases hb:l[i] ==s<;>simp [lp152_0,hi,hw,hb,hr]) (by
     simp [lp152_0])
  rw [Int.natCast_zero] at hit
  unfold indexP
  cases hf:l.findIdx? (· ==s)<;>(rw [hf] at hit;simp [bodyI,af152,hit])
 refine CI_tree0 tab122 (d:= .bool (hasS l s)) ?_ rfl rfl
 unfold hasS
 rw [←indexP_ge]
 simp [bodyI,af122,h152]
set_option maxHeartbeats 1000000 in
theorem it85_1 (p:Prg) (hok:p.ok) (params:List Bs) (hpar:params.length≤maxL) (dn:Bs) (cons:List Con) (hcl:cons.length≤maxL) (hc: ∀c ∈ cons,c.ok∧ ∀t ∈ c.args,t.e=0) (q dq:Nat) (σ0 τ0:St) (hq:σ0[q]? =some (.box p.cs)) (a:List Bs) (hd: ∀b,(σ0++[rowS a,rowS b]++τ0)[dq]? =some (.box [.str dn,slD params, .slice (cons.map Con.d)])) (d3 d5:D) (b0:List Bs) (hb0:b0.length+cons.length≤1000000):
 ∃τ',iterI (evalI CI XB GI 87 false lp85_1) [(1, .ptr q 0),(3,d3),(4, .arr (σ0.length+1) b0.length 0 b0.length),(5,d5),(6, .ptr dq 0),(7, .int .i64 0)] (σ0++[rowS a,rowS b0]++τ0)=
  some (match foldS (consStep p params) cons 0 b0 with
   | .inl b'=>(.exit 2,[(1, .ptr q 0),(3,d3),(4, .arr (σ0.length+1) b'.length 0 b'.length),(5,d5),(6, .ptr dq 0),(7, .int .i64 cons.length),(40, .bool false)],σ0++[rowS a,rowS b']++τ0++τ')
   | .inr e=>(.ret,[(2, .int .i64 e)],σ0++τ')):=by
 have:=loop_foldS (f:=evalI CI XB GI 87 false lp85_1) cons (fun k b=>[(1, .ptr q 0),(3,d3),(4, .arr (σ0.length+1) b.length 0 b.length),(5,d5),(6, .ptr dq 0),(7, .int .i64 (k:Nat))]) (fun b=>σ0++[rowS a,rowS b]++τ0) (fun k b=>b.length=b0.length+k) (consStep p params) (fun e=>(.ret,[(2, .int .i64 e)])) (fun _=>σ0) (fun b=>(.exit 2,[(1, .ptr q 0),(3,d3),(4, .arr (σ0.length+1) b.length 0 b.length),(5,d5),(6, .ptr dq 0),(7, .int .i64 cons.length),(40, .bool false)])) (by simp) (by simp)
  (fun k hk b b' hb hs=>by rw [consStep_len hs];simp;omega)
  (fun k hk b τ hb=>by
    have hw:=wrap_nat (n:=k) (by unfold maxL at hcl;omega)
    have hck:=hc _ (List.getElem_mem hk)
    have hqq: ∀b,(σ0++[rowS a,rowS b]++τ0++τ)[q]? =some (.box p.cs):=fun b=>getO (getO (getO hq))
    have hdd: ∀b,(σ0++[rowS a,rowS b]++τ0++τ)[dq]? =_:=fun b=>getO (hd b)
    have h0:=it85_0 p hok params hpar dn cons k hk hck.1 hck.2 q dq d3 (.arr (σ0.length+1) (b.length+1) 0 (b.length+1)) d5 (σ0++[rowS a,rowS (b++[cons[k].name])]++τ0++τ) (hqq _) (hdd _)
    have hg: (σ0++[rowS a,rowS b]++τ0++τ)[σ0.length+1]? =some (rowS b):=by simp only [List.append_assoc];exact getA
    have h122:=h122r b cons[k].name (σ0.length+1) _ hg (by unfold maxL at*;omega)
    have hs: ∀n,(σ0++[rowS a,rowS b]++τ0++τ).set (σ0.length+1) (.row 1 (b.map .str++[.str n]) 0)=σ0++[rowS a,rowS (b++[n])]++τ0++τ:=fun n=>by
     simp only [List.append_assoc];rw [setA];simp [rowS]
    have e1: ∀b,∃τ',σ0++[rowS a,rowS b]++τ0++τ=σ0++τ':=fun b=>⟨_,by simp only [List.append_assoc];rfl⟩
    have hd1:=hdd b
    obtain ⟨cd,hcd,hcl2,hcg⟩:=opq Con.d cons
    obtain ⟨h2,h3⟩:=hcg k hk
    rw [hcd] at hd1
    have hbl: (b.map D.str).length=b.length:=by simp
    have hba: (b.length+1) *16≤140737488355328:=by omega
    have hfn: ∃z,firstE (cons[k].args.map fun t=>t.ord p params)=z:=⟨_,rfl⟩
    obtain ⟨z,hz⟩:=hfn
    rw [hz] at h0
    unfold consStep
    rw [hz]
    generalize cons[k]=c at*
    rcases c with ⟨cn,args⟩
    simp only [Con.d,Con.cs] at*
    have hg: (σ0++[rowS a,rowS b]++τ0++τ)[σ0.length+1]? =some (.row 1 (b.map .str) 0):=hg
    cases hh:hasS b cn
    ·rw [hh] at h122
     have hs:=hs cn
     obtain ⟨τ',hτ'⟩:=e1 (b++[cn])
     by_cases hz0:z=0
     ·refine ⟨τ, ?_⟩
      subst hz0
      simp only [Bool.false_eq_true,if_false,if_true] at h0 ⊢
      rw [←hs] at h0 ⊢
      clear hqq hdd hd e1 hτ'
      generalize σ0++[rowS a,rowS b]++τ0++τ=σ1 at*
      generalize b.map D.str=bd at*
      simp [lp85_1,hk,hw,hd1,hcl2,h2,h3,h122,hg,rowOf,fillRow,hbl,hba,h0]
     ·refine ⟨τ', ?_⟩
      rw [←hτ']
      simp only [Bool.false_eq_true,if_false,if_neg hz0] at h0 ⊢
      rw [←hs] at h0 ⊢
      clear hqq hdd hd e1 hτ'
      generalize σ0++[rowS a,rowS b]++τ0++τ=σ1 at*
      generalize b.map D.str=bd at*
      simp [lp85_1,hk,hw,hd1,hcl2,h2,h3,h122,hg,rowOf,fillRow,hbl,hba,h0]
    ·rw [hh] at h122
     obtain ⟨τ',hτ'⟩:=e1 b
     refine ⟨τ', ?_⟩
     rw [←hτ']
     simp only [if_true]
     clear hqq hdd hd e1 hτ' hs h0
     generalize σ0++[rowS a,rowS b]++τ0++τ=σ1 at*
     simp [lp85_1,hk,hw,hd1,hcl2,h2,h3,h122])
  (fun b τ hb=>⟨τ,by
    have hd1: (σ0++[rowS a,rowS b]++τ0++τ)[dq]? =_:=getO (hd b)
    obtain ⟨cd,hcd,hcl2,hcg⟩:=opq Con.d cons
    rw [hcd] at hd1
    generalize σ0++[rowS a,rowS b]++τ0++τ=σ1 at*
    simp [lp85_1,hd1,hcl2]⟩) b0 [] (by simp)
 rw [List.append_nil,Int.natCast_zero] at this
 obtain ⟨τ',h⟩:=this
 refine ⟨τ', ?_⟩
 rw [h]
 cases foldS (consStep p params) cons 0 b0<;>rfl
theorem has_app (a b:List Bs) (s:Bs):hasS (a++b) s=(hasS a s||hasS b s):=by
 unfold hasS
 rw [Bool.eq_iff_iff]
 simp
theorem dat_len {p:Prg} {i:Nat} {d:Dat} {x x':List Bs × List Bs} (h:datStep p i d x= .inl x'):x'.1=x.1++[d.name]∧x'.2.length=x.2.length+d.cons.length:=by
 unfold datStep at h
 split at h
 ·cases h
 ·split at h
  ·rename_i b hb
   cases h
   exact ⟨rfl,foldS_cons_len hb⟩
  ·cases h
set_option maxHeartbeats 1000000 in
theorem it85_2 (p:Prg) (hok:p.ok) (hdl:p.data.length≤12) (hd: ∀d ∈ p.data,d.cons.length≤8∧ ∀c ∈ d.cons,∀t ∈ c.args,t.e=0) (σ:St):
 ∃τ',iterI (evalI CI XB GI 87 false lp85_2) [(1, .ptr σ.length 0),(3, .arr (σ.length+1) 0 0 0),(4, .arr (σ.length+2) 0 0 0),(5, .int .i64 0)] (σ++[.box p.cs,rowS [],rowS []])=
  some (match foldS (datStep p) p.data 0 (builtins,[]) with
   | .inl x=>(.exit 0,[(1, .ptr σ.length 0),(3, .arr (σ.length+1) (x.1.drop 3).length 0 (x.1.drop 3).length),(4, .arr (σ.length+2) x.2.length 0 x.2.length),(5, .int .i64 p.data.length),(14, .bool false)],σ++τ')
   | .inr e=>(.ret,[(2, .int .i64 e)],σ++τ')):=by
 obtain ⟨dd,hdd,hddl,hdg⟩:=opq Dat.d p.data
 have hh:p.cs.head?=some (.slice dd):=by rw [p.cs_eq,hdd];rfl
 have hlen0: (σ++[Obj.box p.cs]).length=σ.length+1:=by simp
 have:=loop_foldS (f:=evalI CI XB GI 87 false lp85_2) p.data (fun i x=>[(1, .ptr σ.length 0),(3, .arr (σ.length+1) (x.1.drop 3).length 0 (x.1.drop 3).length),(4, .arr (σ.length+2) x.2.length 0 x.2.length),(5, .int .i64 (i:Nat))])
  (fun x=>σ++[.box p.cs]++[rowS (x.1.drop 3),rowS x.2]) (fun i x=>x.1=builtins++x.1.drop 3∧(x.1.drop 3).length=i∧x.2.length≤8*i) (datStep p) (fun e=>(.ret,[(2, .int .i64 e)])) (fun _=>σ++[.box p.cs])
  (fun x=>(.exit 0,[(1, .ptr σ.length 0),(3, .arr (σ.length+1) (x.1.drop 3).length 0 (x.1.drop 3).length),(4, .arr (σ.length+2) x.2.length 0 x.2.length),(5, .int .i64 p.data.length),(14, .bool false)])) (by simp) (by simp)
  (fun i hi x x' hI hs=>by
    obtain ⟨h1,h2⟩:=dat_len hs
    obtain ⟨i1,i2,i3⟩:=hI
    have hc:=(hd _ (List.getElem_mem hi)).1
    have hx3:x.1.length=3+i:=by rw [i1,List.length_append,i2];rfl
    have e: (x.1++[p.data[i].name]).drop 3=x.1.drop 3++[p.data[i].name]:=List.drop_append_of_le_length (by omega)
    refine ⟨?_, ?_,by omega⟩
    ·rw [h1,e,←List.append_assoc,←i1]
    ·rw [h1,e,List.length_append,i2];rfl)
  (fun i hi x τ hI=>by
    obtain ⟨i1,i2,i3⟩:=hI
    have hw:=wrap_nat (n:=i) (by omega)
    have hdi:=hd _ (List.getElem_mem hi)
    have hdo:=hok.d _ (List.getElem_mem hi)
    obtain ⟨h2,h3⟩:=hdg i hi
    have hx3:x.1.length=3+i:=by rw [i1,List.length_append,i2];rfl
    have hdrop: (x.1++[p.data[i].name]).drop 3=x.1.drop 3++[p.data[i].name]:=List.drop_append_of_le_length (by omega)
    have hhas:hasS x.1 p.data[i].name=(isB p.data[i].name||hasS (x.1.drop 3) p.data[i].name):=by
     have e0:=has_app builtins (x.1.drop 3) p.data[i].name
     rw [←i1] at e0;exact e0
    have hdop: ∀b,datStep p i p.data[i] x= .inl b→b.1.drop 3=x.1.drop 3++[p.data[i].name]:=fun b hb=>by rw [(dat_len hb).1,hdrop]
    unfold datStep at*
    rw [hhas]
    generalize hnm:x.1.drop 3=nm at*
    generalize x.2=cn at*
    generalize p.data[i]=d at*
    rcases d with ⟨dn,params,cons⟩
    obtain ⟨o1,o2,o3⟩:=hdo
    obtain ⟨hc8,hce⟩:=hdi
    simp only at o1 o2 o3 hc8 hce hhas hdop ⊢
    obtain ⟨τ1,h85⟩:=it85_1 p hok params o1 dn cons o2 (fun c hc=>⟨o3 c hc,hce c hc⟩) σ.length (σ++[Obj.box p.cs]++[rowS (nm++[dn]),rowS cn]++τ).length (σ++[Obj.box p.cs]) (τ++[.box (Dat.cs ⟨dn,params,cons⟩)]) getA0 (nm++[dn])
     (fun b=>by
       have: (σ++[Obj.box p.cs]++[rowS (nm++[dn]),rowS cn]++τ).length=(σ++[Obj.box p.cs]++[rowS (nm++[dn]),rowS b]++τ).length:=by simp only [List.length_append,List.length_cons,List.length_nil]
       rw [this,←List.append_assoc];exact getA0)
     (.arr (σ.length+1) (nm.length+1) 0 (nm.length+1)) (.int .i64 (i:Nat)) cn (by omega)
    rw [hlen0,←List.append_assoc] at h85
    have hlr: (σ++[Obj.box p.cs]++[rowS (nm++[dn]),rowS cn]++τ).length=(σ++[Obj.box p.cs]++[rowS nm,rowS cn]++τ).length:=by simp only [List.length_append,List.length_cons,List.length_nil]
    rw [hlr] at h85
    have hq1: ∀y,(σ++[Obj.box p.cs]++[rowS nm,rowS cn]++τ++y)[σ.length]? =some (.box p.cs):=fun y=>by simp only [List.append_assoc];exact getA0
    have hq2: ∀y,(σ++[Obj.box p.cs]++[rowS nm,rowS cn]++τ++y)[σ.length+1]? =some (.row 1 (nm.map .str) 0):=fun y=>by simp only [List.append_assoc];exact getA
    have hq0:=hq1 []
    rw [List.append_nil] at hq0
    have h122:=fun y=>h122r nm dn (σ.length+1) _ (hq2 y) (by unfold maxL;omega)
    have hs: ∀y,(σ++[Obj.box p.cs]++[rowS nm,rowS cn]++τ++y).set (σ.length+1) (.row 1 (nm.map .str++[.str dn]) 0)=σ++[Obj.box p.cs]++[rowS (nm++[dn]),rowS cn]++τ++y:=fun y=>by
     simp only [List.append_assoc];rw [setA];simp [rowS]
    have e1: ∀y,∃τ',σ++[Obj.box p.cs]++[rowS nm,rowS cn]++τ++y=σ++[.box p.cs]++τ':=fun y=>⟨_,by simp only [List.append_assoc];rfl⟩
    have hnl: (nm.map D.str).length=nm.length:=by simp
    have hba: (nm.length+1) *16≤140737488355328:=by omega
    rw [←hs] at h85
    simp only [Dat.d,Dat.cs] at*
    cases hb:isB dn
    ·cases hh2:hasS nm dn
     ·rw [hh2] at h122
      cases hf:foldS (consStep p params) cons 0 cn with
      |inl b=>
       rw [hf] at h85
       have hdop:=hdop (x.1++[dn],b) (by rw [hhas,hb,hh2,hf];rfl)
       simp only at hdop
       refine ⟨τ++[.box [.str dn,slD params, .slice (cons.map Con.d)]]++τ1, ?_⟩
       simp only [Bool.or_self,Bool.false_eq_true,if_false]
       rw [hdop,←List.append_assoc,←List.append_assoc]
       simp only [slD] at*
       rw [←List.append_assoc] at h85
       generalize σ++[Obj.box p.cs]++[rowS nm,rowS cn]++τ=σ1 at*
       generalize σ++[Obj.box p.cs]++[rowS (nm++[dn]),rowS b]++τ++[.box [.str dn, .slice (params.map D.str), .slice (cons.map Con.d)]]++τ1=σ2 at*
       generalize params.map D.str=pd at*
       generalize cons.map Con.d=cd at*
       generalize nm.map D.str=nd at*
       generalize p.cs=pc at*
       simp [lp85_2,hq0,hq1,hh,hddl,hi,h2,h3,hw,k137,hb,hq2,h122,getA0,setA0,rowOf,fillRow,hnl,hba,h85]
      |inr e=>
       rw [hf] at h85
       refine ⟨τ1, ?_⟩
       simp only [Bool.or_self,Bool.false_eq_true,if_false]
       simp only [slD] at*
       generalize hs1:σ++[Obj.box p.cs]++[rowS nm,rowS cn]++τ=σ1 at*
       generalize hs2:σ++[Obj.box p.cs]++τ1=σ2 at*
       generalize params.map D.str=pd at*
       generalize cons.map Con.d=cd at*
       generalize nm.map D.str=nd at*
       generalize p.cs=pc at*
       simp [lp85_2,hq0,hq1,hh,hddl,hi,h2,h3,hw,k137,hb,hq2,h122,getA0,setA0,rowOf,fillRow,hnl,hba,h85]
     ·rw [hh2] at h122
      obtain ⟨τ',hτ'⟩:=e1 [.box [.str dn,slD params, .slice (cons.map Con.d)]]
      refine ⟨τ', ?_⟩
      simp only [Bool.false_or,if_true]
      rw [←hτ']
      simp only [slD] at*
      clear h85 hs e1 hτ'
      generalize σ++[Obj.box p.cs]++[rowS nm,rowS cn]++τ=σ1 at*
      generalize params.map D.str=pd at*
      generalize cons.map Con.d=cd at*
      generalize p.cs=pc at*
      simp [lp85_2,hq0,hq1,hh,hddl,hi,h2,h3,hw,k137,hb,h122,getA0,setA0]
    ·obtain ⟨τ',hτ'⟩:=e1 [.box [.str dn,slD params, .slice (cons.map Con.d)]]
     refine ⟨τ', ?_⟩
     simp only [Bool.true_or,if_true]
     rw [←hτ']
     simp only [slD] at*
     clear h85 hs e1 hτ'
     generalize σ++[Obj.box p.cs]++[rowS nm,rowS cn]++τ=σ1 at*
     generalize params.map D.str=pd at*
     generalize cons.map Con.d=cd at*
     generalize p.cs=pc at*
     simp [lp85_2,hq0,hq1,hh,hddl,hi,h2,h3,hw,k137,hb,getA0,setA0])
  (fun x τ hI=>⟨τ,by
    have hq0: (σ++[Obj.box p.cs]++[rowS (x.1.drop 3),rowS x.2]++τ)[σ.length]? =some (.box p.cs):=by simp only [List.append_assoc];exact getA0
    generalize σ++[Obj.box p.cs]++[rowS (x.1.drop 3),rowS x.2]++τ=σ1 at*
    generalize p.cs=pc at*
    simp [lp85_2,hq0,hh,hddl]⟩) (builtins,[]) [] ⟨rfl,rfl,by simp⟩
 obtain ⟨τ',h⟩:=this
 rw [List.append_nil,Int.natCast_zero,List.append_assoc] at h
 have e0: ([Obj.box p.cs]++[rowS (List.drop 3 builtins),rowS []]:St)=[.box p.cs,rowS [],rowS []]:=rfl
 have e1: (builtins.drop 3).length=0:=rfl
 simp only at h
 rw [e0,e1] at h
 cases hf:foldS (datStep p) p.data 0 (builtins,[]) with
 |inl x=>
  rw [hf] at h
  exact ⟨[.box p.cs]++[rowS (x.1.drop 3),rowS x.2]++τ',by rw [←List.append_assoc,←List.append_assoc];exact h⟩
 |inr e=>
  rw [hf] at h
  exact ⟨[.box p.cs]++τ',by rw [←List.append_assoc];exact h⟩
set_option maxHeartbeats 2000000 in
theorem it86_0 (p:Prg) (hok:p.ok) (xn:Bs) (ops:List Opn) (hcl:ops.length≤maxL) (ho: ∀o ∈ ops,o.ok∧o.arg.e=0∧o.res.e=0) (q dq:Nat) (σ0 τ0:St) (hq:σ0[q]? =some (.box p.cs)) (a:List Bs) (hd: ∀b,(σ0++[rowS a,rowS b]++τ0)[dq]? =some (.box [.str xn, .slice (ops.map Opn.d)])) (d3 d5:D) (b0:List Bs) (hb0:b0.length+ops.length≤1000000):
 ∃τ',iterI (evalI CI XB GI 67 false lp86_0) [(1, .ptr q 0),(3,d3),(4, .arr (σ0.length+1) b0.length 0 b0.length),(5,d5),(6, .ptr dq 0),(7, .int .i64 0)] (σ0++[rowS a,rowS b0]++τ0)=
  some (match foldS (opnStep p) ops 0 b0 with
   | .inl b'=>(.exit 2,[(1, .ptr q 0),(3,d3),(4, .arr (σ0.length+1) b'.length 0 b'.length),(5,d5),(6, .ptr dq 0),(7, .int .i64 ops.length),(37, .bool false)],σ0++[rowS a,rowS b']++τ0++τ')
   | .inr e=>(.ret,[(2, .int .i64 e)],σ0++τ')):=by
 have:=loop_foldS (f:=evalI CI XB GI 67 false lp86_0) ops (fun k b=>[(1, .ptr q 0),(3,d3),(4, .arr (σ0.length+1) b.length 0 b.length),(5,d5),(6, .ptr dq 0),(7, .int .i64 (k:Nat))]) (fun b=>σ0++[rowS a,rowS b]++τ0) (fun k b=>b.length=b0.length+k) (opnStep p) (fun e=>(.ret,[(2, .int .i64 e)])) (fun _=>σ0) (fun b=>(.exit 2,[(1, .ptr q 0),(3,d3),(4, .arr (σ0.length+1) b.length 0 b.length),(5,d5),(6, .ptr dq 0),(7, .int .i64 ops.length),(37, .bool false)])) (by simp) (by simp)
  (fun k hk b b' hb hs=>by rw [opnStep_len hs];simp;omega)
  (fun k hk b τ hb=>by
    have hw:=wrap_nat (n:=k) (by unfold maxL at hcl;omega)
    have hok1:=ho _ (List.getElem_mem hk)
    have hqq: ∀b y,(σ0++[rowS a,rowS b]++τ0++τ++y)[q]? =some (.box p.cs):=fun b y=>getO (getO (getO (getO hq)))
    have hd1: (σ0++[rowS a,rowS b]++τ0++τ)[dq]? =_:=getO (hd b)
    have hg: ∀y,(σ0++[rowS a,rowS b]++τ0++τ++y)[σ0.length+1]? =some (.row 1 (b.map .str) 0):=fun y=>by simp only [List.append_assoc];exact getA
    have h122:=fun y=>h122r b ops[k].name (σ0.length+1) _ (hg y) (by unfold maxL at*;omega)
    have hs: ∀n y,(σ0++[rowS a,rowS b]++τ0++τ++y).set (σ0.length+1) (.row 1 (b.map .str++[.str n]) 0)=σ0++[rowS a,rowS (b++[n])]++τ0++τ++y:=fun n y=>by
     simp only [List.append_assoc];rw [setA];simp [rowS]
    have e1: ∀b y,∃τ',σ0++[rowS a,rowS b]++τ0++τ++y=σ0++τ':=fun b y=>⟨_,by simp only [List.append_assoc];rfl⟩
    have hn1: ∀n y,(σ0++[rowS a,rowS (b++[n])]++τ0++τ++[y])[(σ0++[rowS a,rowS b]++τ0++τ).length]? =some y:=fun n y=>by
     have: (σ0++[rowS a,rowS b]++τ0++τ).length=(σ0++[rowS a,rowS (b++[n])]++τ0++τ).length:=by simp only [List.length_append,List.length_cons,List.length_nil]
     rw [this];exact getA0
    obtain ⟨cd,hcd,hcl2,hcg⟩:=opq Opn.d ops
    obtain ⟨h2,h3⟩:=hcg k hk
    rw [hcd] at hd1
    have hpl:=p.cs_len
    have hpt:=p.cs_take
    have hbl: (b.map D.str).length=b.length:=by simp
    have hba: (b.length+1) *16≤140737488355328:=by omega
    generalize ops[k]=o at*
    rcases o with ⟨on,arg,res,once⟩
    obtain ⟨⟨hoa,hor⟩,hae,hre⟩:=hok1
    simp only at hoa hor hae hre
    have hca:=fun σ=>c73 p hok.dl hok.el [] (by unfold maxL;simp) .empty (.inr ⟨rfl,rfl⟩) arg hoa σ
    have hcr:=fun σ=>c73 p hok.dl hok.el [] (by unfold maxL;simp) .empty (.inr ⟨rfl,rfl⟩) res hor σ
    rw [Ty.ordR_eq p [] _ hae] at hca
    rw [Ty.ordR_eq p [] _ hre] at hcr
    simp only [Opn.d,Opn.cs,opnStep,opnErr] at*
    generalize arg.ord p []=ea at*
    generalize res.ord p []=er at*
    rcases arg with ⟨k1,n1,s1,l1,ls1,t1⟩
    rcases res with ⟨k2,n2,s2,l2,ls2,t2⟩
    simp only [Ty.cs,List.cons_append,List.nil_append] at*
    generalize tysD l1=ld1 at*
    generalize tysD l2=ld2 at*
    generalize ls1.map Lab.d=lsd1 at*
    generalize ls2.map Lab.d=lsd2 at*
    generalize hoc: [D.str on,D.int .i64 k1,D.int .i64 n1,D.str s1,D.slice ld1,D.slice lsd1,D.int .i64 t1,D.int .i64 k2,D.int .i64 n2,D.str s2,D.slice ld2,D.slice lsd2,D.int .i64 t2,D.bool once]=oc at*
    have hn1:=hn1 on (.box oc)
    have hs:=hs on [.box oc]
    have hqn:=hqq (b++[on]) [.box oc]
    cases hh:hasS b on
    ·rw [hh] at h122
     simp only [Bool.false_eq_true,if_false]
     obtain ⟨τ',hτ'⟩:=e1 (b++[on]) [.box oc]
     by_cases hz1:ea=0
     ·subst hz1
      simp only [if_true]
      by_cases hz2:er=0
      ·subst hz2
       simp only [if_true]
       refine ⟨τ++[.box oc], ?_⟩
       simp only [←List.append_assoc]
       clear hqq hd e1 hτ'
       generalize σ0++[rowS a,rowS (b++[on])]++τ0++τ++[Obj.box oc]=σ3 at*
       generalize σ0++[rowS a,rowS b]++τ0++τ=σ1 at*
       generalize b.map D.str=bd at*
       generalize p.cs=pc at*
       subst hoc
       simp [lp86_0,hk,hw,hd1,hcl2,h2,h3,getA0,setA0,h122,hg,rowOf,fillRow,hbl,hba,hs,hn1,hqn,hpl,hpt,hca,hcr]
      ·have hz2': (er != 0)=true:=by simpa using hz2
       simp only [if_neg hz2]
       refine ⟨τ', ?_⟩
       rw [←hτ']
       clear hqq hd e1 hτ'
       generalize σ0++[rowS a,rowS (b++[on])]++τ0++τ++[Obj.box oc]=σ3 at*
       generalize σ0++[rowS a,rowS b]++τ0++τ=σ1 at*
       generalize b.map D.str=bd at*
       generalize p.cs=pc at*
       subst hoc
       simp [lp86_0,hk,hw,hd1,hcl2,h2,h3,getA0,setA0,h122,hg,rowOf,fillRow,hbl,hba,hs,hn1,hqn,hpl,hpt,hca,hcr,hz2']
     ·have hz1': (ea != 0)=true:=by simpa using hz1
      have hz1'': (ea==0)=false:=by simpa using hz1
      simp only [if_neg hz1]
      refine ⟨τ', ?_⟩
      rw [←hτ']
      clear hqq hd e1 hτ'
      generalize σ0++[rowS a,rowS (b++[on])]++τ0++τ++[Obj.box oc]=σ3 at*
      generalize σ0++[rowS a,rowS b]++τ0++τ=σ1 at*
      generalize b.map D.str=bd at*
      generalize p.cs=pc at*
      subst hoc
      simp [lp86_0,hk,hw,hd1,hcl2,h2,h3,getA0,setA0,h122,hg,rowOf,fillRow,hbl,hba,hs,hn1,hqn,hpl,hpt,hca,hz1',hz1'']
    ·rw [hh] at h122
     obtain ⟨τ',hτ'⟩:=e1 b [.box oc]
     refine ⟨τ', ?_⟩
     rw [←hτ']
     simp only [if_true]
     clear hqq hd e1 hτ' hs hn1 hqn
     generalize σ0++[rowS a,rowS b]++τ0++τ=σ1 at*
     subst hoc
     simp [lp86_0,hk,hw,hd1,hcl2,h2,h3,getA0,setA0,h122])
  (fun b τ hb=>⟨τ,by
    have hd1: (σ0++[rowS a,rowS b]++τ0++τ)[dq]? =_:=getO (hd b)
    obtain ⟨cd,hcd,hcl2,hcg⟩:=opq Opn.d ops
    rw [hcd] at hd1
    generalize σ0++[rowS a,rowS b]++τ0++τ=σ1 at*
    simp [lp86_0,hd1,hcl2]⟩) b0 [] (by simp)
 rw [List.append_nil,Int.natCast_zero] at this
 obtain ⟨τ',h⟩:=this
 refine ⟨τ', ?_⟩
 rw [h]
 cases foldS (opnStep p) ops 0 b0<;>rfl
theorem eff_len {p:Prg} {i:Nat} {d:Eff} {x x':List Bs × List Bs} (h:effStep p i d x= .inl x'):x'.1=x.1++[d.name]∧x'.2.length=x.2.length+d.ops.length:=by
 unfold effStep at h
 split at h
 ·cases h
 ·split at h
  ·rename_i b hb
   cases h
   exact ⟨rfl,foldS_opn_len hb⟩
  ·cases h
set_option maxHeartbeats 1000000 in
theorem it86_1 (p:Prg) (hok:p.ok) (hel:p.effects.length≤12) (he: ∀e ∈ p.effects,e.ops.length≤8∧ ∀o ∈ e.ops,o.arg.e=0∧o.res.e=0) (σ:St) (x0:List Bs × List Bs) (h01:x0.1.length≤10) (h02:x0.2.length≤10):
 ∃τ',iterI (evalI CI XB GI 67 false lp86_1) [(1, .ptr σ.length 0),(3, .arr (σ.length+1) x0.1.length 0 x0.1.length),(4, .arr (σ.length+2) x0.2.length 0 x0.2.length),(5, .int .i64 0)] (σ++[.box p.cs,rowS x0.1,rowS x0.2])=
  some (match foldS (effStep p) p.effects 0 x0 with
   | .inl x=>(.exit 0,[(1, .ptr σ.length 0),(3, .arr (σ.length+1) x.1.length 0 x.1.length),(4, .arr (σ.length+2) x.2.length 0 x.2.length),(5, .int .i64 p.effects.length),(16, .bool false)],σ++τ')
   | .inr e=>(.ret,[(2, .int .i64 e)],σ++τ')):=by
 obtain ⟨dd,hdd,hddl,hdg⟩:=opq Eff.d p.effects
 have hh:p.cs[1]? =some (.slice dd):=by rw [p.cs_eq,hdd];rfl
 have hpl:=p.cs_len
 have hh1: ∀h:1<p.cs.length,p.cs[1]= .slice dd:=fun h=>by rw [List.getElem?_eq_getElem h] at hh;exact Option.some.inj hh
 have hlen0: (σ++[Obj.box p.cs]).length=σ.length+1:=by simp
 have:=loop_foldS (f:=evalI CI XB GI 67 false lp86_1) p.effects (fun i x=>[(1, .ptr σ.length 0),(3, .arr (σ.length+1) x.1.length 0 x.1.length),(4, .arr (σ.length+2) x.2.length 0 x.2.length),(5, .int .i64 (i:Nat))])
  (fun x=>σ++[.box p.cs]++[rowS x.1,rowS x.2]) (fun i x=>x.1.length≤10+i∧x.2.length≤10+8*i) (effStep p) (fun e=>(.ret,[(2, .int .i64 e)])) (fun _=>σ++[.box p.cs])
  (fun x=>(.exit 0,[(1, .ptr σ.length 0),(3, .arr (σ.length+1) x.1.length 0 x.1.length),(4, .arr (σ.length+2) x.2.length 0 x.2.length),(5, .int .i64 p.effects.length),(16, .bool false)])) (by simp) (by simp)
  (fun i hi x x' hI hs=>by
    obtain ⟨h1,h2⟩:=eff_len hs
    have hc:=(he _ (List.getElem_mem hi)).1
    rw [h1,List.length_append]
    simp only [List.length_cons,List.length_nil]
    omega)
  (fun i hi x τ hI=>by
    obtain ⟨i1,i2⟩:=hI
    have hw:=wrap_nat (n:=i) (by omega)
    have hei:=he _ (List.getElem_mem hi)
    have heo:=hok.e _ (List.getElem_mem hi)
    obtain ⟨h2,h3⟩:=hdg i hi
    unfold effStep
    rcases x with ⟨nm,cn⟩
    simp only at i1 i2 ⊢
    generalize p.effects[i]=d at*
    rcases d with ⟨dn,ops⟩
    obtain ⟨o1,o2⟩:=heo
    obtain ⟨hc8,hce⟩:=hei
    simp only at o1 o2 hc8 hce ⊢
    obtain ⟨τ1,h86⟩:=it86_0 p hok dn ops o1 (fun o h=>⟨o2 o h,hce o h⟩) σ.length (σ++[Obj.box p.cs]++[rowS (nm++[dn]),rowS cn]++τ).length (σ++[Obj.box p.cs]) (τ++[.box (Eff.cs ⟨dn,ops⟩)]) getA0 (nm++[dn])
     (fun b=>by
       have: (σ++[Obj.box p.cs]++[rowS (nm++[dn]),rowS cn]++τ).length=(σ++[Obj.box p.cs]++[rowS (nm++[dn]),rowS b]++τ).length:=by simp only [List.length_append,List.length_cons,List.length_nil]
       rw [this,←List.append_assoc];exact getA0)
     (.arr (σ.length+1) (nm.length+1) 0 (nm.length+1)) (.int .i64 (i:Nat)) cn (by omega)
    rw [hlen0,←List.append_assoc] at h86
    have hlr: (σ++[Obj.box p.cs]++[rowS (nm++[dn]),rowS cn]++τ).length=(σ++[Obj.box p.cs]++[rowS nm,rowS cn]++τ).length:=by simp only [List.length_append,List.length_cons,List.length_nil]
    rw [hlr] at h86
    have hq1: ∀y,(σ++[Obj.box p.cs]++[rowS nm,rowS cn]++τ++y)[σ.length]? =some (.box p.cs):=fun y=>by simp only [List.append_assoc];exact getA0
    have hq2: ∀y,(σ++[Obj.box p.cs]++[rowS nm,rowS cn]++τ++y)[σ.length+1]? =some (.row 1 (nm.map .str) 0):=fun y=>by simp only [List.append_assoc];exact getA
    have hq0:=hq1 []
    rw [List.append_nil] at hq0
    have h122:=fun y=>h122r nm dn (σ.length+1) _ (hq2 y) (by unfold maxL;omega)
    have hs: ∀y,(σ++[Obj.box p.cs]++[rowS nm,rowS cn]++τ++y).set (σ.length+1) (.row 1 (nm.map .str++[.str dn]) 0)=σ++[Obj.box p.cs]++[rowS (nm++[dn]),rowS cn]++τ++y:=fun y=>by
     simp only [List.append_assoc];rw [setA];simp [rowS]
    have e1: ∀y,∃τ',σ++[Obj.box p.cs]++[rowS nm,rowS cn]++τ++y=σ++[.box p.cs]++τ':=fun y=>⟨_,by simp only [List.append_assoc];rfl⟩
    have hnl: (nm.map D.str).length=nm.length:=by simp
    have hba: (nm.length+1) *16≤140737488355328:=by omega
    rw [←hs] at h86
    simp only [Eff.d,Eff.cs] at*
    cases hh2:hasS nm dn
    ·rw [hh2] at h122
     simp only [Bool.false_eq_true,if_false]
     cases hf:foldS (opnStep p) ops 0 cn with
     |inl b=>
      rw [hf] at h86
      refine ⟨τ++[.box [.str dn, .slice (ops.map Opn.d)]]++τ1, ?_⟩
      simp only [←List.append_assoc] at h86 ⊢
      have hnl2: (nm++[dn]).length=nm.length+1:=by simp
      generalize σ++[Obj.box p.cs]++[rowS (nm++[dn]),rowS b]++τ++[.box [.str dn, .slice (ops.map Opn.d)]]++τ1=σ2 at*
      generalize σ++[Obj.box p.cs]++[rowS nm,rowS cn]++τ=σ1 at*
      generalize ops.map Opn.d=cd at*
      generalize nm.map D.str=nd at*
      generalize p.cs=pc at*
      simp [lp86_1,hq0,hq1,hh1,hpl,hddl,hi,h2,h3,hw,hq2,h122,getA0,setA0,rowOf,fillRow,hnl,hnl2,hba,h86]
     |inr e=>
      rw [hf] at h86
      refine ⟨τ1, ?_⟩
      generalize hs2:σ++[Obj.box p.cs]++τ1=σ2 at*
      generalize hs1:σ++[Obj.box p.cs]++[rowS nm,rowS cn]++τ=σ1 at*
      generalize ops.map Opn.d=cd at*
      generalize nm.map D.str=nd at*
      generalize p.cs=pc at*
      simp [lp86_1,hq0,hq1,hh1,hpl,hddl,hi,h2,h3,hw,hq2,h122,getA0,setA0,rowOf,fillRow,hnl,hba,h86]
    ·rw [hh2] at h122
     obtain ⟨τ',hτ'⟩:=e1 [.box [.str dn, .slice (ops.map Opn.d)]]
     refine ⟨τ', ?_⟩
     simp only [if_true]
     rw [←hτ']
     clear h86 hs e1 hτ'
     generalize σ++[Obj.box p.cs]++[rowS nm,rowS cn]++τ=σ1 at*
     generalize ops.map Opn.d=cd at*
     generalize p.cs=pc at*
     simp [lp86_1,hq0,hq1,hh1,hpl,hddl,hi,h2,h3,hw,h122,getA0,setA0])
  (fun x τ hI=>⟨τ,by
    have hq0: (σ++[Obj.box p.cs]++[rowS x.1,rowS x.2]++τ)[σ.length]? =some (.box p.cs):=by simp only [List.append_assoc];exact getA0
    generalize σ++[Obj.box p.cs]++[rowS x.1,rowS x.2]++τ=σ1 at*
    generalize p.cs=pc at*
    simp [lp86_1,hq0,hh1,hpl,hddl]⟩) x0 [] ⟨by omega,by omega⟩
 obtain ⟨τ',h⟩:=this
 rw [List.append_nil,Int.natCast_zero,List.append_assoc] at h
 have e0: ([Obj.box p.cs]++[rowS x0.1,rowS x0.2]:St)=[.box p.cs,rowS x0.1,rowS x0.2]:=rfl
 simp only at h
 rw [e0] at h
 cases hf:foldS (effStep p) p.effects 0 x0 with
 |inl x=>
  rw [hf] at h
  exact ⟨[.box p.cs]++[rowS x.1,rowS x.2]++τ',by rw [←List.append_assoc,←List.append_assoc];exact h⟩
 |inr e=>
  rw [hf] at h
  exact ⟨[.box p.cs]++τ',by rw [←List.append_assoc];exact h⟩
theorem tyE_of_decl {t:Ty} (h:declE1 t=0):t.e=0:=by
 unfold declE1 at h
 split at h
 ·rename_i h1;exact Ty.chk_e h1
 ·rename_i h1;exact absurd h h1
theorem declE_mem: ∀ {l:List Ty} {t:Ty},declE l=0→t ∈ l→t.e=0:=by
 intro l t h ht
 unfold declE at h
 rw [firstE_zero] at h
 exact tyE_of_decl (h _ (List.mem_map_of_mem ht))
theorem c85 (p:Prg) (hok:p.ok) (hdl:p.data.length≤12) (hd: ∀d ∈ p.data,d.cons.length≤8∧ ∀c ∈ d.cons,∀t ∈ c.args,t.e=0) (σ:St):
 CI (.fn 85) [.agg p.cs] σ=some (.ret (.int .i64 (match foldS (datStep p) p.data 0 (builtins,[]) with| .inl _=>0| .inr e=>e)),σ):=by
 obtain ⟨τ,hit⟩:=it85_2 p hok hdl hd σ
 have hall:=p.cs_all
 have hτ:bodyI CI XB GI af85 [.agg p.cs] σ=some (.ret (.int .i64 (match foldS (datStep p) p.data 0 (builtins,[]) with| .inl _=>0| .inr e=>e)),σ++τ):=by
  cases hf:foldS (datStep p) p.data 0 (builtins,[]) with
  |inl x=>
   rw [hf] at hit
   have e0: ∀x,([x,rowS [],rowS []]:St)=[x, .row 1 [] 0, .row 1 [] 0]:=fun _=>rfl
   rw [e0] at hit
   generalize p.cs=pc at*
   simp [bodyI,af85,hall,hit]
  |inr e=>
   rw [hf] at hit
   have e0: ∀x,([x,rowS [],rowS []]:St)=[x, .row 1 [] 0, .row 1 [] 0]:=fun _=>rfl
   rw [e0] at hit
   generalize p.cs=pc at*
   simp [bodyI,af85,hall,hit]
 exact CI_tree tab85 hτ rfl rfl
theorem c86 (p:Prg) (hok:p.ok) (hel:p.effects.length≤12) (he: ∀e ∈ p.effects,e.ops.length≤8∧ ∀o ∈ e.ops,o.arg.e=0∧o.res.e=0) (σ:St):
 CI (.fn 86) [.agg p.cs] σ=some (.ret (.int .i64 (match foldS (effStep p) p.effects 0 ([nIO],[nPrint,nRead]) with| .inl _=>0| .inr e=>e)),σ):=by
 obtain ⟨τ,hit⟩:=it86_1 p hok hel he σ ([nIO],[nPrint,nRead]) (by decide) (by decide)
 have hall:=p.cs_all
 have hτ:bodyI CI XB GI af86 [.agg p.cs] σ=some (.ret (.int .i64 (match foldS (effStep p) p.effects 0 ([nIO],[nPrint,nRead]) with| .inl _=>0| .inr e=>e)),σ++τ):=by
  simp only [rowS,nIO,nPrint,nRead,List.map_cons,List.map_nil,List.length_cons,List.length_nil] at hit ⊢
  cases hf:foldS (effStep p) p.effects 0 ([[73,79]],[[112,114,105,110,116],[114,101,97,100]]) with
  |inl x=>
   rw [hf] at hit
   generalize p.cs=pc at*
   simp [bodyI,af86,hall,fillRow,fillD,putCells,hit]
  |inr e=>
   rw [hf] at hit
   generalize p.cs=pc at*
   simp [bodyI,af86,hall,fillRow,fillD,putCells,hit]
 exact CI_tree tab86 hτ rfl rfl
theorem c29 (p:Prg) (hok:p.ok) (σ:St):CI (.fn 29) [.agg p.cs] σ=some (.ret (.int .i64 p.decls),σ):=by
 have h84:=fun σ=>c84 p.bare (Prg.bare_ok hok) σ
 have hcs:p.bare.cs=[.slice (p.data.map Dat.d), .slice (p.effects.map Eff.d), .slice [], .int .i64 3, .int .i64 0, .str [], .str [], .slice [], .slice [], .slice []]:=rfl
 rw [hcs] at h84
 have hall:=p.cs_all
 have hpl:=p.cs_len
 have hpt:=p.cs_take
 have hg0:p.cs.head?=some (.slice (p.data.map Dat.d)):=by rw [p.cs_eq];rfl
 have hg1:p.cs[1]? =some (.slice (p.effects.map Eff.d)):=by rw [p.cs_eq];rfl
 have hh1: ∀h:1<p.cs.length,p.cs[1]= .slice (p.effects.map Eff.d):=fun h=>by rw [List.getElem?_eq_getElem h] at hg1;exact Option.some.inj hg1
 have hτ:bodyI CI XB GI af29 [.agg p.cs] σ=some (.ret (.int .i64 p.decls),σ++[.box p.cs]):=by
  unfold Prg.decls orE
  by_cases hs:p.bare.syn=0
  ·obtain ⟨hs1,hs2,_,hs3,hs4,_⟩:=Prg.syn_data hs
   have hd: ∀d ∈ p.data,d.cons.length≤8∧ ∀c ∈ d.cons,∀t ∈ c.args,t.e=0:=fun d hdm=>by
    obtain ⟨_,a2,_,_,a5⟩:=datE_cons (hs3 d hdm)
    refine ⟨a2,fun c hc t ht=> ?_⟩
    have:=a5 c hc
    unfold conE at this
    split at this
    ·cases this
    ·split at this
     ·exact declE_mem this ht
     ·cases this
   have he: ∀e ∈ p.effects,e.ops.length≤8∧ ∀o ∈ e.ops,o.arg.e=0∧o.res.e=0:=fun e hem=>by
    obtain ⟨a1,_,a3⟩:=effE_ops (hs4 e hem)
    refine ⟨a1,fun o ho=> ?_⟩
    have:=a3 o ho
    unfold opnE at this
    split at this
    ·exact ⟨declE_mem this (by simp),declE_mem this (by simp)⟩
    ·cases this
   have h85:=fun σ=>c85 p hok hs1 hd σ
   have h86:=fun σ=>c86 p hok hs2 he σ
   rw [hs] at h84
   rw [if_pos hs]
   unfold Prg.ordE
   generalize p.data.map Dat.d=dd at*
   generalize p.effects.map Eff.d=ed at*
   cases hf1:foldS (datStep p) p.data 0 (builtins,[]) with
   |inr e=>
    have hne:e≠0:=foldS_inr (P:=fun e=>e≠0) _ (fun _ _ _ _ _ h=>datStep_ne h) _ _ _ hf1
    have hne': (e==0)=false:=by simpa using hne
    rw [hf1] at h85
    generalize p.cs=pc at*
    simp [bodyI,af29,getA0,hall,hpl,hpt,hg0,hh1,fillD,putCells,h84,h85,hne']
   |inl x=>
    rw [hf1] at h85
    simp only at h85 ⊢
    cases hf2:foldS (effStep p) p.effects 0 ([nIO],[nPrint,nRead]) with
    |inr e=>
     rw [hf2] at h86
     generalize p.cs=pc at*
     simp [bodyI,af29,getA0,hall,hpl,hpt,hg0,hh1,fillD,putCells,h84,h85,h86]
    |inl y=>
     rw [hf2] at h86
     generalize p.cs=pc at*
     simp [bodyI,af29,getA0,hall,hpl,hpt,hg0,hh1,fillD,putCells,h84,h85,h86]
  ·rw [if_neg hs]
   have hs': (p.bare.syn==0)=false:=by simpa using hs
   generalize p.bare.syn=z at*
   generalize p.data.map Dat.d=dd at*
   generalize p.effects.map Eff.d=ed at*
   generalize p.cs=pc at*
   simp [bodyI,af29,getA0,hall,hpl,hpt,hg0,hh1,fillD,putCells,h84,hs']
 exact CI_tree tab29 hτ rfl rfl
theorem find_all {α:Type} (l:List α) (Q:α→Bool): (l.find? (fun a=> !Q a)).isNone=l.all Q:=by
 induction l with
 |nil=>rfl
 |cons a r ih=>rw [List.find?_cons,List.all_cons];cases h:Q a<;>simp [ih]
theorem Ty.cl_eq2 (p:Int→Bool) (k n:Int) (s:Bs) (l:List Ty) (ls:List Lab) (tail:Int): (Ty.mk k n s l ls tail).cl p=(!(k==0|| (k==5&&p tail))&&(ls.all (fun x=>x.n==0)&&l.all (fun t=>t.cl p))):=by
 simp only [Ty.cl,tysCl_all,Bool.and_assoc]
set_option maxHeartbeats 1000000 in
theorem c116: ∀ (t:Ty),t.ok→ ∀ (σ:St),CI (.fn 116) [.agg t.cs] σ=some (.ret (.bool (t.cl tailC)),σ)
 | .mk k n s l ls tail,hok,σ=>by
  obtain ⟨hl1,hl2,hl3⟩:=hok
  have ih:=fun x (hx:x ∈ l) σ=>c116 x (tysOk_mem hl3 hx) σ
  obtain ⟨ld,hld,hll,hlg⟩:=opq Ty.d l
  obtain ⟨sd,hsd,hsl,hsg⟩:=opq Lab.d ls
  have hcs: (Ty.mk k n s l ls tail).cs=[.int .i64 k, .int .i64 n, .str s, .slice ld, .slice sd, .int .i64 tail]:=by simp only [Ty.cs,tysD_map,hld,hsd]
  rw [hcs]
  have hit0:=loop_seek (f:=evalI CI XB GI 44 false lp116_0) (σ:=σ++[.box [.int .i64 k, .int .i64 n, .str s, .slice ld, .slice sd, .int .i64 tail]]) ls (fun i=>[(1, .ptr σ.length 0),(23, .slice sd),(24, .int .i64 ls.length),(25, .int .i64 (i:Nat))]) (fun x=> !(x.n==0)) (fun _=>(.ret,[(2, .bool false)])) (.exit 0,[(1, .ptr σ.length 0),(23, .slice sd),(24, .int .i64 ls.length),(25, .int .i64 ls.length),(26, .bool false)]) (by simp) (by simp)
   (fun i hi τ=>by
     have hw:=wrap_nat (n:=i) (by unfold maxL at*;omega)
     obtain ⟨h2,h3⟩:=hsg i hi
     have hii: (i:Int) <ls.length:=by omega
     refine ⟨τ++[.box [.str ls[i].s, .int .i64 ls[i].n]], ?_⟩
     rw [←List.append_assoc]
     unfold Lab.d at h3
     generalize ls[i].s=xs at*
     generalize ls[i].n=xn at*
     generalize σ++[Obj.box [.int .i64 k, .int .i64 n, .str s, .slice ld, .slice sd, .int .i64 tail]]++τ=σ1 at*
     by_cases hx:xn=0
     ·subst hx
      simp [lp116_0,hi,hii,hw,h2,h3,getA0,setA0]
     ·have hx1: (xn==0)=false:=by simpa using hx
      have hx2: (xn != 0)=true:=by simpa using hx
      simp [lp116_0,hi,hii,hw,h2,h3,getA0,setA0,hx,hx1,hx2]) (fun τ=>⟨τ,by simp [lp116_0]⟩)
  have hit1:=loop_seek (f:=evalI CI XB GI 44 false lp116_1) (σ:=σ++[.box [.int .i64 k, .int .i64 n, .str s, .slice ld, .slice sd, .int .i64 tail]]) l (fun i=>[(34, .slice ld),(35, .int .i64 l.length),(36, .int .i64 (i:Nat))]) (fun x=> !(x.cl tailC)) (fun _=>(.ret,[(2, .bool false)])) (.exit 2,[(34, .slice ld),(35, .int .i64 l.length),(36, .int .i64 l.length),(37, .bool false)]) (by simp) (by simp)
   (fun i hi τ=>by
     have hw:=wrap_nat (n:=i) (by unfold maxL at*;omega)
     obtain ⟨h2,h3⟩:=hlg i hi
     have ih:=ih l[i] (List.getElem_mem hi)
     have hii: (i:Int) <l.length:=by omega
     have y1:=l[i].cs_len
     have y2:=l[i].cs_take
     have y3:l[i].cs.all D.one=true:=by cases l[i];rfl
     refine ⟨τ++[.box l[i].cs], ?_⟩
     rw [←List.append_assoc]
     unfold Ty.d at h3
     generalize l[i].cl tailC=b at*
     generalize l[i].cs=xc at*
     generalize σ++[Obj.box [.int .i64 k, .int .i64 n, .str s, .slice ld, .slice sd, .int .i64 tail]]++τ=σ1 at*
     cases b<;>simp [lp116_1,hi,hii,hw,h2,h3,getA0,setA0,y1,y2,y3,ih]) (fun τ=>⟨τ,by simp [lp116_1]⟩)
  rw [Int.natCast_zero] at hit0 hit1
  obtain ⟨τ,hit0⟩:=hit0 []
  rw [List.append_nil] at hit0
  obtain ⟨τ',hit1⟩:=hit1 τ
  have hf0:=find_all ls (fun x=>x.n==0)
  have hf1:=find_all l (fun t=>t.cl tailC)
  obtain ⟨τ2,hτ⟩: ∃τ2,bodyI CI XB GI af116 [.agg [.int .i64 k, .int .i64 n, .str s, .slice ld, .slice sd, .int .i64 tail]] σ=some (.ret (.bool ((Ty.mk k n s l ls tail).cl tailC)),σ++τ2):=by
   rw [Ty.cl_eq2,←hf0,←hf1]
   have rest: (k==0)=false→((k==5)&&(tail != -1))=false→ ∃τ2,bodyI CI XB GI af116 [.agg [.int .i64 k, .int .i64 n, .str s, .slice ld, .slice sd, .int .i64 tail]] σ=some (.ret (.bool ((ls.find? (fun a=> !(a.n==0))).isNone&&(l.find? (fun a=> !(a.cl tailC))).isNone)),σ++τ2):=by
    intro hk hk5
    have hg: ∀y,(σ++[Obj.box [.int .i64 k, .int .i64 n, .str s, .slice ld, .slice sd, .int .i64 tail]]++y)[σ.length]? =some (.box [.int .i64 k, .int .i64 n, .str s, .slice ld, .slice sd, .int .i64 tail]):=fun y=>by rw [List.append_assoc];exact getA0
    have hg0:=hg []
    rw [List.append_nil] at hg0
    cases hc0:ls.find? (fun a=> !(a.n==0)) with
    |some a=>
     rw [hc0] at hit0
     refine ⟨[.box [.int .i64 k, .int .i64 n, .str s, .slice ld, .slice sd, .int .i64 tail]]++τ, ?_⟩
     rw [←List.append_assoc]
     cases h5:k==5
     ·simp [bodyI,af116,getA0,hk,h5,hll,hsl,hit0]
     ·rw [h5] at hk5
      have ht: (tail != -1)=false:=by simpa using hk5
      simp [bodyI,af116,getA0,hk,h5,ht,hll,hsl,hit0]
    |none=>
     rw [hc0] at hit0
     have hg1:=hg τ
     refine ⟨[.box [.int .i64 k, .int .i64 n, .str s, .slice ld, .slice sd, .int .i64 tail]]++τ', ?_⟩
     rw [←List.append_assoc]
     generalize σ++[Obj.box [.int .i64 k, .int .i64 n, .str s, .slice ld, .slice sd, .int .i64 tail]]++τ=σ1 at*
     generalize σ++[Obj.box [.int .i64 k, .int .i64 n, .str s, .slice ld, .slice sd, .int .i64 tail]]++τ'=σ2 at*
     cases hc1:l.find? (fun a=> !(a.cl tailC)) with
     |some a=>
      rw [hc1] at hit1
      cases h5:k==5
      ·simp [bodyI,af116,getA0,hk,h5,hll,hsl,hit0,hg1,hit1]
      ·rw [h5] at hk5
       have ht: (tail != -1)=false:=by simpa using hk5
       simp [bodyI,af116,getA0,hk,h5,ht,hll,hsl,hit0,hg1,hit1]
     |none=>
      rw [hc1] at hit1
      cases h5:k==5
      ·simp [bodyI,af116,getA0,hk,h5,hll,hsl,hit0,hg1,hit1]
      ·rw [h5] at hk5
       have ht: (tail != -1)=false:=by simpa using hk5
       simp [bodyI,af116,getA0,hk,h5,ht,hll,hsl,hit0,hg1,hit1]
   unfold tailC at*
   cases hk:k==0
   ·cases hk5: (k==5)&&(tail != -1)
    ·obtain ⟨τ2,h⟩:=rest hk hk5
     exact ⟨τ2,by rw [h];rfl⟩
    ·obtain ⟨h5,ht⟩:=Bool.and_eq_true_iff.1 hk5
     refine ⟨[.box [.int .i64 k, .int .i64 n, .str s, .slice ld, .slice sd, .int .i64 tail]], ?_⟩
     simp [bodyI,af116,getA0,hk,h5,ht]
   ·refine ⟨[.box [.int .i64 k, .int .i64 n, .str s, .slice ld, .slice sd, .int .i64 tail]], ?_⟩
    simp [bodyI,af116,getA0,hk]
  exact CI_tree tab116 hτ rfl rfl
termination_by t=>SizeOf.sizeOf t
decreasing_by
 have:=List.sizeOf_lt_of_mem hx
 simp only [Ty.mk.sizeOf_spec]
 omega
theorem it72_0 (k n:Int) (s:Bs) (ld:List D) (ls:List Lab) (hl:ls.length≤maxL) (tail:Int) (q:Nat) (σ:St) (hq:σ[q]? =some (.box [.int .i64 k, .int .i64 n, .str s, .slice ld, .slice (ls.map Lab.d), .int .i64 tail])): ∀ (m i:Nat),i+m=ls.length→ ∀b:Bool,
 iterI (evalI CI XB GI 56 false lp72_0) [(1, .ptr q 0),(3, .bool b),(4, .int .i64 (i:Nat))] σ=
  some (.exit 0,[(1, .ptr q 0),(3, .bool (b&&(ls.drop i).all fun x=>x.n==0)),(4, .int .i64 ls.length),(25, .bool false)],σ):=by
 obtain ⟨sd,hsd,hsl,hsg⟩:=opq Lab.d ls
 rw [hsd] at hq
 intro m
 induction m with
 |zero=>
  intro i hi b
  obtain rfl:i=ls.length:=by omega
  refine iterI_end ?_ (by simp)
  rw [List.drop_length]
  simp [lp72_0,hq,hsl]
 |succ m ih=>
  intro i hi b
  have hlt:i<ls.length:=by omega
  have hii: (i:Int) <ls.length:=by omega
  have hw:=wrap_nat (n:=i) (by unfold maxL at*;omega)
  obtain ⟨h2,h3⟩:=hsg i hlt
  rw [List.drop_eq_getElem_cons hlt,List.all_cons,←Bool.and_assoc,←ih (i+1) (by omega)]
  refine iterI_next ?_
  unfold Lab.d at h3
  generalize ls[i].s=xs at*
  generalize ls[i].n=xn at*
  cases b<;>simp [lp72_0,hq,hsl,hlt,hii,hw,h2,h3]
theorem c72: ∀ (t:Ty),t.ok→ ∀ (σ:St),CI (.fn 72) [.agg t.cs] σ=some (.ret (.bool (t.cl tailC)),σ)
 | .mk k n s l ls tail,hok,σ=>by
  obtain ⟨hl1,hl2,hl3⟩:=hok
  have ih:=fun x (hx:x ∈ l) σ=>c72 x (tysOk_mem hl3 hx) σ
  obtain ⟨ld,hld,hll,hlg⟩:=opq Ty.d l
  have hcs: (Ty.mk k n s l ls tail).cs=[.int .i64 k, .int .i64 n, .str s, .slice ld, .slice (ls.map Lab.d), .int .i64 tail]:=by simp only [Ty.cs,tysD_map,hld]
  rw [hcs]
  have hq: (σ++[Obj.box [.int .i64 k, .int .i64 n, .str s, .slice ld, .slice (ls.map Lab.d), .int .i64 tail]])[σ.length]? =some (.box [.int .i64 k, .int .i64 n, .str s, .slice ld, .slice (ls.map Lab.d), .int .i64 tail]):=getA0
  have it0:=it72_0 k n s ld ls hl2 tail σ.length _ hq ls.length 0 (by omega)
  rw [Int.natCast_zero,List.drop_zero] at it0
  have it1: ∀ (m i:Nat),i+m=l.length→ ∀b:Bool,∃j:Int,iterI (evalI CI XB GI 56 false lp72_1) [(1, .ptr σ.length 0),(3, .bool b),(5, .int .i64 (i:Nat))] (σ++[Obj.box [.int .i64 k, .int .i64 n, .str s, .slice ld, .slice (ls.map Lab.d), .int .i64 tail]])=
   some (.exit 2,[(1, .ptr σ.length 0),(3, .bool (b&&(l.drop i).all fun t=>t.cl tailC)),(5, .int .i64 j),(46, .bool false)],σ++[Obj.box [.int .i64 k, .int .i64 n, .str s, .slice ld, .slice (ls.map Lab.d), .int .i64 tail]]):=by
   intro m
   induction m with
   |zero=>
    intro i hi b
    obtain rfl:i=l.length:=by omega
    refine ⟨l.length,iterI_end ?_ (by simp)⟩
    rw [List.drop_length]
    generalize ls.map Lab.d=sd at*
    simp [lp72_1,hq,hll]
   |succ m ihm=>
    intro i hi b
    have hlt:i<l.length:=by omega
    have hii: (i:Int) <l.length:=by omega
    have hw:=wrap_nat (n:=i) (by unfold maxL at*;omega)
    cases b
    ·refine ⟨i,iterI_end ?_ (by simp)⟩
     generalize ls.map Lab.d=sd at*
     simp [lp72_1,hq,hll,hlt]
    ·obtain ⟨h2,h3⟩:=hlg i hlt
     have ih:=ih l[i] (List.getElem_mem hlt)
     have y1:=l[i].cs_len
     have y2:=l[i].cs_take
     obtain ⟨j,hj⟩:=ihm (i+1) (by omega) (l[i].cl tailC)
     refine ⟨j, ?_⟩
     rw [List.drop_eq_getElem_cons hlt,List.all_cons,Bool.true_and,←hj]
     refine iterI_next ?_
     clear hj it0
     unfold Ty.d at h3
     generalize l[i].cl tailC=b at*
     generalize l[i].cs=xc at*
     generalize ls.map Lab.d=sd at*
     generalize σ++[Obj.box [.int .i64 k, .int .i64 n, .str s, .slice ld, .slice sd, .int .i64 tail]]=σ1 at*
     simp [lp72_1,hq,hll,hlt,hii,hw,h2,h3,y1,y2,ih]
  have it1:=it1 l.length 0 (by omega)
  rw [Int.natCast_zero,List.drop_zero] at it1
  have hτ:bodyI CI XB GI af72 [.agg [.int .i64 k, .int .i64 n, .str s, .slice ld, .slice (ls.map Lab.d), .int .i64 tail]] σ=some (.ret (.bool ((Ty.mk k n s l ls tail).cl tailC)),σ++[Obj.box [.int .i64 k, .int .i64 n, .str s, .slice ld, .slice (ls.map Lab.d), .int .i64 tail]]):=by
   rw [Ty.cl_eq2]
   generalize (ls.all fun x=>x.n==0)=lb at*
   generalize (l.all fun t=>t.cl tailC)=tb at*
   generalize ls.map Lab.d=sd at*
   have fin: ∀b,b= !(k==0|| (k==5&&tailC tail))→(∀j:Int,iterI (evalI CI XB GI 56 false lp72_1) [(1, .ptr σ.length 0),(3, .bool (b&&lb)),(5, .int .i64 0)] (σ++[Obj.box [.int .i64 k, .int .i64 n, .str s, .slice ld, .slice sd, .int .i64 tail]])=
    some (.exit 2,[(1, .ptr σ.length 0),(3, .bool (b&&lb&&tb)),(5, .int .i64 j),(46, .bool false)],σ++[Obj.box [.int .i64 k, .int .i64 n, .str s, .slice ld, .slice sd, .int .i64 tail]])→
     bodyI CI XB GI af72 [.agg [.int .i64 k, .int .i64 n, .str s, .slice ld, .slice sd, .int .i64 tail]] σ=some (.ret (.bool (b&&lb&&tb)),σ++[Obj.box [.int .i64 k, .int .i64 n, .str s, .slice ld, .slice sd, .int .i64 tail]])):=by
    intro b hb j it1
    have it0:=it0 b
    unfold tailC at hb
    cases hk:k==0
    ·have hk': (k != 0)=true:=by rw [bne,hk];rfl
     cases h5:k==5
     ·have h5': (k != 5)=true:=by rw [bne,h5];rfl
      rw [hk,h5] at hb
      have hb:b=true:=hb
      subst hb
      simp only [Bool.true_and,Bool.false_and] at it0 it1 ⊢
      simp [bodyI,af72,getA0,hk',h5',it0,it1]
     ·have h5': (k != 5)=false:=by rw [bne,h5];rfl
      rw [hk,h5] at hb
      cases ht:tail== -1
      ·have ht': (tail != -1)=true:=by rw [bne,ht];rfl
       rw [ht'] at hb
       have hb:b=false:=hb
       subst hb
       simp only [Bool.true_and,Bool.false_and] at it0 it1 ⊢
       simp [bodyI,af72,getA0,hk',h5',ht,it0,it1]
      ·have ht': (tail != -1)=false:=by rw [bne,ht];rfl
       rw [ht'] at hb
       have hb:b=true:=hb
       subst hb
       simp only [Bool.true_and,Bool.false_and] at it0 it1 ⊢
       simp [bodyI,af72,getA0,hk',h5',ht,it0,it1]
    ·have hk': (k != 0)=false:=by rw [bne,hk];rfl
     rw [hk] at hb
     have hb:b=false:=hb
     subst hb
     simp only [Bool.true_and,Bool.false_and] at it0 it1 ⊢
     simp [bodyI,af72,getA0,hk',it0,it1]
   obtain ⟨j,hj⟩:=it1 ((!(k==0|| (k==5&&tailC tail)))&&lb)
   have:=fin _ rfl j hj
   rw [this,Bool.and_assoc]
  exact CI_tree tab72 hτ rfl rfl
termination_by t=>SizeOf.sizeOf t
decreasing_by
 have:=List.sizeOf_lt_of_mem hx
 simp only [Ty.mk.sizeOf_spec]
 omega
def Prg.tyE (p:Prg) (t:Ty):Int:=orE p.decls (orE t.chk (if t.cl tailC then t.ord p [] else 1))
theorem c65 (p:Prg) (m:CMap) (hok:p.ok) (t:Ty) (ht:t.ok) (tb:Nat) (σ:St) (hT:IsT σ tb p m):CI (.fn 65) [.ptr tb 0, .agg t.cs] σ=some (outR (p.tyE t),σ):=by
 have hT2:IsT (σ++[.box t.cs]) tb p m:=hT.app
 have h56:=c56 p m hok tb _ hT2
 have h60:=fun σ=>c60 t ht σ
 have h116:=fun σ=>c116 t ht σ
 have h112:=c112 p m hok.dl hok.el [] (by unfold maxL;simp) .empty (.inr ⟨rfl,rfl⟩) tb t ht _ hT2
 have y1:=t.cs_len
 have y2:=t.cs_take
 have y3:t.cs.all D.one=true:=by cases t;rfl
 refine CI_out tab65 (τ:=[.box t.cs]) ?_
 unfold Prg.tyE orE
 generalize p.decls=z1 at*
 generalize t.chk=z2 at*
 generalize t.cl tailC=b at*
 generalize t.ord p []=z3 at*
 generalize t.cs=tc at*
 by_cases h1:z1=0
 ·subst h1
  rw [outR_zero] at h56
  by_cases h2:z2=0
  ·subst h2
   cases b
   ·simp [bodyI,af65,getA0,y1,y2,y3,h56,h60,h116,c58,c59,outR]
   ·by_cases h3:z3=0
    ·subst h3
     rw [outR_zero] at h112
     simp [bodyI,af65,getA0,y1,y2,y3,h56,h60,h116,h112,c59,outR_zero]
    ·rw [outR_ne h3] at h112
     simp [bodyI,af65,getA0,y1,y2,y3,h56,h60,h116,h112,c59,outR_zero,outR_ne h3]
  ·rw [if_pos rfl,if_neg h2]
   simp [bodyI,af65,getA0,y1,y2,y3,h56,h60,c59,outR_ne h2]
 ·rw [if_neg h1]
  rw [outR_ne h1] at h56
  simp [bodyI,af65,getA0,y1,y2,y3,h56,outR_ne h1]
theorem c100 (p:Prg) (hok:p.ok) (t:Ty) (ht:t.ok) (a b:Nat) (σ:St) (ha:σ[a]? =some (.box p.cs)) (hb:σ[b]? =some (.box t.cs)):CI (.fn 100) [.ptr a 0, .ptr b 0] σ=some (outR (p.tyE t),σ):=by
 obtain ⟨τ1,h55⟩:=c55 p hok.dl hok.d σ
 have hT:=lookS_T p σ τ1
 have e1:lookS p σ p.cm++τ1=σ++([.box p.cs, .map (kvs p.cm), .box (p.cs++[.map (σ.length+1)])]++τ1):=by unfold lookS;rw [List.append_assoc]
 have hb2: (lookS p σ p.cm++τ1)[b]? =some (.box t.cs):=by rw [e1];exact getO hb
 have h65:=c65 p p.cm hok t ht _ _ hT
 have hpl:=p.cs_len
 have hpt:=p.cs_take
 have y1:=t.cs_len
 have y2:=t.cs_take
 have e3:eqbL p.cs p.cs=true:=eqbL_tree _ p.plain.1
 have e4:eqbL t.cs t.cs=true:=eqbL_tree _ t.plain.1
 have q55:qI 55=false:=rfl
 have x55:XB 55=false:=rfl
 have q65:qI 65=false:=rfl
 have x65:XB 65=false:=rfl
 refine CI_out tab100 (τ:=[.box p.cs, .map (kvs p.cm), .box (p.cs++[.map (σ.length+1)])]++τ1) ?_
 rw [←e1]
 generalize lookS p σ p.cm++τ1=σ2 at*
 clear e1
 generalize p.cs=pc at*
 generalize t.cs=tc at*
 generalize p.tyE t=e at*
 by_cases h1:e=0
 ·subst h1
  rw [outR_zero] at h65
  simp [bodyI,af100,ha,hb,hb2,e3,e4,hpl,hpt,y1,y2,h55,h65,outR_zero,q55,x55,q65,x65,Nat.testBit_eq_decide_div_mod_eq]
 ·rw [outR_ne h1] at h65
  simp [bodyI,af100,ha,hb,hb2,e3,e4,hpl,hpt,y1,y2,h55,h65,outR_ne h1,q55,x55,q65,x65,Nat.testBit_eq_decide_div_mod_eq]
theorem c40 (p:Prg) (hok:p.ok) (t:Ty) (ht:t.ok) (σ:St):CI (.fn 40) [.agg p.cs, .agg t.cs] σ=some (.ret (.int .i64 (p.tyE t)),σ):=by
 have h100:=c100 p hok t ht σ.length (σ.length+1) (σ++[.box p.cs, .box t.cs]++[.box [.int .i64 0]]) (by rw [List.append_assoc];exact getA0) (by rw [List.append_assoc];exact getA)
 have h54:=c54 100 [] [.ptr σ.length 0, .ptr (σ.length+1) 0] _ (σ++[Obj.box p.cs,Obj.box t.cs]) h100
 have hτ:bodyI CI XB GI af40 [.agg p.cs, .agg t.cs] σ=some (.ret (.int .i64 (p.tyE t)),σ++[.box p.cs, .box t.cs]):=by
  have h1:=p.cs_all
  have h2:t.cs.all D.one=true:=by cases t;rfl
  generalize p.tyE t=e at*
  generalize p.cs=pc at*
  generalize t.cs=xc at*
  simp [bodyI,af40,h1,h2,h54]
 exact CI_tree tab40 hτ rfl rfl
theorem c23 (p:Prg) (hok:p.ok) (t:Ty) (ht:t.ok) (σ:St):CI (.fn 23) [.agg p.cs, .agg t.cs] σ=some (.ret (.int .i64 (p.tyE t)),σ):=by
 have h29:=fun σ=>c29 p hok σ
 have h71:=fun σ=>c71 t ht σ
 have h72:=fun σ=>c72 t ht σ
 have h73:=fun σ=>c73 p hok.dl hok.el [] (by unfold maxL;simp) .empty (.inr ⟨rfl,rfl⟩) t ht σ
 have hall:=p.cs_all
 have hpl:=p.cs_len
 have hpt:=p.cs_take
 have y1:=t.cs_len
 have y2:=t.cs_take
 have y3:t.cs.all D.one=true:=by cases t;rfl
 have hτ:bodyI CI XB GI af23 [.agg p.cs, .agg t.cs] σ=some (.ret (.int .i64 (p.tyE t)),σ++[.box p.cs, .box t.cs]):=by
  unfold Prg.tyE orE
  by_cases h2:t.chk=0
  ·rw [Ty.ordR_eq p [] t (Ty.chk_e h2)] at h73
   rw [h2] at h71 ⊢
   generalize p.decls=z1 at*
   generalize t.cl tailC=b at*
   generalize t.ord p []=z3 at*
   generalize t.cs=tc at*
   generalize p.cs=pc at*
   by_cases h1:z1=0
   ·subst h1
    cases b<;>simp [bodyI,af23,getA0,getA,hall,hpl,hpt,y1,y2,y3,h29,h71,h72,h73]
   ·have h1': (z1==0)=false:=by simpa using h1
    simp [bodyI,af23,getA0,getA,hall,hpl,hpt,y1,y2,y3,h29,h1,h1']
  ·rw [if_neg h2]
   have h2': (t.chk==0)=false:=by simpa using h2
   generalize p.decls=z1 at*
   generalize t.chk=z2 at*
   generalize t.cs=tc at*
   generalize p.cs=pc at*
   by_cases h1:z1=0
   ·subst h1
    simp [bodyI,af23,getA0,getA,hall,hpl,hpt,y1,y2,y3,h29,h71,h2,h2']
   ·have h1': (z1==0)=false:=by simpa using h1
    simp [bodyI,af23,getA0,getA,hall,hpl,hpt,y1,y2,y3,h29,h1,h1']
 exact CI_tree tab23 hτ rfl rfl
mutual
def Ty.rep (params:List Bs) (args:List Ty):Ty→Ty
 | .mk k n s l ls tail=>if k=1∧0≤indexP params s then args.getD (indexP params s).toNat (.mk k n s l ls tail) else .mk k n s (tysRep params args l) ls tail
def tysRep (params:List Bs) (args:List Ty):List Ty→List Ty
 | []=>[]
 |t::r=>t.rep params args::tysRep params args r
end
theorem tysRep_map (params:List Bs) (args:List Ty): ∀ (l:List Ty),tysRep params args l=l.map (Ty.rep params args)
 | []=>rfl
 |t::r=>by simp only [tysRep,List.map_cons,tysRep_map params args r]
mutual
def Ty.rm:Ty→Int→Int→Bool × Int
 | .mk _ _ _ l _ _,d,n=>if n - 1<0∨d<1 then (false,n - 1) else tysRm l (d - 1) (n - 1)
def tysRm:List Ty→Int→Int→Bool × Int
 | [],_,n=>(true,n)
 |t::r,d,n=>if (t.rm d n).1 then tysRm r d (t.rm d n).2 else (false,(t.rm d n).2)
end
mutual
def Ty.small:Ty→Prop
 | .mk k _ _ l ls _=>l.length≤4∧ls.length≤24∧(k=1→l=[])∧tysSmall l
def tysSmall:List Ty→Prop
 | []=>True
 |t::r=>t.small∧tysSmall r
end
theorem tysSmall_mem: ∀ {l:List Ty} {t:Ty},tysSmall l→t ∈ l→t.small
 |_::_,_,h, .head _=>h.1
 |_::_,_,h, .tail _ hm=>tysSmall_mem h.2 hm
mutual
theorem Ty.small_rep {params:List Bs} {args:List Ty} (ha: ∀a ∈ args,a.small): ∀ (t:Ty),t.small→(t.rep params args).small
 | .mk k n s l ls tail,h=>by
  simp only [Ty.rep]
  split
  ·rw [List.getD_eq_getElem?_getD]
   cases hg:args[(indexP params s).toNat]? with
   |none=>exact h
   |some a=>exact ha a (List.mem_of_getElem? hg)
  ·rename_i hc
   obtain ⟨h1,h2,h3,h4⟩:=h
   refine ⟨by rw [tysRep_map,List.length_map];exact h1,h2,fun hk=>by rw [h3 hk];rfl,tysSmall_rep ha l h4⟩
theorem tysSmall_rep {params:List Bs} {args:List Ty} (ha: ∀a ∈ args,a.small): ∀ (l:List Ty),tysSmall l→tysSmall (tysRep params args l)
 | [],_=>trivial
 |t::r,h=>⟨t.small_rep ha h.1,tysSmall_rep ha r h.2⟩
end
mutual
theorem Ty.small_ok: ∀ (t:Ty),t.small→t.ok
 | .mk k n s l ls tail,h=>⟨by unfold maxL;have:=h.1;omega,by unfold maxL;have:=h.2.1;omega,tysSmall_ok l h.2.2.2⟩
theorem tysSmall_ok: ∀ (l:List Ty),tysSmall l→tysOk l
 | [],_=>trivial
 |t::r,h=>⟨t.small_ok h.1,tysSmall_ok r h.2⟩
end
theorem tnode_few {k n:Int} {s:Bs} {len:Nat} {ls:List Lab} {tail:Int} (h:tnodeE k n s len ls tail=0):len≤4∧(k=1→len=0):=by
 unfold tnodeE at h
 split at h
 ·cases h
 split at h
 ·cases h
 split at h
 ·cases h
 rename_i _ _ hr
 rw [Bool.not_eq_true,Bool.not_eq_false'] at hr
 unfold inR mostT leastT at hr
 simp only [Bool.and_eq_true,decide_eq_true_eq] at hr
 constructor
 ·split at hr<;>(try split at hr)<;>omega
 ·intro hk
  subst hk
  simp at hr
  omega
mutual
theorem Ty.small_of: ∀ (t:Ty) (n d:Int),t.e=0→0≤n→0≤t.left n d→t.small
 | .mk k m s l ls tail,n,d,he,hn,hl=>by
  simp only [Ty.e] at he
  simp only [Ty.left] at hl
  split at he
  ·rename_i ht
   obtain ⟨f1,f2⟩:=tnode_few ht
   split at hl
   ·omega
   ·rename_i hd
    refine ⟨f1,by omega,fun hk=>List.length_eq_zero_iff.1 (f2 hk), ?_⟩
    by_cases hz:n - 1<0
    ·rw [tysLeft_neg _ _ _ hz] at hl;omega
    ·exact tysSmall_of2 l (n - 1) (d - 1) he (by omega) hl
  ·rename_i ht;exact absurd he ht
theorem tysSmall_of2: ∀ (l:List Ty) (n d:Int),tysE l=0→0≤n→0≤tysLeft l n d→tysSmall l
 | [],_,_,_,_,_=>trivial
 |t::r,n,d,he,hn,hl=>by
  simp only [tysE] at he
  simp only [tysLeft] at hl
  rw [if_pos hn] at hl
  split at he
  ·rename_i ht
   by_cases hz:t.left n d<0
   ·rw [tysLeft_neg _ _ _ hz] at hl;omega
   ·exact ⟨Ty.small_of t n d ht hn (by omega),tysSmall_of2 r _ d he (by omega) hl⟩
  ·rename_i ht;exact absurd he ht
end
theorem Ty.small_chk {t:Ty} (h:t.chk=0):t.small:=by
 have he:=Ty.chk_e h
 rw [t.chk_left] at h
 split at h
 ·cases h
 ·exact Ty.small_of t 3000 200 he (by omega) (by omega)
mutual
theorem Ty.rm_left: ∀ (t:Ty),t.small→ ∀ (n d:Int),0≤n→((t.rm d n).1=true↔0≤t.left n d)∧((t.rm d n).1=true→(t.rm d n).2=t.left n d)
 | .mk k m s l ls tail,hs,n,d,hn=>by
  obtain ⟨h1,h2,_,h4⟩:=hs
  simp only [Ty.rm,Ty.left]
  by_cases hd:d<1
  ·rw [if_pos (.inr hd),if_pos (.inl hd)]
   exact ⟨⟨fun h=>(by cases h),fun h=>(by omega)⟩,fun h=>(by cases h)⟩
  ·rw [if_neg (c:=d<1∨24<ls.length) (by omega)]
   by_cases hz:n - 1<0
   ·rw [if_pos (.inl hz),tysLeft_neg _ _ _ hz]
    exact ⟨⟨fun h=>(by cases h),fun h=>(by omega)⟩,fun h=>(by cases h)⟩
   ·rw [if_neg (by omega)]
    exact tysRm_left l h4 (n - 1) (d - 1) (by omega)
theorem tysRm_left: ∀ (l:List Ty),tysSmall l→ ∀ (n d:Int),0≤n→((tysRm l d n).1=true↔0≤tysLeft l n d)∧((tysRm l d n).1=true→(tysRm l d n).2=tysLeft l n d)
 | [],_,n,d,hn=>by
  simp only [tysRm,tysLeft]
  exact ⟨⟨fun _=>hn,fun _=>trivial⟩,fun _=>trivial⟩
 |t::r,hs,n,d,hn=>by
  obtain ⟨h1,h2⟩:=t.rm_left hs.1 n d hn
  simp only [tysRm,tysLeft]
  rw [if_pos hn]
  by_cases ht: (t.rm d n).1=true
  ·rw [if_pos ht,h2 ht]
   exact tysRm_left r hs.2 _ d (h1.1 ht)
  ·rw [if_neg ht,tysLeft_neg _ _ _ (by have:=mt h1.2 ht;omega)]
   exact ⟨⟨fun h=>(by cases h),fun h=>absurd (h1.2 h) ht⟩,fun h=>(by cases h)⟩
end
mutual
theorem Ty.rm_in: ∀ (t:Ty) (d n:Int),0≤n→ -1≤(t.rm d n).2∧(t.rm d n).2≤n∧((t.rm d n).1=true→0≤(t.rm d n).2)
 | .mk k m s l ls tail,d,n,hn=>by
  simp only [Ty.rm]
  split
  ·exact ⟨by simp only;omega,by simp only;omega,fun h=>(by cases h)⟩
  ·have:=tysRm_in l (d - 1) (n - 1) (by omega)
   exact ⟨this.1,by omega,this.2.2⟩
theorem tysRm_in: ∀ (l:List Ty) (d n:Int),0≤n→ -1≤(tysRm l d n).2∧(tysRm l d n).2≤n∧((tysRm l d n).1=true→0≤(tysRm l d n).2)
 | [],d,n,hn=>⟨by simp only [tysRm];omega,by simp only [tysRm];omega,fun _=>by simp only [tysRm];exact hn⟩
 |t::r,d,n,hn=>by
  have h1:=t.rm_in d n hn
  simp only [tysRm]
  split
  ·rename_i ht
   have:=tysRm_in r d _ (h1.2.2 ht)
   exact ⟨this.1,by omega,this.2.2⟩
  ·exact ⟨h1.1,h1.2.1,fun h=>(by cases h)⟩
end
theorem rep_tnode {params:List Bs} {args:List Ty} : ∀ (l:List Ty),(tysRep params args l).length=l.length:=fun l=>by rw [tysRep_map,List.length_map]
mutual
theorem Ty.rep_e {params:List Bs} {args:List Ty} (ha: ∀a ∈ args,a.e=0): ∀ (t:Ty),t.e=0→(t.rep params args).e=0
 | .mk k n s l ls tail,h=>by
  simp only [Ty.rep]
  split
  ·rw [List.getD_eq_getElem?_getD]
   cases hg:args[(indexP params s).toNat]? with
   |none=>exact h
   |some a=>exact ha a (List.mem_of_getElem? hg)
  ·simp only [Ty.e] at h ⊢
   rw [rep_tnode]
   split at h
   ·rename_i ht
    rw [if_pos ht]
    exact tysRep_e ha l h
   ·rename_i ht;exact absurd h ht
theorem tysRep_e {params:List Bs} {args:List Ty} (ha: ∀a ∈ args,a.e=0): ∀ (l:List Ty),tysE l=0→tysE (tysRep params args l)=0
 | [],_=>rfl
 |t::r,h=>by
  simp only [tysE,tysRep] at h ⊢
  split at h
  ·rename_i ht
   rw [if_pos (t.rep_e ha ht)]
   exact tysRep_e ha r h
  ·rename_i ht;exact absurd h ht
end
mutual
theorem Ty.rep_nil: ∀ (t:Ty),t.rep [] []=t
 | .mk k n s l ls tail=>by
  simp only [Ty.rep]
  have: ¬(k=1∧0≤indexP [] s):=by
   rintro ⟨_,h⟩
   unfold indexP at h
   simp at h
  rw [if_neg this,tysRep_nil l]
theorem tysRep_nil: ∀ (l:List Ty),tysRep [] [] l=l
 | []=>rfl
 |t::r=>by simp only [tysRep,t.rep_nil,tysRep_nil r]
end
end Go.AI
