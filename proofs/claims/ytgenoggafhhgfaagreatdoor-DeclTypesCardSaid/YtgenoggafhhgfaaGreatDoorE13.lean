/- Texts of the proof: what functions of the program compute, step by step. No conditions of its own. -/
import Derived.Test.YtgenoggafhhgfaaGreatDoorE12
import Derived.Test.YtgenoggafhhgfaaGreatDoorE11
import Derived.Test.YtgenoggafhhgfaaGreatDoorE10
set_option linter.unusedVariables false
set_option linter.unusedSimpArgs false
namespace Go.AI
open Go Go.Proofs Go.Lx
set_option maxRecDepth 100000
theorem setAs {σ τ:St} {i k:Nat} {o o':Obj} : (σ.set i o++τ).set (σ.length+k) o'=σ.set i o++τ.set k o':=by
 have:σ.length=(σ.set i o).length:=by simp
 rw [this];exact setA
theorem k89 {pd:D} {l:List Bs} (h:StrsD pd l) (hl:l.length≤maxL) (s:Bs) (σ:St):CI (.fn 89) [pd, .str s] σ=some (.ret (.int .i64 (indexP l s)),σ):=by
 rcases h with rfl| ⟨rfl,rfl⟩
 ·exact c89 l s σ hl
 ·refine CI_tree0 tab89 (d:= .int .i64 (-1)) ?_ rfl rfl
  have hit:iterI (evalI CI XB GI 19 false lp89_0) [(0, .empty),(1, .str s),(7, .int .i64 0),(8, .int .i64 0)] σ=some (.exit 0,[(0, .empty),(1, .str s),(7, .int .i64 0),(8, .int .i64 0),(9, .bool false)],σ):=iterI_end (by simp [lp89_0]) (by simp)
  simp [bodyI,af89,hit]
theorem indexP_lt (l:List Bs) (s:Bs) (h:0≤indexP l s): ∃i:Nat,indexP l s=i∧i<l.length:=by
 unfold indexP at*
 cases hf:l.findIdx? (· ==s) with
 |none=>rw [hf] at h;simp at h
 |some i=>exact ⟨i,rfl,(List.findIdx?_eq_some_iff_getElem.1 hf).1⟩
def res61 (t:Ty) (d n:Int) (i:Nat) (σ:St):Option (FRes × St):=some ((if (t.rm d n).1 then .ret (.agg t.cs) else .panic (refD 3)),σ.set i (.box [.int .i64 (t.rm d n).2]))
def put61 (pd ad:D) (t u:Ty):Prop:= ∀ (d n:Int) (i:Nat) (σ:St),σ[i]? =some (.box [.int .i64 n])→0≤n→n≤3000→0≤d→d≤200→CI (.fn 61) [.ptr i 0, .agg t.cs,pd,ad, .int .i64 d] σ=res61 u d n i σ
def ArgsD (ad:D) (args:List Ty):Prop:=ad= .slice (args.map Ty.d)∨(ad= .empty∧args=[])
set_option maxHeartbeats 1000000 in
theorem it61 (params:List Bs) (args:List Ty) (pd ad:D) (l:List Ty) (hl:l.length≤4) (d:Int) (hd0:1≤d) (hd1:d≤200) (i:Nat) (σ:St) (hi:i<σ.length) (tc:List D)
 (ih: ∀x ∈ l,put61 pd ad x (x.rep params args)): ∀ (r pre:List Ty),pre++r=l→ ∀ (b:Int) (es:List D) (since:Nat) (τ:St),0≤b→b≤3000→since≤l.length→es=pre.map (fun x=>(x.rep params args).d)++List.replicate r.length (.agg z6)→
 ∃τ' ev since',since'≤l.length∧iterI (evalI CI XB GI 90 false lp61_0) [(0, .ptr i 0),(2,pd),(3,ad),(4, .int .i64 d),(6, .ptr σ.length 0),(10, .ptr (σ.length+1) 0),(12, .arr (σ.length+2) l.length 0 l.length),(56, .slice (l.map Ty.d)),(57, .int .i64 l.length),(58, .int .i64 pre.length)] (σ.set i (.box [.int .i64 b])++([.box tc, .box z6, .row 6 es since]++τ))=
  some (if (tysRm (tysRep params args r) (d - 1) b).1 then (.exit 0,[(0, .ptr i 0),(2,pd),(3,ad),(4, .int .i64 d),(6, .ptr σ.length 0),(10, .ptr (σ.length+1) 0),(12, .arr (σ.length+2) l.length 0 l.length),(56, .slice (l.map Ty.d)),(57, .int .i64 l.length),(58, .int .i64 l.length),(59, .bool false)],σ.set i (.box [.int .i64 (tysRm (tysRep params args r) (d - 1) b).2])++([.box tc, .box z6, .row 6 (l.map fun x=>(x.rep params args).d) since']++τ'))
   else (.panic (refD 3),ev,σ.set i (.box [.int .i64 (tysRm (tysRep params args r) (d - 1) b).2])++τ'))
 | [],pre,hp,b,es,since,τ,hb0,hb1,hs,he=>by
  obtain rfl:pre=l:=by rw [←hp];simp
  refine ⟨τ,[],since,hs,iterI_end ?_ (by simp [tysRm,tysRep])⟩
  have hes:es=pre.map fun x=>(x.rep params args).d:=by rw [he];simp
  rw [hes]
  simp only [tysRep,tysRm,if_true]
  generalize σ.set i (.box [.int .i64 b])++([.box tc, .box z6, .row 6 (pre.map fun x=>(x.rep params args).d) since]++τ)=σ1 at*
  generalize pre.map Ty.d=ld at*
  simp [lp61_0]
 |x::r,pre,hp,b,es,since,τ,hb0,hb1,hs,he=>by
  have hxl:x ∈ l:=by rw [←hp];simp
  have hpl:pre.length<l.length:=by rw [←hp];simp
  have hput:=ih x hxl (d - 1) b i (σ.set i (.box [.int .i64 b])++([.box tc, .box z6, .row 6 es since]++τ++[.box x.cs])) (getSs hi) hb0 hb1 (by omega) (by omega)
  have hbr:=(x.rep params args).rm_in (d - 1) b hb0
  have hlen:es.length=l.length:=by rw [he,←hp];simp
  have hat:es[pre.length]? =some (.agg z6):=by
   rw [he,List.getElem?_append_right (by simp)];simp
  have hset:es.set pre.length (.agg (x.rep params args).cs)=(pre++[x]).map (fun x=>(x.rep params args).d)++List.replicate r.length (.agg z6):=by
   rw [he,List.set_append_right _ _ (by simp)]
   simp [List.replicate_succ,Ty.d]
  obtain ⟨ld,hld,hll,hlg⟩:=opq Ty.d l
  obtain ⟨h2,h3⟩:=hlg pre.length hpl
  have hlx:l[pre.length]=x:=by
   have:l[pre.length]? =some x:=by rw [←hp];simp
   rw [List.getElem?_eq_getElem hpl] at this;exact Option.some.inj this
  rw [hlx] at h3
  have ih2:=it61 params args pd ad l hl d hd0 hd1 i σ hi tc ih r (pre++[x]) (by rw [←hp];simp) ((x.rep params args).rm (d - 1) b).2 (es.set pre.length (.agg (x.rep params args).cs)) l.length (τ++[.box x.cs])
  rw [hld] at ih2 ⊢
  have hw:=wrap_nat (n:=pre.length) (by omega)
  have hwd:IntKind.i64.wrap (d - 1)=d - 1:=wrap_i64 (by omega) (by omega)
  have hii: (pre.length:Int) <l.length:=by omega
  have y1:=x.cs_len
  have y2:=x.cs_take
  have y3:x.cs.all D.one=true:=by cases x;rfl
  have w1:=(x.rep params args).cs_len
  have w2: (x.rep params args).cs.all D.one=true:=by cases x.rep params args;rfl
  unfold res61 at hput
  rw [setSs hi] at hput
  simp only [tysRep,tysRm]
  have hrow: ∀ (c:Int) (y:St),(σ.set i (.box [.int .i64 c])++([Obj.box tc, .box z6, .row 6 es since]++τ++y))[σ.length+2]? =some (.row 6 es since):=fun c y=>by rw [List.append_assoc];exact getAs
  have hrs: ∀ (c:Int) (y:St) (o:Obj),(σ.set i (.box [.int .i64 c])++([Obj.box tc, .box z6, .row 6 es since]++τ++y)).set (σ.length+2) o=σ.set i (.box [.int .i64 c])++([.box tc, .box z6,o]++(τ++y)):=fun c y o=>by rw [List.append_assoc,setAs];rfl
  have e0: ∀ (c:Int),σ.set i (.box [.int .i64 c])++([Obj.box tc, .box z6, .row 6 es since]++τ++[Obj.box x.cs])=σ.set i (.box [.int .i64 c])++([.box tc, .box z6, .row 6 es since]++τ)++[Obj.box x.cs]:=fun c=>by simp
  have hput0:=hput
  rw [e0] at hput
  unfold Ty.d at h3
  by_cases hok: ((x.rep params args).rm (d - 1) b).1=true
  ·obtain ⟨τ',ev,since',hs',ih2⟩:=ih2 (hbr.2.2 hok) (by omega) (Nat.le_refl _) hset
   refine ⟨τ',ev,since',hs', ?_⟩
   simp only [if_pos hok] at hput ⊢
   have e1: (pre++[x]).length=pre.length+1:=by simp
   rw [e1] at ih2
   rw [←ih2]
   refine iterI_next ?_
   have hr2:=hrs ((x.rep params args).rm (d - 1) b).2 [.box x.cs] (.row 6 (es.set pre.length (.agg (x.rep params args).cs)) l.length)
   have hr1:=hrow ((x.rep params args).rm (d - 1) b).2 [.box x.cs]
   rw [←hr2]
   clear ih2 hr2 hrs hrow hset he e0 hput0
   generalize σ.set i (.box [.int .i64 ((x.rep params args).rm (d - 1) b).2])++([.box tc, .box z6, .row 6 es since]++τ++[Obj.box x.cs])=σ2 at*
   generalize σ.set i (.box [.int .i64 b])++([.box tc, .box z6, .row 6 es since]++τ)=σ1 at*
   generalize x.cs=xc at*
   generalize (x.rep params args).cs=rc at*
   have hdr:rc.drop 6=[]:=List.drop_eq_nil_of_le (by omega)
   have hes2:pre.length<es.length:=by omega
   have hs2:since≤l.length:=hs
   have hat2:es[pre.length]= .agg z6:=by rw [List.getElem?_eq_getElem hes2] at hat;exact Option.some.inj hat
   simp [lp61_0,hii,hpl,hw,hwd,hll,h2,h3,getA0,setA0,y1,y2,y3,w1,w2,hput,hr1,hlen,hs2,hat2,hdr]
  ·simp only [if_neg hok] at hput ⊢
   have hstep: ∃ev,evalI CI XB GI 90 false lp61_0 [(0, .ptr i 0),(2,pd),(3,ad),(4, .int .i64 d),(6, .ptr σ.length 0),(10, .ptr (σ.length+1) 0),(12, .arr (σ.length+2) l.length 0 l.length),(56, .slice ld),(57, .int .i64 l.length),(58, .int .i64 pre.length)] (σ.set i (.box [.int .i64 b])++([.box tc, .box z6, .row 6 es since]++τ))=
    some (.panic (refD 3),ev,σ.set i (.box [.int .i64 ((x.rep params args).rm (d - 1) b).2])++([.box tc, .box z6, .row 6 es since]++τ++[.box x.cs])):=by
    generalize σ.set i (.box [.int .i64 ((x.rep params args).rm (d - 1) b).2])++([.box tc, .box z6, .row 6 es since]++τ++[Obj.box x.cs])=σ2 at*
    generalize σ.set i (.box [.int .i64 b])++([.box tc, .box z6, .row 6 es since]++τ)=σ1 at*
    generalize x.cs=xc at*
    refine ⟨[(0, .ptr i 0),(2,pd),(3,ad),(4, .int .i64 d),(6, .ptr σ.length 0),(10, .ptr (σ.length+1) 0),(12, .arr (σ.length+2) l.length 0 l.length),(13, .int .i64 pre.length),(14, .ptr σ1.length 0),(56, .slice ld),(57, .int .i64 l.length),(58, .int .i64 pre.length),(66, .agg xc),(70, .int .i64 (d - 1))], ?_⟩
    simp [lp61_0,hii,hpl,hw,hwd,hll,h2,h3,getA0,setA0,y1,y2,y3,hput]
   obtain ⟨ev,hstep⟩:=hstep
   exact ⟨_,ev,since,hs,iterI_end hstep (by simp)⟩
theorem postI_set_rows {q:FuncId→Bool} {f:FuncId} {σ τ:St} {i:Nat} {o:Obj} {d r:D} (ho:o.under σ.length) (hs:strip 16 (σ.set i o++τ) d=some r) (hl: ∀j ∈ leads 16 (σ.set i o++τ) d,σ.length≤j) (hq:q f=false):postI q f σ (some (.ret d,σ.set i o++τ))=some (.ret r.weak,σ.set i o):=by
 have hv:trimV σ.length (σ.set i o++τ) (.ret d)=some (.ret r.weak):=by
  simp only [trimV,hs]
  rw [if_pos (List.all_eq_true.2 fun i hi=>by simpa using hl i hi)]
 rw [postI_ret (keeps_set ho) hv (by simp [hq])]
 have:σ.length=(σ.set i o).length:=by simp
 rw [this,List.take_left]
theorem int_under (n:Int) (m:Nat): (Obj.box [.int .i64 n]).under m:=by simp [Obj.under,underL,D.under]
theorem strip_ty {σ:St} {k n:Int} {s:Bs} {r1 n1 r2 n2:Nat} {tail:Int} {a b:List D} {s1 s2:Nat} (h1:σ[r1]? =some (.row 6 a s1)) (hs1:s1≤a.length) (h2:σ[r2]? =some (.row 2 b s2)) (hs2:s2≤b.length) (hn1:n1=a.length) (hn2:n2=b.length) (ta:treeL a=true) (tb:treeL b=true):
 strip 16 σ (.agg [.int .i64 k, .int .i64 n, .str s, .arr r1 n1 0 n1, .arr r2 n2 0 n2, .int .i64 tail])=some (.agg [.int .i64 k, .int .i64 n, .str s, .slice a, .slice b, .int .i64 tail])∧
  leads 16 σ (.agg [.int .i64 k, .int .i64 n, .str s, .arr r1 n1 0 n1, .arr r2 n2 0 n2, .int .i64 tail])=[r1,r2]:=by
 subst hn1 hn2
 obtain ⟨p1,p2⟩:=strip_row h1 hs1 ta 14
 obtain ⟨q1,q2⟩:=strip_row h2 hs2 tb 14
 constructor
 ·unfold strip
  simp only [D.tree,treeL,Bool.and_true,Bool.true_and,Bool.false_and,Bool.and_false,Bool.false_eq_true,if_false]
  simp only [List.mapM_cons,List.mapM_nil,p1,q1,strip_one 15 σ (.int .i64 _) rfl,strip_one 15 σ (.str _) rfl]
  rfl
 ·unfold leads
  simp only [D.tree,treeL,Bool.and_true,Bool.true_and,Bool.false_and,Bool.and_false,Bool.false_eq_true,if_false]
  simp only [List.flatMap_cons,List.flatMap_nil,p2,q2,leads_one 15 σ (.int .i64 _) rfl,leads_one 15 σ (.str _) rfl]
  rfl
set_option maxHeartbeats 2000000 in
theorem c61g (params:List Bs) (args:List Ty) (pd ad:D) (hpd:StrsD pd params) (had:ArgsD ad args) (hpl:params.length≤4) (hpa:params.length=args.length)
 (hsub: ∀a ∈ args,a.small∧put61 .empty .empty a a): ∀t:Ty,t.small→put61 pd ad t (t.rep params args)
 | .mk k m s l ls tail,hsm,d,n,i,σ,hσ,hn0,hn1,hd0,hd1=>by
  obtain ⟨hl4,hls,_,hl⟩:=hsm
  have ih:=fun x (hx:x ∈ l)=>c61g params args pd ad hpd had hpl hpa hsub x (tysSmall_mem hl hx)
  have hi:=lt_of_get hσ
  have h89:=fun σ=>k89 hpd (by unfold maxL;omega) s σ
  have hwn:IntKind.i64.wrap (n - 1)=n - 1:=wrap_i64 (by omega) (by omega)
  obtain ⟨ld,hld,hll,hlg⟩:=opq Ty.d l
  obtain ⟨sd,hsd,hsl,hsg⟩:=opq Lab.d ls
  have hcs: (Ty.mk k m s l ls tail).cs=[.int .i64 k, .int .i64 m, .str s, .slice ld, .slice sd, .int .i64 tail]:=by simp only [Ty.cs,tysD_map,hld,hsd]
  rw [hcs]
  by_cases hk:k=1∧0≤indexP params s
  ·obtain ⟨rfl,hix⟩:=hk
   obtain ⟨j,hj,hjl⟩:=indexP_lt params s hix
   have hja:j<args.length:=by omega
   obtain ⟨hasm,hput⟩:=hsub args[j] (List.getElem_mem hja)
   have hget:args.getD (indexP params s).toNat (Ty.mk 1 m s l ls tail)=args[j]:=by rw [hj];simp [hja]
   have hrep: (Ty.mk 1 m s l ls tail).rep params args=args[j]:=by simp only [Ty.rep,hix,and_self,if_true,hget]
   rw [hrep]
   unfold res61
   rw [hj] at h89
   have hput:=hput d n i (σ++[.box [.int .i64 1, .int .i64 m, .str s, .slice ld, .slice sd, .int .i64 tail], .box z6]) (getO hσ) hn0 hn1 hd0 hd1
   unfold res61 at hput
   rw [setO hi] at hput
   have hadd:ad= .slice (args.map Ty.d):=by
    rcases had with h| ⟨_,h⟩
    ·exact h
    ·rw [h] at hja;simp at hja
   obtain ⟨rd,hrd,hrl,hrg⟩:=opq Ty.d args
   obtain ⟨h2,h3⟩:=hrg j hja
   rw [hrd] at hadd
   subst hadd
   have y1:=args[j].cs_len
   have y2:=args[j].cs_take
   have y3:args[j].cs.all D.one=true:=by cases args[j];rfl
   have yp:=args[j].plain.agg
   have hj0: (0:Int)≤(j:Int):=by omega
   have hji: (j:Int) <args.length:=by omega
   unfold Ty.d at h3
   by_cases hok: (args[j].rm d n).1=true
   ·rw [if_pos hok] at hput ⊢
    have hτ:bodyI CI XB GI af61 [.ptr i 0, .agg [.int .i64 1, .int .i64 m, .str s, .slice ld, .slice sd, .int .i64 tail],pd, .slice rd, .int .i64 d] σ=some (.ret (.agg args[j].cs),σ.set i (.box [.int .i64 (args[j].rm d n).2])++[.box [.int .i64 1, .int .i64 m, .str s, .slice ld, .slice sd, .int .i64 tail], .box args[j].cs]):=by
     generalize args[j].cs=xc at*
     generalize (args[j].rm d n).2=n2 at*
     simp [bodyI,af61,getA0,getA,h89,hj0,hji,hja,hrl,h2,h3,y1,y2,y3,hput,getAs,setAs,getAs0]
    refine CI_fn tab61 hτ ?_
    rw [postI_set (int_under _ _) yp.1 rfl,yp.2]
   ·rw [if_neg hok] at hput ⊢
    have hτ:bodyI CI XB GI af61 [.ptr i 0, .agg [.int .i64 1, .int .i64 m, .str s, .slice ld, .slice sd, .int .i64 tail],pd, .slice rd, .int .i64 d] σ=some (.panic (refD 3),σ.set i (.box [.int .i64 (args[j].rm d n).2])++[.box [.int .i64 1, .int .i64 m, .str s, .slice ld, .slice sd, .int .i64 tail], .box z6]):=by
     generalize args[j].cs=xc at*
     generalize (args[j].rm d n).2=n2 at*
     simp [bodyI,af61,getA0,getA,h89,hj0,hji,hja,hrl,h2,h3,y1,y2,y3,hput]
    exact CI_fn tab61 hτ (postI_set_panic (int_under _ _) rfl)
  ·have hrep: (Ty.mk k m s l ls tail).rep params args=Ty.mk k m s (tysRep params args l) ls tail:=by simp only [Ty.rep];rw [if_neg hk]
   rw [hrep]
   have hrm: (Ty.mk k m s (tysRep params args l) ls tail).rm d n=if n - 1<0∨d<1 then (false,n - 1) else tysRm (tysRep params args l) (d - 1) (n - 1):=by simp only [Ty.rm]
   unfold res61
   rw [hrm]
   obtain ⟨j,hj,hcond⟩: ∃j:Int,indexP params s=j∧((k==1)&&decide (0≤j))=false:=⟨_,rfl,by
    rw [Bool.eq_false_iff];intro h;rw [Bool.and_eq_true] at h;exact hk ⟨by simpa using h.1,by simpa using h.2⟩⟩
   rw [hj] at h89
   have hg0: (σ++[Obj.box [.int .i64 k, .int .i64 m, .str s, .slice ld, .slice sd, .int .i64 tail], .box z6])[i]? =some (.box [.int .i64 n]):=getO hσ
   have hse: ∀o,(σ++[Obj.box [.int .i64 k, .int .i64 m, .str s, .slice ld, .slice sd, .int .i64 tail], .box z6]).set i o=σ.set i o++[.box [.int .i64 k, .int .i64 m, .str s, .slice ld, .slice sd, .int .i64 tail], .box z6]:=fun o=>setO hi
   have hgs: ∀o y,(σ.set i o++(y:St))[i]? =some o:=fun o y=>getSs hi
   by_cases hbad:n - 1<0∨d<1
   ·rw [if_pos hbad]
    simp only [Bool.false_eq_true,if_false]
    have hτ:bodyI CI XB GI af61 [.ptr i 0, .agg [.int .i64 k, .int .i64 m, .str s, .slice ld, .slice sd, .int .i64 tail],pd,ad, .int .i64 d] σ=some (.panic (refD 3),σ.set i (.box [.int .i64 (n - 1)])++[.box [.int .i64 k, .int .i64 m, .str s, .slice ld, .slice sd, .int .i64 tail], .box z6]):=by
     cases hk1:k==1
     ·by_cases hb1:n - 1<0
      ·simp [bodyI,af61,getA0,getA,h89,hk1,hg0,hse,hgs,hwn,hb1,c58]
      ·have hb2:d<1:=by omega
       simp [bodyI,af61,getA0,getA,h89,hk1,hg0,hse,hgs,hwn,hb1,hb2,c58]
     ·rw [hk1,Bool.true_and] at hcond
      have hcond': ¬0≤j:=by simpa using hcond
      by_cases hb1:n - 1<0
      ·simp [bodyI,af61,getA0,getA,h89,hk1,hcond',hg0,hse,hgs,hwn,hb1,c58]
      ·have hb2:d<1:=by omega
       simp [bodyI,af61,getA0,getA,h89,hk1,hcond',hg0,hse,hgs,hwn,hb1,hb2,c58]
    exact CI_fn tab61 hτ (postI_set_panic (int_under _ _) rfl)
   ·rw [if_neg hbad]
    have hb1: ¬n - 1<0:=by omega
    have hb2: ¬d<1:=by omega
    have hlm:l.length*88≤140737488355328:=by omega
    have hlm2:l.length≤140737488355328:=by omega
    have hsm:ls.length*24≤140737488355328:=by omega
    have hsm2:ls.length≤140737488355328:=by omega
    obtain ⟨τ,ev,since,hsi,hit⟩:=it61 params args pd ad l hl4 d (by omega) hd1 i σ hi [.int .i64 k, .int .i64 m, .str s, .slice ld, .slice sd, .int .i64 tail] ih l [] rfl (n - 1) (List.replicate l.length (.agg z6)) 0 [] (by omega) (by omega) (by omega) rfl
    rw [hld,List.append_nil,List.length_nil,Int.natCast_zero] at hit
    by_cases hok: (tysRm (tysRep params args l) (d - 1) (n - 1)).1=true
    ·rw [if_pos hok] at hit ⊢
     generalize (tysRm (tysRep params args l) (d - 1) (n - 1)).2=n2 at*
     have hes: (tysRep params args l).map Ty.d=l.map fun x=>(x.rep params args).d:=by rw [tysRep_map,List.map_map];rfl
     have hrcs: (Ty.mk k m s (tysRep params args l) ls tail).cs=[.int .i64 k, .int .i64 m, .str s, .slice (l.map fun x=>(x.rep params args).d), .slice sd, .int .i64 tail]:=by
      simp only [Ty.cs,tysD_map,hes,hsd]
     have hp:=(Ty.mk k m s (tysRep params args l) ls tail).plain.agg
     rw [hrcs] at hp ⊢
     have hel: (l.map fun x=>(x.rep params args).d).length=l.length:=by simp
     have het:treeL (l.map fun x=>(x.rep params args).d)=true:=by
      rw [←hes,←tysD_map];exact (tys_plain _).1
     have hst:treeL sd=true:=by rw [←hsd];exact (PlainL.map fun x _=>x.plain).1
     have hsall: (sd.all fun e=>e.cells.length==2&&e.cells.all D.one)=true:=by
      rw [←hsd,List.all_map];exact List.all_eq_true.2 fun x _=>rfl
     generalize (l.map fun x=>(x.rep params args).d)=es at*
     obtain ⟨s2,hs2,hτ⟩: ∃s2,s2≤sd.length∧bodyI CI XB GI af61 [.ptr i 0, .agg [.int .i64 k, .int .i64 m, .str s, .slice ld, .slice sd, .int .i64 tail],pd,ad, .int .i64 d] σ=
      some (.ret (.agg [.int .i64 k, .int .i64 m, .str s, .arr (σ.length+2) l.length 0 l.length, .arr (σ.length+ (τ.length+3)) ls.length 0 ls.length, .int .i64 tail]),σ.set i (.box [.int .i64 n2])++([.box [.int .i64 k, .int .i64 m, .str s, .arr (σ.length+2) l.length 0 l.length, .arr (σ.length+ (τ.length+3)) ls.length 0 ls.length, .int .i64 tail], .box [.int .i64 k, .int .i64 m, .str s, .arr (σ.length+2) l.length 0 l.length, .arr (σ.length+ (τ.length+3)) ls.length 0 ls.length, .int .i64 tail], .row 6 es since]++(τ++[.row 2 sd s2]))):=by
      simp only [D.cells,D.one] at hsall
      by_cases hz:ls.length=0
      ·have hsd0:sd=[]:=List.length_eq_zero_iff.1 (by omega)
       subst hsd0
       refine ⟨0,by simp, ?_⟩
       cases hk1:k==1
       ·simp [bodyI,af61,getA0,getA,setA0,setA,h89,hk1,hg0,hse,hgs,hwn,hb1,hb2,getAs,getAs0,setAs,hll,hlm,hlm2,hit,hz,rowOf]
       ·rw [hk1,Bool.true_and] at hcond
        have hcond': ¬0≤j:=by simpa using hcond
        simp [bodyI,af61,getA0,getA,setA0,setA,h89,hk1,hcond',hg0,hse,hgs,hwn,hb1,hb2,getAs,getAs0,setAs,hll,hlm,hlm2,hit,hz,rowOf]
      ·refine ⟨ls.length,by omega, ?_⟩
       have hsd0: ¬sd=[]:=by intro h;rw [h] at hsl;simp at hsl;omega
       cases hk1:k==1
       ·simp [bodyI,af61,getA0,getA,setA0,setA,h89,hk1,hg0,hse,hgs,hwn,hb1,hb2,getAs,getAs0,setAs,hll,hlm,hlm2,hit,hz,rowOf,hsl,hsm,hsm2,hsall,hsd0, -List.all_eq_true]
       ·rw [hk1,Bool.true_and] at hcond
        have hcond': ¬0≤j:=by simpa using hcond
        simp [bodyI,af61,getA0,getA,setA0,setA,h89,hk1,hcond',hg0,hse,hgs,hwn,hb1,hb2,getAs,getAs0,setAs,hll,hlm,hlm2,hit,hz,rowOf,hsl,hsm,hsm2,hsall,hsd0, -List.all_eq_true]
     have hpost:=strip_ty (σ:=σ.set i (.box [.int .i64 n2])++([.box [.int .i64 k, .int .i64 m, .str s, .arr (σ.length+2) l.length 0 l.length, .arr (σ.length+ (τ.length+3)) ls.length 0 ls.length, .int .i64 tail], .box [.int .i64 k, .int .i64 m, .str s, .arr (σ.length+2) l.length 0 l.length, .arr (σ.length+ (τ.length+3)) ls.length 0 ls.length, .int .i64 tail], .row 6 es since]++(τ++[.row 2 sd s2]))) (k:=k) (n:=m) (s:=s) (r1:=σ.length+2) (n1:=l.length) (r2:=σ.length+ (τ.length+3)) (n2:=ls.length) (tail:=tail) (a:=es) (b:=sd) (s1:=since) (s2:=s2) (by rw [getAs];rfl) (by omega) (by rw [getAs];simp) hs2 hel.symm hsl.symm het hst
     refine CI_fn tab61 hτ ?_
     rw [postI_set_rows (int_under _ _) hpost.1 (by rw [hpost.2];intro j hj;simp at hj;omega) rfl,hp.2]
    ·rw [if_neg hok] at hit ⊢
     generalize (tysRm (tysRep params args l) (d - 1) (n - 1)).2=n2 at*
     have hτ:bodyI CI XB GI af61 [.ptr i 0, .agg [.int .i64 k, .int .i64 m, .str s, .slice ld, .slice sd, .int .i64 tail],pd,ad, .int .i64 d] σ=some (.panic (refD 3),σ.set i (.box [.int .i64 n2])++τ):=by
      cases hk1:k==1
      ·simp [bodyI,af61,getA0,getA,h89,hk1,hg0,hse,hgs,hwn,hb1,hb2,getAs,getAs0,hll,hlm,hlm2,hit]
      ·rw [hk1,Bool.true_and] at hcond
       have hcond': ¬0≤j:=by simpa using hcond
       simp [bodyI,af61,getA0,getA,h89,hk1,hcond',hg0,hse,hgs,hwn,hb1,hb2,getAs,getAs0,hll,hlm,hlm2,hit]
     exact CI_fn tab61 hτ (postI_set_panic (int_under _ _) rfl)
termination_by t=>SizeOf.sizeOf t
decreasing_by
 have:=List.sizeOf_lt_of_mem hx
 simp only [Ty.mk.sizeOf_spec]
 omega
theorem put_nil (t:Ty) (h:t.small):put61 .empty .empty t t:=by
 have:=c61g [] [] .empty .empty (.inr ⟨rfl,rfl⟩) (.inr ⟨rfl,rfl⟩) (by simp) rfl (fun a ha=>by cases ha) t h
 rw [t.rep_nil] at this
 exact this
theorem c61 (params:List Bs) (args:List Ty) (hpl:params.length≤4) (hpa:params.length=args.length) (ha: ∀a ∈ args,a.small) (t:Ty) (h:t.small):put61 (slD params) (.slice (args.map Ty.d)) t (t.rep params args):=
 c61g params args _ _ (.inl rfl) (.inl rfl) hpl hpa (fun a h=>⟨ha a h,put_nil a (ha a h)⟩) t h
theorem tysD_app (a b:List Ty):tysD (a++b)=tysD a++tysD b:=by simp only [tysD_map,List.map_append]
theorem foldS_rep (params:List Bs) (args:List Ty): ∀ (l:List Ty) (i:Nat) (b:List Ty),foldS (γ:=Unit) (fun _ (t:Ty) b=> .inl (b++[t.rep params args])) l i b= .inl (b++tysRep params args l)
 | [],i,b=>by simp [foldS,tysRep]
 |a::r,i,b=>by simp only [foldS,foldS_rep params args r,tysRep];simp
theorem strip_ty1 {σ:St} {k n:Int} {s:Bs} {r1 n1:Nat} {tail:Int} {a b:List D} {s1:Nat} (h1:σ[r1]? =some (.row 6 a s1)) (hs1:s1≤a.length) (hn1:n1=a.length) (ta:treeL a=true) (tb:treeL b=true) (hne:True):
 strip 16 σ (.agg [.int .i64 k, .int .i64 n, .str s, .arr r1 n1 0 n1, .slice b, .int .i64 tail])=some (.agg [.int .i64 k, .int .i64 n, .str s, .slice a, .slice b, .int .i64 tail])∧
  leads 16 σ (.agg [.int .i64 k, .int .i64 n, .str s, .arr r1 n1 0 n1, .slice b, .int .i64 tail])=[r1]:=by
 subst hn1
 obtain ⟨p1,p2⟩:=strip_row h1 hs1 ta 14
 have tb': (D.slice b).tree=true:=tb
 constructor
 ·unfold strip
  simp only [D.tree,treeL,Bool.and_true,Bool.true_and,Bool.false_and,Bool.and_false,Bool.false_eq_true,if_false]
  simp only [List.mapM_cons,List.mapM_nil,p1,strip_one 15 σ (.int .i64 _) rfl,strip_one 15 σ (.str _) rfl,strip_one 15 σ (.slice b) tb']
  rfl
 ·unfold leads
  simp only [D.tree,treeL,Bool.and_true,Bool.true_and,Bool.false_and,Bool.and_false,Bool.false_eq_true,if_false]
  simp only [List.flatMap_cons,List.flatMap_nil,p2,leads_one 15 σ (.int .i64 _) rfl,leads_one 15 σ (.str _) rfl,leads_one 15 σ (.slice b) tb']
  rfl
set_option maxHeartbeats 1000000 in
theorem c101 (params:List Bs) (args:List Ty) (hpl:params.length≤4) (hpa:params.length=args.length): ∀t:Ty,t.small→ ∀σ,CI (.fn 101) [.agg t.cs,slD params, .slice (args.map Ty.d)] σ=some (.ret (.agg (t.rep params args).cs),σ)
 | .mk k m s l ls tail,hsm,σ=>by
  obtain ⟨hl4,hls,hk1l,hl⟩:=hsm
  have ih:=fun x (hx:x ∈ l) σ=>c101 params args hpl hpa x (tysSmall_mem hl hx) σ
  have h152:=fun σ=>c152 params s σ (by unfold maxL;omega)
  obtain ⟨ld,hld,hll,hlg⟩:=opq Ty.d l
  obtain ⟨sd,hsd,hsl,hsg⟩:=opq Lab.d ls
  obtain ⟨rd,hrd,hrl,hrg⟩:=opq Ty.d args
  have hcs: (Ty.mk k m s l ls tail).cs=[.int .i64 k, .int .i64 m, .str s, .slice ld, .slice sd, .int .i64 tail]:=by simp only [Ty.cs,tysD_map,hld,hsd]
  have hpn:=(Ty.mk k m s l ls tail).plain.agg
  rw [hcs] at hpn ⊢
  rw [hrd] at ih ⊢
  by_cases hk:k=1
  ·subst hk
   by_cases hix:0≤indexP params s
   ·obtain ⟨j,hj,hjl⟩:=indexP_lt params s hix
    have hja:j<args.length:=by omega
    have hget:args.getD (indexP params s).toNat (Ty.mk 1 m s l ls tail)=args[j]:=by rw [hj];simp [hja]
    have hrep: (Ty.mk 1 m s l ls tail).rep params args=args[j]:=by simp only [Ty.rep,hix,and_self,if_true,hget]
    rw [hrep]
    rw [hj] at h152
    obtain ⟨h2,h3⟩:=hrg j hja
    have y1:=args[j].cs_len
    have y2:=args[j].cs_take
    have y3:args[j].cs.all D.one=true:=by cases args[j];rfl
    have yp:=args[j].plain.agg
    have hj0: (0:Int)≤(j:Int):=by omega
    have hji: (j:Int) <args.length:=by omega
    unfold Ty.d at h3
    have hτ:bodyI CI XB GI af101 [.agg [.int .i64 1, .int .i64 m, .str s, .slice ld, .slice sd, .int .i64 tail],slD params, .slice rd] σ=some (.ret (.agg args[j].cs),σ++[.box [.int .i64 1, .int .i64 m, .str s, .slice ld, .slice sd, .int .i64 tail], .box args[j].cs]):=by
     generalize args[j].cs=xc at*
     generalize slD params=pd at*
     simp [bodyI,af101,getA0,getA,setA0,setA,h152,hj0,hji,hja,hrl,h2,h3,y1,y2,y3]
    exact CI_tree tab101 hτ yp.1 yp.2
   ·have hl0:=hk1l rfl
    subst hl0
    have hrep: (Ty.mk 1 m s [] ls tail).rep params args=Ty.mk 1 m s [] ls tail:=by
     simp only [Ty.rep,hix,and_false,if_false,tysRep]
    rw [hrep,hcs]
    have hτ:bodyI CI XB GI af101 [.agg [.int .i64 1, .int .i64 m, .str s, .slice ld, .slice sd, .int .i64 tail],slD params, .slice rd] σ=some (.ret (.agg [.int .i64 1, .int .i64 m, .str s, .slice ld, .slice sd, .int .i64 tail]),σ++[.box [.int .i64 1, .int .i64 m, .str s, .slice ld, .slice sd, .int .i64 tail], .box [.int .i64 1, .int .i64 m, .str s, .slice ld, .slice sd, .int .i64 tail]]):=by
     generalize slD params=pd at*
     generalize indexP params s=j at*
     simp [bodyI,af101,getA0,getA,setA0,setA,h152,hix]
    exact CI_tree tab101 hτ hpn.1 hpn.2
  ·have hk1: (k==1)=false:=by simpa using hk
   have hrep: (Ty.mk k m s l ls tail).rep params args=Ty.mk k m s (tysRep params args l) ls tail:=by simp only [Ty.rep,hk,false_and,if_false]
   rw [hrep]
   have hrcs: (Ty.mk k m s (tysRep params args l) ls tail).cs=[.int .i64 k, .int .i64 m, .str s, .slice (tysD (tysRep params args l)), .slice sd, .int .i64 tail]:=by simp only [Ty.cs,hsd]
   have hp:=(Ty.mk k m s (tysRep params args l) ls tail).plain.agg
   have hrl2: (tysRep params args l).length=l.length:=rep_tnode l
   have htl:=tysD_len (tysRep params args l)
   have htt:=(tys_plain (tysRep params args l)).1
   have hst:treeL sd=true:=by rw [←hsd];exact (PlainL.map fun x _=>x.plain).1
   rw [hrcs] at hp ⊢
   obtain ⟨τ,hit⟩:=loop_foldS (γ:=Unit) (f:=evalI CI XB GI 45 false lp101_0) l (fun j b=>[(1,slD params),(2, .slice rd),(3, .ptr σ.length 0),(6, .ptr (σ.length+1) 0),(8, .arr (σ.length+2) b.length 0 b.length),(9, .int .i64 (j:Nat))])
    (fun b=>σ++[.box [.int .i64 k, .int .i64 m, .str s, .slice ld, .slice sd, .int .i64 tail], .box z6, .row 6 (tysD b) 0]) (fun j b=>b.length=j) (fun _ (t:Ty) b=> .inl (b++[t.rep params args])) (fun _=>(.ret,[])) (fun _=>[])
    (fun b=>(.exit 0,[(1,slD params),(2, .slice rd),(3, .ptr σ.length 0),(6, .ptr (σ.length+1) 0),(8, .arr (σ.length+2) b.length 0 b.length),(9, .int .i64 l.length),(28, .bool false)])) (by simp) (by simp)
    (fun j hj b b' hb hs=>by cases hs;simp [hb])
    (fun j hj b τ hbl=>by
      have hw:=wrap_nat (n:=j) (by omega)
      obtain ⟨h2,h3⟩:=hlg j hj
      have ih:=ih l[j] (List.getElem_mem hj)
      have y1:=l[j].cs_len
      have y2:=l[j].cs_take
      have w1:=(l[j].rep params args).cs_len
      have w2: (l[j].rep params args).cs.all D.one=true:=by cases l[j].rep params args;rfl
      have hg0: (σ++[Obj.box [.int .i64 k, .int .i64 m, .str s, .slice ld, .slice sd, .int .i64 tail], .box z6, .row 6 (tysD b) 0]++τ)[σ.length]? =some (.box [.int .i64 k, .int .i64 m, .str s, .slice ld, .slice sd, .int .i64 tail]):=by rw [List.append_assoc];exact getA0
      have hg2: (σ++[Obj.box [.int .i64 k, .int .i64 m, .str s, .slice ld, .slice sd, .int .i64 tail], .box z6, .row 6 (tysD b) 0]++τ)[σ.length+2]? =some (.row 6 (tysD b) 0):=by rw [List.append_assoc];exact getA
      have hs2: (σ++[Obj.box [.int .i64 k, .int .i64 m, .str s, .slice ld, .slice sd, .int .i64 tail], .box z6, .row 6 (tysD b) 0]++τ).set (σ.length+2) (.row 6 (tysD b++[.agg (l[j].rep params args).cs]) 0)=σ++[Obj.box [.int .i64 k, .int .i64 m, .str s, .slice ld, .slice sd, .int .i64 tail], .box z6, .row 6 (tysD (b++[l[j].rep params args])) 0]++τ:=by
       rw [List.append_assoc,setA,tysD_app];simp [tysD]
      have hbl2:=tysD_len b
      have hjj: (j:Int) <l.length:=by omega
      have hba: (b.length+1) *88≤140737488355328:=by omega
      refine ⟨τ, ?_⟩
      simp only [List.length_append,List.length_cons,List.length_nil]
      rw [←hs2]
      clear hs2
      unfold Ty.d at h3
      generalize σ++[Obj.box [.int .i64 k, .int .i64 m, .str s, .slice ld, .slice sd, .int .i64 tail], .box z6, .row 6 (tysD b) 0]++τ=σ1 at*
      generalize tysD b=bd at*
      generalize (l[j].rep params args).cs=rc at*
      generalize l[j].cs=xc at*
      generalize slD params=pd at*
      simp [lp101_0,hg0,hg2,hj,hjj,hw,hll,h2,h3,y1,y2,ih,w1,w2,rowOf,fillRow,fillD,putCells,hbl2,hba])
    (fun b τ hbl=>⟨τ,by
      have hg0: (σ++[Obj.box [.int .i64 k, .int .i64 m, .str s, .slice ld, .slice sd, .int .i64 tail], .box z6, .row 6 (tysD b) 0]++τ)[σ.length]? =some (.box [.int .i64 k, .int .i64 m, .str s, .slice ld, .slice sd, .int .i64 tail]):=by rw [List.append_assoc];exact getA0
      generalize σ++[Obj.box [.int .i64 k, .int .i64 m, .str s, .slice ld, .slice sd, .int .i64 tail], .box z6, .row 6 (tysD b) 0]++τ=σ1 at*
      generalize slD params=pd at*
      simp [lp101_0,hg0,hll]⟩) [] [] rfl
   rw [foldS_rep,List.append_nil,List.nil_append,Int.natCast_zero] at hit
   simp only at hit
   rw [hrl2] at hit
   have hτ:bodyI CI XB GI af101 [.agg [.int .i64 k, .int .i64 m, .str s, .slice ld, .slice sd, .int .i64 tail],slD params, .slice rd] σ=some (.ret (.agg [.int .i64 k, .int .i64 m, .str s, .arr (σ.length+2) l.length 0 l.length, .slice sd, .int .i64 tail]),σ++([.box [.int .i64 k, .int .i64 m, .str s, .arr (σ.length+2) l.length 0 l.length, .slice sd, .int .i64 tail], .box [.int .i64 k, .int .i64 m, .str s, .arr (σ.length+2) l.length 0 l.length, .slice sd, .int .i64 tail], .row 6 (tysD (tysRep params args l)) 0]++τ)):=by
    simp only [tysD,List.length_nil] at hit
    generalize tysD (tysRep params args l)=es at*
    generalize slD params=pd at*
    simp [bodyI,af101,getA0,getA,setA0,setA,hk1,hit]
   refine CI_fn tab101 hτ ?_
   obtain ⟨p1,p2⟩:=strip_ty1 (σ:=σ++([.box [.int .i64 k, .int .i64 m, .str s, .arr (σ.length+2) l.length 0 l.length, .slice sd, .int .i64 tail], .box [.int .i64 k, .int .i64 m, .str s, .arr (σ.length+2) l.length 0 l.length, .slice sd, .int .i64 tail], .row 6 (tysD (tysRep params args l)) 0]++τ)) (k:=k) (n:=m) (s:=s) (r1:=σ.length+2) (n1:=l.length) (tail:=tail) (a:=tysD (tysRep params args l)) (b:=sd) (s1:=0) (by rw [getA];rfl) (by omega) (by omega) htt hst trivial
   rw [postI_rows p1 (by rw [p2];intro j hj;simp at hj;omega),hp.2]
termination_by t=>SizeOf.sizeOf t
decreasing_by
 have:=List.sizeOf_lt_of_mem hx
 simp only [Ty.mk.sizeOf_spec]
 omega
def lrow (σ:St) (r q:Nat) (b:List Ty):St:=(σ.set r (.row 6 (tysD b) b.length)).set q (.box [.arr r b.length 0 b.length])
theorem lrow_len {σ:St} {r q:Nat} {b:List Ty} : (lrow σ r q b).length=σ.length:=by simp [lrow]
theorem lrow_q {σ:St} {r q:Nat} {b:List Ty} (hq:q<σ.length): (lrow σ r q b)[q]? =some (.box [.arr r b.length 0 b.length]):=by
 unfold lrow;rw [List.getElem?_set_self (by simpa using hq)]
theorem lrow_r {σ:St} {r q:Nat} {b:List Ty} (hr:r<σ.length) (hne:q≠r): (lrow σ r q b)[r]? =some (.row 6 (tysD b) b.length):=by
 unfold lrow;rw [List.getElem?_set_ne hne,List.getElem?_set_self hr]
theorem lrow_o {σ:St} {r q j:Nat} {b:List Ty} (h1:q≠j) (h2:r≠j): (lrow σ r q b)[j]? =σ[j]? :=by
 unfold lrow;rw [List.getElem?_set_ne h1,List.getElem?_set_ne h2]
set_option maxHeartbeats 1000000 in
theorem rnd57_1 (params:List Bs) (args:List Ty) (hpl:params.length≤4) (hpa:params.length=args.length) (hargs: ∀a ∈ args,a.small) (l:List Ty) (hl:l.length≤4) (hls: ∀t ∈ l,t.small) (dn:Bs) (dc:List D) (c r q dq:Nat) (σ:St) (hne:q≠r)
 (hrl:r<σ.length) (hql:q<σ.length) (hc:σ[c]? =some (.box [.slice (args.map Ty.d)])) (hcq:q≠c) (hcr:r≠c) (hdq:σ[dq]? =some (.box [.str dn,slD params, .slice dc])) (hdqq:q≠dq) (hdqr:r≠dq)
 (i:Nat) (hi:i<l.length) (b:List Ty) (hb:b.length≤4) (τ:St):
 ∃τ' ev,evalI CI XB GI 79 false lp57_1 [(2, .ptr c 0),(3, .ptr q 0),(7, .ptr dq 0),(61, .slice (l.map Ty.d)),(62, .int .i64 l.length),(63, .int .i64 (i:Nat))] (lrow σ r q b++τ)=
  some (if ((l[i].rep params args).rm 200 3000).1 then (.normal,[(2, .ptr c 0),(3, .ptr q 0),(7, .ptr dq 0),(61, .slice (l.map Ty.d)),(62, .int .i64 l.length),(63, .int .i64 (i+1:Nat))],lrow σ r q (b++[l[i].rep params args])++τ') else (.panic (refD 3),ev,lrow σ r q b++τ')):=by
 have hw:=wrap_nat (n:=i) (by omega)
 obtain ⟨ld,hld,hll,hlg⟩:=opq Ty.d l
 obtain ⟨h2,h3⟩:=hlg i hi
 have hput:=c61 params args hpl hpa hargs l[i] (hls _ (List.getElem_mem hi)) 200 3000 ((lrow σ r q b).length+τ.length+1) (lrow σ r q b++τ++[.box l[i].cs, .box [.int .i64 3000]]) (by
  rw [show (lrow σ r q b).length+τ.length=(lrow σ r q b++τ).length by simp];exact getA) (by omega) (by omega) (by omega) (by omega)
 unfold res61 at hput
 rw [show (lrow σ r q b).length+τ.length=(lrow σ r q b++τ).length by simp,setA] at hput
 have hii: (i:Int) <l.length:=by omega
 have y1:=l[i].cs_len
 have y2:=l[i].cs_take
 have y3:l[i].cs.all D.one=true:=by cases l[i];rfl
 have y4:eqbL l[i].cs l[i].cs=true:=eqbL_tree _ l[i].plain.1
 have w1:=(l[i].rep params args).cs_len
 have w2: (l[i].rep params args).cs.all D.one=true:=by cases l[i].rep params args;rfl
 have w4:eqbL (l[i].rep params args).cs (l[i].rep params args).cs=true:=eqbL_tree _ (l[i].rep params args).plain.1
 have p4: (slD params).eqb (slD params)=true:=D.eqb_tree _ (plain_strs _).1
 have a4:eqbL (args.map Ty.d) (args.map Ty.d)=true:=eqbL_tree _ (PlainL.map fun t _=>t.plain.agg).1
 have hbl:=tysD_len b
 have hba: (b.length+1) *88≤140737488355328:=by omega
 have g1: ∀y,(lrow σ r q b++τ++y)[q]? =some (.box [.arr r b.length 0 b.length]):=fun y=>getO (getO (lrow_q hql))
 have g2: ∀y,(lrow σ r q b++τ++y)[r]? =some (.row 6 (tysD b) b.length):=fun y=>getO (getO (lrow_r hrl hne))
 have g3: ∀y,(lrow σ r q b++τ++y)[c]? =some (.box [.slice (args.map Ty.d)]):=fun y=>getO (getO ((lrow_o hcq hcr).trans hc))
 have g4: ∀y,(lrow σ r q b++τ++y)[dq]? =some (.box [.str dn,slD params, .slice dc]):=fun y=>getO (getO ((lrow_o hdqq hdqr).trans hdq))
 have q61:qI 61=false:=rfl
 have x61:XB 61=false:=rfl
 have hsr: ∀y o,((lrow σ r q b++τ++y).set r o)[r]? =some o:=fun y o=>List.getElem?_set_self (by simp [lrow_len];omega)
 have hsq: ∀y o,((lrow σ r q b++τ++y).set r o)[q]? =some (.box [.arr r b.length 0 b.length]):=fun y o=>by rw [List.getElem?_set_ne hne.symm];exact g1 y
 have hfin: ∀y,((lrow σ r q b++τ++y).set r (.row 6 (tysD b++[.agg (l[i].rep params args).cs]) (b.length+1))).set q (.box [.arr r (b.length+1) 0 (b.length+1)])=lrow σ r q (b++[l[i].rep params args])++(τ++y):=fun y=>by
  rw [List.append_assoc,List.set_append_left _ _ (by rw [lrow_len];exact hrl),List.set_append_left _ _ (by simp [lrow_len];exact hql)]
  unfold lrow
  rw [List.set_comm _ _ hne,List.set_set,List.set_set,tysD_app]
  simp only [List.length_append,List.length_cons,List.length_nil,tysD,Nat.zero_add]
 have hrq: ∀y o ob,(((lrow σ r q b++τ++y).set r o).set q ob)[r]? =some o:=fun y o ob=>by rw [List.getElem?_set_ne hne];exact hsr y o
 have hqq: ∀y o ob,(((lrow σ r q b++τ++y).set r o).set q ob)[q]? =some ob:=fun y o ob=>List.getElem?_set_self (by simp [lrow_len];omega)
 have hlt: (b.length:Int) < (b.length:Int) +1:=by omega
 have hat: (tysD b++[D.agg z6])[b.length]? =some (.agg z6):=by rw [←hbl,List.getElem?_append_right (Nat.le_refl _)];simp
 have hst: ∀d,(tysD b++[D.agg z6]).set b.length d=tysD b++[d]:=fun d=>by rw [←hbl,List.set_append_right _ _ (Nat.le_refl _)];simp
 unfold Ty.d at h3
 rw [hld]
 by_cases hok: ((l[i].rep params args).rm 200 3000).1=true
 ·simp only [if_pos hok] at hput ⊢
  refine ⟨τ++[.box l[i].cs, .box [.int .i64 ((l[i].rep params args).rm 200 3000).2]],[], ?_⟩
  rw [←hfin]
  clear hfin
  generalize (l[i].rep params args).rm 200 3000=rmv at*
  simp only [List.set_cons_succ,List.set_cons_zero] at hput
  generalize slD params=pd at*
  generalize args.map Ty.d=rd at*
  generalize l[i].cs=xc at*
  generalize (l[i].rep params args).cs=rc at*
  generalize hσ1:lrow σ r q b++τ=σ1 at*
  simp [lp57_1,hi,hii,hw,hll,h2,h3,y1,y2,y3,y4,w1,w2,w4,p4,a4,getA0,getA,setA0,setA,g1,g2,g3,g4,hput,hbl,hba,rowOf,fillRow,fillD,putCells,q61,x61,log512,hsr,hsq,hrq,hqq,hne,hne.symm,hlt,hat,hst,Nat.testBit_eq_decide_div_mod_eq]
 ·simp only [if_neg hok] at hput ⊢
  refine ⟨τ++[.box l[i].cs, .box [.int .i64 ((l[i].rep params args).rm 200 3000).2]],[(2, .ptr c 0),(3, .ptr q 0),(7, .ptr dq 0),(11, .ptr (lrow σ r q b++τ).length 0),(12, .ptr ((lrow σ r q b++τ).length+1) 0),(61, .slice ld),(62, .int .i64 l.length),(63, .int .i64 i),(68, .arr r b.length 0 b.length),(69, .agg l[i].cs),(70, .ptr dq 1),(71,slD params),(72, .slice (args.map Ty.d))], ?_⟩
  rw [←List.append_assoc]
  clear hfin
  generalize (l[i].rep params args).rm 200 3000=rmv at*
  simp only [List.set_cons_succ,List.set_cons_zero] at hput
  generalize slD params=pd at*
  generalize args.map Ty.d=rd at*
  generalize l[i].cs=xc at*
  generalize (l[i].rep params args).cs=rc at*
  generalize hσ1:lrow σ r q b++τ=σ1 at*
  simp [lp57_1,hi,hii,hw,hll,h2,h3,y1,y2,y3,y4,w1,w2,w4,p4,a4,getA0,getA,setA0,setA,g1,g2,g3,g4,hput,hbl,hba,rowOf,fillRow,fillD,putCells,q61,x61,log512,hsr,hsq,hrq,hqq,hne,hne.symm,hlt,hat,hst,Nat.testBit_eq_decide_div_mod_eq]
theorem lrow_app {σ X:St} {r q:Nat} {b:List Ty} (hr:r<σ.length) (hq:q<σ.length):lrow (σ++X) r q b=lrow σ r q b++X:=by
 unfold lrow
 rw [List.set_append_left _ _ hr,List.set_append_left _ _ (by simpa using hq)]
theorem lrow_nil {σ:St} {r q:Nat} (hr:σ[r]? =some (.row 6 [] 0)) (hq:σ[q]? =some (.box [.arr r 0 0 0])):lrow σ r q []=σ:=by
 have e1:σ.set r (.row 6 [] 0)=σ:=by
  obtain ⟨h1,h2⟩:=List.getElem?_eq_some_iff.1 hr
  rw [←h2];exact List.set_getElem_self h1
 have e2:σ.set q (.box [.arr r 0 0 0])=σ:=by
  obtain ⟨h1,h2⟩:=List.getElem?_eq_some_iff.1 hq
  rw [←h2];exact List.set_getElem_self h1
 unfold lrow
 show (σ.set r (.row 6 [] 0)).set q (.box [.arr r 0 0 0])=σ
 rw [e1,e2]
theorem lrow_keeps {σ:St} {r q:Nat} {b:List Ty} (hr:r<σ.length) (hq:q<σ.length) (hne:q≠r): ∀j,j<σ.length→(lrow σ r q b)[j]? =σ[j]? ∨ ∃o,(lrow σ r q b)[j]? =some o∧o.under σ.length:=by
 intro j hj
 by_cases h1:q=j
 ·subst h1
  exact .inr ⟨_,lrow_q hj,by simp [Obj.under,underL,D.under,hr]⟩
 ·by_cases h2:r=j
  ·subst h2
   exact .inr ⟨_,lrow_r hj hne,treeL_under _ (tys_plain b).1⟩
  ·exact .inl (lrow_o h1 h2)
def fitR (params:List Bs) (args:List Ty) (t:Ty):Bool:=((t.rep params args).rm 200 3000).1
theorem it57_1 (params:List Bs) (args:List Ty) (hpl:params.length≤4) (hpa:params.length=args.length) (hargs: ∀a ∈ args,a.small) (l:List Ty) (hl:l.length≤4) (hls: ∀t ∈ l,t.small) (dn:Bs) (dc:List D) (c r q dq:Nat) (σ:St) (hne:q≠r)
 (hrl:r<σ.length) (hql:q<σ.length) (hc:σ[c]? =some (.box [.slice (args.map Ty.d)])) (hcq:q≠c) (hcr:r≠c) (hdq:σ[dq]? =some (.box [.str dn,slD params, .slice dc])) (hdqq:q≠dq) (hdqr:r≠dq):
 ∀ (m i:Nat),i+m=l.length→ ∀ (b:List Ty) (τ:St),b.length=i→ ∃τ' ev b',b'.length≤4∧iterI (evalI CI XB GI 79 false lp57_1) [(2, .ptr c 0),(3, .ptr q 0),(7, .ptr dq 0),(61, .slice (l.map Ty.d)),(62, .int .i64 l.length),(63, .int .i64 (i:Nat))] (lrow σ r q b++τ)=
  some (if (l.drop i).all (fitR params args) then (.exit 2,[(2, .ptr c 0),(3, .ptr q 0),(7, .ptr dq 0),(61, .slice (l.map Ty.d)),(62, .int .i64 l.length),(63, .int .i64 l.length),(64, .bool false)],lrow σ r q (b++(l.drop i).map (Ty.rep params args))++τ') else (.panic (refD 3),ev,lrow σ r q b'++τ')):=by
 intro m
 induction m with
 |zero=>
  intro i hi b τ hb
  obtain rfl:i=l.length:=by omega
  refine ⟨τ,[],[],by simp,iterI_end ?_ (by simp)⟩
  rw [List.drop_length]
  simp only [List.all_nil,if_true,List.map_nil,List.append_nil]
  generalize lrow σ r q b++τ=σ1 at*
  generalize l.map Ty.d=ld at*
  simp [lp57_1]
 |succ m ih=>
  intro i hi b τ hb
  have hlt:i<l.length:=by omega
  obtain ⟨τ1,ev,hr⟩:=rnd57_1 params args hpl hpa hargs l hl hls dn dc c r q dq σ hne hrl hql hc hcq hcr hdq hdqq hdqr i hlt b (by omega) τ
  rw [List.drop_eq_getElem_cons hlt,List.all_cons,List.map_cons]
  by_cases hok: ((l[i].rep params args).rm 200 3000).1=true
  ·simp only [if_pos hok] at hr
   have hf:fitR params args l[i]=true:=hok
   obtain ⟨τ',ev',b',hb',h⟩:=ih (i+1) (by omega) (b++[l[i].rep params args]) τ1 (by simp [hb])
   refine ⟨τ',ev',b',hb', ?_⟩
   rw [iterI_next hr,h,hf,Bool.true_and]
   simp only [List.append_assoc,List.cons_append,List.nil_append]
  ·simp only [if_neg hok] at hr
   have hf:fitR params args l[i]=false:=by unfold fitR;simpa using hok
   refine ⟨τ1,ev,b,by omega, ?_⟩
   rw [hf]
   exact iterI_end hr (by simp)
theorem it57_0 (args:List Ty) (hl:args.length≤maxL) (hok: ∀a ∈ args,a.ok) (d2 d3 d5 d7:D) (σ:St): ∃τ' ev,iterI (evalI CI XB GI 79 false lp57_0) [(2,d2),(3,d3),(5,d5),(7,d7),(45, .slice (args.map Ty.d)),(46, .int .i64 args.length),(47, .int .i64 0)] σ=
 some (if firstE (args.map Ty.chk)=0 then (.exit 0,[(2,d2),(3,d3),(5,d5),(7,d7),(45, .slice (args.map Ty.d)),(46, .int .i64 args.length),(47, .int .i64 args.length),(48, .bool false)],σ++τ') else (.panic (refD (firstE (args.map Ty.chk))),ev,σ++τ')):=by
 obtain ⟨ld,hld,hll,hlg⟩:=opq Ty.d args
 rw [hld]
 have:=loop_seekP (f:=evalI CI XB GI 79 false lp57_0) (σ:=σ) args (fun i=>[(2,d2),(3,d3),(5,d5),(7,d7),(45, .slice ld),(46, .int .i64 args.length),(47, .int .i64 (i:Nat))]) Ty.chk (fun e=> .panic (refD e)) (.exit 0,[(2,d2),(3,d3),(5,d5),(7,d7),(45, .slice ld),(46, .int .i64 args.length),(47, .int .i64 args.length),(48, .bool false)]) (by simp) (by simp)
  (fun i hi τ=>by
    have hw:=wrap_nat (n:=i) (by unfold maxL at*;omega)
    obtain ⟨h2,h3⟩:=hlg i hi
    have h60:=fun σ=>c60 args[i] (hok _ (List.getElem_mem hi)) σ
    have hii: (i:Int) <args.length:=by omega
    have y1:=args[i].cs_len
    have y2:=args[i].cs_take
    have y3:args[i].cs.all D.one=true:=by cases args[i];rfl
    unfold Ty.d at h3
    by_cases h0:args[i].chk=0
    ·refine ⟨τ++[.box args[i].cs],[], ?_⟩
     rw [h0] at h60
     rw [if_pos h0,←List.append_assoc]
     generalize args[i].cs=xc at*
     generalize σ++τ=σ1 at*
     simp [lp57_0,hi,hii,hw,h2,h3,y1,y2,y3,getA0,setA0,h60,c59,outR_zero]
    ·refine ⟨τ++[.box args[i].cs],[(2,d2),(3,d3),(5,d5),(7,d7),(9, .ptr (σ++τ).length 0),(45, .slice ld),(46, .int .i64 args.length),(47, .int .i64 (i:Nat)),(51, .agg args[i].cs),(52, .int .i64 args[i].chk)], ?_⟩
     rw [if_neg h0,←List.append_assoc]
     generalize args[i].chk=z at*
     generalize args[i].cs=xc at*
     generalize σ++τ=σ1 at*
     simp [lp57_0,hi,hii,hw,h2,h3,y1,y2,y3,getA0,setA0,h60,c59,outR_ne h0])
  (fun τ=>⟨τ,by simp [lp57_0]⟩) []
 rw [List.append_nil,Int.natCast_zero] at this
 exact this
def Prg.fieldsE (p:Prg) (s:Bs) (args:List Ty):Int:=orE p.decls (match p.conOf s with
 |none=>6
 |some (d,c)=>if d.params.length=args.length then orE (firstE (args.map Ty.chk)) (if c.args.all (fitR d.params args) then 0 else 3) else 7)
def Prg.fields (p:Prg) (s:Bs) (args:List Ty):List Ty:=match p.conOf s with
 |none=>[]
 |some (d,c)=>c.args.map (Ty.rep d.params args)
theorem conOf_mem {p:Prg} {s:Bs} {d:Dat} {c:Con} (h:p.conOf s=some (d,c)):d ∈ p.data∧c ∈ d.cons:=by
 unfold Prg.conOf at h
 cases hf:findConL s p.data 0 with
 |none=>rw [hf] at h;cases h
 |some x=>
  obtain ⟨i,k⟩:=x
  rw [hf] at h
  simp only at h
  obtain ⟨d',hd,h⟩:=Option.bind_eq_some_iff.1 h
  obtain ⟨c',hc,h⟩:=Option.map_eq_some_iff.1 h
  cases h
  exact ⟨List.mem_of_getElem? hd,List.mem_of_getElem? hc⟩
theorem decls_con {p:Prg} (h:p.decls=0) {d:Dat} (hd:d ∈ p.data) {c:Con} (hc:c ∈ d.cons):d.params.length≤4∧c.args.length≤4∧ ∀t ∈ c.args,t.chk=0:=by
 obtain ⟨hs,_⟩:=orE_zero.1 h
 obtain ⟨_,_,_,hs3,_⟩:=Prg.syn_data hs
 obtain ⟨a1,a2,_,_,a5⟩:=datE_cons (hs3 d hd)
 have:=a5 c hc
 unfold conE at this
 split at this
 ·cases this
 ·rename_i h4
  split at this
  ·refine ⟨a1,by omega,fun t ht=> ?_⟩
   unfold declE at this
   rw [firstE_zero] at this
   have h1:=this _ (List.mem_map_of_mem ht)
   unfold declE1 at h1
   split at h1
   ·assumption
   ·rename_i h2;exact absurd h1 h2
  ·cases this
theorem log1024:Nat.log2 1024=10:=by decide
theorem CI_lrow {f:FuncId} {af:AFunc} (hT:tabT f=some af) {args:List D} {σ τ:St} {r q:Nat} {b:List Ty} (hr:r<σ.length) (hq:q<σ.length) (hne:q≠r) (hqf:qI f=false) {e:Int} (h:bodyI CI XB GI af args σ=some (outR e,lrow σ r q b++τ))
 (hx:okF f:=by exact ⟨⟨rfl,rfl⟩,rfl⟩):CI (.fn f) args σ=some (outR e,lrow σ r q b):=by
 by_cases he:e=0
 ·subst he
  rw [outR_zero] at h ⊢
  exact CI_fn hT h (postI_same lrow_len (lrow_keeps hr hq hne) rfl hqf) hx
 ·rw [outR_ne he] at h ⊢
  exact CI_fn hT h (postI_same_panic lrow_len (lrow_keeps hr hq hne) rfl) hx
set_option maxHeartbeats 4000000 in
theorem c57 (p:Prg) (hok:p.ok) (s:Bs) (args:List Ty) (hal:args.length≤maxL) (ha: ∀t ∈ args,t.ok) (a n c r q:Nat) (σ:St) (h1:σ[a]? =some (.box p.cs)) (h2:σ[n]? =some (.box [.str s])) (h3:σ[c]? =some (.box [.slice (args.map Ty.d)])) (h4:σ[r]? =some (.row 6 [] 0)) (h5:σ[q]? =some (.box [.arr r 0 0 0])) (hqr:q≠r) (hqc:q≠c) (hrc:r≠c):
 ∃b,(p.fieldsE s args=0→b=p.fields s args)∧CI (.fn 57) [.ptr a 0, .ptr n 0, .ptr c 0, .ptr q 0] σ=some (outR (p.fieldsE s args),lrow σ r q b):=by
 have hr:=lt_of_get h4
 have hq:=lt_of_get h5
 have hcl:=lt_of_get h3
 obtain ⟨τ1,h55⟩:=c55 p hok.dl hok.d σ
 have hT:=lookS_T p σ τ1
 have e1:lookS p σ p.cm++τ1=σ++([.box p.cs, .map (kvs p.cm), .box (p.cs++[.map (σ.length+1)])]++τ1):=by unfold lookS;rw [List.append_assoc]
 have h56:=c56 p p.cm hok _ _ hT
 have hpl:=p.cs_len
 have hpt:=p.cs_take
 have hnil:=lrow_nil h4 h5
 suffices hs: ∃b,(p.fieldsE s args=0→b=p.fields s args)∧ ∃τ,bodyI CI XB GI af57 [.ptr a 0, .ptr n 0, .ptr c 0, .ptr q 0] σ=some (outR (p.fieldsE s args),lrow σ r q b++τ) by
  obtain ⟨b,hb,τ,hτ⟩:=hs
  exact ⟨b,hb,CI_lrow tab57 hr hq hqr rfl hτ⟩
 have hT2:=hT
 obtain ⟨j,hj,hm⟩:=hT2
 have hjn:j=σ.length+1:=by
  have: (lookS p σ p.cm++τ1)[σ.length+2]? =some (.box (p.cs++[.map (σ.length+1)])):=by unfold lookS;rw [List.append_assoc];exact getA
  rw [this] at hj
  have:=Obj.box.inj (Option.some.inj hj)
  simpa using this.symm
 rw [e1] at h55 h56 hj hm
 have hmf:=mapFind_kvs s p.cm
 rw [cm_find] at hmf
 generalize hR: ([.box p.cs, .map (kvs p.cm), .box (p.cs++[.map (σ.length+1)])]++τ1:St)=R at*
 rw [p.cs_eq] at hj
 have hml:=p.main.cs_len
 unfold Prg.fieldsE orE
 by_cases hd0:p.decls=0
 rotate_left
 ·refine ⟨[],fun h=>absurd h (by rw [if_neg hd0];exact hd0),R, ?_⟩
  rw [if_neg hd0,hnil]
  rw [outR_ne hd0] at h56 ⊢
  generalize p.decls=z at*
  generalize p.cs=pc at*
  simp [bodyI,af57,h1,hpl,hpt,h55,h56]
 rw [if_pos hd0]
 rw [hd0,outR_zero] at h56
 have g1: ∀y,(σ++R++y)[n]? =some (.box [.str s]):=fun y=>getO (getO h2)
 have g2: ∀y,(σ++R++y)[c]? =some (.box [.slice (args.map Ty.d)]):=fun y=>getO (getO h3)
 have g10: (σ++R)[n]? =some (.box [.str s]):=getO h2
 have gj:=fun y=>getO (τ:=y) hj
 have gm:=fun y=>getO (τ:=y) hm
 cases hf:findConL s p.data 0 with
 |none=>
  rw [hf] at hmf
  rw [conOf_none hf]
  refine ⟨[],fun h=>absurd h (show ¬(6:Int)=0 by decide),R++[.box [.int .i64 0, .int .i64 0]], ?_⟩
  rw [hnil,←List.append_assoc]
  generalize hσ1:σ++R=σ1 at*
  generalize p.data.map Dat.d=dd at*
  generalize p.effects.map Eff.d=ed at*
  generalize p.defs.map Dfn.d=fd at*
  generalize p.main.cs=mc at*
  have hmd:mc.drop 7=[]:=List.drop_eq_nil_of_le (by omega)
  generalize kvs p.cm=km at*
  generalize p.cs=pc at*
  simp [bodyI,af57,h1,hpl,hpt,h55,h56,getA0,getA,setA0,setA,hj,gj,hm,gm,g1,g10,hml,hmd,hmf,D.kindEq,putCells,log1024,c58,outR,Nat.testBit_eq_decide_div_mod_eq]
 |some ik=>
  rcases ik with ⟨i,k⟩
  rw [hf] at hmf
  obtain ⟨hi,hk,hc,_⟩:=conOf_some hf
  obtain ⟨hdm,hcm⟩:=conOf_mem hc
  obtain ⟨f1,f2,f3⟩:=decls_con hd0 hdm hcm
  have hfs:p.fields s args=p.data[i].cons[k].args.map (Ty.rep p.data[i].params args):=by unfold Prg.fields;rw [hc]
  rw [hc,hfs]
  clear hc hfs hdm hcm
  obtain ⟨dd,hdd,hdl,hdg⟩:=opq Dat.d p.data
  obtain ⟨h6,h7⟩:=hdg i hi
  rw [hdd] at hj gj
  generalize p.data[i]=d at*
  rcases d with ⟨dn,dp,dc⟩
  simp only at f1 f2 f3 hk ⊢
  obtain ⟨cd,hcd,hcdl,hcdg⟩:=opq Con.d dc
  obtain ⟨h8,h9⟩:=hcdg k hk
  simp only [Dat.d,Dat.cs] at h7
  rw [hcd] at h7
  generalize dc[k]=cc at*
  rcases cc with ⟨cn,cargs⟩
  simp only [Con.d,Con.cs,tysD_map] at f2 f3 h9 ⊢
  simp only [Option.map_some,plD] at hmf
  have hsm: ∀t ∈ cargs,t.small:=fun t ht=>Ty.small_chk (f3 t ht)
  have v1:eqbL (dp.map D.str) (dp.map D.str)=true:=eqbL_tree _ (plain_strs dp).1
  have v2:eqbL cd cd=true:=eqbL_tree _ (by rw [←hcd];exact (PlainL.map fun x _=>x.plain).1)
  have v3:eqbL dd dd=true:=eqbL_tree _ (by rw [←hdd];exact (PlainL.map fun x _=>x.plain).1)
  have hdpl: (dp.map D.str).length=dp.length:=by simp
  have hrl: (args.map Ty.d).length=args.length:=by simp
  have hcal: (cargs.map Ty.d).length=cargs.length:=by simp
  by_cases hpa:dp.length=args.length
  rotate_left
  ·rw [if_neg hpa]
   have hpa': ((dp.length:Int) != args.length)=true:=by rw [bne_iff_ne];omega
   have hpa'': ((dp.length:Int) ==args.length)=false:=by rw [beq_eq_false_iff_ne];omega
   refine ⟨[],fun h=>absurd h (by decide),R++[.box [.int .i64 i, .int .i64 k], .box [.str dn,slD dp, .slice cd]], ?_⟩
   rw [hnil,←List.append_assoc]
   simp only [slD] at*
   generalize hσ1:σ++R=σ1 at*
   generalize p.effects.map Eff.d=ed at*
   generalize p.defs.map Dfn.d=fd at*
   generalize p.main.cs=mc at*
   have hmd:mc.drop 7=[]:=List.drop_eq_nil_of_le (by omega)
   generalize kvs p.cm=km at*
   generalize p.cs=pc at*
   generalize dp.map D.str=pd at*
   generalize args.map Ty.d=rd at*
   simp [bodyI,af57,h1,hpl,hpt,h55,h56,getA0,getA,setA0,setA,hj,gj,hm,gm,g1,g10,g2,hml,hmd,hmf,h6,h7,v1,v2,v3,hdl,hi,hdpl,hrl,hpa,hpa',hpa'',D.kindEq,putCells,log1024,c58,outR,Nat.testBit_eq_decide_div_mod_eq]
  rw [if_pos hpa]
  obtain ⟨τ2,ev2,hit0⟩:=it57_0 args hal ha (.ptr c 0) (.ptr q 0) (.ptr (σ++R).length 0) (.ptr ((σ++R).length+1) 0) (σ++R++[.box [.int .i64 i, .int .i64 k], .box [.str dn,slD dp, .slice cd]])
  by_cases hz:firstE (args.map Ty.chk)=0
  rotate_left
  ·rw [if_neg hz] at hit0 ⊢
   refine ⟨[],fun h=>absurd h hz,R++[.box [.int .i64 i, .int .i64 k], .box [.str dn,slD dp, .slice cd]]++τ2, ?_⟩
   rw [hnil,outR_ne hz]
   have e2:σ++(R++[Obj.box [.int .i64 i, .int .i64 k], .box [.str dn,slD dp, .slice cd]]++τ2)=σ++R++[Obj.box [.int .i64 i, .int .i64 k], .box [.str dn,slD dp, .slice cd]]++τ2:=by simp
   rw [e2]
   generalize firstE (args.map Ty.chk)=z at*
   simp only [slD] at*
   generalize hσ1:σ++R=σ1 at*
   generalize hσ2:σ1++[Obj.box [.int .i64 i, .int .i64 k], .box [.str dn, .slice (dp.map D.str), .slice cd]]++τ2=σ2 at*
   generalize p.effects.map Eff.d=ed at*
   generalize p.defs.map Dfn.d=fd at*
   generalize p.main.cs=mc at*
   have hmd:mc.drop 7=[]:=List.drop_eq_nil_of_le (by omega)
   generalize kvs p.cm=km at*
   generalize p.cs=pc at*
   generalize dp.map D.str=pd at*
   generalize args.map Ty.d=rd at*
   simp [bodyI,af57,h1,hpl,hpt,h55,h56,getA0,getA,setA0,setA,hj,gj,hm,gm,g1,g10,g2,hml,hmd,hmf,h6,h7,v1,v2,v3,hdl,hi,hdpl,hrl,hpa,D.kindEq,putCells,log1024,hit0,Nat.testBit_eq_decide_div_mod_eq]
  rw [if_pos hz] at hit0 ⊢
  have hasm: ∀t ∈ args,t.small:=fun t ht=>Ty.small_chk (by rw [firstE_zero] at hz;exact hz _ (List.mem_map_of_mem ht))
  have hbig: ∀ (x:Nat),x<σ.length→x< (σ++R++[Obj.box [.int .i64 i, .int .i64 k], .box [.str dn,slD dp, .slice cd]]++τ2).length:=fun x hx=>by simp;omega
  obtain ⟨τ3,ev3,b',hb',hit1⟩:=it57_1 dp args f1 hpa hasm cargs f2 hsm dn cd c r q ((σ++R).length+1) (σ++R++[.box [.int .i64 i, .int .i64 k], .box [.str dn,slD dp, .slice cd]]++τ2) hqr (hbig r hr) (hbig q hq) (by rw [List.append_assoc];exact getO (getO h3)) hqc hrc (by rw [List.append_assoc];exact getA) (by simp;omega) (by simp;omega) cargs.length 0 (by omega) [] [] rfl
  rw [List.drop_zero,Int.natCast_zero,List.append_nil,List.nil_append] at hit1
  have hn2:lrow (σ++R++[.box [.int .i64 i, .int .i64 k], .box [.str dn,slD dp, .slice cd]]++τ2) r q []=σ++R++[.box [.int .i64 i, .int .i64 k], .box [.str dn,slD dp, .slice cd]]++τ2:=lrow_nil (getO (getO (getO h4))) (getO (getO (getO h5)))
  have hla: ∀b,lrow (σ++R++[.box [.int .i64 i, .int .i64 k], .box [.str dn,slD dp, .slice cd]]++τ2) r q b=lrow σ r q b++(R++[.box [.int .i64 i, .int .i64 k], .box [.str dn,slD dp, .slice cd]]++τ2):=fun b=>by
   rw [←lrow_app hr hq];congr 1;simp
  rw [hn2] at hit1
  have gd: (σ++R++[Obj.box [.int .i64 i, .int .i64 k], .box [.str dn,slD dp, .slice cd]]++τ2)[(σ++R).length+1]? =some (.box [.str dn,slD dp, .slice cd]):=by rw [List.append_assoc];exact getA
  have gx: (σ++R++[Obj.box [.int .i64 i, .int .i64 k], .box [.str dn,slD dp, .slice cd]]++τ2)[(σ++R).length]? =some (.box [.int .i64 i, .int .i64 k]):=by rw [List.append_assoc];exact getA0
  by_cases hfit:cargs.all (fitR dp args)=true
  ·rw [if_pos hfit] at hit1 ⊢
   refine ⟨cargs.map (Ty.rep dp args),fun _=>rfl,R++[.box [.int .i64 i, .int .i64 k], .box [.str dn,slD dp, .slice cd]]++τ2++τ3, ?_⟩
   rw [←List.append_assoc,←hla]
   simp only [slD,outR_zero] at*
   clear hla hn2
   generalize lrow (σ++R++[.box [.int .i64 i, .int .i64 k], .box [.str dn, .slice (dp.map D.str), .slice cd]]++τ2) r q (cargs.map (Ty.rep dp args))++τ3=σ3 at*
   generalize hσ1:σ++R=σ1 at*
   generalize hσ2:σ1++[Obj.box [.int .i64 i, .int .i64 k], .box [.str dn, .slice (dp.map D.str), .slice cd]]++τ2=σ2 at*
   generalize p.effects.map Eff.d=ed at*
   generalize p.defs.map Dfn.d=fd at*
   generalize p.main.cs=mc at*
   have hmd:mc.drop 7=[]:=List.drop_eq_nil_of_le (by omega)
   generalize kvs p.cm=km at*
   generalize p.cs=pc at*
   generalize dp.map D.str=pd at*
   generalize args.map Ty.d=rd at*
   generalize cargs.map Ty.d=cad at*
   simp [bodyI,af57,h1,hpl,hpt,h55,h56,getA0,getA,setA0,setA,hj,gj,hm,gm,g1,g10,g2,hml,hmd,hmf,h6,h7,v1,v2,v3,h8,h9,hdl,hi,hk,hcdl,hdpl,hrl,hcal,hpa,D.kindEq,putCells,log1024,hit0,gd,gx,hit1,Nat.testBit_eq_decide_div_mod_eq]
  ·rw [if_neg hfit] at hit1 ⊢
   refine ⟨b',fun h=>absurd h (by decide),R++[.box [.int .i64 i, .int .i64 k], .box [.str dn,slD dp, .slice cd]]++τ2++τ3, ?_⟩
   rw [←List.append_assoc,←hla]
   have ho3:outR 3= .panic (refD 3):=rfl
   simp only [slD,ho3] at*
   clear hla hn2
   generalize lrow (σ++R++[.box [.int .i64 i, .int .i64 k], .box [.str dn, .slice (dp.map D.str), .slice cd]]++τ2) r q b'++τ3=σ3 at*
   generalize hσ1:σ++R=σ1 at*
   generalize hσ2:σ1++[Obj.box [.int .i64 i, .int .i64 k], .box [.str dn, .slice (dp.map D.str), .slice cd]]++τ2=σ2 at*
   generalize p.effects.map Eff.d=ed at*
   generalize p.defs.map Dfn.d=fd at*
   generalize p.main.cs=mc at*
   have hmd:mc.drop 7=[]:=List.drop_eq_nil_of_le (by omega)
   generalize kvs p.cm=km at*
   generalize p.cs=pc at*
   generalize dp.map D.str=pd at*
   generalize args.map Ty.d=rd at*
   generalize cargs.map Ty.d=cad at*
   simp [bodyI,af57,h1,hpl,hpt,h55,h56,getA0,getA,setA0,setA,hj,gj,hm,gm,g1,g10,g2,hml,hmd,hmf,h6,h7,v1,v2,v3,h8,h9,hdl,hi,hk,hcdl,hdpl,hrl,hcal,hpa,D.kindEq,putCells,log1024,hit0,gd,gx,hit1,Nat.testBit_eq_decide_div_mod_eq]
theorem c54g (g:Nat) (first captured:List D) (e:Int) (σ σ':St) (hl:σ'.length=σ.length) (hk: ∀j,j<σ.length→σ'[j]? =σ[j]? ∨ ∃o,σ'[j]? =some o∧o.under σ.length) (h:CI (.fn g) (first++captured) (σ++[.box [.int .i64 0]])=some (outR e,σ'++[.box [.int .i64 0]])):
 CI (.fn 54) [.func g first captured] σ=some (.ret (.int .i64 e),σ'):=by
 have hev:evalCatch CI 154 [.func g first captured] σ=some (.ret (.int .i64 e),σ'++[.box [.int .i64 e]]):=by
  unfold evalCatch
  simp only [h]
  rw [←hl]
  by_cases he:e=0
  ·subst he
   rw [outR_zero]
   simp [getA0,setA0]
  ·rw [outR_ne he]
   simp [refD,getA0,setA0]
 exact callI_catch (ty:=154) postN ext_none rfl rfl hev (postI_same (q:=qI) (f:=54) hl hk rfl rfl)
def Prg.fieldsL (p:Prg) (s:Bs) (args:List Ty):List Ty:=if p.fieldsE s args=0 then p.fields s args else []
theorem c15 (p:Prg) (hok:p.ok) (s:Bs) (args:List Ty) (hal:args.length≤maxL) (ha: ∀t ∈ args,t.ok) (σ:St):
 CI (.fn 15) [.agg p.cs, .str s, .slice (args.map Ty.d)] σ=some (.ret (.tuple [.slice ((p.fieldsL s args).map Ty.d), .int .i64 (p.fieldsE s args)]),σ):=by
 have hL: ∀y,(σ++[Obj.box p.cs, .box [.str s], .box [.slice (args.map Ty.d)], .row 6 [] 0, .box [.arr (σ.length+3) 0 0 0]]++y)[σ.length+3]? =some (.row 6 [] 0):=fun y=>by rw [List.append_assoc];exact getA
 obtain ⟨b,hb,h57⟩:=c57 p hok s args hal ha σ.length (σ.length+1) (σ.length+2) (σ.length+3) (σ.length+4) (σ++[.box p.cs, .box [.str s], .box [.slice (args.map Ty.d)], .row 6 [] 0, .box [.arr (σ.length+3) 0 0 0]]++[.box [.int .i64 0]])
  (by rw [List.append_assoc];exact getA0) (by rw [List.append_assoc];exact getA) (by rw [List.append_assoc];exact getA) (hL _) (by rw [List.append_assoc];exact getA) (by omega) (by omega) (by omega)
 have hlr:σ.length+3< (σ++[Obj.box p.cs, .box [.str s], .box [.slice (args.map Ty.d)], .row 6 [] 0, .box [.arr (σ.length+3) 0 0 0]]).length:=by simp
 have hlq:σ.length+4< (σ++[Obj.box p.cs, .box [.str s], .box [.slice (args.map Ty.d)], .row 6 [] 0, .box [.arr (σ.length+3) 0 0 0]]).length:=by simp
 rw [lrow_app hlr hlq] at h57
 have h54:=c54g 57 [] [.ptr σ.length 0, .ptr (σ.length+1) 0, .ptr (σ.length+2) 0, .ptr (σ.length+4) 0] _ _ _ lrow_len (lrow_keeps hlr hlq (by omega)) h57
 have hall:=p.cs_all
 have hrow:=lrow_r (b:=b) hlr (show σ.length+4≠σ.length+3 by omega)
 have hcell:=lrow_q (r:=σ.length+3) (b:=b) hlq
 have hex: ∃τ,lrow (σ++[Obj.box p.cs, .box [.str s], .box [.slice (args.map Ty.d)], .row 6 [] 0, .box [.arr (σ.length+3) 0 0 0]]) (σ.length+3) (σ.length+4) b=σ++τ:=⟨_,by
  unfold lrow
  rw [setA,setA]⟩
 obtain ⟨τ,hex⟩:=hex
 rw [hex] at h54 hrow hcell
 unfold Prg.fieldsL
 have hqs: ∀o,∃τ',(σ++τ).set (σ.length+4) o=σ++τ':=fun o=>⟨_,setA⟩
 have hq5: ∀o,((σ++τ).set (σ.length+4) o)[σ.length+4]? =some o:=fun o=>List.getElem?_set_self (lt_of_get hcell)
 have hid: (σ++τ).set (σ.length+4) (.box [.arr (σ.length+3) b.length 0 b.length])=σ++τ:=by
  obtain ⟨h1,h2⟩:=List.getElem?_eq_some_iff.1 hcell
  rw [←h2];exact List.set_getElem_self h1
 by_cases he:p.fieldsE s args=0
 ·rw [if_pos he,he]
  have hb:=hb he
  rw [←hb]
  rw [he] at h54
  have hbl:=tysD_len b
  have hτ:bodyI CI XB GI af15 [.agg p.cs, .str s, .slice (args.map Ty.d)] σ=some (.ret (.tuple [.arr (σ.length+3) b.length 0 b.length, .int .i64 0]),σ++τ):=by
   generalize p.cs=pc at*
   generalize args.map Ty.d=rd at*
   simp [bodyI,af15,hall,h54,hcell,hid,putCells]
  refine CI_fn tab15 hτ ?_
  have hbt:=(tys_plain b)
  have hrow': (σ++τ)[σ.length+3]? =some (.row 6 (tysD b) b.length):=hrow
  obtain ⟨p1,p2⟩:=strip_row hrow' (by omega) hbt.1 14
  rw [hbl] at p1 p2
  have q1:strip 16 (σ++τ) (.tuple [.arr (σ.length+3) b.length 0 b.length, .int .i64 0])=some (.tuple [.slice (tysD b), .int .i64 0]):=by
   unfold strip
   simp only [D.tree,treeL,Bool.and_true,Bool.false_eq_true,if_false]
   simp only [List.mapM_cons,List.mapM_nil,p1,strip_one 15 (σ++τ) (.int .i64 _) rfl]
   rfl
  have q2:leads 16 (σ++τ) (.tuple [.arr (σ.length+3) b.length 0 b.length, .int .i64 0])=[σ.length+3]:=by
   unfold leads
   simp only [D.tree,treeL,Bool.and_true,Bool.false_eq_true,if_false]
   simp only [List.flatMap_cons,List.flatMap_nil,p2,leads_one 15 (σ++τ) (.int .i64 _) rfl]
   rfl
  rw [postI_rows q1 (by rw [q2];intro j hj;simp at hj;omega)]
  have hw:=hbt.2
  rw [tysD_map] at hw
  simp only [D.weak,weakL,tysD_map,hw]
 ·rw [if_neg he]
  obtain ⟨τ',hτ'⟩:=hqs (.box [.empty])
  have hne: (p.fieldsE s args != 0)=true:=by simpa using he
  have hτ:bodyI CI XB GI af15 [.agg p.cs, .str s, .slice (args.map Ty.d)] σ=some (.ret (.tuple [.empty, .int .i64 (p.fieldsE s args)]),σ++τ'):=by
   rw [←hτ']
   generalize p.fieldsE s args=z at*
   generalize p.cs=pc at*
   generalize args.map Ty.d=rd at*
   simp [bodyI,af15,hall,h54,hcell,hne,putCells,hq5]
   exact setA (i:=4)
  exact CI_tree tab15 hτ rfl rfl
theorem log16384:Nat.log2 16384=14:=by decide
theorem rep_chk {params:List Bs} {args:List Ty} (ha: ∀a ∈ args,a.chk=0) (t:Ty) (h:t.chk=0): (t.rep params args).chk=if fitR params args t then 0 else 3:=by
 have hs: (t.rep params args).small:=t.small_rep (fun a h=>Ty.small_chk (ha a h)) (Ty.small_chk h)
 have he: (t.rep params args).e=0:=t.rep_e (fun a h=>Ty.chk_e (ha a h)) (Ty.chk_e h)
 have hr:=((t.rep params args).rm_left hs 3000 200 (by omega)).1
 rw [Ty.chk_left,he]
 unfold fitR
 by_cases hl: (t.rep params args).left 3000 200<0
 ·rw [if_pos hl,if_neg (by rw [hr];omega)]
 ·rw [if_neg hl,if_pos (by rw [hr];omega)]
theorem it41_0 (args:List Ty) (hl:args.length≤maxL) (hok: ∀a ∈ args,a.ok) (d10 d11:D) (σ:St):iterI (evalI CI XB GI 88 false lp41_0) [(2, .slice (args.map Ty.d)),(10,d10),(11,d11),(12, .int .i64 0)] σ=
 some (if firstE (args.map Ty.chk)=0 then (.exit 0,[(2, .slice (args.map Ty.d)),(10,d10),(11,d11),(12, .int .i64 args.length),(45, .bool false)],σ) else (.ret,[(6, .empty),(7, .int .i64 (firstE (args.map Ty.chk)))],σ)):=by
 obtain ⟨ld,hld,hll,hlg⟩:=opq Ty.d args
 rw [hld]
 have:=loop_err (f:=evalI CI XB GI 88 false lp41_0) (σ:=σ) args (fun i=>[(2, .slice ld),(10,d10),(11,d11),(12, .int .i64 (i:Nat))]) Ty.chk (fun e=>(.ret,[(6, .empty),(7, .int .i64 e)],σ)) (.exit 0,[(2, .slice ld),(10,d10),(11,d11),(12, .int .i64 args.length),(45, .bool false)],σ) (by simp) (by simp)
  (fun i hi=>by
    have hw:=wrap_nat (n:=i) (by unfold maxL at*;omega)
    obtain ⟨h2,h3⟩:=hlg i hi
    have h71:=fun σ=>c71 args[i] (hok _ (List.getElem_mem hi)) σ
    have hii: (i:Int) <args.length:=by omega
    have y1:=args[i].cs_len
    have y2:=args[i].cs_take
    unfold Ty.d at h3
    generalize args[i].chk=z at*
    generalize args[i].cs=xc at*
    by_cases h0:z=0
    ·simp [lp41_0,hi,hii,hw,hll,h2,h3,y1,y2,h71,h0]
    ·have h0': (z != 0)=true:=by simpa using h0
     simp [lp41_0,hi,hii,hw,hll,h2,h3,y1,y2,h71,h0,h0']) (by simp [lp41_0,hll])
 rw [Int.natCast_zero] at this
 exact this
def fitStep (params:List Bs) (args:List Ty) (_:Nat) (t:Ty) (b:List Ty):List Ty ⊕ Unit:=if fitR params args t then .inl (b++[t.rep params args]) else .inr ()
theorem foldS_fit (params:List Bs) (args:List Ty): ∀ (l:List Ty) (i:Nat) (b:List Ty),foldS (fitStep params args) l i b=if l.all (fitR params args) then .inl (b++l.map (Ty.rep params args)) else .inr ()
 | [],i,b=>by simp [foldS]
 |t::r,i,b=>by
  simp only [foldS,fitStep,List.all_cons,List.map_cons]
  cases h:fitR params args t
  ·simp
  ·simp only [if_true,Bool.true_and]
   rw [foldS_fit params args r]
   simp only [List.append_assoc,List.cons_append,List.nil_append]
set_option maxHeartbeats 1000000 in
theorem it41_1 (params:List Bs) (args:List Ty) (hpl:params.length≤4) (hpa:params.length=args.length) (hargs: ∀a ∈ args,a.chk=0) (cargs:List Ty) (hl:cargs.length≤4) (hls: ∀t ∈ cargs,t.chk=0) (dn cn:Bs) (dc:List Con) (k:Nat) (hk:k<dc.length) (hdc:dc[k]=⟨cn,cargs⟩) (dq:Nat) (σ:St) (hdq:σ[dq]? =some (.box [.str dn,slD params, .slice (dc.map Con.d)])):
 ∃τ',iterI (evalI CI XB GI 88 false lp41_1) [(2, .slice (args.map Ty.d)),(10, .int .i64 (k:Nat)),(11, .ptr dq 0),(13, .arr σ.length 0 0 0),(14, .int .i64 0)] (σ++[.row 6 [] 0])=
  some (if cargs.all (fitR params args) then (.exit 2,[(2, .slice (args.map Ty.d)),(10, .int .i64 (k:Nat)),(11, .ptr dq 0),(13, .arr σ.length cargs.length 0 cargs.length),(14, .int .i64 cargs.length),(64, .bool false)],σ++[.row 6 (tysD (cargs.map (Ty.rep params args))) 0]++τ') else (.ret,[(6, .empty),(7, .int .i64 3)],σ++τ')):=by
 obtain ⟨cd,hcd,hcdl,hcdg⟩:=opq Con.d dc
 obtain ⟨h2,h3⟩:=hcdg k hk
 rw [hdc] at h3
 rw [hcd] at hdq
 obtain ⟨ad,had,hadl,hadg⟩:=opq Ty.d cargs
 simp only [Con.d,Con.cs,tysD_map,had] at h3
 have hasm: ∀a ∈ args,a.small:=fun a h=>Ty.small_chk (hargs a h)
 have v1:eqbL (args.map Ty.d) (args.map Ty.d)=true:=eqbL_tree _ (PlainL.map fun t _=>t.plain.agg).1
 have v2: (slD params).eqb (slD params)=true:=D.eqb_tree _ (plain_strs _).1
 have v3:eqbL cd cd=true:=eqbL_tree _ (by rw [←hcd];exact (PlainL.map fun x _=>x.plain).1)
 have v4:eqbL ad ad=true:=eqbL_tree _ (by rw [←had];exact (PlainL.map fun t _=>t.plain.agg).1)
 have q101:qI 101=true:=rfl
 have:=loop_foldS (f:=evalI CI XB GI 88 false lp41_1) cargs (fun i b=>[(2, .slice (args.map Ty.d)),(10, .int .i64 (k:Nat)),(11, .ptr dq 0),(13, .arr σ.length b.length 0 b.length),(14, .int .i64 (i:Nat))]) (fun b=>σ++[.row 6 (tysD b) 0]) (fun i b=>b.length=i) (fitStep params args) (fun _=>(.ret,[(6, .empty),(7, .int .i64 3)])) (fun _=>σ)
  (fun b=>(.exit 2,[(2, .slice (args.map Ty.d)),(10, .int .i64 (k:Nat)),(11, .ptr dq 0),(13, .arr σ.length b.length 0 b.length),(14, .int .i64 cargs.length),(64, .bool false)])) (by simp) (by simp)
  (fun i hi b b' hb hs=>by
    unfold fitStep at hs
    split at hs
    ·cases hs;simp [hb]
    ·cases hs)
  (fun i hi b τ hb=>by
    have hw:=wrap_nat (n:=i) (by omega)
    obtain ⟨h4,h5⟩:=hadg i hi
    have hii: (i:Int) <cargs.length:=by omega
    have hto:=Ty.small_chk (hls _ (List.getElem_mem hi))
    have h101:=fun σ=>c101 params args hpl hpa cargs[i] hto σ
    have h71:=fun σ=>c71 (cargs[i].rep params args) (Ty.small_ok _ (cargs[i].small_rep hasm hto)) σ
    rw [rep_chk hargs _ (hls _ (List.getElem_mem hi))] at h71
    have y1:=cargs[i].cs_len
    have y2:=cargs[i].cs_take
    have y4:eqbL cargs[i].cs cargs[i].cs=true:=eqbL_tree _ cargs[i].plain.1
    have w1:=(cargs[i].rep params args).cs_len
    have w2: (cargs[i].rep params args).cs.all D.one=true:=by cases cargs[i].rep params args;rfl
    have w3:=(cargs[i].rep params args).cs_take
    have w4:eqbL (cargs[i].rep params args).cs (cargs[i].rep params args).cs=true:=eqbL_tree _ (cargs[i].rep params args).plain.1
    have hbl:=tysD_len b
    have hba: (b.length+1) *88≤140737488355328:=by omega
    have g1: ∀y,(σ++[.row 6 (tysD b) 0]++τ++y)[dq]? =some (.box [.str dn,slD params, .slice cd]):=fun y=>getO (getO (getO hdq))
    have g10: (σ++[.row 6 (tysD b) 0]++τ)[dq]? =some (.box [.str dn,slD params, .slice cd]):=getO (getO hdq)
    have g2: ∀y,(σ++[.row 6 (tysD b) 0]++τ++y)[σ.length]? =some (.row 6 (tysD b) 0):=fun y=>by simp only [List.append_assoc];exact getA0
    have hs: ∀ (y:St),(σ++[Obj.row 6 (tysD b) 0]++τ++y).set σ.length (.row 6 (tysD b++[D.agg (cargs[i].rep params args).cs]) 0)=σ++[.row 6 (tysD (b++[cargs[i].rep params args])) 0]++(τ++y):=fun y=>by
     simp only [List.append_assoc];rw [setA0,tysD_app];simp [tysD]
    have q101:qI 101=true:=rfl
    have x101:XB 101=false:=rfl
    have ln: (extOf XI 101).isNone=true:=rfl
    unfold Ty.d at h5
    unfold fitStep
    generalize (cargs[i].rep params args).cs=rc at*
    cases hf:fitR params args cargs[i]
    ·rw [hf] at h71
     refine ⟨[.row 6 (tysD b) 0]++τ++[.box rc], ?_⟩
     have e1:σ++([Obj.row 6 (tysD b) 0]++τ++[.box rc])=σ++[.row 6 (tysD b) 0]++τ++[.box rc]:=by simp
     simp only [Bool.false_eq_true,if_false] at h71 ⊢
     rw [e1]
     clear e1 hs
     generalize slD params=pd at*
     generalize args.map Ty.d=rd at*
     generalize cargs[i].cs=xc at*
     generalize σ++[.row 6 (tysD b) 0]++τ=σ1 at*
     simp [lp41_1,g1,g10,g2,hcdl,hk,h2,h3,hadl,hi,hii,hw,h4,h5,y1,y2,y4,w1,w2,w3,w4,v1,v2,v3,v4,h101,h71,getA0,getA,setA0,setA,putCells,q101,x101,ln,log16384,Nat.testBit_eq_decide_div_mod_eq]
    ·rw [hf] at h71
     refine ⟨τ++[.box rc], ?_⟩
     simp only [if_true] at h71 ⊢
     simp only [List.length_append,List.length_cons,List.length_nil]
     rw [←hs]
     clear hs
     generalize slD params=pd at*
     generalize args.map Ty.d=rd at*
     generalize cargs[i].cs=xc at*
     generalize tysD b=bd at*
     generalize σ++[.row 6 bd 0]++τ=σ1 at*
     simp [lp41_1,g1,g10,g2,hcdl,hk,h2,h3,hadl,hi,hii,hw,h4,h5,y1,y2,y4,w1,w2,w3,w4,v1,v2,v3,v4,h101,h71,getA0,getA,setA0,setA,putCells,q101,x101,ln,rowOf,fillRow,fillD,hbl,hba,log16384,Nat.testBit_eq_decide_div_mod_eq])
  (fun b τ hb=>⟨τ,by
    have g10: (σ++[.row 6 (tysD b) 0]++τ)[dq]? =some (.box [.str dn,slD params, .slice cd]):=getO (getO hdq)
    generalize slD params=pd at*
    generalize args.map Ty.d=rd at*
    generalize σ++[.row 6 (tysD b) 0]++τ=σ1 at*
    simp [lp41_1,g10,hcdl,hk,h2,h3,hadl]⟩) [] [] rfl
 rw [foldS_fit,List.append_nil,List.nil_append,Int.natCast_zero] at this
 obtain ⟨τ',h⟩:=this
 refine ⟨τ', ?_⟩
 rw [show tysD []=[] from rfl] at h
 have e0: (([]:List Ty).length)=0:=rfl
 rw [e0] at h
 rw [h]
 cases cargs.all (fitR params args)
 ·rfl
 ·simp only [if_true,List.length_map]
theorem postI_pair {q:FuncId→Bool} {f:FuncId} {σ τ:St} {r n:Nat} {b:List Ty} {s1:Nat} {e:Int} (hr: (σ++τ)[r]? =some (.row 6 (tysD b) s1)) (hn:σ.length≤r) (hs:s1≤(tysD b).length) (hb:n=b.length):
 postI q f σ (some (.ret (.tuple [.arr r n 0 n, .int .i64 e]),σ++τ))=some (.ret (.tuple [.slice (b.map Ty.d), .int .i64 e]),σ):=by
 subst hb
 have hbt:=tys_plain b
 have hbl:=tysD_len b
 obtain ⟨p1,p2⟩:=strip_row hr hs hbt.1 14
 rw [hbl] at p1 p2
 have q1:strip 16 (σ++τ) (.tuple [.arr r b.length 0 b.length, .int .i64 e])=some (.tuple [.slice (tysD b), .int .i64 e]):=by
  unfold strip
  simp only [D.tree,treeL,Bool.and_true,Bool.false_eq_true,if_false]
  simp only [List.mapM_cons,List.mapM_nil,p1,strip_one 15 (σ++τ) (.int .i64 _) rfl]
  rfl
 have q2:leads 16 (σ++τ) (.tuple [.arr r b.length 0 b.length, .int .i64 e])=[r]:=by
  unfold leads
  simp only [D.tree,treeL,Bool.and_true,Bool.false_eq_true,if_false]
  simp only [List.flatMap_cons,List.flatMap_nil,p2,leads_one 15 (σ++τ) (.int .i64 _) rfl]
  rfl
 rw [postI_rows q1 (by rw [q2];intro j hj;simp at hj;omega)]
 have hw:=hbt.2
 rw [tysD_map] at hw
 simp only [D.weak,weakL,tysD_map,hw]
set_option maxHeartbeats 2000000 in
theorem c41 (p:Prg) (hok:p.ok) (s:Bs) (args:List Ty) (hal:args.length≤maxL) (ha: ∀t ∈ args,t.ok) (σ:St):
 CI (.fn 41) [.agg p.cs, .str s, .slice (args.map Ty.d)] σ=some (.ret (.tuple [.slice ((p.fieldsL s args).map Ty.d), .int .i64 (p.fieldsE s args)]),σ):=by
 have hall:=p.cs_all
 have hpl:=p.cs_len
 have hpt:=p.cs_take
 have h29:=fun σ=>c29 p hok σ
 have h31:=fun σ=>c31 p hok s σ
 have hh:p.cs.head?=some (.slice (p.data.map Dat.d)):=by rw [p.cs_eq];rfl
 have hrl: (args.map Ty.d).length=args.length:=by simp
 have fin:p.fieldsE s args≠0→(∃τ,bodyI CI XB GI af41 [.agg p.cs, .str s, .slice (args.map Ty.d)] σ=some (.ret (.tuple [.empty, .int .i64 (p.fieldsE s args)]),σ++τ))→CI (.fn 41) [.agg p.cs, .str s, .slice (args.map Ty.d)] σ=some (.ret (.tuple [.slice ((p.fieldsL s args).map Ty.d), .int .i64 (p.fieldsE s args)]),σ):=fun hne ⟨τ,h⟩=>by
  unfold Prg.fieldsL
  rw [if_neg hne]
  exact CI_tree tab41 h rfl rfl
 by_cases hd0:p.decls=0
 rotate_left
 ·have he:p.fieldsE s args=p.decls:=by unfold Prg.fieldsE orE;rw [if_neg hd0]
  apply fin (by rw [he];exact hd0)
  rw [he]
  have hne: (p.decls != 0)=true:=by simpa using hd0
  refine ⟨[.box p.cs], ?_⟩
  generalize p.decls=z at*
  generalize args.map Ty.d=rd at*
  generalize p.cs=pc at*
  simp [bodyI,af41,getA0,hall,hpl,hpt,h29,hne]
 rw [hd0] at h29
 cases hf:findConL s p.data 0 with
 |none=>
  rw [hf] at h31
  have he:p.fieldsE s args=6:=by unfold Prg.fieldsE orE;rw [if_pos hd0,conOf_none hf]
  apply fin (by rw [he];decide)
  rw [he]
  refine ⟨[.box p.cs], ?_⟩
  generalize args.map Ty.d=rd at*
  generalize p.cs=pc at*
  simp [bodyI,af41,getA0,hall,hpl,hpt,h29,h31,conD]
 |some ik=>
  rcases ik with ⟨i,k⟩
  rw [hf] at h31
  obtain ⟨hi,hk,hc,_⟩:=conOf_some hf
  obtain ⟨hdm,hcm⟩:=conOf_mem hc
  obtain ⟨f1,f2,f3⟩:=decls_con hd0 hdm hcm
  have hfs:p.fields s args=p.data[i].cons[k].args.map (Ty.rep p.data[i].params args):=by unfold Prg.fields;rw [hc]
  have he:p.fieldsE s args=if p.data[i].params.length=args.length then orE (firstE (args.map Ty.chk)) (if p.data[i].cons[k].args.all (fitR p.data[i].params args) then 0 else 3) else 7:=by
   unfold Prg.fieldsE;rw [hc];unfold orE;rw [if_pos hd0]
  clear hc hdm hcm
  obtain ⟨dd,hdd,hdl,hdg⟩:=opq Dat.d p.data
  obtain ⟨h6,h7⟩:=hdg i hi
  rw [hdd] at hh
  generalize p.data[i]=d at*
  rcases d with ⟨dn,dp,dc⟩
  simp only at f1 f2 f3 hk he hfs
  have hdck: ∃cn cargs,dc[k]=⟨cn,cargs⟩:=⟨_,_,rfl⟩
  obtain ⟨cn,cargs,hdck⟩:=hdck
  rw [hdck] at f2 f3 he hfs
  simp only at f2 f3 he hfs
  simp only [Dat.d,Dat.cs] at h7
  have hdpl: (dp.map D.str).length=dp.length:=by simp
  by_cases hpa:dp.length=args.length
  rotate_left
  ·rw [if_neg hpa] at he
   apply fin (by rw [he];decide)
   rw [he]
   have hpa': ((args.length:Int) != dp.length)=true:=by rw [bne_iff_ne];omega
   have hpa'': ((args.length:Int) ==dp.length)=false:=by rw [beq_eq_false_iff_ne];omega
   have hpa3: ¬args.length=dp.length:=by omega
   refine ⟨[.box p.cs, .box [.str dn,slD dp, .slice (dc.map Con.d)]], ?_⟩
   simp only [slD] at*
   generalize dp.map D.str=pd at*
   generalize dc.map Con.d=cd at*
   generalize args.map Ty.d=rd at*
   generalize p.cs=pc at*
   simp [bodyI,af41,getA0,getA,setA0,setA,hall,hpl,hpt,h29,h31,conD,hh,hdl,hi,h6,h7,hdpl,hrl,hpa',hpa'',hpa3]
  rw [if_pos hpa] at he
  have hit0:=it41_0 args hal ha (.int .i64 (k:Nat)) (.ptr (σ.length+1) 0) (σ++[.box p.cs, .box [.str dn,slD dp, .slice (dc.map Con.d)]])
  by_cases hz:firstE (args.map Ty.chk)=0
  rotate_left
  ·have he:p.fieldsE s args=firstE (args.map Ty.chk):=by rw [he];unfold orE;rw [if_neg hz]
   rw [if_neg hz] at hit0
   apply fin (by rw [he];exact hz)
   rw [he]
   refine ⟨[.box p.cs, .box [.str dn,slD dp, .slice (dc.map Con.d)]], ?_⟩
   simp only [slD] at*
   generalize firstE (args.map Ty.chk)=z at*
   generalize dp.map D.str=pd at*
   generalize dc.map Con.d=cd at*
   generalize args.map Ty.d=rd at*
   generalize p.cs=pc at*
   simp [bodyI,af41,getA0,getA,setA0,setA,hall,hpl,hpt,h29,h31,conD,hh,hdl,hi,h6,h7,hdpl,hrl,hpa,hit0]
  rw [if_pos hz] at hit0
  have hac: ∀a ∈ args,a.chk=0:=fun t ht=>by rw [firstE_zero] at hz;exact hz _ (List.mem_map_of_mem ht)
  obtain ⟨τ,hit1⟩:=it41_1 dp args f1 hpa hac cargs f2 f3 dn cn dc k hk hdck (σ.length+1) (σ++[.box p.cs, .box [.str dn,slD dp, .slice (dc.map Con.d)]]) getA
  have hl2: (σ++[Obj.box p.cs, .box [.str dn,slD dp, .slice (dc.map Con.d)]]).length=σ.length+2:=by simp
  rw [hl2] at hit1
  by_cases hfit:cargs.all (fitR dp args)=true
  ·have he:p.fieldsE s args=0:=by rw [he];unfold orE;rw [if_pos hz,if_pos hfit]
   rw [if_pos hfit] at hit1
   unfold Prg.fieldsL
   rw [if_pos he,he,hfs]
   have hτ:bodyI CI XB GI af41 [.agg p.cs, .str s, .slice (args.map Ty.d)] σ=some (.ret (.tuple [.arr (σ.length+2) cargs.length 0 cargs.length, .int .i64 0]),σ++([.box p.cs, .box [.str dn,slD dp, .slice (dc.map Con.d)], .row 6 (tysD (cargs.map (Ty.rep dp args))) 0]++τ)):=by
    have e1:σ++[Obj.box p.cs, .box [.str dn,slD dp, .slice (dc.map Con.d)]]++[.row 6 (tysD (cargs.map (Ty.rep dp args))) 0]++τ=σ++([.box p.cs, .box [.str dn,slD dp, .slice (dc.map Con.d)], .row 6 (tysD (cargs.map (Ty.rep dp args))) 0]++τ):=by simp
    rw [e1] at hit1
    have e2:σ++[Obj.box p.cs, .box [.str dn,slD dp, .slice (dc.map Con.d)]]++[.row 6 [] 0]=σ++[.box p.cs, .box [.str dn,slD dp, .slice (dc.map Con.d)], .row 6 [] 0]:=by simp
    rw [e2] at hit1
    clear e1 e2
    simp only [slD] at*
    generalize tysD (cargs.map (Ty.rep dp args))=es at*
    generalize dp.map D.str=pd at*
    generalize dc.map Con.d=cd at*
    generalize args.map Ty.d=rd at*
    generalize p.cs=pc at*
    simp [bodyI,af41,getA0,getA,setA0,setA,hall,hpl,hpt,h29,h31,conD,hh,hdl,hi,h6,h7,hdpl,hrl,hpa,hit0,hit1]
   refine CI_fn tab41 hτ ?_
   exact postI_pair (b:=cargs.map (Ty.rep dp args)) (by rw [getA];rfl) (by omega) (by omega) (by simp)
  ·have he:p.fieldsE s args=3:=by rw [he];unfold orE;rw [if_pos hz,if_neg hfit]
   rw [if_neg hfit] at hit1
   apply fin (by rw [he];decide)
   rw [he]
   refine ⟨[.box p.cs, .box [.str dn,slD dp, .slice (dc.map Con.d)]]++τ, ?_⟩
   rw [←List.append_assoc]
   have e2:σ++[Obj.box p.cs, .box [.str dn,slD dp, .slice (dc.map Con.d)]]++[.row 6 [] 0]=σ++[.box p.cs, .box [.str dn,slD dp, .slice (dc.map Con.d)], .row 6 [] 0]:=by simp
   rw [e2] at hit1
   clear e2
   simp only [slD] at*
   generalize dp.map D.str=pd at*
   generalize dc.map Con.d=cd at*
   generalize args.map Ty.d=rd at*
   generalize p.cs=pc at*
   simp [bodyI,af41,getA0,getA,setA0,setA,hall,hpl,hpt,h29,h31,conD,hh,hdl,hi,h6,h7,hdpl,hrl,hpa,hit0,hit1]
theorem c115 (ls:List Lab) (tail:Int) (hl:ls.length≤maxL) (σ:St):CI (.fn 115) [.agg [.slice (ls.map Lab.d), .int .i64 tail], .agg [.slice (ls.map Lab.d), .int .i64 tail]] σ=some (.ret (.bool true),σ):=by
 obtain ⟨sd,hsd,hsl,hsg⟩:=opq Lab.d ls
 have v1:eqbL sd sd=true:=eqbL_tree _ (by rw [←hsd];exact (PlainL.map fun x _=>x.plain).1)
 rw [hsd]
 have hit:=loop_find (f:=evalI CI XB GI 38 false lp115_0) (σ:=σ++[.box [.slice sd, .int .i64 tail], .box [.slice sd, .int .i64 tail]]) ls (fun i=>[(2, .ptr σ.length 0),(3, .ptr (σ.length+1) 0),(5, .int .i64 (i:Nat))]) (fun _=>false) (fun _=>(.ret,[],σ)) (.exit 0,[(2, .ptr σ.length 0),(3, .ptr (σ.length+1) 0),(5, .int .i64 ls.length),(24, .bool false)],σ++[.box [.slice sd, .int .i64 tail], .box [.slice sd, .int .i64 tail]]) (by simp) (by simp)
  (fun i hi=>by
    have hw:=wrap_nat (n:=i) (by unfold maxL at hl;omega)
    obtain ⟨h2,h3⟩:=hsg i hi
    have hii: (i:Int) <ls.length:=by omega
    unfold Lab.d at h3
    generalize ls[i].s=xs at*
    generalize ls[i].n=xn at*
    simp [lp115_0,getA0,getA,hi,hii,hw,hsl,h2,h3,v1,eqD,flatEqs,D.kindEq,Nat.testBit_eq_decide_div_mod_eq]) (by simp [lp115_0,getA0,getA,hsl])
 rw [find_none,Int.natCast_zero] at hit
 have hτ:bodyI CI XB GI af115 [.agg [.slice sd, .int .i64 tail], .agg [.slice sd, .int .i64 tail]] σ=some (.ret (.bool true),σ++[.box [.slice sd, .int .i64 tail], .box [.slice sd, .int .i64 tail]]):=by
  simp [bodyI,af115,getA0,getA,hsl,hit]
 exact CI_tree tab115 hτ rfl rfl
theorem c63: ∀ (t:Ty),t.ok→ ∀ (σ:St),CI (.fn 63) [.agg t.cs, .agg t.cs] σ=some (.ret (.bool true),σ)
 | .mk k n s l ls tail,hok,σ=>by
  obtain ⟨hl1,hl2,hl3⟩:=hok
  have ih:=fun x (hx:x ∈ l) σ=>c63 x (tysOk_mem hl3 hx) σ
  have h115:=fun σ=>c115 ls tail hl2 σ
  obtain ⟨ld,hld,hll,hlg⟩:=opq Ty.d l
  obtain ⟨sd,hsd,hsl,hsg⟩:=opq Lab.d ls
  rw [hsd] at h115
  have v1:eqbL sd sd=true:=eqbL_tree _ (by rw [←hsd];exact (PlainL.map fun x _=>x.plain).1)
  have v2:eqbL ld ld=true:=eqbL_tree _ (by rw [←hld];exact (PlainL.map fun x _=>x.plain.agg).1)
  have hcs: (Ty.mk k n s l ls tail).cs=[.int .i64 k, .int .i64 n, .str s, .slice ld, .slice sd, .int .i64 tail]:=by simp only [Ty.cs,tysD_map,hld,hsd]
  rw [hcs]
  have hit:=loop_find (f:=evalI CI XB GI 61 false lp63_0) (σ:=σ++[.box [.int .i64 k, .int .i64 n, .str s, .slice ld, .slice sd, .int .i64 tail], .box [.int .i64 k, .int .i64 n, .str s, .slice ld, .slice sd, .int .i64 tail]]) l (fun i=>[(2, .ptr σ.length 0),(3, .ptr (σ.length+1) 0),(5, .int .i64 (i:Nat))]) (fun _=>false) (fun _=>(.ret,[],σ)) (.exit 0,[(2, .ptr σ.length 0),(3, .ptr (σ.length+1) 0),(5, .int .i64 l.length),(46, .bool false)],σ++[.box [.int .i64 k, .int .i64 n, .str s, .slice ld, .slice sd, .int .i64 tail], .box [.int .i64 k, .int .i64 n, .str s, .slice ld, .slice sd, .int .i64 tail]]) (by simp) (by simp)
   (fun i hi=>by
     have hw:=wrap_nat (n:=i) (by unfold maxL at*;omega)
     obtain ⟨h2,h3⟩:=hlg i hi
     have ih:=ih l[i] (List.getElem_mem hi)
     have hii: (i:Int) <l.length:=by omega
     have y1:=l[i].cs_len
     have y2:=l[i].cs_take
     have y4:eqbL l[i].cs l[i].cs=true:=eqbL_tree _ l[i].plain.1
     have q63:qI 63=false:=rfl
     have x63:XB 63=false:=rfl
     unfold Ty.d at h3
     generalize l[i].cs=xc at*
     simp [lp63_0,getA0,getA,hi,hii,hw,hll,h2,h3,y1,y2,y4,v1,v2,ih,q63,x63,Nat.testBit_eq_decide_div_mod_eq]) (by simp [lp63_0,getA0,getA,hll])
  rw [find_none,Int.natCast_zero] at hit
  have hτ:bodyI CI XB GI af63 [.agg [.int .i64 k, .int .i64 n, .str s, .slice ld, .slice sd, .int .i64 tail], .agg [.int .i64 k, .int .i64 n, .str s, .slice ld, .slice sd, .int .i64 tail]] σ=some (.ret (.bool true),σ++[.box [.int .i64 k, .int .i64 n, .str s, .slice ld, .slice sd, .int .i64 tail], .box [.int .i64 k, .int .i64 n, .str s, .slice ld, .slice sd, .int .i64 tail]]):=by
   simp [bodyI,af63,getA0,getA,hll,h115,hit]
  exact CI_tree tab63 hτ rfl rfl
termination_by t=>SizeOf.sizeOf t
decreasing_by
 have:=List.sizeOf_lt_of_mem hx
 simp only [Ty.mk.sizeOf_spec]
 omega
theorem c21 (l:List Ty) (hl:l.length≤maxL) (hok: ∀t ∈ l,t.ok) (σ:St):CI (.fn 21) [.slice (l.map Ty.d), .slice (l.map Ty.d)] σ=some (.ret (.bool true),σ):=by
 obtain ⟨ld,hld,hll,hlg⟩:=opq Ty.d l
 have v2:eqbL ld ld=true:=eqbL_tree _ (by rw [←hld];exact (PlainL.map fun x _=>x.plain.agg).1)
 rw [hld]
 have hit:=loop_find (f:=evalI CI XB GI 31 false lp21_0) (σ:=σ) l (fun i=>[(0, .slice ld),(1, .slice ld),(5, .bool true),(6, .int .i64 (i:Nat))]) (fun _=>false) (fun _=>(.ret,[],σ)) (.exit 0,[(0, .slice ld),(1, .slice ld),(5, .bool true),(6, .int .i64 l.length),(18, .bool false)],σ) (by simp) (by simp)
  (fun i hi=>by
    have hw:=wrap_nat (n:=i) (by unfold maxL at*;omega)
    obtain ⟨h2,h3⟩:=hlg i hi
    have h63:=fun σ=>c63 l[i] (hok _ (List.getElem_mem hi)) σ
    have hii: (i:Int) <l.length:=by omega
    have y1:=l[i].cs_len
    have y2:=l[i].cs_take
    have y4:eqbL l[i].cs l[i].cs=true:=eqbL_tree _ l[i].plain.1
    have q63:qI 63=false:=rfl
    have x63:XB 63=false:=rfl
    unfold Ty.d at h3
    generalize l[i].cs=xc at*
    simp [lp21_0,hi,hii,hw,hll,h2,h3,y1,y2,y4,v2,h63,q63,x63,Nat.testBit_eq_decide_div_mod_eq]) (by simp [lp21_0,hll])
 rw [find_none,Int.natCast_zero] at hit
 refine CI_tree0 tab21 (d:= .bool true) ?_ rfl rfl
 simp [bodyI,af21,hll,hit]
theorem fieldsL_ok (p:Prg) (s:Bs) (args:List Ty) (hargs: ∀t ∈ args,t.ok): (p.fieldsL s args).length≤maxL∧ ∀t ∈ p.fieldsL s args,t.ok:=by
 unfold Prg.fieldsL
 split
 ·rename_i h
  unfold Prg.fieldsE at h
  obtain ⟨h0,h⟩:=orE_zero.1 h
  unfold Prg.fields
  cases hc:p.conOf s with
  |none=>exact ⟨by unfold maxL;simp,fun t ht=>by cases ht⟩
  |some x=>
   obtain ⟨d,c⟩:=x
   rw [hc] at h
   simp only at h ⊢
   obtain ⟨hd,hcm⟩:=conOf_mem hc
   obtain ⟨f1,f2,f3⟩:=decls_con h0 hd hcm
   split at h
   ·obtain ⟨h1,_⟩:=orE_zero.1 h
    rw [firstE_zero] at h1
    refine ⟨by unfold maxL;simp;omega,fun t ht=> ?_⟩
    obtain ⟨u,hu,rfl⟩:=List.mem_map.1 ht
    exact Ty.small_ok _ (u.small_rep (fun a ha=>Ty.small_chk (h1 _ (List.mem_map_of_mem ha))) (Ty.small_chk (f3 u hu)))
   ·cases h
 ·exact ⟨by unfold maxL;simp,fun t ht=>by cases ht⟩
theorem law7 (p:Prg) (hok:p.ok) (s:Bs) (l:List Ty) (hl:l.length≤maxL∧ ∀t ∈ l,t.ok) (σ:St):CI (.fn 7) [.agg p.cs, .str s, .slice (l.map Ty.d)] σ=some (.ret (.bool true),σ):=by
 obtain ⟨hll,hlo⟩:=hl
 have hall:=p.cs_all
 have hpl:=p.cs_len
 have hpt:=p.cs_take
 have e3:eqbL p.cs p.cs=true:=eqbL_tree _ p.plain.1
 have h15:=fun σ=>c15 p hok s l hll hlo σ
 have h41:=fun σ=>c41 p hok s l hll hlo σ
 obtain ⟨o1,o2⟩:=fieldsL_ok p s l hlo
 have h21:=fun σ=>c21 (p.fieldsL s l) o1 o2 σ
 have h16:=fun σ=>k16 σ
 obtain ⟨ld,hld,hdl,hlg⟩:=opq Ty.d l
 have v2:eqbL ld ld=true:=eqbL_tree _ (by rw [←hld];exact (PlainL.map fun x _=>x.plain.agg).1)
 rw [hld] at h15 h41 ⊢
 have hq: (σ++[Obj.box p.cs])[σ.length]? =some (.box p.cs):=getA0
 have q40:qI 40=false:=rfl
 have x40:XB 40=false:=rfl
 have q23:qI 23=false:=rfl
 have x23:XB 23=false:=rfl
 have hit: ∃j:Int,iterI (evalI CI XB GI 60 false lp7_0) [(1, .str s),(2, .slice ld),(3, .ptr σ.length 0),(7, .int .i64 0)] (σ++[Obj.box p.cs])=some (.exit 0,[(1, .str s),(2, .slice ld),(3, .ptr σ.length 0),(7, .int .i64 j),(19, .bool false)],σ++[Obj.box p.cs]):=by
  cases l with
  |nil=>
   have:ld=[]:=by rw [←hld];rfl
   subst this
   exact ⟨0,iterI_end (by simp [lp7_0]) (by simp)⟩
  |cons t r=>
   obtain ⟨h2,h3⟩:=hlg 0 (by simp)
   have hto:=hlo t List.mem_cons_self
   have h40:=fun σ=>c40 p hok t hto σ
   have h23:=fun σ=>c23 p hok t hto σ
   have y1:=t.cs_len
   have y2:=t.cs_take
   have y4:eqbL t.cs t.cs=true:=eqbL_tree _ t.plain.1
   simp only [List.getElem_cons_zero,Ty.d] at h3
   have hdl1: (ld.length:Int)=(r.length:Int) +1:=by rw [hdl];simp
   have hpos: (0:Int) < (r.length:Int) +1:=by omega
   have hw1:IntKind.i64.wrap 1=1:=rfl
   refine ⟨1, ?_⟩
   have hstep:evalI CI XB GI 60 false lp7_0 [(1, .str s),(2, .slice ld),(3, .ptr σ.length 0),(7, .int .i64 0)] (σ++[Obj.box p.cs])=some (.normal,[(1, .str s),(2, .slice ld),(3, .ptr σ.length 0),(7, .int .i64 1)],σ++[Obj.box p.cs]):=by
    generalize p.tyE t=z at*
    generalize t.cs=tc at*
    generalize p.cs=pc at*
    generalize σ++[Obj.box pc]=σ1 at*
    simp [lp7_0,hq,hpl,hpt,e3,hdl,hdl1,hpos,h2,h3,y1,y2,y4,v2,h40,h23,q40,x40,q23,x23,hw1,Nat.testBit_eq_decide_div_mod_eq]
   rw [iterI_next hstep]
   refine iterI_end ?_ (by simp)
   by_cases h1: (1:Int) < (r.length:Int) +1<;>simp [lp7_0,hdl,hdl1,h1]
 obtain ⟨j,hit⟩:=hit
 have hτ:bodyI CI XB GI af7 [.agg p.cs, .str s, .slice ld] σ=some (.ret (.bool true),σ++[.box p.cs]):=by
  generalize p.fieldsE s l=z at*
  generalize (p.fieldsL s l).map Ty.d=fd at*
  generalize p.cs=pc at*
  simp [bodyI,af7,getA0,hall,hpl,hpt,hit,h15,h41,h21,h16]
 exact CI_tree tab7 hτ rfl rfl
end Go.AI
