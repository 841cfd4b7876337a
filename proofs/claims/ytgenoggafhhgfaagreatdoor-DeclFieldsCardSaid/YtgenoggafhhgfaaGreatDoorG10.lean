/- Texts of the proof: what functions of the program compute, step by step. No conditions of its own. -/
import Derived.Test.YtgenoggafhhgfaaGreatDoorG9
set_option linter.unusedVariables false
set_option linter.unusedSimpArgs false
namespace Go.AI
open Go Go.Proofs Go.Lx
set_option maxRecDepth 100000
theorem postI_set_rows {q:FuncId→Bool} {f:FuncId} {σ τ:St} {i:Nat} {o:Obj} {d r:D} (ho:o.under σ.length) (hs:strip 16 (σ.set i o++τ) d=some r) (hl: ∀j ∈ leads 16 (σ.set i o++τ) d,σ.length≤j) (hq:q f=false):postI q f σ (some (.ret d,σ.set i o++τ))=some (.ret r.weak,σ.set i o):=by
 have hv:trimV σ.length (σ.set i o++τ) (.ret d)=some (.ret r.weak):=by
  simp only [trimV,hs]
  rw [if_pos (List.all_eq_true.2 fun i hi=>by simpa using hl i hi)]
 rw [postI_ret (keeps_set ho) hv (by simp [hq])]
 have:σ.length=(σ.set i o).length:=by simp
 rw [this,List.take_left]
theorem int_under (n:Int) (m:Nat): (Obj.box [.int .i64 n]).under m:=by simp [Obj.under,underL,D.under]
theorem strip_ty {σ:St} {k n:Int} {s:Bs} {r1 n1 r2 n2:Nat} {tail:Int} {a b:List D} {s1 s2:Nat} (h1:σ[r1]? =some (.row 6 a s1)) (hs1:s1≤a.length) (h2:σ[r2]? =some (.row 2 b s2)) (hs2:s2≤b.length) (hn1:n1=a.length) (hn2:n2=b.length) (ta:treeL a=true) (tb:treeL b=true):
 strip 16 σ (.agg [.int .i64 k, .int .i64 n, .str s, .arr r1 n1 0 n1, .arr r2 n2 0 n2, .int .i64 tail])=some (.agg [.int .i64 k, .int .i64 n, .str s, .slice a, .slice b, .int .i64 tail])∧
  leads 16 σ (.agg [.int .i64 k, .int .i64 n, .str s, .arr r1 n1 0 n1, .arr r2 n2 0 n2, .int .i64 tail])=[r1,r2]:=by
 subst hn1 hn2
 obtain ⟨p1,p2⟩:=strip_row h1 hs1 ta 14
 obtain ⟨q1,q2⟩:=strip_row h2 hs2 tb 14
 constructor
 ·unfold strip
  simp only [D.tree,treeL,Bool.and_true,Bool.true_and,Bool.false_and,Bool.and_false,Bool.false_eq_true,if_false]
  simp only [List.mapM_cons,List.mapM_nil,p1,q1,strip_one 15 σ (.int .i64 _) rfl,strip_one 15 σ (.str _) rfl]
  rfl
 ·unfold leads
  simp only [D.tree,treeL,Bool.and_true,Bool.true_and,Bool.false_and,Bool.and_false,Bool.false_eq_true,if_false]
  simp only [List.flatMap_cons,List.flatMap_nil,p2,q2,leads_one 15 σ (.int .i64 _) rfl,leads_one 15 σ (.str _) rfl]
  rfl
set_option maxHeartbeats 2000000 in
theorem c61g (params:List Bs) (args:List Ty) (pd ad:D) (hpd:StrsD pd params) (had:ArgsD ad args) (hpl:params.length≤4) (hpa:params.length=args.length)
 (hsub: ∀a ∈ args,a.small∧put61 .empty .empty a a): ∀t:Ty,t.small→put61 pd ad t (t.rep params args)
 | .mk k m s l ls tail,hsm,d,n,i,σ,hσ,hn0,hn1,hd0,hd1=>by
  obtain ⟨hl4,hls,_,hl⟩:=hsm
  have ih:=fun x (hx:x ∈ l)=>c61g params args pd ad hpd had hpl hpa hsub x (tysSmall_mem hl hx)
  have hi:=lt_of_get hσ
  have h89:=fun σ=>k89 hpd (by unfold maxL;omega) s σ
  have hwn:IntKind.i64.wrap (n - 1)=n - 1:=wrap_i64 (by omega) (by omega)
  obtain ⟨ld,hld,hll,hlg⟩:=opq Ty.d l
  obtain ⟨sd,hsd,hsl,hsg⟩:=opq Lab.d ls
  have hcs: (Ty.mk k m s l ls tail).cs=[.int .i64 k, .int .i64 m, .str s, .slice ld, .slice sd, .int .i64 tail]:=by simp only [Ty.cs,tysD_map,hld,hsd]
  rw [hcs]
  by_cases hk:k=1∧0≤indexP params s
  ·obtain ⟨rfl,hix⟩:=hk
   obtain ⟨j,hj,hjl⟩:=indexP_lt params s hix
   have hja:j<args.length:=by omega
   obtain ⟨hasm,hput⟩:=hsub args[j] (List.getElem_mem hja)
   have hget:args.getD (indexP params s).toNat (Ty.mk 1 m s l ls tail)=args[j]:=by rw [hj];simp [hja]
   have hrep: (Ty.mk 1 m s l ls tail).rep params args=args[j]:=by simp only [Ty.rep,hix,and_self,if_true,hget]
   rw [hrep]
   unfold res61
   rw [hj] at h89
   have hput:=hput d n i (σ++[.box [.int .i64 1, .int .i64 m, .str s, .slice ld, .slice sd, .int .i64 tail], .box z6]) (getO hσ) hn0 hn1 hd0 hd1
   unfold res61 at hput
   rw [setO hi] at hput
   have hadd:ad= .slice (args.map Ty.d):=by
    rcases had with h| ⟨_,h⟩
    ·exact h
    ·rw [h] at hja;simp at hja
   obtain ⟨rd,hrd,hrl,hrg⟩:=opq Ty.d args
   obtain ⟨h2,h3⟩:=hrg j hja
   rw [hrd] at hadd
   subst hadd
   have y1:=args[j].cs_len
   have y2:=args[j].cs_take
   have y3:args[j].cs.all D.one=true:=by cases args[j];rfl
   have yp:=args[j].plain.agg
   have hj0: (0:Int)≤(j:Int):=by omega
   have hji: (j:Int) <args.length:=by omega
   unfold Ty.d at h3
   by_cases hok: (args[j].rm d n).1=true
   ·rw [if_pos hok] at hput ⊢
    have hτ:bodyI CI XB GI af61 [.ptr i 0, .agg [.int .i64 1, .int .i64 m, .str s, .slice ld, .slice sd, .int .i64 tail],pd, .slice rd, .int .i64 d] σ=some (.ret (.agg args[j].cs),σ.set i (.box [.int .i64 (args[j].rm d n).2])++[.box [.int .i64 1, .int .i64 m, .str s, .slice ld, .slice sd, .int .i64 tail], .box args[j].cs]):=by
     generalize args[j].cs=xc at*
     generalize (args[j].rm d n).2=n2 at*
     simp [bodyI,af61,getA0,getA,h89,hj0,hji,hja,hrl,h2,h3,y1,y2,y3,hput,getAs,setAs,getAs0]
    refine CI_fn tab61 hτ ?_
    rw [postI_set (int_under _ _) yp.1 rfl,yp.2]
   ·rw [if_neg hok] at hput ⊢
    have hτ:bodyI CI XB GI af61 [.ptr i 0, .agg [.int .i64 1, .int .i64 m, .str s, .slice ld, .slice sd, .int .i64 tail],pd, .slice rd, .int .i64 d] σ=some (.panic (refD 3),σ.set i (.box [.int .i64 (args[j].rm d n).2])++[.box [.int .i64 1, .int .i64 m, .str s, .slice ld, .slice sd, .int .i64 tail], .box z6]):=by
     generalize args[j].cs=xc at*
     generalize (args[j].rm d n).2=n2 at*
     simp [bodyI,af61,getA0,getA,h89,hj0,hji,hja,hrl,h2,h3,y1,y2,y3,hput]
    exact CI_fn tab61 hτ (postI_set_panic (int_under _ _) rfl)
  ·have hrep: (Ty.mk k m s l ls tail).rep params args=Ty.mk k m s (tysRep params args l) ls tail:=by simp only [Ty.rep];rw [if_neg hk]
   rw [hrep]
   have hrm: (Ty.mk k m s (tysRep params args l) ls tail).rm d n=if n - 1<0∨d<1 then (false,n - 1) else tysRm (tysRep params args l) (d - 1) (n - 1):=by simp only [Ty.rm]
   unfold res61
   rw [hrm]
   obtain ⟨j,hj,hcond⟩: ∃j:Int,indexP params s=j∧((k==1)&&decide (0≤j))=false:=⟨_,rfl,by
    rw [Bool.eq_false_iff];intro h;rw [Bool.and_eq_true] at h;exact hk ⟨by simpa using h.1,by simpa using h.2⟩⟩
   rw [hj] at h89
   have hg0: (σ++[Obj.box [.int .i64 k, .int .i64 m, .str s, .slice ld, .slice sd, .int .i64 tail], .box z6])[i]? =some (.box [.int .i64 n]):=getO hσ
   have hse: ∀o,(σ++[Obj.box [.int .i64 k, .int .i64 m, .str s, .slice ld, .slice sd, .int .i64 tail], .box z6]).set i o=σ.set i o++[.box [.int .i64 k, .int .i64 m, .str s, .slice ld, .slice sd, .int .i64 tail], .box z6]:=fun o=>setO hi
   have hgs: ∀o y,(σ.set i o++(y:St))[i]? =some o:=fun o y=>getSs hi
   by_cases hbad:n - 1<0∨d<1
   ·rw [if_pos hbad]
    simp only [Bool.false_eq_true,if_false]
    have hτ:bodyI CI XB GI af61 [.ptr i 0, .agg [.int .i64 k, .int .i64 m, .str s, .slice ld, .slice sd, .int .i64 tail],pd,ad, .int .i64 d] σ=some (.panic (refD 3),σ.set i (.box [.int .i64 (n - 1)])++[.box [.int .i64 k, .int .i64 m, .str s, .slice ld, .slice sd, .int .i64 tail], .box z6]):=by
     cases hk1:k==1
     ·by_cases hb1:n - 1<0
      ·simp [bodyI,af61,getA0,getA,h89,hk1,hg0,hse,hgs,hwn,hb1,c58]
      ·have hb2:d<1:=by omega
       simp [bodyI,af61,getA0,getA,h89,hk1,hg0,hse,hgs,hwn,hb1,hb2,c58]
     ·rw [hk1,Bool.true_and] at hcond
      have hcond': ¬0≤j:=by simpa using hcond
      by_cases hb1:n - 1<0
      ·simp [bodyI,af61,getA0,getA,h89,hk1,hcond',hg0,hse,hgs,hwn,hb1,c58]
      ·have hb2:d<1:=by omega
       simp [bodyI,af61,getA0,getA,h89,hk1,hcond',hg0,hse,hgs,hwn,hb1,hb2,c58]
    exact CI_fn tab61 hτ (postI_set_panic (int_under _ _) rfl)
   ·rw [if_neg hbad]
    have hb1: ¬n - 1<0:=by omega
    have hb2: ¬d<1:=by omega
    have hlm:l.length*88≤140737488355328:=by omega
    have hlm2:l.length≤140737488355328:=by omega
    have hsm:ls.length*24≤140737488355328:=by omega
    have hsm2:ls.length≤140737488355328:=by omega
    obtain ⟨τ,ev,since,hsi,hit⟩:=it61 params args pd ad l hl4 d (by omega) hd1 i σ hi [.int .i64 k, .int .i64 m, .str s, .slice ld, .slice sd, .int .i64 tail] ih l [] rfl (n - 1) (List.replicate l.length (.agg z6)) 0 [] (by omega) (by omega) (by omega) rfl
    rw [hld,List.append_nil,List.length_nil,Int.natCast_zero] at hit
    by_cases hok: (tysRm (tysRep params args l) (d - 1) (n - 1)).1=true
    ·rw [if_pos hok] at hit ⊢
     generalize (tysRm (tysRep params args l) (d - 1) (n - 1)).2=n2 at*
     have hes: (tysRep params args l).map Ty.d=l.map fun x=>(x.rep params args).d:=by rw [tysRep_map,List.map_map];rfl
     have hrcs: (Ty.mk k m s (tysRep params args l) ls tail).cs=[.int .i64 k, .int .i64 m, .str s, .slice (l.map fun x=>(x.rep params args).d), .slice sd, .int .i64 tail]:=by
      simp only [Ty.cs,tysD_map,hes,hsd]
     have hp:=(Ty.mk k m s (tysRep params args l) ls tail).plain.agg
     rw [hrcs] at hp ⊢
     have hel: (l.map fun x=>(x.rep params args).d).length=l.length:=by simp
     have het:treeL (l.map fun x=>(x.rep params args).d)=true:=by
      rw [←hes,←tysD_map];exact (tys_plain _).1
     have hst:treeL sd=true:=by rw [←hsd];exact (PlainL.map fun x _=>x.plain).1
     have hsall: (sd.all fun e=>e.cells.length==2&&e.cells.all D.one)=true:=by
      rw [←hsd,List.all_map];exact List.all_eq_true.2 fun x _=>rfl
     generalize (l.map fun x=>(x.rep params args).d)=es at*
     obtain ⟨s2,hs2,hτ⟩: ∃s2,s2≤sd.length∧bodyI CI XB GI af61 [.ptr i 0, .agg [.int .i64 k, .int .i64 m, .str s, .slice ld, .slice sd, .int .i64 tail],pd,ad, .int .i64 d] σ=
      some (.ret (.agg [.int .i64 k, .int .i64 m, .str s, .arr (σ.length+2) l.length 0 l.length, .arr (σ.length+ (τ.length+3)) ls.length 0 ls.length, .int .i64 tail]),σ.set i (.box [.int .i64 n2])++([.box [.int .i64 k, .int .i64 m, .str s, .arr (σ.length+2) l.length 0 l.length, .arr (σ.length+ (τ.length+3)) ls.length 0 ls.length, .int .i64 tail], .box [.int .i64 k, .int .i64 m, .str s, .arr (σ.length+2) l.length 0 l.length, .arr (σ.length+ (τ.length+3)) ls.length 0 ls.length, .int .i64 tail], .row 6 es since]++(τ++[.row 2 sd s2]))):=by
      simp only [D.cells,D.one] at hsall
      by_cases hz:ls.length=0
      ·have hsd0:sd=[]:=List.length_eq_zero_iff.1 (by omega)
       subst hsd0
       refine ⟨0,by simp, ?_⟩
       cases hk1:k==1
       ·simp [bodyI,af61,getA0,getA,setA0,setA,h89,hk1,hg0,hse,hgs,hwn,hb1,hb2,getAs,getAs0,setAs,hll,hlm,hlm2,hit,hz,rowOf]
       ·rw [hk1,Bool.true_and] at hcond
        have hcond': ¬0≤j:=by simpa using hcond
        simp [bodyI,af61,getA0,getA,setA0,setA,h89,hk1,hcond',hg0,hse,hgs,hwn,hb1,hb2,getAs,getAs0,setAs,hll,hlm,hlm2,hit,hz,rowOf]
      ·refine ⟨ls.length,by omega, ?_⟩
       have hsd0: ¬sd=[]:=by intro h;rw [h] at hsl;simp at hsl;omega
       cases hk1:k==1
       ·simp [bodyI,af61,getA0,getA,setA0,setA,h89,hk1,hg0,hse,hgs,hwn,hb1,hb2,getAs,getAs0,setAs,hll,hlm,hlm2,hit,hz,rowOf,hsl,hsm,hsm2,hsall,hsd0, -List.all_eq_true]
       ·rw [hk1,Bool.true_and] at hcond
        have hcond': ¬0≤j:=by simpa using hcond
        simp [bodyI,af61,getA0,getA,setA0,setA,h89,hk1,hcond',hg0,hse,hgs,hwn,hb1,hb2,getAs,getAs0,setAs,hll,hlm,hlm2,hit,hz,rowOf,hsl,hsm,hsm2,hsall,hsd0, -List.all_eq_true]
     have hpost:=strip_ty (σ:=σ.set i (.box [.int .i64 n2])++([.box [.int .i64 k, .int .i64 m, .str s, .arr (σ.length+2) l.length 0 l.length, .arr (σ.length+ (τ.length+3)) ls.length 0 ls.length, .int .i64 tail], .box [.int .i64 k, .int .i64 m, .str s, .arr (σ.length+2) l.length 0 l.length, .arr (σ.length+ (τ.length+3)) ls.length 0 ls.length, .int .i64 tail], .row 6 es since]++(τ++[.row 2 sd s2]))) (k:=k) (n:=m) (s:=s) (r1:=σ.length+2) (n1:=l.length) (r2:=σ.length+ (τ.length+3)) (n2:=ls.length) (tail:=tail) (a:=es) (b:=sd) (s1:=since) (s2:=s2) (by rw [getAs];rfl) (by omega) (by rw [getAs];simp) hs2 hel.symm hsl.symm het hst
     refine CI_fn tab61 hτ ?_
     rw [postI_set_rows (int_under _ _) hpost.1 (by rw [hpost.2];intro j hj;simp at hj;omega) rfl,hp.2]
    ·rw [if_neg hok] at hit ⊢
     generalize (tysRm (tysRep params args l) (d - 1) (n - 1)).2=n2 at*
     have hτ:bodyI CI XB GI af61 [.ptr i 0, .agg [.int .i64 k, .int .i64 m, .str s, .slice ld, .slice sd, .int .i64 tail],pd,ad, .int .i64 d] σ=some (.panic (refD 3),σ.set i (.box [.int .i64 n2])++τ):=by
      cases hk1:k==1
      ·simp [bodyI,af61,getA0,getA,h89,hk1,hg0,hse,hgs,hwn,hb1,hb2,getAs,getAs0,hll,hlm,hlm2,hit]
      ·rw [hk1,Bool.true_and] at hcond
       have hcond': ¬0≤j:=by simpa using hcond
       simp [bodyI,af61,getA0,getA,h89,hk1,hcond',hg0,hse,hgs,hwn,hb1,hb2,getAs,getAs0,hll,hlm,hlm2,hit]
     exact CI_fn tab61 hτ (postI_set_panic (int_under _ _) rfl)
termination_by t=>SizeOf.sizeOf t
decreasing_by
 have:=List.sizeOf_lt_of_mem hx
 simp only [Ty.mk.sizeOf_spec]
 omega
theorem put_nil (t:Ty) (h:t.small):put61 .empty .empty t t:=by
 have:=c61g [] [] .empty .empty (.inr ⟨rfl,rfl⟩) (.inr ⟨rfl,rfl⟩) (by simp) rfl (fun a ha=>by cases ha) t h
 rw [t.rep_nil] at this
 exact this
theorem c61 (params:List Bs) (args:List Ty) (hpl:params.length≤4) (hpa:params.length=args.length) (ha: ∀a ∈ args,a.small) (t:Ty) (h:t.small):put61 (slD params) (.slice (args.map Ty.d)) t (t.rep params args):=
 c61g params args _ _ (.inl rfl) (.inl rfl) hpl hpa (fun a h=>⟨ha a h,put_nil a (ha a h)⟩) t h
theorem tysD_app (a b:List Ty):tysD (a++b)=tysD a++tysD b:=by simp only [tysD_map,List.map_append]
def lrow (σ:St) (r q:Nat) (b:List Ty):St:=(σ.set r (.row 6 (tysD b) b.length)).set q (.box [.arr r b.length 0 b.length])
theorem lrow_len {σ:St} {r q:Nat} {b:List Ty} : (lrow σ r q b).length=σ.length:=by simp [lrow]
theorem lrow_q {σ:St} {r q:Nat} {b:List Ty} (hq:q<σ.length): (lrow σ r q b)[q]? =some (.box [.arr r b.length 0 b.length]):=by
 unfold lrow;rw [List.getElem?_set_self (by simpa using hq)]
theorem lrow_r {σ:St} {r q:Nat} {b:List Ty} (hr:r<σ.length) (hne:q≠r): (lrow σ r q b)[r]? =some (.row 6 (tysD b) b.length):=by
 unfold lrow;rw [List.getElem?_set_ne hne,List.getElem?_set_self hr]
theorem lrow_o {σ:St} {r q j:Nat} {b:List Ty} (h1:q≠j) (h2:r≠j): (lrow σ r q b)[j]? =σ[j]? :=by
 unfold lrow;rw [List.getElem?_set_ne h1,List.getElem?_set_ne h2]
set_option maxHeartbeats 1000000 in
theorem rnd57_1 (params:List Bs) (args:List Ty) (hpl:params.length≤4) (hpa:params.length=args.length) (hargs: ∀a ∈ args,a.small) (l:List Ty) (hl:l.length≤4) (hls: ∀t ∈ l,t.small) (dn:Bs) (dc:List D) (c r q dq:Nat) (σ:St) (hne:q≠r)
 (hrl:r<σ.length) (hql:q<σ.length) (hc:σ[c]? =some (.box [.slice (args.map Ty.d)])) (hcq:q≠c) (hcr:r≠c) (hdq:σ[dq]? =some (.box [.str dn,slD params, .slice dc])) (hdqq:q≠dq) (hdqr:r≠dq)
 (i:Nat) (hi:i<l.length) (b:List Ty) (hb:b.length≤4) (τ:St):
 ∃τ' ev,evalI CI XB GI 79 false lp57_1 [(2, .ptr c 0),(3, .ptr q 0),(7, .ptr dq 0),(61, .slice (l.map Ty.d)),(62, .int .i64 l.length),(63, .int .i64 (i:Nat))] (lrow σ r q b++τ)=
  some (if ((l[i].rep params args).rm 200 3000).1 then (.normal,[(2, .ptr c 0),(3, .ptr q 0),(7, .ptr dq 0),(61, .slice (l.map Ty.d)),(62, .int .i64 l.length),(63, .int .i64 (i+1:Nat))],lrow σ r q (b++[l[i].rep params args])++τ') else (.panic (refD 3),ev,lrow σ r q b++τ')):=by
 have hw:=wrap_nat (n:=i) (by omega)
 obtain ⟨ld,hld,hll,hlg⟩:=opq Ty.d l
 obtain ⟨h2,h3⟩:=hlg i hi
 have hput:=c61 params args hpl hpa hargs l[i] (hls _ (List.getElem_mem hi)) 200 3000 ((lrow σ r q b).length+τ.length+1) (lrow σ r q b++τ++[.box l[i].cs, .box [.int .i64 3000]]) (by
  rw [show (lrow σ r q b).length+τ.length=(lrow σ r q b++τ).length by simp];exact getA) (by omega) (by omega) (by omega) (by omega)
 unfold res61 at hput
 rw [show (lrow σ r q b).length+τ.length=(lrow σ r q b++τ).length by simp,setA] at hput
 have hii: (i:Int) <l.length:=by omega
 have y1:=l[i].cs_len
 have y2:=l[i].cs_take
 have y3:l[i].cs.all D.one=true:=by cases l[i];rfl
 have y4:eqbL l[i].cs l[i].cs=true:=eqbL_tree _ l[i].plain.1
 have w1:=(l[i].rep params args).cs_len
 have w2: (l[i].rep params args).cs.all D.one=true:=by cases l[i].rep params args;rfl
 have w4:eqbL (l[i].rep params args).cs (l[i].rep params args).cs=true:=eqbL_tree _ (l[i].rep params args).plain.1
 have p4: (slD params).eqb (slD params)=true:=D.eqb_tree _ (plain_strs _).1
 have a4:eqbL (args.map Ty.d) (args.map Ty.d)=true:=eqbL_tree _ (PlainL.map fun t _=>t.plain.agg).1
 have hbl:=tysD_len b
 have hba: (b.length+1) *88≤140737488355328:=by omega
 have g1: ∀y,(lrow σ r q b++τ++y)[q]? =some (.box [.arr r b.length 0 b.length]):=fun y=>getO (getO (lrow_q hql))
 have g2: ∀y,(lrow σ r q b++τ++y)[r]? =some (.row 6 (tysD b) b.length):=fun y=>getO (getO (lrow_r hrl hne))
 have g3: ∀y,(lrow σ r q b++τ++y)[c]? =some (.box [.slice (args.map Ty.d)]):=fun y=>getO (getO ((lrow_o hcq hcr).trans hc))
 have g4: ∀y,(lrow σ r q b++τ++y)[dq]? =some (.box [.str dn,slD params, .slice dc]):=fun y=>getO (getO ((lrow_o hdqq hdqr).trans hdq))
 have q61:qI 61=false:=rfl
 have x61:XB 61=false:=rfl
 have hsr: ∀y o,((lrow σ r q b++τ++y).set r o)[r]? =some o:=fun y o=>List.getElem?_set_self (by simp [lrow_len];omega)
 have hsq: ∀y o,((lrow σ r q b++τ++y).set r o)[q]? =some (.box [.arr r b.length 0 b.length]):=fun y o=>by rw [List.getElem?_set_ne hne.symm];exact g1 y
 have hfin: ∀y,((lrow σ r q b++τ++y).set r (.row 6 (tysD b++[.agg (l[i].rep params args).cs]) (b.length+1))).set q (.box [.arr r (b.length+1) 0 (b.length+1)])=lrow σ r q (b++[l[i].rep params args])++(τ++y):=fun y=>by
  rw [List.append_assoc,List.set_append_left _ _ (by rw [lrow_len];exact hrl),List.set_append_left _ _ (by simp [lrow_len];exact hql)]
  unfold lrow
  rw [List.set_comm _ _ hne,List.set_set,List.set_set,tysD_app]
  simp only [List.length_append,List.length_cons,List.length_nil,tysD,Nat.zero_add]
 have hrq: ∀y o ob,(((lrow σ r q b++τ++y).set r o).set q ob)[r]? =some o:=fun y o ob=>by rw [List.getElem?_set_ne hne];exact hsr y o
 have hqq: ∀y o ob,(((lrow σ r q b++τ++y).set r o).set q ob)[q]? =some ob:=fun y o ob=>List.getElem?_set_self (by simp [lrow_len];omega)
 have hlt: (b.length:Int) < (b.length:Int) +1:=by omega
 have hat: (tysD b++[D.agg z6])[b.length]? =some (.agg z6):=by rw [←hbl,List.getElem?_append_right (Nat.le_refl _)];simp
 have hst: ∀d,(tysD b++[D.agg z6]).set b.length d=tysD b++[d]:=fun d=>by rw [←hbl,List.set_append_right _ _ (Nat.le_refl _)];simp
 unfold Ty.d at h3
 rw [hld]
 by_cases hok: ((l[i].rep params args).rm 200 3000).1=true
 ·simp only [if_pos hok] at hput ⊢
  refine ⟨τ++[.box l[i].cs, .box [.int .i64 ((l[i].rep params args).rm 200 3000).2]],[], ?_⟩
  rw [←hfin]
  clear hfin
  generalize (l[i].rep params args).rm 200 3000=rmv at*
  simp only [List.set_cons_succ,List.set_cons_zero] at hput
  generalize slD params=pd at*
  generalize args.map Ty.d=rd at*
  generalize l[i].cs=xc at*
  generalize (l[i].rep params args).cs=rc at*
  generalize hσ1:lrow σ r q b++τ=σ1 at*
  simp [lp57_1,hi,hii,hw,hll,h2,h3,y1,y2,y3,y4,w1,w2,w4,p4,a4,getA0,getA,setA0,setA,g1,g2,g3,g4,hput,hbl,hba,rowOf,fillRow,fillD,putCells,q61,x61,log512,hsr,hsq,hrq,hqq,hne,hne.symm,hlt,hat,hst,Nat.testBit_eq_decide_div_mod_eq]
 ·simp only [if_neg hok] at hput ⊢
  refine ⟨τ++[.box l[i].cs, .box [.int .i64 ((l[i].rep params args).rm 200 3000).2]],[(2, .ptr c 0),(3, .ptr q 0),(7, .ptr dq 0),(11, .ptr (lrow σ r q b++τ).length 0),(12, .ptr ((lrow σ r q b++τ).length+1) 0),(61, .slice ld),(62, .int .i64 l.length),(63, .int .i64 i),(68, .arr r b.length 0 b.length),(69, .agg l[i].cs),(70, .ptr dq 1),(71,slD params),(72, .slice (args.map Ty.d))], ?_⟩
  rw [←List.append_assoc]
  clear hfin
  generalize (l[i].rep params args).rm 200 3000=rmv at*
  simp only [List.set_cons_succ,List.set_cons_zero] at hput
  generalize slD params=pd at*
  generalize args.map Ty.d=rd at*
  generalize l[i].cs=xc at*
  generalize (l[i].rep params args).cs=rc at*
  generalize hσ1:lrow σ r q b++τ=σ1 at*
  simp [lp57_1,hi,hii,hw,hll,h2,h3,y1,y2,y3,y4,w1,w2,w4,p4,a4,getA0,getA,setA0,setA,g1,g2,g3,g4,hput,hbl,hba,rowOf,fillRow,fillD,putCells,q61,x61,log512,hsr,hsq,hrq,hqq,hne,hne.symm,hlt,hat,hst,Nat.testBit_eq_decide_div_mod_eq]
theorem lrow_app {σ X:St} {r q:Nat} {b:List Ty} (hr:r<σ.length) (hq:q<σ.length):lrow (σ++X) r q b=lrow σ r q b++X:=by
 unfold lrow
 rw [List.set_append_left _ _ hr,List.set_append_left _ _ (by simpa using hq)]
theorem lrow_nil {σ:St} {r q:Nat} (hr:σ[r]? =some (.row 6 [] 0)) (hq:σ[q]? =some (.box [.arr r 0 0 0])):lrow σ r q []=σ:=by
 have e1:σ.set r (.row 6 [] 0)=σ:=by
  obtain ⟨h1,h2⟩:=List.getElem?_eq_some_iff.1 hr
  rw [←h2];exact List.set_getElem_self h1
 have e2:σ.set q (.box [.arr r 0 0 0])=σ:=by
  obtain ⟨h1,h2⟩:=List.getElem?_eq_some_iff.1 hq
  rw [←h2];exact List.set_getElem_self h1
 unfold lrow
 show (σ.set r (.row 6 [] 0)).set q (.box [.arr r 0 0 0])=σ
 rw [e1,e2]
theorem lrow_keeps {σ:St} {r q:Nat} {b:List Ty} (hr:r<σ.length) (hq:q<σ.length) (hne:q≠r): ∀j,j<σ.length→(lrow σ r q b)[j]? =σ[j]? ∨ ∃o,(lrow σ r q b)[j]? =some o∧o.under σ.length:=by
 intro j hj
 by_cases h1:q=j
 ·subst h1
  exact .inr ⟨_,lrow_q hj,by simp [Obj.under,underL,D.under,hr]⟩
 ·by_cases h2:r=j
  ·subst h2
   exact .inr ⟨_,lrow_r hj hne,treeL_under _ (tys_plain b).1⟩
  ·exact .inl (lrow_o h1 h2)
def fitR (params:List Bs) (args:List Ty) (t:Ty):Bool:=((t.rep params args).rm 200 3000).1
theorem it57_1 (params:List Bs) (args:List Ty) (hpl:params.length≤4) (hpa:params.length=args.length) (hargs: ∀a ∈ args,a.small) (l:List Ty) (hl:l.length≤4) (hls: ∀t ∈ l,t.small) (dn:Bs) (dc:List D) (c r q dq:Nat) (σ:St) (hne:q≠r)
 (hrl:r<σ.length) (hql:q<σ.length) (hc:σ[c]? =some (.box [.slice (args.map Ty.d)])) (hcq:q≠c) (hcr:r≠c) (hdq:σ[dq]? =some (.box [.str dn,slD params, .slice dc])) (hdqq:q≠dq) (hdqr:r≠dq):
 ∀ (m i:Nat),i+m=l.length→ ∀ (b:List Ty) (τ:St),b.length=i→ ∃τ' ev b',b'.length≤4∧iterI (evalI CI XB GI 79 false lp57_1) [(2, .ptr c 0),(3, .ptr q 0),(7, .ptr dq 0),(61, .slice (l.map Ty.d)),(62, .int .i64 l.length),(63, .int .i64 (i:Nat))] (lrow σ r q b++τ)=
  some (if (l.drop i).all (fitR params args) then (.exit 2,[(2, .ptr c 0),(3, .ptr q 0),(7, .ptr dq 0),(61, .slice (l.map Ty.d)),(62, .int .i64 l.length),(63, .int .i64 l.length),(64, .bool false)],lrow σ r q (b++(l.drop i).map (Ty.rep params args))++τ') else (.panic (refD 3),ev,lrow σ r q b'++τ')):=by
 intro m
 induction m with
 |zero=>
  intro i hi b τ hb
  obtain rfl:i=l.length:=by omega
  refine ⟨τ,[],[],by simp,iterI_end ?_ (by simp)⟩
  rw [List.drop_length]
  simp only [List.all_nil,if_true,List.map_nil,List.append_nil]
  generalize lrow σ r q b++τ=σ1 at*
  generalize l.map Ty.d=ld at*
  simp [lp57_1]
 |succ m ih=>
  intro i hi b τ hb
  have hlt:i<l.length:=by omega
  obtain ⟨τ1,ev,hr⟩:=rnd57_1 params args hpl hpa hargs l hl hls dn dc c r q dq σ hne hrl hql hc hcq hcr hdq hdqq hdqr i hlt b (by omega) τ
  rw [List.drop_eq_getElem_cons hlt,List.all_cons,List.map_cons]
  by_cases hok: ((l[i].rep params args).rm 200 3000).1=true
  ·simp only [if_pos hok] at hr
   have hf:fitR params args l[i]=true:=hok
   obtain ⟨τ',ev',b',hb',h⟩:=ih (i+1) (by omega) (b++[l[i].rep params args]) τ1 (by simp [hb])
   refine ⟨τ',ev',b',hb', ?_⟩
   rw [iterI_next hr,h,hf,Bool.true_and]
   simp only [List.append_assoc,List.cons_append,List.nil_append]
  ·simp only [if_neg hok] at hr
   have hf:fitR params args l[i]=false:=by unfold fitR;simpa using hok
   refine ⟨τ1,ev,b,by omega, ?_⟩
   rw [hf]
   exact iterI_end hr (by simp)
theorem it57_0 (args:List Ty) (hl:args.length≤maxL) (hok: ∀a ∈ args,a.ok) (d2 d3 d5 d7:D) (σ:St): ∃τ' ev,iterI (evalI CI XB GI 79 false lp57_0) [(2,d2),(3,d3),(5,d5),(7,d7),(45, .slice (args.map Ty.d)),(46, .int .i64 args.length),(47, .int .i64 0)] σ=
 some (if firstE (args.map Ty.chk)=0 then (.exit 0,[(2,d2),(3,d3),(5,d5),(7,d7),(45, .slice (args.map Ty.d)),(46, .int .i64 args.length),(47, .int .i64 args.length),(48, .bool false)],σ++τ') else (.panic (refD (firstE (args.map Ty.chk))),ev,σ++τ')):=by
 obtain ⟨ld,hld,hll,hlg⟩:=opq Ty.d args
 rw [hld]
 have:=loop_seekP (f:=evalI CI XB GI 79 false lp57_0) (σ:=σ) args (fun i=>[(2,d2),(3,d3),(5,d5),(7,d7),(45, .slice ld),(46, .int .i64 args.length),(47, .int .i64 (i:Nat))]) Ty.chk (fun e=> .panic (refD e)) (.exit 0,[(2,d2),(3,d3),(5,d5),(7,d7),(45, .slice ld),(46, .int .i64 args.length),(47, .int .i64 args.length),(48, .bool false)]) (by simp) (by simp)
  (fun i hi τ=>by
    have hw:=wrap_nat (n:=i) (by unfold maxL at*;omega)
    obtain ⟨h2,h3⟩:=hlg i hi
    have h60:=fun σ=>c60 args[i] (hok _ (List.getElem_mem hi)) σ
    have hii: (i:Int) <args.length:=by omega
    have y1:=args[i].cs_len
    have y2:=args[i].cs_take
    have y3:args[i].cs.all D.one=true:=by cases args[i];rfl
    unfold Ty.d at h3
    by_cases h0:args[i].chk=0
    ·refine ⟨τ++[.box args[i].cs],[], ?_⟩
     rw [h0] at h60
     rw [if_pos h0,←List.append_assoc]
     generalize args[i].cs=xc at*
     generalize σ++τ=σ1 at*
     simp [lp57_0,hi,hii,hw,h2,h3,y1,y2,y3,getA0,setA0,h60,c59,outR_zero]
    ·refine ⟨τ++[.box args[i].cs],[(2,d2),(3,d3),(5,d5),(7,d7),(9, .ptr (σ++τ).length 0),(45, .slice ld),(46, .int .i64 args.length),(47, .int .i64 (i:Nat)),(51, .agg args[i].cs),(52, .int .i64 args[i].chk)], ?_⟩
     rw [if_neg h0,←List.append_assoc]
     generalize args[i].chk=z at*
     generalize args[i].cs=xc at*
     generalize σ++τ=σ1 at*
     simp [lp57_0,hi,hii,hw,h2,h3,y1,y2,y3,getA0,setA0,h60,c59,outR_ne h0])
  (fun τ=>⟨τ,by simp [lp57_0]⟩) []
 rw [List.append_nil,Int.natCast_zero] at this
 exact this
def Prg.fieldsE (p:Prg) (s:Bs) (args:List Ty):Int:=orE p.decls (match p.conOf s with
 |none=>6
 |some (d,c)=>if d.params.length=args.length then orE (firstE (args.map Ty.chk)) (if c.args.all (fitR d.params args) then 0 else 3) else 7)
def Prg.fields (p:Prg) (s:Bs) (args:List Ty):List Ty:=match p.conOf s with
 |none=>[]
 |some (d,c)=>c.args.map (Ty.rep d.params args)
theorem conOf_mem {p:Prg} {s:Bs} {d:Dat} {c:Con} (h:p.conOf s=some (d,c)):d ∈ p.data∧c ∈ d.cons:=by
 unfold Prg.conOf at h
 cases hf:findConL s p.data 0 with
 |none=>rw [hf] at h;cases h
 |some x=>
  obtain ⟨i,k⟩:=x
  rw [hf] at h
  simp only at h
  obtain ⟨d',hd,h⟩:=Option.bind_eq_some_iff.1 h
  obtain ⟨c',hc,h⟩:=Option.map_eq_some_iff.1 h
  cases h
  exact ⟨List.mem_of_getElem? hd,List.mem_of_getElem? hc⟩
theorem decls_con {p:Prg} (h:p.decls=0) {d:Dat} (hd:d ∈ p.data) {c:Con} (hc:c ∈ d.cons):d.params.length≤4∧c.args.length≤4∧ ∀t ∈ c.args,t.chk=0:=by
 obtain ⟨hs,_⟩:=orE_zero.1 h
 obtain ⟨_,_,_,hs3,_⟩:=Prg.syn_data hs
 obtain ⟨a1,a2,_,_,a5⟩:=datE_cons (hs3 d hd)
 have:=a5 c hc
 unfold conE at this
 split at this
 ·cases this
 ·rename_i h4
  split at this
  ·refine ⟨a1,by omega,fun t ht=> ?_⟩
   unfold declE at this
   rw [firstE_zero] at this
   have h1:=this _ (List.mem_map_of_mem ht)
   unfold declE1 at h1
   split at h1
   ·assumption
   ·rename_i h2;exact absurd h1 h2
  ·cases this
theorem log1024:Nat.log2 1024=10:=by decide
theorem CI_lrow {f:FuncId} {af:AFunc} (hT:tabT f=some af) {args:List D} {σ τ:St} {r q:Nat} {b:List Ty} (hr:r<σ.length) (hq:q<σ.length) (hne:q≠r) (hqf:qI f=false) {e:Int} (h:bodyI CI XB GI af args σ=some (outR e,lrow σ r q b++τ))
 (hx:okF f:=by exact ⟨⟨rfl,rfl⟩,rfl⟩):CI (.fn f) args σ=some (outR e,lrow σ r q b):=by
 by_cases he:e=0
 ·subst he
  rw [outR_zero] at h ⊢
  exact CI_fn hT h (postI_same lrow_len (lrow_keeps hr hq hne) rfl hqf) hx
 ·rw [outR_ne he] at h ⊢
  exact CI_fn hT h (postI_same_panic lrow_len (lrow_keeps hr hq hne) rfl) hx
set_option maxHeartbeats 4000000 in
theorem c57 (p:Prg) (hok:p.ok) (s:Bs) (args:List Ty) (hal:args.length≤maxL) (ha: ∀t ∈ args,t.ok) (a n c r q:Nat) (σ:St) (h1:σ[a]? =some (.box p.cs)) (h2:σ[n]? =some (.box [.str s])) (h3:σ[c]? =some (.box [.slice (args.map Ty.d)])) (h4:σ[r]? =some (.row 6 [] 0)) (h5:σ[q]? =some (.box [.arr r 0 0 0])) (hqr:q≠r) (hqc:q≠c) (hrc:r≠c):
 ∃b,(p.fieldsE s args=0→b=p.fields s args)∧CI (.fn 57) [.ptr a 0, .ptr n 0, .ptr c 0, .ptr q 0] σ=some (outR (p.fieldsE s args),lrow σ r q b):=by
 have hr:=lt_of_get h4
 have hq:=lt_of_get h5
 have hcl:=lt_of_get h3
 obtain ⟨τ1,h55⟩:=c55 p hok.dl hok.d σ
 have hT:=lookS_T p σ τ1
 have e1:lookS p σ p.cm++τ1=σ++([.box p.cs, .map (kvs p.cm), .box (p.cs++[.map (σ.length+1)])]++τ1):=by unfold lookS;rw [List.append_assoc]
 have h56:=c56 p p.cm hok _ _ hT
 have hpl:=p.cs_len
 have hpt:=p.cs_take
 have hnil:=lrow_nil h4 h5
 suffices hs: ∃b,(p.fieldsE s args=0→b=p.fields s args)∧ ∃τ,bodyI CI XB GI af57 [.ptr a 0, .ptr n 0, .ptr c 0, .ptr q 0] σ=some (outR (p.fieldsE s args),lrow σ r q b++τ) by
  obtain ⟨b,hb,τ,hτ⟩:=hs
  exact ⟨b,hb,CI_lrow tab57 hr hq hqr rfl hτ⟩
 have hT2:=hT
 obtain ⟨j,hj,hm⟩:=hT2
 have hjn:j=σ.length+1:=by
  have: (lookS p σ p.cm++τ1)[σ.length+2]? =some (.box (p.cs++[.map (σ.length+1)])):=by unfold lookS;rw [List.append_assoc];exact getA
  rw [this] at hj
  have:=Obj.box.inj (Option.some.inj hj)
  simpa using this.symm
 rw [e1] at h55 h56 hj hm
 have hmf:=mapFind_kvs s p.cm
 rw [cm_find] at hmf
 generalize hR: ([.box p.cs, .map (kvs p.cm), .box (p.cs++[.map (σ.length+1)])]++τ1:St)=R at*
 rw [p.cs_eq] at hj
 have hml:=p.main.cs_len
 unfold Prg.fieldsE orE
 by_cases hd0:p.decls=0
 rotate_left
 ·refine ⟨[],fun h=>absurd h (by rw [if_neg hd0];exact hd0),R, ?_⟩
  rw [if_neg hd0,hnil]
  rw [outR_ne hd0] at h56 ⊢
  generalize p.decls=z at*
  generalize p.cs=pc at*
  simp [bodyI,af57,h1,hpl,hpt,h55,h56]
 rw [if_pos hd0]
 rw [hd0,outR_zero] at h56
 have g1: ∀y,(σ++R++y)[n]? =some (.box [.str s]):=fun y=>getO (getO h2)
 have g2: ∀y,(σ++R++y)[c]? =some (.box [.slice (args.map Ty.d)]):=fun y=>getO (getO h3)
 have g10: (σ++R)[n]? =some (.box [.str s]):=getO h2
 have gj:=fun y=>getO (τ:=y) hj
 have gm:=fun y=>getO (τ:=y) hm
 cases hf:findConL s p.data 0 with
 |none=>
  rw [hf] at hmf
  rw [conOf_none hf]
  refine ⟨[],fun h=>absurd h (show ¬(6:Int)=0 by decide),R++[.box [.int .i64 0, .int .i64 0]], ?_⟩
  rw [hnil,←List.append_assoc]
  generalize hσ1:σ++R=σ1 at*
  generalize p.data.map Dat.d=dd at*
  generalize p.effects.map Eff.d=ed at*
  generalize p.defs.map Dfn.d=fd at*
  generalize p.main.cs=mc at*
  have hmd:mc.drop 7=[]:=List.drop_eq_nil_of_le (by omega)
  generalize kvs p.cm=km at*
  generalize p.cs=pc at*
  simp [bodyI,af57,h1,hpl,hpt,h55,h56,getA0,getA,setA0,setA,hj,gj,hm,gm,g1,g10,hml,hmd,hmf,D.kindEq,putCells,log1024,c58,outR,Nat.testBit_eq_decide_div_mod_eq]
 |some ik=>
  rcases ik with ⟨i,k⟩
  rw [hf] at hmf
  obtain ⟨hi,hk,hc,_⟩:=conOf_some hf
  obtain ⟨hdm,hcm⟩:=conOf_mem hc
  obtain ⟨f1,f2,f3⟩:=decls_con hd0 hdm hcm
  have hfs:p.fields s args=p.data[i].cons[k].args.map (Ty.rep p.data[i].params args):=by unfold Prg.fields;rw [hc]
  rw [hc,hfs]
  clear hc hfs hdm hcm
  obtain ⟨dd,hdd,hdl,hdg⟩:=opq Dat.d p.data
  obtain ⟨h6,h7⟩:=hdg i hi
  rw [hdd] at hj gj
  generalize p.data[i]=d at*
  rcases d with ⟨dn,dp,dc⟩
  simp only at f1 f2 f3 hk ⊢
  obtain ⟨cd,hcd,hcdl,hcdg⟩:=opq Con.d dc
  obtain ⟨h8,h9⟩:=hcdg k hk
  simp only [Dat.d,Dat.cs] at h7
  rw [hcd] at h7
  generalize dc[k]=cc at*
  rcases cc with ⟨cn,cargs⟩
  simp only [Con.d,Con.cs,tysD_map] at f2 f3 h9 ⊢
  simp only [Option.map_some,plD] at hmf
  have hsm: ∀t ∈ cargs,t.small:=fun t ht=>Ty.small_chk (f3 t ht)
  have v1:eqbL (dp.map D.str) (dp.map D.str)=true:=eqbL_tree _ (plain_strs dp).1
  have v2:eqbL cd cd=true:=eqbL_tree _ (by rw [←hcd];exact (PlainL.map fun x _=>x.plain).1)
  have v3:eqbL dd dd=true:=eqbL_tree _ (by rw [←hdd];exact (PlainL.map fun x _=>x.plain).1)
  have hdpl: (dp.map D.str).length=dp.length:=by simp
  have hrl: (args.map Ty.d).length=args.length:=by simp
  have hcal: (cargs.map Ty.d).length=cargs.length:=by simp
  by_cases hpa:dp.length=args.length
  rotate_left
  ·rw [if_neg hpa]
   have hpa': ((dp.length:Int) != args.length)=true:=by rw [bne_iff_ne];omega
   have hpa'': ((dp.length:Int) ==args.length)=false:=by rw [beq_eq_false_iff_ne];omega
   refine ⟨[],fun h=>absurd h (by decide),R++[.box [.int .i64 i, .int .i64 k], .box [.str dn,slD dp, .slice cd]], ?_⟩
   rw [hnil,←List.append_assoc]
   simp only [slD] at*
   generalize hσ1:σ++R=σ1 at*
   generalize p.effects.map Eff.d=ed at*
   generalize p.defs.map Dfn.d=fd at*
   generalize p.main.cs=mc at*
   have hmd:mc.drop 7=[]:=List.drop_eq_nil_of_le (by omega)
   generalize kvs p.cm=km at*
   generalize p.cs=pc at*
   generalize dp.map D.str=pd at*
   generalize args.map Ty.d=rd at*
   simp [bodyI,af57,h1,hpl,hpt,h55,h56,getA0,getA,setA0,setA,hj,gj,hm,gm,g1,g10,g2,hml,hmd,hmf,h6,h7,v1,v2,v3,hdl,hi,hdpl,hrl,hpa,hpa',hpa'',D.kindEq,putCells,log1024,c58,outR,Nat.testBit_eq_decide_div_mod_eq]
  rw [if_pos hpa]
  obtain ⟨τ2,ev2,hit0⟩:=it57_0 args hal ha (.ptr c 0) (.ptr q 0) (.ptr (σ++R).length 0) (.ptr ((σ++R).length+1) 0) (σ++R++[.box [.int .i64 i, .int .i64 k], .box [.str dn,slD dp, .slice cd]])
  by_cases hz:firstE (args.map Ty.chk)=0
  rotate_left
  ·rw [if_neg hz] at hit0 ⊢
   refine ⟨[],fun h=>absurd h hz,R++[.box [.int .i64 i, .int .i64 k], .box [.str dn,slD dp, .slice cd]]++τ2, ?_⟩
   rw [hnil,outR_ne hz]
   have e2:σ++(R++[Obj.box [.int .i64 i, .int .i64 k], .box [.str dn,slD dp, .slice cd]]++τ2)=σ++R++[Obj.box [.int .i64 i, .int .i64 k], .box [.str dn,slD dp, .slice cd]]++τ2:=by simp
   rw [e2]
   generalize firstE (args.map Ty.chk)=z at*
   simp only [slD] at*
   generalize hσ1:σ++R=σ1 at*
   generalize hσ2:σ1++[Obj.box [.int .i64 i, .int .i64 k], .box [.str dn, .slice (dp.map D.str), .slice cd]]++τ2=σ2 at*
   generalize p.effects.map Eff.d=ed at*
   generalize p.defs.map Dfn.d=fd at*
   generalize p.main.cs=mc at*
   have hmd:mc.drop 7=[]:=List.drop_eq_nil_of_le (by omega)
   generalize kvs p.cm=km at*
   generalize p.cs=pc at*
   generalize dp.map D.str=pd at*
   generalize args.map Ty.d=rd at*
   simp [bodyI,af57,h1,hpl,hpt,h55,h56,getA0,getA,setA0,setA,hj,gj,hm,gm,g1,g10,g2,hml,hmd,hmf,h6,h7,v1,v2,v3,hdl,hi,hdpl,hrl,hpa,D.kindEq,putCells,log1024,hit0,Nat.testBit_eq_decide_div_mod_eq]
  rw [if_pos hz] at hit0 ⊢
  have hasm: ∀t ∈ args,t.small:=fun t ht=>Ty.small_chk (by rw [firstE_zero] at hz;exact hz _ (List.mem_map_of_mem ht))
  have hbig: ∀ (x:Nat),x<σ.length→x< (σ++R++[Obj.box [.int .i64 i, .int .i64 k], .box [.str dn,slD dp, .slice cd]]++τ2).length:=fun x hx=>by simp;omega
  obtain ⟨τ3,ev3,b',hb',hit1⟩:=it57_1 dp args f1 hpa hasm cargs f2 hsm dn cd c r q ((σ++R).length+1) (σ++R++[.box [.int .i64 i, .int .i64 k], .box [.str dn,slD dp, .slice cd]]++τ2) hqr (hbig r hr) (hbig q hq) (by rw [List.append_assoc];exact getO (getO h3)) hqc hrc (by rw [List.append_assoc];exact getA) (by simp;omega) (by simp;omega) cargs.length 0 (by omega) [] [] rfl
  rw [List.drop_zero,Int.natCast_zero,List.append_nil,List.nil_append] at hit1
  have hn2:lrow (σ++R++[.box [.int .i64 i, .int .i64 k], .box [.str dn,slD dp, .slice cd]]++τ2) r q []=σ++R++[.box [.int .i64 i, .int .i64 k], .box [.str dn,slD dp, .slice cd]]++τ2:=lrow_nil (getO (getO (getO h4))) (getO (getO (getO h5)))
  have hla: ∀b,lrow (σ++R++[.box [.int .i64 i, .int .i64 k], .box [.str dn,slD dp, .slice cd]]++τ2) r q b=lrow σ r q b++(R++[.box [.int .i64 i, .int .i64 k], .box [.str dn,slD dp, .slice cd]]++τ2):=fun b=>by
   rw [←lrow_app hr hq];congr 1;simp
  rw [hn2] at hit1
  have gd: (σ++R++[Obj.box [.int .i64 i, .int .i64 k], .box [.str dn,slD dp, .slice cd]]++τ2)[(σ++R).length+1]? =some (.box [.str dn,slD dp, .slice cd]):=by rw [List.append_assoc];exact getA
  have gx: (σ++R++[Obj.box [.int .i64 i, .int .i64 k], .box [.str dn,slD dp, .slice cd]]++τ2)[(σ++R).length]? =some (.box [.int .i64 i, .int .i64 k]):=by rw [List.append_assoc];exact getA0
  by_cases hfit:cargs.all (fitR dp args)=true
  ·rw [if_pos hfit] at hit1 ⊢
   refine ⟨cargs.map (Ty.rep dp args),fun _=>rfl,R++[.box [.int .i64 i, .int .i64 k], .box [.str dn,slD dp, .slice cd]]++τ2++τ3, ?_⟩
   rw [←List.append_assoc,←hla]
   simp only [slD,outR_zero] at*
   clear hla hn2
   generalize lrow (σ++R++[.box [.int .i64 i, .int .i64 k], .box [.str dn, .slice (dp.map D.str), .slice cd]]++τ2) r q (cargs.map (Ty.rep dp args))++τ3=σ3 at*
   generalize hσ1:σ++R=σ1 at*
   generalize hσ2:σ1++[Obj.box [.int .i64 i, .int .i64 k], .box [.str dn, .slice (dp.map D.str), .slice cd]]++τ2=σ2 at*
   generalize p.effects.map Eff.d=ed at*
   generalize p.defs.map Dfn.d=fd at*
   generalize p.main.cs=mc at*
   have hmd:mc.drop 7=[]:=List.drop_eq_nil_of_le (by omega)
   generalize kvs p.cm=km at*
   generalize p.cs=pc at*
   generalize dp.map D.str=pd at*
   generalize args.map Ty.d=rd at*
   generalize cargs.map Ty.d=cad at*
   simp [bodyI,af57,h1,hpl,hpt,h55,h56,getA0,getA,setA0,setA,hj,gj,hm,gm,g1,g10,g2,hml,hmd,hmf,h6,h7,v1,v2,v3,h8,h9,hdl,hi,hk,hcdl,hdpl,hrl,hcal,hpa,D.kindEq,putCells,log1024,hit0,gd,gx,hit1,Nat.testBit_eq_decide_div_mod_eq]
  ·rw [if_neg hfit] at hit1 ⊢
   refine ⟨b',fun h=>absurd h (by decide),R++[.box [.int .i64 i, .int .i64 k], .box [.str dn,slD dp, .slice cd]]++τ2++τ3, ?_⟩
   rw [←List.append_assoc,←hla]
   have ho3:outR 3= .panic (refD 3):=rfl
   simp only [slD,ho3] at*
   clear hla hn2
   generalize lrow (σ++R++[.box [.int .i64 i, .int .i64 k], .box [.str dn, .slice (dp.map D.str), .slice cd]]++τ2) r q b'++τ3=σ3 at*
   generalize hσ1:σ++R=σ1 at*
   generalize hσ2:σ1++[Obj.box [.int .i64 i, .int .i64 k], .box [.str dn, .slice (dp.map D.str), .slice cd]]++τ2=σ2 at*
   generalize p.effects.map Eff.d=ed at*
   generalize p.defs.map Dfn.d=fd at*
   generalize p.main.cs=mc at*
   have hmd:mc.drop 7=[]:=List.drop_eq_nil_of_le (by omega)
   generalize kvs p.cm=km at*
   generalize p.cs=pc at*
   generalize dp.map D.str=pd at*
   generalize args.map Ty.d=rd at*
   generalize cargs.map Ty.d=cad at*
   simp [bodyI,af57,h1,hpl,hpt,h55,h56,getA0,getA,setA0,setA,hj,gj,hm,gm,g1,g10,g2,hml,hmd,hmf,h6,h7,v1,v2,v3,h8,h9,hdl,hi,hk,hcdl,hdpl,hrl,hcal,hpa,D.kindEq,putCells,log1024,hit0,gd,gx,hit1,Nat.testBit_eq_decide_div_mod_eq]
theorem c54g (g:Nat) (first captured:List D) (e:Int) (σ σ':St) (hl:σ'.length=σ.length) (hk: ∀j,j<σ.length→σ'[j]? =σ[j]? ∨ ∃o,σ'[j]? =some o∧o.under σ.length) (h:CI (.fn g) (first++captured) (σ++[.box [.int .i64 0]])=some (outR e,σ'++[.box [.int .i64 0]])):
 CI (.fn 54) [.func g first captured] σ=some (.ret (.int .i64 e),σ'):=by
 have hev:evalCatch CI 154 [.func g first captured] σ=some (.ret (.int .i64 e),σ'++[.box [.int .i64 e]]):=by
  unfold evalCatch
  simp only [h]
  rw [←hl]
  by_cases he:e=0
  ·subst he
   rw [outR_zero]
   simp [getA0,setA0]
  ·rw [outR_ne he]
   simp [refD,getA0,setA0]
 exact callI_catch (ty:=154) postN ext_none rfl rfl hev (postI_same (q:=qI) (f:=54) hl hk rfl rfl)
def Prg.fieldsL (p:Prg) (s:Bs) (args:List Ty):List Ty:=if p.fieldsE s args=0 then p.fields s args else []
theorem c15 (p:Prg) (hok:p.ok) (s:Bs) (args:List Ty) (hal:args.length≤maxL) (ha: ∀t ∈ args,t.ok) (σ:St):
 CI (.fn 15) [.agg p.cs, .str s, .slice (args.map Ty.d)] σ=some (.ret (.tuple [.slice ((p.fieldsL s args).map Ty.d), .int .i64 (p.fieldsE s args)]),σ):=by
 have hL: ∀y,(σ++[Obj.box p.cs, .box [.str s], .box [.slice (args.map Ty.d)], .row 6 [] 0, .box [.arr (σ.length+3) 0 0 0]]++y)[σ.length+3]? =some (.row 6 [] 0):=fun y=>by rw [List.append_assoc];exact getA
 obtain ⟨b,hb,h57⟩:=c57 p hok s args hal ha σ.length (σ.length+1) (σ.length+2) (σ.length+3) (σ.length+4) (σ++[.box p.cs, .box [.str s], .box [.slice (args.map Ty.d)], .row 6 [] 0, .box [.arr (σ.length+3) 0 0 0]]++[.box [.int .i64 0]])
  (by rw [List.append_assoc];exact getA0) (by rw [List.append_assoc];exact getA) (by rw [List.append_assoc];exact getA) (hL _) (by rw [List.append_assoc];exact getA) (by omega) (by omega) (by omega)
 have hlr:σ.length+3< (σ++[Obj.box p.cs, .box [.str s], .box [.slice (args.map Ty.d)], .row 6 [] 0, .box [.arr (σ.length+3) 0 0 0]]).length:=by simp
 have hlq:σ.length+4< (σ++[Obj.box p.cs, .box [.str s], .box [.slice (args.map Ty.d)], .row 6 [] 0, .box [.arr (σ.length+3) 0 0 0]]).length:=by simp
 rw [lrow_app hlr hlq] at h57
 have h54:=c54g 57 [] [.ptr σ.length 0, .ptr (σ.length+1) 0, .ptr (σ.length+2) 0, .ptr (σ.length+4) 0] _ _ _ lrow_len (lrow_keeps hlr hlq (by omega)) h57
 have hall:=p.cs_all
 have hrow:=lrow_r (b:=b) hlr (show σ.length+4≠σ.length+3 by omega)
 have hcell:=lrow_q (r:=σ.length+3) (b:=b) hlq
 have hex: ∃τ,lrow (σ++[Obj.box p.cs, .box [.str s], .box [.slice (args.map Ty.d)], .row 6 [] 0, .box [.arr (σ.length+3) 0 0 0]]) (σ.length+3) (σ.length+4) b=σ++τ:=⟨_,by
  unfold lrow
  rw [setA,setA]⟩
 obtain ⟨τ,hex⟩:=hex
 rw [hex] at h54 hrow hcell
 unfold Prg.fieldsL
 have hqs: ∀o,∃τ',(σ++τ).set (σ.length+4) o=σ++τ':=fun o=>⟨_,setA⟩
 have hq5: ∀o,((σ++τ).set (σ.length+4) o)[σ.length+4]? =some o:=fun o=>List.getElem?_set_self (lt_of_get hcell)
 have hid: (σ++τ).set (σ.length+4) (.box [.arr (σ.length+3) b.length 0 b.length])=σ++τ:=by
  obtain ⟨h1,h2⟩:=List.getElem?_eq_some_iff.1 hcell
  rw [←h2];exact List.set_getElem_self h1
 by_cases he:p.fieldsE s args=0
 ·rw [if_pos he,he]
  have hb:=hb he
  rw [←hb]
  rw [he] at h54
  have hbl:=tysD_len b
  have hτ:bodyI CI XB GI af15 [.agg p.cs, .str s, .slice (args.map Ty.d)] σ=some (.ret (.tuple [.arr (σ.length+3) b.length 0 b.length, .int .i64 0]),σ++τ):=by
   generalize p.cs=pc at*
   generalize args.map Ty.d=rd at*
   simp [bodyI,af15,hall,h54,hcell,hid,putCells]
  refine CI_fn tab15 hτ ?_
  have hbt:=(tys_plain b)
  have hrow': (σ++τ)[σ.length+3]? =some (.row 6 (tysD b) b.length):=hrow
  obtain ⟨p1,p2⟩:=strip_row hrow' (by omega) hbt.1 14
  rw [hbl] at p1 p2
  have q1:strip 16 (σ++τ) (.tuple [.arr (σ.length+3) b.length 0 b.length, .int .i64 0])=some (.tuple [.slice (tysD b), .int .i64 0]):=by
   unfold strip
   simp only [D.tree,treeL,Bool.and_true,Bool.false_eq_true,if_false]
   simp only [List.mapM_cons,List.mapM_nil,p1,strip_one 15 (σ++τ) (.int .i64 _) rfl]
   rfl
  have q2:leads 16 (σ++τ) (.tuple [.arr (σ.length+3) b.length 0 b.length, .int .i64 0])=[σ.length+3]:=by
   unfold leads
   simp only [D.tree,treeL,Bool.and_true,Bool.false_eq_true,if_false]
   simp only [List.flatMap_cons,List.flatMap_nil,p2,leads_one 15 (σ++τ) (.int .i64 _) rfl]
   rfl
  rw [postI_rows q1 (by rw [q2];intro j hj;simp at hj;omega)]
  have hw:=hbt.2
  rw [tysD_map] at hw
  simp only [D.weak,weakL,tysD_map,hw]
 ·rw [if_neg he]
  obtain ⟨τ',hτ'⟩:=hqs (.box [.empty])
  have hne: (p.fieldsE s args != 0)=true:=by simpa using he
  have hτ:bodyI CI XB GI af15 [.agg p.cs, .str s, .slice (args.map Ty.d)] σ=some (.ret (.tuple [.empty, .int .i64 (p.fieldsE s args)]),σ++τ'):=by
   rw [←hτ']
   generalize p.fieldsE s args=z at*
   generalize p.cs=pc at*
   generalize args.map Ty.d=rd at*
   simp [bodyI,af15,hall,h54,hcell,hne,putCells,hq5]
   exact setA (i:=4)
  exact CI_tree tab15 hτ rfl rfl
theorem foldS_each {α β γ:Type} {step:Nat→α→β→β ⊕ γ} : ∀ (l:List α) (i:Nat) (b b':β),foldS step l i b= .inl b'→ ∀a ∈ l,∃j c c',step j a c= .inl c'
 | [],_,_,_,_,a,ha=>by cases ha
 |x::r,i,b,b',h,a,ha=>by
  simp only [foldS] at h
  cases hs:step i x b with
  |inr e=>rw [hs] at h;cases h
  |inl c=>
   rw [hs] at h
   cases ha with
   |head=>exact ⟨i,b,c,hs⟩
   |tail _ ha=>exact foldS_each r (i+1) c b' h a ha
theorem foldS_left {α β γ:Type} {step:Nat→α→β→β ⊕ γ} : ∀ (l:List α) (i:Nat) (b:β) (e:γ),foldS step l i b= .inr e→ ∃a j c,step j a c= .inr e
 | [],_,_,_,h=>by cases h
 |x::r,i,b,e,h=>by
  simp only [foldS] at h
  cases hs:step i x b with
  |inr e'=>rw [hs] at h;cases h;exact ⟨x,i,b,hs⟩
  |inl c=>rw [hs] at h;exact foldS_left r (i+1) c e h
theorem datStep_ne0 {p:Prg} {j:Nat} {d:Dat} {c:List Bs × List Bs} (h:datStep p j d c= .inr 0):False:=by
 unfold datStep at h
 split at h
 ·cases h
 ·split at h
  ·cases h
  ·rename_i z hz
   cases h
   obtain ⟨a,i,b,h⟩:=foldS_left _ _ _ _ hz
   unfold consStep at h
   split at h
   ·cases h
   ·split at h
    ·cases h
    ·rename_i hne
     exact hne (Sum.inr.inj h)
theorem decls_fit {p:Prg} (h:p.decls=0):p.data.length≤12∧ ∀d ∈ p.data,d.fit p:=by
 obtain ⟨hs,ho⟩:=orE_zero.1 h
 obtain ⟨h12,_,_,hs3,_⟩:=Prg.syn_data hs
 refine ⟨h12,fun d hd=> ?_⟩
 obtain ⟨a1,a2,_,_,_⟩:=datE_cons (hs3 d hd)
 refine ⟨a1,by omega,fun c hc=> ?_⟩
 obtain ⟨_,b2,b3⟩:=decls_con h hd hc
 refine ⟨b2,fun x hx=>⟨Ty.small_chk (b3 x hx), ?_⟩⟩
 unfold Prg.ordE at ho
 cases hf:foldS (datStep p) p.data 0 (builtins,[]) with
 |inr e=>
  rw [hf] at ho
  simp only at ho
  subst ho
  obtain ⟨a,j,c,h⟩:=foldS_left _ _ _ _ hf
  exact (datStep_ne0 h).elim
 |inl y=>
  obtain ⟨j,b,b',hst⟩:=foldS_each _ _ _ _ hf d hd
  unfold datStep at hst
  split at hst
  ·cases hst
  ·split at hst
   ·rename_i z hz
    obtain ⟨j2,e,e',hst2⟩:=foldS_each _ _ _ _ hz c hc
    unfold consStep at hst2
    split at hst2
    ·cases hst2
    ·split at hst2
     ·rename_i h0
      rw [firstE_zero] at h0
      exact h0 _ (List.mem_map_of_mem hx)
     ·cases hst2
   ·cases hst
theorem log32:Nat.log2 32=5:=by decide
def Prg.inh (p:Prg) (t:Ty):Bool:=t.has p [] (cur (fillT p)) 0
theorem tyE_zero {p:Prg} {t:Ty} (h:p.tyE t=0):p.decls=0∧t.chk=0∧t.cl tailC=true∧t.ord p []=0:=by
 unfold Prg.tyE at h
 rw [orE_zero,orE_zero] at h
 obtain ⟨h1,h2,h3⟩:=h
 split at h3
 ·rename_i hc;exact ⟨h1,h2,hc,h3⟩
 ·cases h3
set_option maxHeartbeats 2000000 in
theorem c64 (p:Prg) (hok:p.ok) (t:Ty) (ht:t.ok) (a b c:Nat) (σ:St) (ha:σ[a]? =some (.box p.cs)) (hb:σ[b]? =some (.box t.cs)) (hc:σ[c]? =some (.box [.bool false])) (hac:a≠c) (hbc:b≠c):
 CI (.fn 64) [.ptr a 0, .ptr b 0, .ptr c 0] σ=some (outR (p.tyE t),σ.set c (.box [.bool (p.inh t&&p.tyE t==0)])):=by
 obtain ⟨τ1,h55⟩:=c55 p hok.dl hok.d σ
 have hT:=lookS_T p σ τ1
 have e1:lookS p σ p.cm++τ1=σ++([.box p.cs, .map (kvs p.cm), .box (p.cs++[.map (σ.length+1)])]++τ1):=by unfold lookS;rw [List.append_assoc]
 have hb2: (lookS p σ p.cm++τ1)[b]? =some (.box t.cs):=by rw [e1];exact getO hb
 have h65:=c65 p p.cm hok t ht _ _ hT
 have hpl:=p.cs_len
 have hpt:=p.cs_take
 have y1:=t.cs_len
 have y2:=t.cs_take
 have e3:eqbL p.cs p.cs=true:=eqbL_tree _ p.plain.1
 have e4:eqbL t.cs t.cs=true:=eqbL_tree _ t.plain.1
 have q55:qI 55=false:=rfl
 have x55:XB 55=false:=rfl
 have q65:qI 65=false:=rfl
 have x65:XB 65=false:=rfl
 have q67:qI 67=false:=rfl
 have x67:XB 67=false:=rfl
 have q66:qI 66=false:=rfl
 have x66:XB 66=false:=rfl
 have hcl:=lt_of_get hc
 by_cases he:p.tyE t=0
 ·obtain ⟨z1,z2,_,z4⟩:=tyE_zero he
  obtain ⟨hdl,hls⟩:=decls_fit z1
  obtain ⟨τ2,h67⟩:=c67 p p.cm hdl hls _ _ hT
  have h66:=c66 p p.cm hdl (cur (fillT p)) [] (by simp) .empty (.inr ⟨rfl,rfl⟩) 0 (by omega) (σ.length+2) (lookS p σ p.cm++τ1).length t (Ty.small_chk z2) z4 (lookS p σ p.cm++τ1++(.box (tabC (cur (fillT p)))::τ2)) hT.app (by rw [getA0];rfl)
  rw [Int.natCast_zero] at h66
  have hb3: (lookS p σ p.cm++τ1++(.box (tabC (cur (fillT p)))::τ2))[b]? =some (.box t.cs):=getO hb2
  have hc3: (lookS p σ p.cm++τ1++(.box (tabC (cur (fillT p)))::τ2))[c]? =some (.box [.bool false]):=by rw [e1];exact getO (getO hc)
  rw [he] at h65 ⊢
  rw [outR_zero] at h65 ⊢
  have hset: ∀o,(lookS p σ p.cm++τ1++(.box (tabC (cur (fillT p)))::τ2)).set c o=σ.set c o++([.box p.cs, .map (kvs p.cm), .box (p.cs++[.map (σ.length+1)])]++τ1++(.box (tabC (cur (fillT p)))::τ2)):=fun o=>by
   rw [e1,List.append_assoc,setO hcl]
  have hτ:bodyI CI XB GI af64 [.ptr a 0, .ptr b 0, .ptr c 0] σ=some (.ret (.tuple []),σ.set c (.box [.bool (p.inh t)])++([.box p.cs, .map (kvs p.cm), .box (p.cs++[.map (σ.length+1)])]++τ1++(.box (tabC (cur (fillT p)))::τ2))):=by
   rw [←hset]
   unfold Prg.inh
   clear hset e1
   generalize t.has p [] (cur (fillT p)) 0=v at*
   generalize tabC (cur (fillT p))=ct at*
   generalize lookS p σ p.cm++τ1=σ2 at*
   generalize p.cs=pc at*
   generalize t.cs=tc at*
   generalize hσ3:σ2++(.box ct::τ2)=σ3 at*
   simp [bodyI,af64,ha,hb,hb2,hb3,hc3,e3,e4,hpl,hpt,y1,y2,h55,h65,h66,h67,putCells,q55,x55,q65,x65,q66,x66,q67,x67,log32,Nat.testBit_eq_decide_div_mod_eq]
  refine CI_fn tab64 hτ ?_
  rw [postI_set (by simp [Obj.under,underL,D.under]) rfl rfl]
  simp [D.weak,weakL]
 ·rw [outR_ne he] at h65 ⊢
  have hid:σ.set c (.box [.bool (p.inh t&&p.tyE t==0)])=σ:=by
   have hf: (p.inh t&&p.tyE t==0)=false:=by simp [he]
   rw [hf]
   obtain ⟨h1,h2⟩:=List.getElem?_eq_some_iff.1 hc
   rw [←h2];exact List.set_getElem_self h1
  rw [hid]
  refine CI_panic tab64 (τ:=[.box p.cs, .map (kvs p.cm), .box (p.cs++[.map (σ.length+1)])]++τ1) ?_ rfl
  rw [←e1]
  generalize lookS p σ p.cm++τ1=σ2 at*
  clear e1
  generalize p.cs=pc at*
  generalize t.cs=tc at*
  generalize p.tyE t=e at*
  simp [bodyI,af64,ha,hb,hb2,e3,e4,hpl,hpt,y1,y2,h55,h65,q55,x55,q65,x65]
theorem c20 (p:Prg) (hok:p.ok) (t:Ty) (ht:t.ok) (σ:St):CI (.fn 20) [.agg p.cs, .agg t.cs] σ=some (.ret (.tuple [.bool (p.inh t&&p.tyE t==0), .int .i64 (p.tyE t)]),σ):=by
 have h64:=c64 p hok t ht σ.length (σ.length+1) (σ.length+2) (σ++[Obj.box p.cs, .box t.cs, .box [.bool false]]++[Obj.box [.int .i64 0]]) (by rw [List.append_assoc];exact getA0) (by rw [List.append_assoc];exact getA) (by rw [List.append_assoc];exact getA) (by omega) (by omega)
 have hset: ∀o,(σ++[Obj.box p.cs, .box t.cs, .box [.bool false]]++[Obj.box [.int .i64 0]]).set (σ.length+2) o=σ++[Obj.box p.cs, .box t.cs,o]++[Obj.box [.int .i64 0]]:=fun o=>by
  rw [List.append_assoc,setA,List.append_assoc];rfl
 rw [hset] at h64
 have h54:=c54g 64 [] [.ptr σ.length 0, .ptr (σ.length+1) 0, .ptr (σ.length+2) 0] _ (σ++[Obj.box p.cs, .box t.cs, .box [.bool false]]) (σ++[Obj.box p.cs, .box t.cs, .box [.bool (p.inh t&&p.tyE t==0)]]) (by simp) (fun j hj=>by
  by_cases h2:j=σ.length+2
  ·subst h2
   exact .inr ⟨_,by rw [getA];rfl,by simp [Obj.under,underL,D.under]⟩
  ·left
   rcases Nat.lt_or_ge j σ.length with hlt|hge
   ·rw [List.getElem?_append_left hlt,List.getElem?_append_left hlt]
   ·obtain ⟨i,rfl⟩: ∃i,j=σ.length+i:=⟨j - σ.length,by omega⟩
    rw [getA,getA]
    simp at hj
    match i,hj,h2 with
    |0,_,_=>rfl
    |1,_,_=>rfl
    |2,_,h2=>omega) h64
 have hτ:bodyI CI XB GI af20 [.agg p.cs, .agg t.cs] σ=some (.ret (.tuple [.bool (p.inh t&&p.tyE t==0), .int .i64 (p.tyE t)]),σ++[Obj.box p.cs, .box t.cs, .box [.bool (p.inh t&&p.tyE t==0)]]):=by
  have h1:=p.cs_all
  have h2:t.cs.all D.one=true:=by cases t;rfl
  generalize p.tyE t=e at*
  generalize p.cs=pc at*
  generalize t.cs=tc at*
  generalize p.inh t=v at*
  have hee: (v&&e==0)=(if (v&&e==0)=true then e==0 else false):=by cases v<;>simp
  cases hv: (v&&e==0)
  ·rw [hv] at h54
   simp [bodyI,af20,h1,h2,h54,getA,getA0,setA,putCells]
  ·rw [hv] at h54
   have h3:e=0:=by simp at hv;exact hv.2
   subst h3
   simp [bodyI,af20,h1,h2,h54,getA,getA0,setA,putCells]
 exact CI_tree tab20 hτ rfl rfl
def rowB (T:Nat→Nat→Bool) (i n:Nat):List D:=(List.range n).map fun s=> .bool (T i s)
def tabRows (p:Prg) (T:Nat→Nat→Bool):List D:=p.data.mapIdx fun i d=> .slice (rowB T i (2 ^ d.params.length))
def TabD (p:Prg) (T:Nat→Nat→Bool) (σ:St) (td:D):Prop:=td= .slice (tabRows p T)∨ ∃r es,td= .arr r p.data.length 0 p.data.length∧σ[r]? =some (.row 1 es 0)∧es.length=p.data.length∧
 ∀i (hi:i<p.data.length),∃k,es[i]? =some (.arr k (2 ^ p.data[i].params.length) 0 (2 ^ p.data[i].params.length))∧σ[k]? =some (.row 1 (rowB T i (2 ^ p.data[i].params.length)) 0)
theorem TabD.app {p:Prg} {T:Nat→Nat→Bool} {σ τ:St} {td:D} (h:TabD p T σ td):TabD p T (σ++τ) td:=by
 rcases h with h| ⟨r,es,h1,h2,h3,h4⟩
 ·exact .inl h
 ·refine .inr ⟨r,es,h1,getO h2,h3,fun i hi=> ?_⟩
  obtain ⟨k,a,b⟩:=h4 i hi
  exact ⟨k,a,getO b⟩
inductive Mt where
 |mk (t:Ty) (ps:List Bs) (l:List Mt)
mutual
def Mt.cs:Mt→List D
 | .mk t ps l=>t.cs++[slD ps, .slice (mtsD l)]
def mtsD:List Mt→List D
 | []=>[]
 |m::r=> .agg m.cs::mtsD r
end
def Mt.d (m:Mt):D:= .agg m.cs
theorem Mt.cs_len (m:Mt):m.cs.length=8:=by
 rcases m with ⟨t,ps,l⟩
 simp [Mt.cs,t.cs_len]
mutual
def Mt.wf (p:Prg):Mt→Prop
 | .mk t ps l=>t.small∧t.ord p ps=0∧ps.length=l.length∧l.length≤4∧mtsWf p l
def mtsWf (p:Prg):List Mt→Prop
 | []=>True
 |m::r=>m.wf p∧mtsWf p r
end
def Prg.diff (p:Prg):Prop:= ∀i (hi:i<p.data.length),idxOf (fun x:Dat=>x.name==p.data[i].name) p.data=i
end Go.AI
namespace Go.AI
open Go Go.Proofs Go.Lx
theorem datStep_names {p:Prg} : ∀ (l:List Dat) (j:Nat) (x y:List Bs × List Bs),foldS (datStep p) l j x= .inl y→(∀d ∈ l,hasS x.1 d.name=false)∧l.Pairwise (fun a b=>a.name≠b.name)
 | [],_,_,_,_=>⟨fun _ h=>(by cases h),List.Pairwise.nil⟩
 |d::r,j,x,y,h=>by
  simp only [foldS] at h
  cases hs:datStep p j d x with
  |inr e=>rw [hs] at h;cases h
  |inl z=>
   rw [hs] at h
   obtain ⟨h1,h2⟩:=datStep_names r (j+1) z y h
   unfold datStep at hs
   split at hs
   ·cases hs
   ·rename_i hd
    split at hs
    ·cases hs
     have hd':hasS x.1 d.name=false:=by simpa using hd
     have key: ∀e ∈ r,hasS x.1 e.name=false∧d.name≠e.name:=fun e he=>by
      have:=h1 e he
      unfold hasS at this ⊢
      simp at this ⊢
      exact ⟨this.1,fun hh=>this.2 hh.symm⟩
     exact ⟨fun e he=>(List.mem_cons.1 he).elim (fun hh=>hh ▸ hd') (fun he=>(key e he).1),List.Pairwise.cons (fun e he=>(key e he).2) h2⟩
    ·cases hs
theorem decls_diff {p:Prg} (h:p.decls=0):p.diff:=by
 obtain ⟨_,ho⟩:=orE_zero.1 h
 unfold Prg.ordE at ho
 cases hf:foldS (datStep p) p.data 0 (builtins,[]) with
 |inr e=>
  rw [hf] at ho
  simp only at ho
  subst ho
  obtain ⟨a,j,c,h⟩:=foldS_left _ _ _ _ hf
  exact (datStep_ne0 h).elim
 |inl y=>
  obtain ⟨_,h2⟩:=datStep_names _ _ _ _ hf
  intro i hi
  rcases idxOf_find (fun x:Dat=>x.name==p.data[i].name) p.data with ⟨_,hn⟩ | ⟨j,hj,hjl,hfj,_⟩
  ·have:=List.find?_eq_none.1 hn p.data[i] (List.getElem_mem hi)
   simp at this
  ·have h3:=List.find?_some hfj
   simp only [beq_iff_eq] at h3
   rw [hj]
   rcases Nat.lt_trichotomy j i with hlt|heq|hgt
   ·exact absurd h3 (List.pairwise_iff_getElem.1 h2 j i hjl hi hlt)
   ·rw [heq]
   ·exact absurd h3.symm (List.pairwise_iff_getElem.1 h2 i j hi hjl hgt)
end Go.AI
namespace Go.AI
open Go Go.Proofs Go.Lx
set_option maxRecDepth 100000
theorem Ty.rep_np {k n:Int} {s:Bs} {L:List Ty} {ls:List Lab} {tail:Int} (ps:List Bs) (al:List Ty) (h:k≠1): (Ty.mk k n s L ls tail).rep ps al= .mk k n s (L.map (Ty.rep ps al)) ls tail:=by
 simp only [Ty.rep,tysRep_map]
 rw [if_neg (fun hc=>h hc.1)]
def paramT (s:Bs):Ty:= .mk 1 0 s [] [] 0
def dataT (s:Bs) (l:List Ty):Ty:= .mk 6 0 s l [] 0
theorem conOf_at {p:Prg} (h:p.decls=0) {d:Dat} (hd:d ∈ p.data) {c:Con} (hc:c ∈ d.cons):p.conOf c.name=some (d,c):=by
 obtain ⟨i,hi,rfl⟩:=List.getElem_of_mem hd
 obtain ⟨k,hk,rfl⟩:=List.getElem_of_mem hc
 have hf:=findConL_at p.data 0 i k _ _ (Prg.inOrder h).cn (List.getElem?_eq_getElem hi) (List.getElem?_eq_getElem hk)
 rw [Nat.zero_add] at hf
 obtain ⟨_,_,h3,_⟩:=conOf_some hf
 exact h3
theorem indexP_get {ps:List Bs} {s:Bs} {j:Nat} (h:indexP ps s=j) (hj:j<ps.length):ps[j]=s:=by
 unfold indexP at h
 cases hf:ps.findIdx? (· ==s) with
 |none=>rw [hf] at h;simp only at h;omega
 |some i=>
  rw [hf] at h
  simp only at h
  obtain rfl:i=j:=by omega
  rw [List.findIdx?_eq_some_iff_getElem] at hf
  obtain ⟨_,h1,_⟩:=hf
  simpa using h1
theorem tnode_par {n:Int} {s:Bs} {len:Nat} {ls:List Lab} {tail:Int} (h:tnodeE 1 n s len ls tail=0):n=0∧len=0∧ls=[]∧tail=0:=by
 have h4:=(tnode_few h).2 rfl
 unfold tnodeE at h
 split at h
 ·cases h
 rename_i h1
 split at h
 ·cases h
 split at h
 ·cases h
 rw [if_neg (by decide)] at h
 split at h
 ·cases h
 rename_i h5
 simp only [inR,Bool.or_eq_true,Bool.and_eq_true,Bool.not_eq_true',not_or,decide_eq_true_eq,bne_iff_ne,ne_eq] at h1 h5
 obtain ⟨_,h6,h7⟩:=h1
 obtain ⟨h8,h9⟩:=h5
 simp at h6
 refine ⟨by omega,h4,List.length_eq_zero_iff.1 (by omega),Classical.not_not.1 h9⟩
mutual
theorem Ty.rep_own (ps:List Bs): ∀t:Ty,t.e=0→t.rep ps (ps.map paramT)=t
 | .mk k n s l ls tail,h=>by
  simp only [Ty.e] at h
  split at h
  ·rename_i ht
   simp only [Ty.rep]
   split
   ·rename_i hc
    obtain ⟨rfl,h0⟩:=hc
    obtain ⟨j,hj,hjl⟩:=indexP_lt ps s h0
    obtain ⟨h1,h2,h3,h4⟩:=tnode_par ht
    have h5:=indexP_get hj hjl
    have h6:=List.length_eq_zero_iff.1 h2
    rw [hj,h1,h6,h3,h4]
    simp [hjl,paramT,h5]
   ·rw [tysRep_own ps l h]
  ·rename_i ht;exact absurd h ht
theorem tysRep_own (ps:List Bs): ∀l:List Ty,tysE l=0→tysRep ps (ps.map paramT) l=l
 | [],_=>rfl
 |t::r,h=>by
  simp only [tysE] at h
  split at h
  ·rename_i ht
   simp only [tysRep,t.rep_own ps ht,tysRep_own ps r h]
  ·rename_i ht;exact absurd h ht
end
theorem distFrom_class: ∀ (l pre:List Bs) (k:Int),distFrom pre l k=0→ ∀s ∈ l,isC s k=true
 | [],_,_,_,s,hs=>by cases hs
 |a::r,pre,k,h,s,hs=>by
  simp only [distFrom] at h
  split at h
  ·rename_i ha
   split at h
   ·cases h
   ·cases hs with
    |head=>exact ha
    |tail _ hs=>exact distFrom_class r _ k h s hs
  ·cases h
theorem builtins_up: ∀s ∈ builtins,isC s 1=false:=by decide+kernel
theorem param_chk {p:Prg} (h:p.decls=0) {d:Dat} (hd:d ∈ p.data) {s:Bs} (hs:s ∈ d.params): (paramT s).chk=0:=by
 obtain ⟨hsy,_⟩:=orE_zero.1 h
 obtain ⟨_,_,_,hs3,_⟩:=Prg.syn_data hsy
 have hd:=hs3 d hd
 unfold datE at hd
 split at hd
 ·cases hd
 split at hd
 ·split at hd
  ·rename_i hp
   have hc:=distFrom_class _ _ _ hp s hs
   have hb:isB s=false:=by
    cases hb:isB s
    ·rfl
    ·have:=builtins_up s (hasS_mem.1 hb)
     rw [hc] at this;cases this
   have he:tnodeE 1 0 s 0 [] 0=0:=by
    unfold tnodeE
    have:isC s (classT 1)=true:=hc
    rw [this,hb]
    simp [inR,leastT,mostT]
   rw [Ty.chk_left]
   have hl: (paramT s).left 3000 200=2999:=by simp [paramT,Ty.left,tysLeft]
   rw [hl,if_neg (by omega)]
   simp only [paramT,Ty.e,List.length_nil,he,tysE,if_true]
  ·rename_i hp;exact absurd hd hp
 ·cases hd
theorem chk_fit {t:Ty} (h:t.chk=0): (t.rm 200 3000).1=true:=by
 have hs:=Ty.small_chk h
 rw [t.chk_left] at h
 split at h
 ·cases h
 ·exact (t.rm_left hs 3000 200 (by omega)).1.2 (by omega)
theorem fit_chk {t:Ty} (hs:t.small) (he:t.e=0) (h: (t.rm 200 3000).1=true):t.chk=0:=by
 have:=(t.rm_left hs 3000 200 (by omega)).1.1 h
 rw [t.chk_left,if_neg (by omega)]
 exact he
theorem fields_own {p:Prg} (h:p.decls=0) {d:Dat} (hd:d ∈ p.data) {c:Con} (hc:c ∈ d.cons):p.fieldsE c.name (d.params.map paramT)=0∧p.fieldsL c.name (d.params.map paramT)=c.args:=by
 have hco:=conOf_at h hd hc
 obtain ⟨_,_,hch⟩:=decls_con h hd hc
 have hE:p.fieldsE c.name (d.params.map paramT)=0:=by
  unfold Prg.fieldsE
  rw [hco]
  refine orE_zero.2 ⟨h, ?_⟩
  simp only
  rw [if_pos (by simp)]
  refine orE_zero.2 ⟨?_, ?_⟩
  ·rw [firstE_zero]
   intro e he
   obtain ⟨a,ha,rfl⟩:=List.mem_map.1 he
   obtain ⟨s,hs,rfl⟩:=List.mem_map.1 ha
   exact param_chk h hd hs
  ·rw [if_pos]
   rw [List.all_eq_true]
   intro x hx
   unfold fitR
   rw [x.rep_own d.params (Ty.chk_e (hch x hx))]
   exact chk_fit (hch x hx)
 refine ⟨hE, ?_⟩
 unfold Prg.fieldsL Prg.fields
 rw [if_pos hE,hco]
 simp only
 conv=>rhs;rw [←List.map_id c.args]
 exact List.map_congr_left fun x hx=>x.rep_own d.params (Ty.chk_e (hch x hx))
mutual
theorem Ty.left_mono: ∀ (t:Ty) (n d n' d':Int),0≤n→n≤n'→d≤d'→0≤t.left n d→t.left n' d'=t.left n d+ (n' - n)
 | .mk _ _ _ l ls _,n,d,n',d',h0,hn,hd,h=>by
  simp only [Ty.left] at h ⊢
  split at h
  ·omega
  ·rename_i hc
   rw [if_neg hc,if_neg (by omega)]
   by_cases hz:n - 1<0
   ·rw [tysLeft_neg _ _ _ hz] at h;omega
   ·rw [tysLeft_mono l (n - 1) (d - 1) (n' - 1) (d' - 1) (by omega) (by omega) (by omega) h];omega
theorem tysLeft_mono: ∀ (l:List Ty) (n d n' d':Int),0≤n→n≤n'→d≤d'→0≤tysLeft l n d→tysLeft l n' d'=tysLeft l n d+ (n' - n)
 | [],n,d,n',d',h0,hn,hd,h=>by simp only [tysLeft];omega
 |t::r,n,d,n',d',h0,hn,hd,h=>by
  simp only [tysLeft] at h ⊢
  rw [if_pos h0] at h
  rw [if_pos h0,if_pos (by omega)]
  by_cases hz:t.left n d<0
  ·rw [tysLeft_neg _ _ _ hz] at h;omega
  ·rw [t.left_mono n d n' d' h0 hn hd (by omega)]
   rw [tysLeft_mono r (t.left n d) d (t.left n d+ (n' - n)) d' (by omega) (by omega) hd h];omega
end
theorem tysLeft_mem: ∀ (l:List Ty) (n d:Int),0≤n→0≤tysLeft l n d→ ∀t ∈ l,0≤t.left n d
 | [],_,_,_,_,t,ht=>by cases ht
 |a::r,n,d,h0,h,t,ht=>by
  simp only [tysLeft] at h
  rw [if_pos h0] at h
  by_cases hz:a.left n d<0
  ·rw [tysLeft_neg _ _ _ hz] at h;omega
  ·cases ht with
   |head=>omega
   |tail _ ht=>
    have h1:=tysLeft_mem r (a.left n d) d (by omega) h t ht
    have h2:=a.left_le n d h0
    have:=t.left_mono (a.left n d) d n d (by omega) h2.2 (by omega) h1
    omega
theorem tysE_all: ∀ {l:List Ty},tysE l=0→ ∀t ∈ l,t.e=0
 | [],_,t,ht=>by cases ht
 |a::r,h,t,ht=>by
  simp only [tysE] at h
  split at h
  ·rename_i ha
   cases ht with
   |head=>exact ha
   |tail _ ht=>exact tysE_all h t ht
  ·rename_i ha;exact absurd h ha
theorem part_chk {k n:Int} {s:Bs} {l:List Ty} {ls:List Lab} {tail:Int} (h: (Ty.mk k n s l ls tail).chk=0): ∀a ∈ l,a.chk=0:=by
 intro a ha
 have he:=Ty.chk_e h
 rw [Ty.chk_left] at h
 split at h
 ·cases h
 rename_i hl
 simp only [Ty.e] at he
 split at he
 ·have h1:=tysE_all he a ha
  simp only [Ty.left] at hl
  split at hl
  ·omega
  ·have h2:=tysLeft_mem l (3000 - 1) (200 - 1) (by omega) (by omega) a ha
   have h3:=a.left_mono _ _ 3000 200 (by omega) (by omega) (by omega) h2
   rw [a.chk_left,if_neg (by omega)]
   exact h1
 ·rename_i ht;exact absurd he ht
def Ty.good (p:Prg) (a:Ty):Prop:=a.chk=0∧a.cl tailC=true∧a.ord p []=0
theorem good_of {p:Prg} {t:Ty} (h:p.tyE t=0):t.good p:=(tyE_zero h).2
theorem good_parts {p:Prg} {k n:Int} {s:Bs} {l:List Ty} {ls:List Lab} {tail:Int} (h: (Ty.mk k n s l ls tail).good p): ∀a ∈ l,a.good p:=by
 obtain ⟨h1,h2,h3⟩:=h
 intro a ha
 refine ⟨part_chk h1 a ha, ?_,(ord_parts h3).2 a ha⟩
 simp only [Ty.cl,Bool.and_eq_true] at h2
 have:=h2.2
 rw [tysCl_all,List.all_eq_true] at this
 exact this a ha
theorem decls_cl {p:Prg} (h:p.decls=0): ∀d ∈ p.data,∀c ∈ d.cons,∀a ∈ c.args,a.cl tailC=true:=fun d hd c hc a ha=>by
 obtain ⟨hs,_⟩:=orE_zero.1 h
 obtain ⟨_,_,_,hs3,_⟩:=Prg.syn_data hs
 obtain ⟨_,_,_,_,a5⟩:=datE_cons (hs3 d hd)
 have:=a5 c hc
 unfold conE at this
 split at this
 ·cases this
 ·split at this
  ·unfold declE at this
   rw [firstE_zero] at this
   have h1:=this _ (List.mem_map_of_mem ha)
   unfold declE1 at h1
   split at h1
   ·rename_i hk
    split at h1
    ·rename_i hcl
     rw [a.cl_eq (Ty.chk_e hk)];exact hcl
    ·cases h1
   ·rename_i h2;exact absurd h1 h2
  ·cases this
mutual
theorem Ty.rep_cl {ps:List Bs} {args:List Ty} (ha: ∀a ∈ args,a.cl tailC=true): ∀t:Ty,t.cl tailC=true→(t.rep ps args).cl tailC=true
 | .mk k n s l ls tail,h=>by
  simp only [Ty.rep]
  split
  ·rw [List.getD_eq_getElem?_getD]
   cases hg:args[(indexP ps s).toNat]? with
   |none=>exact h
   |some a=>exact ha a (List.mem_of_getElem? hg)
  ·simp only [Ty.cl,Bool.and_eq_true] at h ⊢
   exact ⟨h.1,tysRep_cl ha l h.2⟩
theorem tysRep_cl {ps:List Bs} {args:List Ty} (ha: ∀a ∈ args,a.cl tailC=true): ∀l:List Ty,tysCl tailC l=true→tysCl tailC (tysRep ps args l)=true
 | [],_=>rfl
 |t::r,h=>by
  simp only [tysCl,tysRep,Bool.and_eq_true] at h ⊢
  exact ⟨t.rep_cl ha h.1,tysRep_cl ha r h.2⟩
end
theorem ordN_np {p:Prg} {ps qs:List Bs} {k:Int} (hk:k≠1) (s:Bs) (n:Nat) (ls:List Lab):ordN p ps k s n ls=ordN p qs k s n ls:=by
 unfold ordN;rw [if_neg hk,if_neg hk]
theorem Ty.rep_ord {p:Prg} {ps:List Bs} {args:List Ty} (hal:args.length=ps.length) (ha: ∀a ∈ args,a.ord p []=0): ∀t:Ty,t.ord p ps=0→(t.rep ps args).ord p []=0
 | .mk k n s l ls tail,h=>by
  obtain ⟨h1,h2⟩:=ord_parts h
  have ih:=fun x (hx:x ∈ l)=>Ty.rep_ord hal ha x (h2 x hx)
  by_cases k1:k=1
  ·subst k1
   obtain ⟨j,hj,hjl⟩:=indexP_lt ps s (ord_param h1)
   simp only [Ty.rep,hj]
   rw [if_pos ⟨trivial,by omega⟩,List.getD_eq_getElem?_getD]
   have hja:j<args.length:=by omega
   have e0: ((j:Int)).toNat=j:=by omega
   rw [e0,List.getElem?_eq_getElem hja]
   exact ha _ (List.getElem_mem hja)
  ·rw [Ty.rep_np _ _ k1]
   simp only [Ty.ord,List.length_map]
   rw [ordN_np (qs:=ps) k1,h1,if_pos rfl,tysOrd_first,firstE_zero]
   intro e he
   obtain ⟨y,hy,rfl⟩:=List.mem_map.1 he
   obtain ⟨x,hx,rfl⟩:=List.mem_map.1 hy
   exact ih x hx
termination_by x=>SizeOf.sizeOf x
decreasing_by
 have:=List.sizeOf_lt_of_mem hx
 simp only [Ty.mk.sizeOf_spec]
 omega
theorem field_ty {p:Prg} (h:p.decls=0) {d:Dat} (hd:d ∈ p.data) {c:Con} (hc:c ∈ d.cons) {args:List Ty} (hal:args.length=d.params.length) (ha: ∀a ∈ args,a.good p) {x:Ty} (hx:x ∈ c.args) (hf:fitR d.params args x=true):p.tyE (x.rep d.params args)=0:=by
 obtain ⟨_,_,hch⟩:=decls_con h hd hc
 have hxc:=hch x hx
 have hsm:=Ty.small_rep (params:=d.params) (args:=args) (fun a hm=>Ty.small_chk (ha a hm).1) x (Ty.small_chk hxc)
 have he:=Ty.rep_e (params:=d.params) (args:=args) (fun a hm=>Ty.chk_e (ha a hm).1) x (Ty.chk_e hxc)
 unfold Prg.tyE
 refine orE_zero.2 ⟨h,orE_zero.2 ⟨fit_chk hsm he hf, ?_⟩⟩
 rw [if_pos (x.rep_cl (fun a hm=>(ha a hm).2.1) (decls_cl h d hd c hc x hx))]
 exact x.rep_ord hal (fun a hm=>(ha a hm).2.2) (((decls_fit h).2 d hd).2.2 c hc |>.2 x hx).2
theorem fields_two {p:Prg} (h:p.decls=0) {d:Dat} (hd:d ∈ p.data) {c:Con} (hc:c ∈ d.cons) {args:List Ty} (hal:args.length=d.params.length) (ha: ∀a ∈ args,a.chk=0):
 p.fieldsE c.name args=3∨(p.fieldsE c.name args=0∧p.fieldsL c.name args=c.args.map (Ty.rep d.params args)∧ ∀x ∈ c.args,fitR d.params args x=true):=by
 have hco:=conOf_at h hd hc
 have hE:p.fieldsE c.name args=if c.args.all (fitR d.params args) then 0 else 3:=by
  unfold Prg.fieldsE
  rw [hco,h]
  simp only
  rw [if_pos hal.symm]
  have:firstE (args.map Ty.chk)=0:=by
   rw [firstE_zero]
   intro e he
   obtain ⟨a,hm,rfl⟩:=List.mem_map.1 he
   exact ha a hm
  rw [this]
  simp [orE]
 by_cases hf:c.args.all (fitR d.params args)=true
 ·right
  rw [if_pos hf] at hE
  refine ⟨hE, ?_,List.all_eq_true.1 hf⟩
  unfold Prg.fieldsL Prg.fields
  rw [if_pos hE,hco]
 ·left
  rw [if_neg hf] at hE
  exact hE
theorem has_rep {p:Prg} {ps:List Bs} {args:List Ty} (hal:args.length=ps.length) (T:Nat→Nat→Bool): ∀x:Ty,x.ord p ps=0→(x.rep ps args).has p [] T 0=x.has p ps T (bitsL (args.map fun a=>a.has p [] T 0))
 | .mk k n s l ls tail,ho=>by
  obtain ⟨ho1,hop⟩:=ord_parts ho
  have ih:=fun x (hx:x ∈ l)=>has_rep hal T x (hop x hx)
  by_cases k1:k=1
  ·subst k1
   obtain ⟨j,hj,hjl⟩:=indexP_lt ps s (ord_param ho1)
   have hja:j<args.length:=by omega
   have e0: ((j:Int)).toNat=j:=by omega
   have hb:=bitsL_bit (args.map fun a=>a.has p [] T 0) j
   simp only [Ty.rep,Ty.has,hj]
   rw [if_pos ⟨trivial,by omega⟩,if_pos trivial,List.getD_eq_getElem?_getD,e0,List.getElem?_eq_getElem hja,Bool.eq_iff_iff,beq_iff_eq,hb,List.getElem?_map,List.getElem?_eq_getElem hja]
   simp
  ·rw [Ty.rep_np _ _ k1]
   simp only [Ty.has]
   rw [if_neg k1,if_neg k1]
   by_cases k6:k=6
   ·rw [if_pos k6,if_pos k6,tysBits_map,tysBits_map,List.map_map]
    congr 2
    exact List.map_congr_left fun x hx=>ih x hx
   ·rw [if_neg k6,if_neg k6]
termination_by x=>SizeOf.sizeOf x
decreasing_by
 have:=List.sizeOf_lt_of_mem hx
 simp only [Ty.mk.sizeOf_spec]
 omega
theorem fill_fix {p:Prg} (hls: ∀d ∈ p.data,d.fit p) {x:Nat × Nat} (hx:x ∈ places p):fillT p x=plF p (fillT p) x:=by
 have hM:MT (jac (plF p) (places p).length):=jac_M (F:=plF p) MT_0 (MT_F p hls) _
 have h1:leT (places p) (fillT p) (jac (plF p) (places p).length):=fun x _ hf=>by
  unfold fillT at hf
  rw [Bool.and_eq_true] at hf
  exact hf.2
 have h2:leT (places p) (jac (plF p) (places p).length) (fillT p):=fun x hx hf=>by
  unfold fillT
  rw [Bool.and_eq_true]
  exact ⟨by simpa using hx,hf⟩
 rw [Bool.eq_iff_iff]
 constructor
 ·intro h
  have h3:=jac_up (plF_mono p hls) MT_0 (MT_F p hls) (places p).length x hx (h1 x hx h)
  exact plF_mono p hls _ _ h2 (.inl hM) x hx h3
 ·intro h
  have h3:=plF_mono p hls _ _ h1 (.inr hM) x hx h
  exact h2 x hx (jac_closed (plF_mono p hls) MT_0 (MT_F p hls) (Nat.le_refl _) x hx h3)
theorem any_same {α:Type} {f g:α→Bool} : ∀ {l:List α},(∀x ∈ l,f x=g x)→l.any f=l.any g
 | [],_=>rfl
 |a::r,h=>by rw [List.any_cons,List.any_cons,h a List.mem_cons_self,any_same fun x hx=>h x (List.mem_cons_of_mem _ hx)]
theorem all_same {α:Type} {f g:α→Bool} : ∀ {l:List α},(∀x ∈ l,f x=g x)→l.all f=l.all g
 | [],_=>rfl
 |a::r,h=>by rw [List.all_cons,List.all_cons,h a List.mem_cons_self,all_same fun x hx=>h x (List.mem_cons_of_mem _ hx)]
theorem inh_data {p:Prg} (h:p.decls=0) {d:Dat} (hd:d ∈ p.data) {args:List Ty} (hal:args.length=d.params.length):
 p.inh (dataT d.name args)=d.cons.any fun c=>c.args.all fun x=>p.inh (x.rep d.params args):=by
 obtain ⟨_,hls⟩:=decls_fit h
 have hnd:=decls_diff h
 obtain ⟨i,hi,rfl⟩:=List.getElem_of_mem hd
 have hix:datIx p p.data[i].name=i:=by unfold datIx;rw [hnd i hi];rfl
 unfold Prg.inh dataT
 simp only [Ty.has]
 rw [if_neg (by decide),if_pos trivial,hix,tysBits_map]
 have hlt:=bitsL_lt (args.map fun a=>a.has p [] (cur (fillT p)) 0)
 rw [List.length_map,hal] at hlt
 have hgi:=List.getElem?_eq_getElem hi
 have hfix:=fill_fix hls (x:=(i,bitsL (args.map fun a=>a.has p [] (cur (fillT p)) 0))) (places_mem.2 ⟨p.data[i],hgi,hlt⟩)
 show fillT p (i,bitsL (args.map fun a=>a.has p [] (cur (fillT p)) 0))=_
 rw [hfix]
 unfold plF
 simp only [hgi]
 refine any_same fun c hc=> ?_
 unfold conHas
 refine all_same fun x hx=> ?_
 exact (has_rep hal _ x ((hls _ hd).2.2 c hc |>.2 x hx).2).symm
theorem c115 (ls:List Lab) (tail:Int) (hl:ls.length≤maxL) (σ:St):CI (.fn 115) [.agg [.slice (ls.map Lab.d), .int .i64 tail], .agg [.slice (ls.map Lab.d), .int .i64 tail]] σ=some (.ret (.bool true),σ):=by
 obtain ⟨sd,hsd,hsl,hsg⟩:=opq Lab.d ls
 have v1:eqbL sd sd=true:=eqbL_tree _ (by rw [←hsd];exact (PlainL.map fun x _=>x.plain).1)
 rw [hsd]
 have hit:=loop_find (f:=evalI CI XB GI 38 false lp115_0) (σ:=σ++[.box [.slice sd, .int .i64 tail], .box [.slice sd, .int .i64 tail]]) ls (fun i=>[(2, .ptr σ.length 0),(3, .ptr (σ.length+1) 0),(5, .int .i64 (i:Nat))]) (fun _=>false) (fun _=>(.ret,[],σ)) (.exit 0,[(2, .ptr σ.length 0),(3, .ptr (σ.length+1) 0),(5, .int .i64 ls.length),(24, .bool false)],σ++[.box [.slice sd, .int .i64 tail], .box [.slice sd, .int .i64 tail]]) (by simp) (by simp)
  (fun i hi=>by
    have hw:=wrap_nat (n:=i) (by unfold maxL at hl;omega)
    obtain ⟨h2,h3⟩:=hsg i hi
    have hii: (i:Int) <ls.length:=by omega
    unfold Lab.d at h3
    generalize ls[i].s=xs at*
    generalize ls[i].n=xn at*
    simp [lp115_0,getA0,getA,hi,hii,hw,hsl,h2,h3,v1,eqD,flatEqs,D.kindEq,Nat.testBit_eq_decide_div_mod_eq]) (by simp [lp115_0,getA0,getA,hsl])
 rw [find_none,Int.natCast_zero] at hit
 have hτ:bodyI CI XB GI af115 [.agg [.slice sd, .int .i64 tail], .agg [.slice sd, .int .i64 tail]] σ=some (.ret (.bool true),σ++[.box [.slice sd, .int .i64 tail], .box [.slice sd, .int .i64 tail]]):=by
  simp [bodyI,af115,getA0,getA,hsl,hit]
 exact CI_tree tab115 hτ rfl rfl
theorem c63: ∀ (t:Ty),t.ok→ ∀ (σ:St),CI (.fn 63) [.agg t.cs, .agg t.cs] σ=some (.ret (.bool true),σ)
 | .mk k n s l ls tail,hok,σ=>by
  obtain ⟨hl1,hl2,hl3⟩:=hok
  have ih:=fun x (hx:x ∈ l) σ=>c63 x (tysOk_mem hl3 hx) σ
  have h115:=fun σ=>c115 ls tail hl2 σ
  obtain ⟨ld,hld,hll,hlg⟩:=opq Ty.d l
  obtain ⟨sd,hsd,hsl,hsg⟩:=opq Lab.d ls
  rw [hsd] at h115
  have v1:eqbL sd sd=true:=eqbL_tree _ (by rw [←hsd];exact (PlainL.map fun x _=>x.plain).1)
  have v2:eqbL ld ld=true:=eqbL_tree _ (by rw [←hld];exact (PlainL.map fun x _=>x.plain.agg).1)
  have hcs: (Ty.mk k n s l ls tail).cs=[.int .i64 k, .int .i64 n, .str s, .slice ld, .slice sd, .int .i64 tail]:=by simp only [Ty.cs,tysD_map,hld,hsd]
  rw [hcs]
  have hit:=loop_find (f:=evalI CI XB GI 61 false lp63_0) (σ:=σ++[.box [.int .i64 k, .int .i64 n, .str s, .slice ld, .slice sd, .int .i64 tail], .box [.int .i64 k, .int .i64 n, .str s, .slice ld, .slice sd, .int .i64 tail]]) l (fun i=>[(2, .ptr σ.length 0),(3, .ptr (σ.length+1) 0),(5, .int .i64 (i:Nat))]) (fun _=>false) (fun _=>(.ret,[],σ)) (.exit 0,[(2, .ptr σ.length 0),(3, .ptr (σ.length+1) 0),(5, .int .i64 l.length),(46, .bool false)],σ++[.box [.int .i64 k, .int .i64 n, .str s, .slice ld, .slice sd, .int .i64 tail], .box [.int .i64 k, .int .i64 n, .str s, .slice ld, .slice sd, .int .i64 tail]]) (by simp) (by simp)
   (fun i hi=>by
     have hw:=wrap_nat (n:=i) (by unfold maxL at*;omega)
     obtain ⟨h2,h3⟩:=hlg i hi
     have ih:=ih l[i] (List.getElem_mem hi)
     have hii: (i:Int) <l.length:=by omega
     have y1:=l[i].cs_len
     have y2:=l[i].cs_take
     have y4:eqbL l[i].cs l[i].cs=true:=eqbL_tree _ l[i].plain.1
     have q63:qI 63=false:=rfl
     have x63:XB 63=false:=rfl
     unfold Ty.d at h3
     generalize l[i].cs=xc at*
     simp [lp63_0,getA0,getA,hi,hii,hw,hll,h2,h3,y1,y2,y4,v1,v2,ih,q63,x63,Nat.testBit_eq_decide_div_mod_eq]) (by simp [lp63_0,getA0,getA,hll])
  rw [find_none,Int.natCast_zero] at hit
  have hτ:bodyI CI XB GI af63 [.agg [.int .i64 k, .int .i64 n, .str s, .slice ld, .slice sd, .int .i64 tail], .agg [.int .i64 k, .int .i64 n, .str s, .slice ld, .slice sd, .int .i64 tail]] σ=some (.ret (.bool true),σ++[.box [.int .i64 k, .int .i64 n, .str s, .slice ld, .slice sd, .int .i64 tail], .box [.int .i64 k, .int .i64 n, .str s, .slice ld, .slice sd, .int .i64 tail]]):=by
   simp [bodyI,af63,getA0,getA,hll,h115,hit]
  exact CI_tree tab63 hτ rfl rfl
termination_by t=>SizeOf.sizeOf t
decreasing_by
 have:=List.sizeOf_lt_of_mem hx
 simp only [Ty.mk.sizeOf_spec]
 omega
theorem c21 (l:List Ty) (hl:l.length≤maxL) (hok: ∀t ∈ l,t.ok) (σ:St):CI (.fn 21) [.slice (l.map Ty.d), .slice (l.map Ty.d)] σ=some (.ret (.bool true),σ):=by
 obtain ⟨ld,hld,hll,hlg⟩:=opq Ty.d l
 have v2:eqbL ld ld=true:=eqbL_tree _ (by rw [←hld];exact (PlainL.map fun x _=>x.plain.agg).1)
 rw [hld]
 have hit:=loop_find (f:=evalI CI XB GI 31 false lp21_0) (σ:=σ) l (fun i=>[(0, .slice ld),(1, .slice ld),(5, .bool true),(6, .int .i64 (i:Nat))]) (fun _=>false) (fun _=>(.ret,[],σ)) (.exit 0,[(0, .slice ld),(1, .slice ld),(5, .bool true),(6, .int .i64 l.length),(18, .bool false)],σ) (by simp) (by simp)
  (fun i hi=>by
    have hw:=wrap_nat (n:=i) (by unfold maxL at*;omega)
    obtain ⟨h2,h3⟩:=hlg i hi
    have h63:=fun σ=>c63 l[i] (hok _ (List.getElem_mem hi)) σ
    have hii: (i:Int) <l.length:=by omega
    have y1:=l[i].cs_len
    have y2:=l[i].cs_take
    have y4:eqbL l[i].cs l[i].cs=true:=eqbL_tree _ l[i].plain.1
    have q63:qI 63=false:=rfl
    have x63:XB 63=false:=rfl
    unfold Ty.d at h3
    generalize l[i].cs=xc at*
    simp [lp21_0,hi,hii,hw,hll,h2,h3,y1,y2,y4,v2,h63,q63,x63,Nat.testBit_eq_decide_div_mod_eq]) (by simp [lp21_0,hll])
 rw [find_none,Int.natCast_zero] at hit
 refine CI_tree0 tab21 (d:= .bool true) ?_ rfl rfl
 simp [bodyI,af21,hll,hit]
def rowsAt (σ:St) (n:Nat) (ad:D) (dl:List D):Prop:=ad= .slice dl∨(ad= .empty∧dl=[])∨ ∃r q,ad= .arr r dl.length 0 dl.length∧σ[r]? =some (.row n dl q)∧q≤dl.length∧1≤dl.length
mutual
def Mt.at (σ:St):Mt→D→Prop
 | .mk t ps l,d=> ∃w,d= .agg (t.cs++[w])∧((w= .nilptr∧ps=[]∧l=[])∨ ∃a ad dl,w= .ptr a 0∧σ[a]? =some (.box [slD ps,ad])∧rowsAt σ 7 ad dl∧mtsAt σ l dl)
def mtsAt (σ:St):List Mt→List D→Prop
 | [],dl=>dl=[]
 |m::r,dl=> ∃d dl',dl=d::dl'∧m.at σ d∧mtsAt σ r dl'
end
def withAt (σ:St) (ps:List Bs) (l:List Mt) (w:D):Prop:=(w= .nilptr∧ps=[]∧l=[])∨ ∃a ad dl,w= .ptr a 0∧σ[a]? =some (.box [slD ps,ad])∧rowsAt σ 7 ad dl∧mtsAt σ l dl
theorem rowsAt.app {σ τ:St} {n:Nat} {ad:D} {dl:List D} (h:rowsAt σ n ad dl):rowsAt (σ++τ) n ad dl:=by
 rcases h with h|h| ⟨r,q,h1,h2,h3,h4⟩
 ·exact .inl h
 ·exact .inr (.inl h)
 ·exact .inr (.inr ⟨r,q,h1,getO h2,h3,h4⟩)
mutual
theorem Mt.at_app {σ τ:St} : ∀ (m:Mt) (d:D),m.at σ d→m.at (σ++τ) d
 | .mk t ps l,d,h=>by
  simp only [Mt.at] at h ⊢
  obtain ⟨w,h1,h2⟩:=h
  refine ⟨w,h1, ?_⟩
  rcases h2 with h2| ⟨a,ad,dl,h3,h4,h5,h6⟩
  ·exact .inl h2
  ·exact .inr ⟨a,ad,dl,h3,getO h4,h5.app,mtsAt_app l dl h6⟩
theorem mtsAt_app {σ τ:St} : ∀ (l:List Mt) (dl:List D),mtsAt σ l dl→mtsAt (σ++τ) l dl
 | [],dl,h=>by simp only [mtsAt] at h ⊢;exact h
 |m::r,dl,h=>by
  simp only [mtsAt] at h ⊢
  obtain ⟨d,dl',h1,h2,h3⟩:=h
  exact ⟨d,dl',h1,m.at_app d h2,mtsAt_app r dl' h3⟩
end
theorem withAt.app {σ τ:St} {ps:List Bs} {l:List Mt} {w:D} (h:withAt σ ps l w):withAt (σ++τ) ps l w:=by
 rcases h with h2| ⟨a,ad,dl,h3,h4,h5,h6⟩
 ·exact .inl h2
 ·exact .inr ⟨a,ad,dl,h3,getO h4,h5.app,mtsAt_app l dl h6⟩
def Prg.datOf (p:Prg) (s:Bs):Option Dat:=p.data.find? (fun x=>x.name==s)
def Prg.few (p:Prg):Prop:= ∀d ∈ p.data,d.cons.length≤8∧ ∀c ∈ d.cons,c.args.length≤4
def rowsT (f:Ty→Nat→List Ex):List Ty→Nat→List (List Ex)
 | [],m=>if m=0 then [[]] else []
 |t::r,m=>(List.range m).flatMap fun i=>(f t (i+1)).flatMap fun x=>(rowsT f r (m - (i+1))).map fun l=>x::l
def conV (s:Bs) (l:List Ex):Ex:= .mk 10 0 s [] [] l []
def baseV (kd:Int):List Ex:=if kd=4 then [.mk 3 0 [] [] [] [] []] else [.mk (kd - 1) 0 [] [] [] [] [], .mk (kd - 1) 1 [] [] [] [] []]
def Ty.valF (p:Prg):Nat→Ty→Nat→List Ex
 |0,_,_=>[]
 |k+1, .mk kd _ s L _ _,n=>if n=0 then [] else if kd=6 then (match p.datOf s with
  |some d=>d.cons.flatMap fun c=>(rowsT (Ty.valF p k) (c.args.map (Ty.rep d.params L)) (n - 1)).map (conV c.name)
  |none=>[])
  else if n=1 then baseV kd else []
def Ty.val (p:Prg) (t:Ty) (n:Nat):List Ex:=Ty.valF p n t n
mutual
def Ty.ff (p:Prg) (A:Nat→Prop):Ty→Prop
 | .mk k _ s l _ _=>k≠5∧(k=6→A (datIx p s))∧tysFf p A l
def tysFf (p:Prg) (A:Nat→Prop):List Ty→Prop
 | []=>True
 |t::r=>t.ff p A∧tysFf p A r
end
mutual
theorem Ty.ff_mono {p:Prg} {A B:Nat→Prop} (h: ∀i,A i→B i): ∀ (t:Ty),t.ff p A→t.ff p B
 | .mk k _ s l _ _,hf=>by
  simp only [Ty.ff] at hf ⊢
  exact ⟨hf.1,fun h6=>h _ (hf.2.1 h6),tysFf_mono h l hf.2.2⟩
theorem tysFf_mono {p:Prg} {A B:Nat→Prop} (h: ∀i,A i→B i): ∀ (l:List Ty),tysFf p A l→tysFf p B l
 | [],_=>trivial
 |t::r,hf=>⟨t.ff_mono h hf.1,tysFf_mono h r hf.2⟩
end
def Dat.ff (p:Prg) (A:Nat→Prop) (d:Dat):Prop:= ∀c ∈ d.cons,∀a ∈ c.args,a.ff p A
def incl (S S':Nat→Bool):Prop:= ∀i,S i=true→S' i=true
def newA (p:Prg) (S S':Nat→Bool):Prop:= ∀i (hi:i<p.data.length),S' i=true→S i=false→p.data[i].ff p (fun j=>S' j=true)
theorem incl.trans {S S' S'':Nat→Bool} (h:incl S S') (h':incl S' S''):incl S S'':=fun i hi=>h' i (h i hi)
theorem newA.trans {p:Prg} {S S' S'':Nat→Bool} (h:newA p S S') (h':newA p S' S'') (hi2:incl S' S''):newA p S S'':=fun i hi h2 h0=>by
 cases hs:S' i with
 |false=>exact h' i hi h2 hs
 |true=>exact fun c hc a ha=>Ty.ff_mono (fun j hj=>hi2 j hj) a (h i hi hs h0 c hc a ha)
theorem decls_few {p:Prg} (h:p.decls=0):p.few:=by
 obtain ⟨hs,_⟩:=orE_zero.1 h
 obtain ⟨_,_,_,hs3,_⟩:=Prg.syn_data hs
 intro d hd
 obtain ⟨_,a2,_⟩:=datE_cons (hs3 d hd)
 exact ⟨a2,fun c hc=>(decls_con h hd hc).2.1⟩
def numT:Ty:= .mk 2 0 [] [] [] 0
theorem c17 (s:Bs) (σ:St):CI (.fn 17) [.str s] σ=some (.ret (.agg (paramT s).cs),σ):=by
 have hτ:bodyI CI XB GI af17 [.str s] σ=some (.ret (.agg [.int .i64 1, .int .i64 0, .str s, .empty, .empty, .int .i64 0]),σ++[.box [.int .i64 1, .int .i64 0, .str s, .empty, .empty, .int .i64 0]]):=by
  simp [bodyI,af17,getA0,setA0,fillD,putCells]
 exact CI_tree tab17 hτ rfl rfl
theorem c18 (σ:St):CI (.fn 18) [] σ=some (.ret (.agg numT.cs),σ):=by
 have hτ:bodyI CI XB GI af18 [] σ=some (.ret (.agg [.int .i64 2, .int .i64 0, .str [], .empty, .empty, .int .i64 0]),σ++[.box [.int .i64 2, .int .i64 0, .str [], .empty, .empty, .int .i64 0]]):=by
  simp [bodyI,af18,getA0,setA0,fillD,putCells]
 exact CI_tree tab18 hτ rfl rfl
theorem c19 (s:Bs) (l:List Ty) (σ:St):CI (.fn 19) [.str s, .slice (tysD l)] σ=some (.ret (.agg (dataT s l).cs),σ):=by
 have hp:=tys_plain l
 have hτ:bodyI CI XB GI af19 [.str s, .slice (tysD l)] σ=some (.ret (.agg [.int .i64 6, .int .i64 0, .str s, .slice (tysD l), .empty, .int .i64 0]),σ++[.box [.int .i64 6, .int .i64 0, .str s, .slice (tysD l), .empty, .int .i64 0]]):=by
  generalize tysD l=ld
  simp [bodyI,af19,getA0,setA0,fillD,putCells]
 refine CI_tree tab19 hτ (by simp only [D.tree,treeL,hp.1];rfl) ?_
 simp only [D.weak,weakL,hp.2,dataT,Ty.cs,List.map_nil]
theorem Prg.pl (p:Prg): (D.agg p.cs).tree=true∧(D.agg p.cs).weak= .agg p.cs:=p.plain
theorem k14 (p:Prg) (hok:p.ok) (σ:St):CL (.fn 14) [.agg p.cs] σ=some (.ret (.int .i64 p.decls),σ):=
 CL_plain rfl (by simpa [treeL] using p.pl.1) (by simpa [weakL] using p.pl.2) (c14 p hok []) rfl σ
theorem k20 (p:Prg) (hok:p.ok) (t:Ty) (ht:t.ok) (σ:St):CL (.fn 20) [.agg p.cs, .agg t.cs] σ=some (.ret (.tuple [.bool (p.inh t&&p.tyE t==0), .int .i64 (p.tyE t)]),σ):=
 CL_plain rfl (by simp only [treeL,p.pl.1,t.plain.agg.1];rfl) (by simp only [weakL,p.pl.2,t.plain.agg.2]) (c20 p hok t ht []) rfl σ
theorem k17 (s:Bs) (σ:St):CL (.fn 17) [.str s] σ=some (.ret (.agg (paramT s).cs),σ):=
 CL_plain rfl rfl rfl (c17 s []) rfl σ
theorem k18 (σ:St):CL (.fn 18) [] σ=some (.ret (.agg numT.cs),σ):=
 CL_plain rfl rfl rfl (c18 []) rfl σ
theorem tuple_tree {l:List Ty} {e:Int} : (D.tuple [.slice (l.map Ty.d), .int .i64 e]).tree=true:=by
 have:=(tys_plain l).1
 rw [tysD_map] at this
 simp only [D.tree,treeL,this];rfl
theorem k15n (p:Prg) (hok:p.ok) (s:Bs) (σ:St):CL (.fn 15) [.agg p.cs, .str s, .empty] σ=some (.ret (.tuple [.slice ((p.fieldsL s []).map Ty.d), .int .i64 (p.fieldsE s [])]),σ):=
 CL_plain (ws:=[.agg p.cs, .str s, .slice (([]:List Ty).map Ty.d)]) rfl (by simp only [treeL,p.pl.1];rfl) (by simp only [weakL,p.pl.2];rfl) (c15 p hok s [] (by simp [maxL]) (by simp) []) tuple_tree σ
theorem k15r (p:Prg) (hok:p.ok) (s:Bs) (l:List Ty) (hl:l.length≤maxL) (hlo: ∀t ∈ l,t.ok) {S:St} {r n:Nat} (hr:RowIs S r 6 (tysD l)) (hn:l.length=n):
 CL (.fn 15) [.agg p.cs, .str s, .arr r n 0 n] S=some (.ret (.tuple [.slice ((p.fieldsL s l).map Ty.d), .int .i64 (p.fieldsE s l)]),freeze [r] S):=by
 subst hn
 have hbl:=tysD_len l
 have hpl:=tys_plain l
 obtain ⟨p1,p2⟩:=hr.strip hpl.1 15
 rw [hbl] at p1 p2
 have s1:=strip_one 16 S (.agg p.cs) p.pl.1
 have s2:=leads_one 16 S (.agg p.cs) p.pl.1
 have hw:=hpl.2
 have h:=CL_rows (f:=15) (args:=[.agg p.cs, .str s, .arr r l.length 0 l.length]) (bs:=[.agg p.cs, .str s, .slice (tysD l)]) (ws:=[.agg p.cs, .str s, .slice (l.map Ty.d)]) (σ:=S) rfl
  (by simp [treeL,D.tree]) (by simp only [List.mapM_cons,List.mapM_nil,s1,p1,strip_one 16 S (.str s) rfl];rfl)
  (by
    show [(D.agg p.cs).weak,(D.str s).weak,(D.slice (tysD l)).weak]=_
    rw [p.pl.2,←tysD_map l]
    simp only [D.weak,hw]) (c15 p hok s l hl hlo []) tuple_tree
 have hf: (D.tuple [.slice ((p.fieldsL s l).map Ty.d), .int .i64 (p.fieldsE s l)]).flat=false:=by simp [D.flat]
 rw [h,hf]
 simp only [List.flatMap_cons,List.flatMap_nil,s2,p2,leads_one 16 S (.str s) rfl,List.nil_append,List.append_nil,Bool.false_eq_true,if_false]
theorem k19r (s:Bs) (l:List Ty) {S:St} {r n:Nat} (hr:RowIs S r 6 (tysD l)) (hn:l.length=n):
 CL (.fn 19) [.str s, .arr r n 0 n] S=some (.ret (.agg (dataT s l).cs),freeze [r] S):=by
 subst hn
 have hbl:=tysD_len l
 have hpl:=tys_plain l
 obtain ⟨p1,p2⟩:=hr.strip hpl.1 15
 rw [hbl] at p1 p2
 have hw:=hpl.2
 have h:=CL_rows (f:=19) (args:=[.str s, .arr r l.length 0 l.length]) (bs:=[.str s, .slice (tysD l)]) (ws:=[.str s, .slice (tysD l)]) (σ:=S) rfl
  (by simp [treeL,D.tree]) (by simp only [List.mapM_cons,List.mapM_nil,p1,strip_one 16 S (.str s) rfl];rfl)
  (by simp only [weakL,D.weak,hw]) (c19 s l []) (dataT s l).plain.agg.1
 rw [h]
 simp only [D.flat,List.flatMap_cons,List.flatMap_nil,p2,leads_one 16 S (.str s) rfl,List.nil_append,List.append_nil,Bool.false_eq_true,if_false]
theorem k21 (l:List Ty) (hl:l.length≤maxL) (hok: ∀t ∈ l,t.ok) (σ:St):CL (.fn 21) [.slice (l.map Ty.d), .slice (l.map Ty.d)] σ=some (.ret (.bool true),σ):=by
 have hp:=(tys_plain l)
 rw [tysD_map] at hp
 exact CL_plain rfl (by simp only [treeL,D.tree,hp.1];rfl) (by simp only [weakL,D.weak,hp.2]) (c21 l hl hok []) rfl σ
def argsOf (l:List Ty) (n:Nat):List Ty:=(List.range n).map fun j=>l.getD (j % l.length) numT
theorem argsOf_len (l:List Ty) (n:Nat): (argsOf l n).length=n:=by simp [argsOf]
theorem argsOf_get (l:List Ty) {n j:Nat} (h:j<n): (argsOf l n).take (j+1)=(argsOf l n).take j++[l.getD (j % l.length) numT]:=by
 rw [List.take_succ_eq_append_getElem (by simp [argsOf];exact h)]
 simp [argsOf]
def S3 (σ:St) (x y:Obj) (a b:List Ty):St:=σ++[x,y, .row 6 (tysD a) 0, .row 6 (tysD b) 0]
theorem S3_0 {σ:St} {x y:Obj} {a b:List Ty} : (S3 σ x y a b)[σ.length]? =some x:=getA0
theorem S3_1 {σ:St} {x y:Obj} {a b:List Ty} : (S3 σ x y a b)[σ.length+1]? =some y:=getA
theorem S3_2 {σ:St} {x y:Obj} {a b:List Ty} : (S3 σ x y a b)[σ.length+2]? =some (.row 6 (tysD a) 0):=getA
theorem S3_3 {σ:St} {x y:Obj} {a b:List Ty} : (S3 σ x y a b)[σ.length+3]? =some (.row 6 (tysD b) 0):=getA
theorem S3_a {σ:St} {x y:Obj} {a b:List Ty} (t:Ty): (S3 σ x y a b).set (σ.length+2) (.row 6 (tysD a++[.agg t.cs]) 0)=S3 σ x y (a++[t]) b:=by
 unfold S3;rw [setA,show tysD a++[.agg t.cs]=tysD (a++[t]) by rw [tysD_map,tysD_map,List.map_append];rfl];rfl
theorem S3_b {σ:St} {x y:Obj} {a b:List Ty} (t:Ty): (S3 σ x y a b).set (σ.length+3) (.row 6 (tysD b++[.agg t.cs]) 0)=S3 σ x y a (b++[t]):=by
 unfold S3;rw [setA,show tysD b++[.agg t.cs]=tysD (b++[t]) by rw [tysD_map,tysD_map,List.map_append];rfl];rfl
theorem Ty.cs_all (t:Ty):t.cs.all D.one=true:=by cases t;rfl
set_option maxHeartbeats 4000000 in
theorem it3_0 (x:Obj) (dn:Bs) (ps:List Bs) (cd:D) (l:List Ty) (hll:l.length≤maxL) (hps:ps.length≤4) (σ:St): ∀ (k j:Nat),j+k=ps.length→
 iterI (evalI CL XBL GI 192 false lp3_0) [(2, .slice (l.map Ty.d)),(3, .ptr σ.length 0),(9, .ptr (σ.length+1) 0),(10, .arr (σ.length+2) j 0 j),(11, .arr (σ.length+3) j 0 j),(12, .int .i64 (j:Nat))] (S3 σ x (.box [.str dn, .slice (ps.map D.str),cd]) ((ps.map paramT).take j) ((argsOf l ps.length).take j))=
  some (.exit 0,[(2, .slice (l.map Ty.d)),(3, .ptr σ.length 0),(9, .ptr (σ.length+1) 0),(10, .arr (σ.length+2) ps.length 0 ps.length),(11, .arr (σ.length+3) ps.length 0 ps.length),(12, .int .i64 (ps.length:Nat)),(59, .bool false)],S3 σ x (.box [.str dn, .slice (ps.map D.str),cd]) (ps.map paramT) (argsOf l ps.length))
 |0,j,hj=>by
  obtain rfl:j=ps.length:=by omega
  rw [List.take_of_length_le (by simp),List.take_of_length_le (by rw [argsOf_len];exact Nat.le_refl _)]
  refine iterI_end ?_ (by simp)
  have h1:=S3_1 (σ:=σ) (x:=x) (y:= .box [.str dn, .slice (ps.map D.str),cd]) (a:=ps.map paramT) (b:=argsOf l ps.length)
  have hpl: (ps.map D.str).length=ps.length:=List.length_map _
  generalize S3 σ x (.box [.str dn, .slice (ps.map D.str),cd]) (ps.map paramT) (argsOf l ps.length)=S at*
  generalize ps.map D.str=pd at*
  generalize l.map Ty.d=ld
  simp [lp3_0,h1,hpl]
 |k+1,j,hj=>by
  rw [←it3_0 x dn ps cd l hll hps σ k (j+1) (by omega)]
  refine iterI_next ?_
  have hjl:j<ps.length:=by omega
  obtain ⟨t,ht⟩: ∃t,l.getD (j % l.length) numT=t:=⟨_,rfl⟩
  have ha: (ps.map paramT).take (j+1)=(ps.map paramT).take j++[paramT ps[j]]:=by
   rw [List.take_succ_eq_append_getElem (by simpa using hjl)];simp
  rw [ha,argsOf_get l hjl,ht]
  have hw:=wrap_nat (n:=j) (by omega)
  have hpl: (ps.map D.str).length=ps.length:=List.length_map _
  have hg: (ps.map D.str)[j]? =some (.str ps[j]):=by simp [hjl]
  have hal: ((ps.map paramT).take j).length=j:=by simp;omega
  have hbl: ((argsOf l ps.length).take j).length=j:=by rw [List.length_take,argsOf_len];omega
  have h17:=fun σ=>k17 ps[j] σ
  have h18:=fun σ=>k18 σ
  have s1: ∀y a b,(S3 σ x y a b)[σ.length+1]? =some y:=fun y a b=>S3_1
  have s2: ∀y a b,(S3 σ x y a b)[σ.length+2]? =some (.row 6 (tysD a) 0):=fun y a b=>S3_2
  have s3: ∀y a b,(S3 σ x y a b)[σ.length+3]? =some (.row 6 (tysD b) 0):=fun y a b=>S3_3
  have s4: ∀y a b t,(S3 σ x y a b).set (σ.length+2) (.row 6 (tysD a++[.agg (Ty.cs t)]) 0)=S3 σ x y (a++[t]) b:=fun y a b t=>S3_a t
  have s5: ∀y a b t,(S3 σ x y a b).set (σ.length+3) (.row 6 (tysD b++[.agg (Ty.cs t)]) 0)=S3 σ x y a (b++[t]):=fun y a b t=>S3_b t
  have hpp:=(paramT ps[j]).cs_all
  have hpl2:=(paramT ps[j]).cs_len
  have hpt2:=(paramT ps[j]).cs_take
  generalize (ps.map paramT).take j=a at*
  generalize (argsOf l ps.length).take j=b at*
  have tal:=tysD_len a
  have tbl:=tysD_len b
  have hbnd: (j+1) *88≤140737488355328:=by omega
  obtain ⟨ld,hld,hldl,hlg⟩:=opq Ty.d l
  rw [hld]
  generalize ps.map D.str=pd at*
  have hjp:j<pd.length:=by omega
  have hgj:pd[j]= .str ps[j]:=by rw [List.getElem?_eq_getElem hjp] at hg;exact Option.some.inj hg
  generalize ps[j]=s at*
  generalize hY:Obj.box [D.str dn, .slice pd,cd]=Y at*
  have hs1: ∀a b,(S3 σ x Y a b)[σ.length+1]? =some (.box [.str dn, .slice pd,cd]):=fun a b=>by rw [hY];exact S3_1
  by_cases h0:l.length=0
  ·have hn:l=[]:=List.length_eq_zero_iff.1 h0
   subst hn
   have htn:t=numT:=by rw [←ht];rfl
   subst htn
   have hnn:=numT.cs_all
   have hnl:=numT.cs_len
   have hnt:=numT.cs_take
   have e4:=s4 Y a b (paramT s)
   have e5:=s5 Y (a++[paramT s]) b numT
   have hld0:ld=[]:=List.length_eq_zero_iff.1 (by rw [hldl];rfl)
   subst hld0
   clear hld hlg
   generalize (paramT s).cs=pc at*
   generalize numT.cs=nc at*
   simp [lp3_0,hs1,s2,s3,hpl,hjl,hjp,hgj,hw,h17,h18,hpp,hpl2,hpt2,hnn,hnl,hnt,tal,tbl,hal,hbl,hbnd,rowOf,fillRow,e4,e5]
  ·have hjm:j % l.length<l.length:=Nat.mod_lt _ (by omega)
   obtain ⟨g1,g2⟩:=hlg (j % l.length) hjm
   unfold Ty.d at g2
   have htt:t=l[j % l.length]:=by rw [←ht,List.getD_eq_getElem?_getD,List.getElem?_eq_getElem hjm];rfl
   rw [←htt] at g2
   have hmod: ((j:Int)).tmod (l.length:Int)=((j % l.length:Nat):Int):=by
    rw [Int.tmod_eq_emod_of_nonneg (by omega)];exact (Int.natCast_emod _ _).symm
   have hl0: ¬((l.length:Int)=0):=by omega
   have hl0b: ((l.length:Int) ==0)=false:=by rw [beq_eq_false_iff_ne];exact hl0
   have hnn:=t.cs_all
   have hnl:=t.cs_len
   have hnt:=t.cs_take
   have e4:=s4 Y a b (paramT s)
   have e5:=s5 Y (a++[paramT s]) b t
   generalize j % l.length=q at*
   clear ht htt
   generalize (paramT s).cs=pc at*
   generalize t.cs=nc at*
   simp [lp3_0,hs1,s2,s3,hpl,hjl,hjp,hgj,hw,h17,h18,hpp,hpl2,hpt2,hnn,hnl,hnt,tal,tbl,hal,hbl,hbnd,rowOf,fillRow,hldl,hl0,hl0b,hmod,hjm,g1,g2,e4,e5,h0,arithD,intArith]
set_option maxHeartbeats 4000000 in
theorem it3_1 (p:Prg) (hok:p.ok) (fs:List Ty) (hfl:fs.length≤1000) (hfo: ∀t ∈ fs,t.ok) (hft: ∀t ∈ fs,p.tyE t=0) (bp:Nat) (d9 d10 d11 d14 d15 d16 d17:D) (S:St) (hp:S[bp]? =some (.box p.cs)): ∀ (k j:Nat) (acc:Bool),j+k=fs.length→
 iterI (evalI CL XBL GI 192 false lp3_1) [(3, .ptr bp 0),(9,d9),(10,d10),(11,d11),(14,d14),(15,d15),(16,d16),(17,d17),(20, .slice (fs.map Ty.d)),(22, .bool acc),(23, .int .i64 (j:Nat))] S=
  some (.exit 4,[(3, .ptr bp 0),(9,d9),(10,d10),(11,d11),(14,d14),(15,d15),(16,d16),(17,d17),(20, .slice (fs.map Ty.d)),(22, .bool (acc&&(fs.drop j).all p.inh)),(23, .int .i64 (fs.length:Nat)),(160, .bool false)],S)
 |0,j,acc,hj=>by
  obtain rfl:j=fs.length:=by omega
  refine iterI_end ?_ (by simp)
  have hl: (fs.map Ty.d).length=fs.length:=List.length_map _
  rw [List.drop_length]
  generalize fs.map Ty.d=fd at*
  simp [lp3_1,hl]
 |k+1,j,acc,hj=>by
  have hjl:j<fs.length:=by omega
  rw [List.drop_eq_getElem_cons hjl,List.all_cons,←Bool.and_assoc,←it3_1 p hok fs hfl hfo hft bp d9 d10 d11 d14 d15 d16 d17 S hp k (j+1) (acc&&p.inh fs[j]) (by omega)]
  refine iterI_next ?_
  have hw:=wrap_nat (n:=j) (by omega)
  obtain ⟨fd,hfd,hfdl,hfg⟩:=opq Ty.d fs
  obtain ⟨g1,g2⟩:=hfg j hjl
  have h20:=k20 p hok fs[j] (hfo _ (List.getElem_mem hjl)) S
  rw [hft _ (List.getElem_mem hjl)] at h20
  unfold Ty.d at g2
  have hpl:=p.cs_len
  have hpt:=p.cs_take
  have e1:eqbL p.cs p.cs=true:=eqbL_tree _ p.plain.1
  have e2:eqbL fs[j].cs fs[j].cs=true:=eqbL_tree _ fs[j].plain.1
  have e3:eqbL fd fd=true:=by rw [←hfd,←tysD_map];exact eqbL_tree _ (tys_plain _).1
  have t1:treeL p.cs=true:=p.pl.1
  have t2:treeL fs[j].cs=true:=fs[j].plain.1
  have x20:XBL 20=true:=rfl
  have y1:=fs[j].cs_len
  have y2:=fs[j].cs_take
  have hjj: (j:Int) <fs.length:=by omega
  rw [hfd]
  generalize p.inh fs[j]=v at*
  generalize fs[j].cs=tc at*
  generalize p.cs=pc at*
  cases acc<;>simp [lp3_1,hp,hjl,hjj,hw,hfdl,g1,g2,h20,hpl,hpt,e1,e2,e3,t1,t2,x20,y1,y2,D.flat,Nat.testBit_eq_decide_div_mod_eq]
structure G3 (σ:St) (p:Prg) (d:Dat) (own args:List Ty) (S:St):Prop where
 ext: ∃τ,S=σ++τ
 hp:S[σ.length]? =some (.box p.cs)
 hd:S[σ.length+1]? =some (.box d.cs)
 ro:RowIs S (σ.length+2) 6 (tysD own)
 ra:RowIs S (σ.length+3) 6 (tysD args)
theorem G3.fr {σ:St} {p:Prg} {d:Dat} {own args:List Ty} {S:St} (h:G3 σ p d own args S) {r:Nat} (hr:σ.length≤r):G3 σ p d own args (freeze [r] S):=by
 obtain ⟨⟨τ,hτ⟩,h1,h2,h3,h4⟩:=h
 refine ⟨?_,freeze_box h1,freeze_box h2,h3.freeze,h4.freeze⟩
 obtain ⟨τ',_,he⟩:=freeze_app (σ:=σ) (τ:=τ) (l:=[r]) (by simpa using hr)
 exact ⟨τ',by rw [hτ,he]⟩
set_option maxHeartbeats 8000000 in
theorem it3_2 (p:Prg) (hok:p.ok) (hdc:p.decls=0) (d:Dat) (hdm:d ∈ p.data) (args:List Ty) (hal:args.length=d.params.length) (hao: ∀t ∈ args,t.ok) (is:Bool) (e:Int) (hg:e=0→ ∀a ∈ args,a.good p) (σ:St): ∀ (k j:Nat) (acc:Bool) (S:St),j+k=d.cons.length→G3 σ p d (d.params.map paramT) args S→ ∃S',G3 σ p d (d.params.map paramT) args S'∧
 (iterI (evalI CL XBL GI 192 false lp3_2) [(3, .ptr σ.length 0),(9, .ptr (σ.length+1) 0),(10, .arr (σ.length+2) d.params.length 0 d.params.length),(11, .arr (σ.length+3) d.params.length 0 d.params.length),(14, .bool is),(15, .int .i64 e),(16, .bool acc),(17, .int .i64 (j:Nat))] S=some (.ret,[(6, .bool true)],S')∨
  ∃b,(e=0→b=(acc|| (d.cons.drop j).any fun c=>c.args.all fun x=>p.inh (x.rep d.params args)))∧
   iterI (evalI CL XBL GI 192 false lp3_2) [(3, .ptr σ.length 0),(9, .ptr (σ.length+1) 0),(10, .arr (σ.length+2) d.params.length 0 d.params.length),(11, .arr (σ.length+3) d.params.length 0 d.params.length),(14, .bool is),(15, .int .i64 e),(16, .bool acc),(17, .int .i64 (j:Nat))] S=
    some (.exit 2,[(3, .ptr σ.length 0),(9, .ptr (σ.length+1) 0),(10, .arr (σ.length+2) d.params.length 0 d.params.length),(11, .arr (σ.length+3) d.params.length 0 d.params.length),(14, .bool is),(15, .int .i64 e),(16, .bool b),(17, .int .i64 (d.cons.length:Nat)),(102, .bool false)],S'))
 |0,j,acc,S,hj,hG=>by
  obtain rfl:j=d.cons.length:=by omega
  refine ⟨S,hG, .inr ⟨acc,fun _=>by rw [List.drop_length];simp, ?_⟩⟩
  refine iterI_end ?_ (by simp)
  have hd:=hG.hd
  have hcl: (d.cons.map Con.d).length=d.cons.length:=List.length_map _
  have hdc:d.cs=[.str d.name,slD d.params, .slice (d.cons.map Con.d)]:=by cases d;rfl
  rw [hdc] at hd
  generalize d.cons.map Con.d=cd at*
  simp [lp3_2,hd,hcl]
 |k+1,j,acc,S,hj,hG=>by
  have hjl:j<d.cons.length:=by omega
  have hcm:d.cons[j] ∈ d.cons:=List.getElem_mem hjl
  obtain ⟨o1,o2⟩:=fields_own hdc hdm hcm
  obtain ⟨f1,f2,f3⟩:=decls_con hdc hdm hcm
  have hd8:=(decls_few hdc d hdm).1
  have hco: ∀t ∈ d.cons[j].args,t.ok:=fun t ht=>Ty.small_ok t (Ty.small_chk (f3 t ht))
  have hoo: ∀t ∈ d.params.map paramT,t.ok:=fun t ht=>by
   obtain ⟨s,_,rfl⟩:=List.mem_map.1 ht
   exact ⟨by simp [maxL],by simp [maxL],trivial⟩
  have h15o:=fun {S} (h:RowIs S (σ.length+2) 6 (tysD (d.params.map paramT)))=>k15r p hok d.cons[j].name (d.params.map paramT) (by rw [List.length_map];unfold maxL;omega) hoo h (n:=d.params.length) (List.length_map _)
  have h15a:=fun {S} (h:RowIs S (σ.length+3) 6 (tysD args))=>k15r p hok d.cons[j].name args (by unfold maxL;omega) hao h (n:=d.params.length) hal
  rw [o1,o2] at h15o
  have G1:=hG.fr (r:=σ.length+2) (by omega)
  have G2:=G1.fr (r:=σ.length+3) (by omega)
  have h15o:=h15o hG.ro
  have h15a:=h15a G1.ra
  have h21:=k21 d.cons[j].args (by unfold maxL;omega) hco (freeze [σ.length+2] S)
  have hw:=wrap_nat (n:=j) (by omega)
  have hd0:=hG.hd
  have hd1:=G1.hd
  have hd2:=G2.hd
  have hp0:=hG.hp
  have hp1:=G1.hp
  have hp2:=G2.hp
  have hpl:=p.cs_len
  have hpt:=p.cs_take
  have e1:eqbL p.cs p.cs=true:=eqbL_tree _ p.plain.1
  have t1:treeL p.cs=true:=p.pl.1
  have x15:XBL 15=true:=rfl
  obtain ⟨cd,hcd,hcdl,hcg⟩:=opq Con.d d.cons
  obtain ⟨g1,g2⟩:=hcg j hjl
  have hdc':d.cs=[.str d.name,slD d.params, .slice (d.cons.map Con.d)]:=by cases d;rfl
  have hcc:Con.d d.cons[j]= .agg [.str d.cons[j].name, .slice (d.cons[j].args.map Ty.d)]:=by
   rcases d.cons[j] with ⟨cn,ca⟩;simp only [Con.d,Con.cs,tysD_map]
  rw [hdc',hcd] at hd0 hd1 hd2
  rw [hcc] at g2
  have hjj: (j:Int) <d.cons.length:=by omega
  have e3:eqbL cd cd=true:=by rw [←hcd];exact eqbL_tree _ (PlainL.map fun x _=>x.plain).1
  have hA:=(tys_plain d.cons[j].args).1
  rw [tysD_map] at hA
  have e4:eqbL (d.cons[j].args.map Ty.d) (d.cons[j].args.map Ty.d)=true:=eqbL_tree _ hA
  by_cases hstop:e≠0∨p.fieldsE d.cons[j].name args≠0
  ·refine ⟨_,G2, .inl ?_⟩
   refine iterI_end ?_ (by simp)
   have h16:=fun σ=>kL16 σ
   have hr3:e≠0∨p.fieldsE d.cons[j].name args=3:=by
    by_cases he:e=0
    ·right
     rcases fields_two hdc hdm hcm hal (fun a ha=>(hg he a ha).1) with h| ⟨h,_⟩
     ·exact h
     ·exact absurd h (hstop.resolve_left (fun h=>h he))
    ·exact .inl he
   have e5:eqbL ((p.fieldsL d.cons[j].name args).map Ty.d) ((p.fieldsL d.cons[j].name args).map Ty.d)=true:=by rw [←tysD_map];exact eqbL_tree _ (tys_plain _).1
   generalize p.fieldsE d.cons[j].name args=fe at*
   generalize (p.fieldsL d.cons[j].name args).map Ty.d=fl at*
   generalize d.cons[j].args.map Ty.d=ad at*
   generalize d.cons[j].name=cn at*
   generalize slD d.params=pd at*
   generalize hS1:freeze [σ.length+2] S=S1 at*
   generalize hS2:freeze [σ.length+3] S1=S2 at*
   generalize p.cs=pc at*
   by_cases he:e=0
   ·subst he
    have hfe:fe=3:=hr3.resolve_left (fun h=>h rfl)
    subst hfe
    simp [lp3_2,hp0,hp1,hp2,hd0,hd1,hd2,hcdl,hjl,hjj,hw,g1,g2,h15o,h15a,h21,h16,hpl,hpt,e1,e3,e4,e5,t1,x15,D.flat,Nat.testBit_eq_decide_div_mod_eq]
   ·have hb: (e != 0)=true:=by simpa using he
    simp [lp3_2,hp0,hp1,hp2,hd0,hd1,hd2,hcdl,hjl,hjj,hw,g1,g2,h15o,h15a,h21,h16,hpl,hpt,e1,e3,e4,e5,t1,x15,he,hb,D.flat,Nat.testBit_eq_decide_div_mod_eq]
  ·have he:e=0:=Classical.byContradiction fun h=>hstop (.inl h)
   have hfe:p.fieldsE d.cons[j].name args=0:=Classical.byContradiction fun h=>hstop (.inr h)
   rcases fields_two hdc hdm hcm hal (fun a ha=>(hg he a ha).1) with h| ⟨_,hfl,hfit⟩
   ·rw [hfe] at h;cases h
   subst he
   obtain ⟨fs,hfs⟩: ∃fs,d.cons[j].args.map (Ty.rep d.params args)=fs:=⟨_,rfl⟩
   have hfty: ∀t ∈ fs,p.tyE t=0:=fun t ht=>by
    rw [←hfs] at ht
    obtain ⟨x,hx,rfl⟩:=List.mem_map.1 ht
    exact field_ty hdc hdm hcm hal (hg rfl) hx (hfit x hx)
   have hfo: ∀t ∈ fs,t.ok:=fun t ht=>Ty.small_ok t (Ty.small_chk (tyE_zero (hfty t ht)).2.1)
   have hfsl:fs.length≤1000:=by rw [←hfs,List.length_map];omega
   rw [hfe,hfl,hfs] at h15a
   have hall: (d.cons[j].args.all fun x=>p.inh (x.rep d.params args))=fs.all p.inh:=by rw [←hfs,List.all_map];rfl
   rw [List.drop_eq_getElem_cons hjl,List.any_cons,hall,←Bool.or_assoc]
   obtain ⟨S',hS',h2⟩:=it3_2 p hok hdc d hdm args hal hao is 0 hg σ k (j+1) (acc||fs.all p.inh) (freeze [σ.length+3] (freeze [σ.length+2] S)) (by omega) G2
   have hit:=it3_1 p hok fs hfsl hfo hfty σ.length (.ptr (σ.length+1) 0) (.arr (σ.length+2) d.params.length 0 d.params.length) (.arr (σ.length+3) d.params.length 0 d.params.length) (.bool is) (.int .i64 0) (.bool acc) (.int .i64 (j:Nat)) _ hp2 fs.length 0 true (by omega)
   rw [List.drop_zero,Bool.true_and,Int.natCast_zero] at hit
   refine ⟨S',hS', ?_⟩
   have key:evalI CL XBL GI 192 false lp3_2 [(3, .ptr σ.length 0),(9, .ptr (σ.length+1) 0),(10, .arr (σ.length+2) d.params.length 0 d.params.length),(11, .arr (σ.length+3) d.params.length 0 d.params.length),(14, .bool is),(15, .int .i64 0),(16, .bool acc),(17, .int .i64 (j:Nat))] S=
    some (.normal,[(3, .ptr σ.length 0),(9, .ptr (σ.length+1) 0),(10, .arr (σ.length+2) d.params.length 0 d.params.length),(11, .arr (σ.length+3) d.params.length 0 d.params.length),(14, .bool is),(15, .int .i64 0),(16, .bool (acc||fs.all p.inh)),(17, .int .i64 ((j+1:Nat):Int))],freeze [σ.length+3] (freeze [σ.length+2] S)):=by
    have e5:eqbL (fs.map Ty.d) (fs.map Ty.d)=true:=by rw [←tysD_map];exact eqbL_tree _ (tys_plain _).1
    clear h2
    generalize fs.map Ty.d=fl at*
    generalize fs.all p.inh=v at*
    generalize fs.length=fn at*
    generalize d.cons[j].args.map Ty.d=ad at*
    generalize d.cons[j].name=cn at*
    generalize slD d.params=pd at*
    generalize hS1:freeze [σ.length+2] S=S1 at*
    generalize hS2:freeze [σ.length+3] S1=S2 at*
    generalize p.cs=pc at*
    cases acc<;>simp [lp3_2,hp0,hp1,hp2,hd0,hd1,hd2,hcdl,hjl,hjj,hw,g1,g2,h15o,h15a,h21,hpl,hpt,e1,e3,e4,e5,t1,x15,hit,D.flat,Nat.testBit_eq_decide_div_mod_eq]
   rcases h2 with h2| ⟨b,hb,h2⟩
   ·exact .inl (by rw [←h2];exact iterI_next key)
   ·exact .inr ⟨b,hb,by rw [←h2];exact iterI_next key⟩
theorem log2048:Nat.log2 2048=11:=by decide
set_option maxHeartbeats 8000000 in
theorem law3 (p:Prg) (hok:p.ok) (w:Int) (hw0:0≤w) (hw1:w≤255) (l:List Ty) (hl:l.length≤maxL∧ ∀t ∈ l,t.ok) (σ:St):CL (.fn 3) [.agg p.cs, .int .u8 w, .slice (l.map Ty.d)] σ=some (.ret (.bool true),σ):=by
 obtain ⟨hll,hlo⟩:=hl
 have h14:=fun σ=>k14 p hok σ
 have h15:=fun σ=>k15n p hok [78,105,108] σ
 have h16:=fun σ=>kL16 σ
 have hall:=p.cs_all
 have hpl:=p.cs_len
 have hpt:=p.cs_take
 obtain ⟨dd,hdd,hddl,hdg⟩:=opq Dat.d p.data
 have hg0:p.cs.head?=some (.slice dd):=by rw [p.cs_eq,hdd];rfl
 have hh0: ∀h:0<p.cs.length,p.cs[0]= .slice dd:=fun h=>by
  have:=hg0
  rw [List.head?_eq_getElem?,List.getElem?_eq_getElem h] at this
  exact Option.some.inj this
 have dd0: (D.slice dd).eqb (.slice dd)=true:=by
  simp only [D.eqb];rw [←hdd];exact eqbL_tree _ (PlainL.map fun x _=>x.plain).1
 simp only [D.eqb] at dd0
 have wi:IntKind.i64.wrap w=w:=wrap_i64 (by omega) (by omega)
 suffices h: ∃τ,bodyI CL XBL GI af3 [.agg p.cs, .int .u8 w, .slice (l.map Ty.d)] σ=some (.ret (.bool true),σ++τ) by
  obtain ⟨τ,h⟩:=h
  exact CL_tree tab3 h rfl rfl rfl rfl
 by_cases hc:p.decls≠0∨p.data.length=0
 ·refine ⟨[.box p.cs], ?_⟩
  have hne:p.fieldsE [78,105,108] []≠0:=fun h0=>by
   obtain ⟨h1,h2⟩:=orE_zero.1 h0
   have hd:p.data=[]:=List.length_eq_zero_iff.1 (hc.resolve_left (fun h=>h h1))
   have:p.conOf [78,105,108]=none:=by unfold Prg.conOf;rw [hd];rfl
   rw [this] at h2
   cases h2
  have hnb: (p.fieldsE [78,105,108] [] != 0)=true:=by simpa using hne
  generalize p.fieldsE [78,105,108] []=fe at*
  generalize (p.fieldsL [78,105,108] []).map Ty.d=fl at*
  generalize p.decls=de at*
  generalize p.cs=pc at*
  by_cases h0:de=0
  ·have hd:=hc.resolve_left (fun h=>h h0)
   subst h0
   simp [bodyI,af3,getA0,hall,hpl,hpt,h14,h15,h16,hg0,hddl,hd,hne,hnb]
  ·have hb: (de != 0)=true:=by simpa using h0
   simp [bodyI,af3,getA0,hall,hpl,hpt,h14,h15,h16,hg0,hddl,h0,hb,hne,hnb]
 have hdc:p.decls=0:=Classical.byContradiction fun h=>hc (.inl h)
 have hn0: ¬p.data.length=0:=fun h=>hc (.inr h)
 obtain ⟨q,hq⟩: ∃q,w.toNat % p.data.length=q:=⟨_,rfl⟩
 have hql:q<p.data.length:=by rw [←hq];exact Nat.mod_lt _ (by omega)
 have hmod:w.tmod (p.data.length:Int)=(q:Int):=by
  rw [Int.tmod_eq_emod_of_nonneg hw0,←hq]
  obtain ⟨m,rfl⟩: ∃m:Nat,w=m:=⟨w.toNat,by omega⟩
  rw [Int.toNat_natCast];exact (Int.natCast_emod _ _).symm
 have hl0: ¬((p.data.length:Int)=0):=by omega
 have hl0b: ((p.data.length:Int) ==0)=false:=by rw [beq_eq_false_iff_ne];exact hl0
 obtain ⟨g1,g2⟩:=hdg q hql
 have hdm:p.data[q] ∈ p.data:=List.getElem_mem hql
 obtain ⟨_,hls⟩:=decls_fit hdc
 have hp4:=(hls _ hdm).1
 generalize p.data[q]=d at*
 have hal:=argsOf_len l d.params.length
 have hao: ∀t ∈ argsOf l d.params.length,t.ok:=fun t ht=>by
  obtain ⟨j,_,rfl⟩:=List.mem_map.1 ht
  rw [List.getD_eq_getElem?_getD]
  cases hg:l[j % l.length]? with
  |none=>exact ⟨by simp [maxL],by simp [maxL],trivial⟩
  |some a=>exact hlo a (List.mem_of_getElem? hg)
 have hit0:=it3_0 (.box p.cs) d.name d.params (.slice (d.cons.map Con.d)) l hll hp4 σ d.params.length 0 (by omega)
 have hdcs:d.cs=[.str d.name, .slice (d.params.map D.str), .slice (d.cons.map Con.d)]:=by cases d;rfl
 rw [←hdcs,List.take_zero,List.take_zero] at hit0
 rw [Int.natCast_zero] at hit0
 have G0:G3 σ p d (d.params.map paramT) (argsOf l d.params.length) (S3 σ (.box p.cs) (.box d.cs) (d.params.map paramT) (argsOf l d.params.length)):=
  ⟨⟨_,rfl⟩,S3_0,S3_1,⟨0,Nat.zero_le _, .inl S3_2⟩,⟨0,Nat.zero_le _, .inl S3_3⟩⟩
 have hS0:S3 σ (.box p.cs) (.box d.cs) [] []=σ++[.box p.cs, .box d.cs, .row 6 [] 0, .row 6 [] 0]:=rfl
 rw [hS0] at hit0
 have G1:=G0.fr (r:=σ.length+3) (by omega)
 have h19:=k19r d.name (argsOf l d.params.length) G0.ra hal
 obtain ⟨t,ht⟩: ∃t,dataT d.name (argsOf l d.params.length)=t:=⟨_,rfl⟩
 rw [ht] at h19
 have hlen1: (freeze [σ.length+3] (S3 σ (.box p.cs) (.box d.cs) (d.params.map paramT) (argsOf l d.params.length))).length=σ.length+4:=by rw [freeze_len];simp [S3]
 have hd1:=G1.hd
 have hdS:=G0.hd
 have hpS:=G1.hp
 generalize S3 σ (.box p.cs) (.box d.cs) (d.params.map paramT) (argsOf l d.params.length)=S0 at*
 generalize freeze [σ.length+3] S0=S1 at*
 have hto:t.ok:=by
  rw [←ht]
  refine ⟨by rw [hal];unfold maxL;omega,by simp [maxL], ?_⟩
  have: ∀l:List Ty,(∀t ∈ l,t.ok)→tysOk l:=fun l=>by
   induction l with
   |nil=>exact fun _=>trivial
   |cons a r ih=>exact fun h=>⟨h a List.mem_cons_self,ih fun x hx=>h x (List.mem_cons_of_mem _ hx)⟩
  exact this _ hao
 have h20:=fun σ=>k20 p hok t hto σ
 have hg:p.tyE t=0→ ∀a ∈ argsOf l d.params.length,a.good p:=fun h=>by
  have:=good_of h
  rw [←ht] at this
  exact good_parts this
 have hinh:p.tyE t=0→p.inh t=d.cons.any fun c=>c.args.all fun x=>p.inh (x.rep d.params (argsOf l d.params.length)):=fun _=>by
  rw [←ht];exact inh_data hdc hdm hal
 have G2:G3 σ p d (d.params.map paramT) (argsOf l d.params.length) (S1++[.box t.cs]):=by
  obtain ⟨⟨τ,hτ⟩,a1,a2,⟨s3,b3,a3⟩,⟨s4,b4,a4⟩⟩:=G1
  exact ⟨⟨τ++[.box t.cs],by rw [hτ,List.append_assoc]⟩,getO a1,getO a2,⟨s3,b3,a3.imp getO getO⟩,⟨s4,b4,a4.imp getO getO⟩⟩
 obtain ⟨S',G',hit⟩:=it3_2 p hok hdc d hdm (argsOf l d.params.length) hal hao (p.inh t&&p.tyE t==0) (p.tyE t) hg σ d.cons.length 0 false (S1++[.box t.cs]) (by omega) G2
 obtain ⟨τ,hτ⟩:=G'.ext
 refine ⟨τ, ?_⟩
 rw [←hτ]
 rw [Int.natCast_zero,List.drop_zero,Bool.false_or] at hit
 have y1:=t.cs_len
 have y2:=t.cs_take
 have y3:=t.cs_all
 have x1:d.cs.length=3:=rfl
 have x2:d.cs.take 3=d.cs:=rfl
 have x3:d.cs.all D.one=true:=by rw [hdcs];rfl
 have e1:eqbL p.cs p.cs=true:=eqbL_tree _ p.plain.1
 have e2:eqbL d.cs d.cs=true:=eqbL_tree _ (show treeL d.cs=true from d.plain.1)
 have e3:eqbL dd dd=true:=by rw [←hdd];exact eqbL_tree _ (PlainL.map fun x _=>x.plain).1
 have hdh:d.cs.head?=some (.str d.name):=by rw [hdcs];rfl
 have hpe:=getO (τ:=[Obj.box t.cs]) hpS
 have hwq: (q:Int) <p.data.length:=by omega
 unfold Dat.d at g2
 have hh1: ∀τ,(σ++Obj.box p.cs::τ)[σ.length]? =some (.box p.cs):=fun τ=>getA0
 clear h15 G0 G1 G2 G' hg hls hto hao
 have fin: ∀ (b:Bool),(p.tyE t=0→b=p.inh t)→(p.tyE t≠0∨((p.inh t&&p.tyE t==0) ==b)=true):=fun b hb=>by
  by_cases h0:p.tyE t=0
  ·right;rw [hb h0,h0];simp
  ·exact .inl h0
 rcases hit with hit| ⟨b,hb,hit⟩
 ·clear fin hinh
  generalize (p.inh t&&p.tyE t==0)=v at*
  generalize p.tyE t=te at*
  generalize t.cs=tc at*
  generalize d.cs=dc at*
  generalize d.name=dn at*
  generalize l.map Ty.d=ld at*
  generalize p.cs=pc at*
  simp [bodyI,af3,getA0,getA,setA0,setA,hall,hpl,hpt,h14,h16,hdc,hg0,hddl,hn0,hl0,hl0b,wi,hmod,hql,hh0,dd0,g1,g2,x1,x2,x3,y1,y2,y3,e1,e2,e3,hdh,hdS,hd1,hpS,hpe,hit0,h19,hlen1,h20,hit,putCells,log2048,arithD,intArith,Nat.testBit_eq_decide_div_mod_eq]
 ·have hf:=fin b fun h0=>by rw [hb h0,hinh h0]
  clear fin hinh hb
  generalize (p.inh t&&p.tyE t==0)=v at*
  generalize p.tyE t=te at*
  generalize t.cs=tc at*
  generalize d.cs=dc at*
  generalize d.name=dn at*
  generalize l.map Ty.d=ld at*
  generalize p.cs=pc at*
  by_cases h0:te=0
  ·have hvb: (v==b)=true:=hf.resolve_left (fun h=>h h0)
   subst h0
   simp [bodyI,af3,getA0,getA,setA0,setA,hall,hpl,hpt,h14,h16,hdc,hg0,hddl,hn0,hl0,hl0b,wi,hmod,hql,hh0,dd0,g1,g2,x1,x2,x3,y1,y2,y3,e1,e2,e3,hdh,hdS,hd1,hpS,hpe,hit0,h19,hlen1,h20,hit,hvb,putCells,log2048,arithD,intArith,eqD,Nat.testBit_eq_decide_div_mod_eq]
  ·have hb0: (te != 0)=true:=by simpa using h0
   simp [bodyI,af3,getA0,getA,setA0,setA,hall,hpl,hpt,h14,h16,hdc,hg0,hddl,hn0,hl0,hl0b,wi,hmod,hql,hh0,dd0,g1,g2,x1,x2,x3,y1,y2,y3,e1,e2,e3,hdh,hdS,hd1,hpS,hpe,hit0,h19,hlen1,h20,hit,h0,hb0,putCells,log2048,arithD,intArith,eqD,Nat.testBit_eq_decide_div_mod_eq]
end Go.AI
namespace Go.Proofs.YtgenoggafhhgfaaGreatDoor
open Go Go.AI
theorem law3w (p:Prg) (hok:p.ok) (w:Int) (hw: (Lit.int .u8 w).wf=true) (l:List Ty) (hl:l.length≤maxL∧ ∀t ∈ l,t.ok) (σ:St):CL (.fn 3) [.agg p.cs, .int .u8 w, .slice (l.map Ty.d)] σ=some (.ret (.bool true),σ):=by
 have h:=hw
 simp only [Lit.wf,Bool.and_eq_true,decide_eq_true_eq] at h
 have e1:IntKind.u8.min=0:=rfl
 have e2:IntKind.u8.max=255:=rfl
 rw [e1,e2] at h
 exact law3 p hok w h.1 h.2 l hl σ
end Go.Proofs.YtgenoggafhhgfaaGreatDoor
