/- Texts of the proof: what functions of the program compute, step by step. No conditions of its own. -/
import Derived.Test.YtgenoggafhhgfaaGreatDoorK7
import Derived.Test.YtgenoggafhhgfaaGreatDoorTie
import Derived.Test.YtgenoggafhhgfaaGreatDoorCards
import Derived.ProofKit
import Derived.OpenShut
import Derived.ShutString
import Derived.LaidMore
import Derived.Lay
import Derived.SevenTiedAt
import Derived.Stop.Joined
import Derived.Stop.LaidErr
import Derived.MakeChecks
import Derived.Lib.LaidTab
import Derived.SizedLaws
import Derived.ChangeOld
import Derived.ChangeArms
import Derived.Below
import Derived.Test.YtgenoggafhhgfaaGreatDoorK6
import Derived.Test.YtgenoggafhhgfaaGreatDoorK5
set_option linter.unusedVariables false
set_option linter.unusedSimpArgs false
namespace Go.AI
open Go Go.Proofs Go.Lx
set_option maxRecDepth 100000
def Dfn.ok (d:Dfn):Prop:=d.body.ok
structure Prg.ok (p:Prg):Prop where
 dl:p.data.length≤maxL
 d: ∀d ∈ p.data,d.ok
 el:p.effects.length≤maxL
 e: ∀e ∈ p.effects,e.ok
 fl:p.defs.length≤maxL
 f: ∀f ∈ p.defs,f.ok
 m:p.main.ok
def nest1 (d:Dfn) (out:Ex):Ex:= .mk 6 0 [] [] [d.name] [d.body,out] []
def nestE (l:List Dfn) (m:Ex):Ex:=l.foldr nest1 m
theorem nestE_ok {m:Ex} (hm:m.ok): ∀ {l:List Dfn},(∀d ∈ l,d.ok)→(nestE l m).ok
 | [],_=>hm
 |d::r,h=>⟨by unfold maxL;simp,by unfold maxL;simp,by unfold maxL;simp,⟨h d List.mem_cons_self,nestE_ok hm fun x hx=>h x (List.mem_cons_of_mem _ hx),trivial⟩,trivial⟩
def idx:Nat→Int
 |0=> -1
 |k+1=>k
theorem b142 (p:Prg) (out:Ex) (σ:St) (p1 p2 p3 k:Nat) (h1:σ[p1]? =some (.box p.cs)) (h3:σ[p3]? =some (.box out.cs)) (hk:k<p.defs.length) (hl:p.defs.length≤maxL):
 evalI CI XB GI 30 false lp142_0 [(1, .ptr p1 0),(2, .ptr p2 0),(3, .ptr p3 0),(4, .int .i64 k)] σ=
  some (.normal,[(1, .ptr p1 0),(2, .ptr p2 0),(3, .ptr p3 0),(4, .int .i64 (idx k))],σ.set p3 (.box (nest1 p.defs[k] out).cs)++[.box p.defs[k].cs]):=by
 rcases p with ⟨data,effects,defs,main⟩
 have hw:IntKind.i64.wrap ((k:Int) - 1)=idx k:=by
  cases k with
  |zero=>rfl
  |succ k=>rw [wrap_i64 (by omega) (by unfold maxL at hl;simp only at hk hl;omega)];simp only [idx];omega
 have hi3:=lt_of_get h3
 simp only [Prg.cs] at h1 hk ⊢
 have hget: (defs.map Dfn.d)[k]? =some (.agg defs[k].cs):=by simp [Dfn.d,hk]
 have hlen: (defs.map Dfn.d).length=defs.length:=by simp
 generalize defs[k]=dk at*
 rcases dk with ⟨name,body⟩
 simp only [Dfn.cs,nest1,Ex.cs,exsD,slD,List.map_cons,List.map_nil,armsD] at*
 have hc1:=body.cs_len
 have hc2:=body.cs_take
 have hc3:=body.cs_all
 have ho1:=out.cs_len
 have ho2:=out.cs_take
 have ho3:=out.cs_all
 have ho4:out.cs.drop 7=[]:=List.drop_eq_nil_of_le (by simp)
 generalize body.cs=bc at*
 generalize out.cs=oc at*
 generalize main.cs=mc at*
 generalize data.map Dat.d=dd at*
 generalize effects.map Eff.d=ed at*
 generalize defs.map Dfn.d=ld at*
 have h2:k<ld.length:=by omega
 have h4:ld[k]= .agg (.str name::bc):=by rw [List.getElem?_eq_getElem h2] at hget;exact Option.some.inj hget
 simp [lp142_0,h1,h3,h2,h4,hw,getO h1,getO h3,getA0,setA0,setO hi3,hc1,hc2,hc3,ho1,ho2,ho3,ho4,putCells,fillRow,fillD]
theorem it142 (p:Prg) (hl:p.defs.length≤maxL) (σ:St) (z:Obj): ∀ (m:Nat) (τ:St),m≤p.defs.length→
 ∃τ',iterI (evalI CI XB GI 30 false lp142_0) [(1, .ptr σ.length 0),(2, .ptr (σ.length+1) 0),(3, .ptr (σ.length+2) 0),(4, .int .i64 (idx m))] (σ++([.box p.cs,z, .box (nestE (p.defs.drop m) p.main).cs]++τ))=
  some (.exit 0,[(1, .ptr σ.length 0),(2, .ptr (σ.length+1) 0),(3, .ptr (σ.length+2) 0),(4, .int .i64 (-1)),(13, .bool false)],σ++([.box p.cs,z, .box (nestE p.defs p.main).cs]++τ'))
 |0,τ,_=>⟨τ,iterI_end (by simp [lp142_0,idx]) (by simp)⟩
 |m+1,τ,hm=>by
  have hb:=b142 p (nestE (p.defs.drop (m+1)) p.main) (σ++([.box p.cs,z, .box (nestE (p.defs.drop (m+1)) p.main).cs]++τ)) σ.length (σ.length+1) (σ.length+2) m getA0 getA (by omega) hl
  obtain ⟨τ',ih⟩:=it142 p hl σ z m (τ++[.box p.defs[m].cs]) (by omega)
  refine ⟨τ', ?_⟩
  simp only [idx]
  have hd:nestE (p.defs.drop m) p.main=nest1 p.defs[m] (nestE (p.defs.drop (m+1)) p.main):=by
   rw [List.drop_eq_getElem_cons (show m<p.defs.length by omega)];rfl
  rw [iterI_next hb,←ih,setA,hd]
  simp
theorem c142 (p:Prg) (hl:p.defs.length≤maxL) (σ:St):CI (.fn 142) [.agg p.cs] σ=some (.ret (.agg (nestE p.defs p.main).cs),σ):=by
 obtain ⟨τ,hit⟩:=it142 p hl σ (.box z7a) p.defs.length [] (by omega)
 rw [List.drop_length] at hit
 obtain ⟨τ,hτ⟩: ∃τ,bodyI CI XB GI af142 [.agg p.cs] σ=some (.ret (.agg (nestE p.defs p.main).cs),σ++τ):=by
  refine ⟨[.box p.cs, .box (nestE p.defs p.main).cs, .box (nestE p.defs p.main).cs]++τ, ?_⟩
  ·have hw:IntKind.i64.wrap ((p.defs.length:Int) - 1)=idx p.defs.length:=by
    unfold maxL at hl
    cases hn:p.defs.length with
    |zero=>rfl
    |succ k=>rw [wrap_i64 (by omega) (by omega)];simp only [idx];omega
   have hlen: (p.defs.map Dfn.d).length=p.defs.length:=by simp
   have hn:nestE [] p.main=p.main:=rfl
   rw [hn] at hit
   have ho1:=(nestE p.defs p.main).cs_len
   have ho2:=(nestE p.defs p.main).cs_take
   have ho3:=(nestE p.defs p.main).cs_all
   have ho4: (nestE p.defs p.main).cs.drop 7=[]:=List.drop_eq_nil_of_le (by simp)
   have hm1:=p.main.cs_len
   have hm2:=p.main.cs_take
   have hm3:=p.main.cs_all
   have hm4:p.main.cs.drop 7=[]:=List.drop_eq_nil_of_le (by simp)
   generalize nestE p.defs p.main=out at*
   rcases p with ⟨data,effects,defs,main⟩
   simp only [Prg.cs] at*
   generalize out.cs=oc at*
   generalize main.cs=mc at*
   generalize data.map Dat.d=dd at*
   generalize effects.map Eff.d=ed at*
   generalize defs.map Dfn.d=ld at*
   simp only [List.cons_append,List.nil_append,List.append_nil] at hit
   simp [bodyI,af142,getA0,getA,setA,setA0,ho1,ho2,ho3,ho4,hm1,hm2,hm3,hm4,putCells,hlen,hw,hit]
 exact CI_tree tab142 hτ (Ex.plain _).agg.1 (Ex.plain _).agg.2
def orE (a b:Int):Int:=if a=0 then b else a
def dfnE (d:Dfn):Int:=if varW d.name then d.body.e else 4
def Prg.syn (p:Prg):Int:=
 if 12<p.data.length∨12<p.effects.length∨60<p.defs.length then 3
 else orE (firstE (p.data.map datE)) (orE (firstE (p.effects.map effE)) (if ((nestE p.defs p.main).take 1 (3000,0)).1 then orE (firstE (p.defs.map dfnE)) p.main.e else 3))
theorem c95 (p:Prg) (hok:p.ok) (σ:St):CI (.fn 95) [.agg p.cs] σ=some (.ret (.int .i64 p.syn),σ):=by
 obtain ⟨hdl,hd,hel,he,hfl,hf,hm⟩:=hok
 have h142:=fun σ=>c142 p hfl σ
 have h131:=fun σ=>c131 p.main hm σ
 have hno:=nestE_ok hm hf
 have h130:=fun i σ h=>c130 (nestE p.defs p.main) hno 1 (3000,0) i σ ⟨by simp,by simp⟩ (by omega) (by omega) h
 obtain ⟨τ1,hit1⟩:=loop_seek (f:=evalI CI XB GI 81 false lp95_0) (σ:=σ++[.box p.cs]) p.data (fun i=>[(1, .ptr σ.length 0),(30, .slice (p.data.map Dat.d)),(31, .int .i64 p.data.length),(32, .int .i64 (i:Nat))]) (fun a=>datE a != 0) (fun a=>(.ret,[(2, .int .i64 (datE a))]))
  (.exit 0,[(1, .ptr σ.length 0),(30, .slice (p.data.map Dat.d)),(31, .int .i64 p.data.length),(32, .int .i64 p.data.length),(33, .bool false)]) (by simp) (by simp)
  (fun i hi τ=>by
    have hw:=wrap_nat (n:=i) (by unfold maxL at hdl;omega)
    have hcall:=fun σ=>c140 _ (hd _ (List.getElem_mem hi)) σ
    have hlen: (p.data.map Dat.d).length=p.data.length:=by simp
    have hget: (p.data.map Dat.d)[i]? =some (Dat.d p.data[i]):=by simp [hi]
    generalize p.data.map Dat.d=ld at*
    have h2:i<ld.length:=by omega
    have h3:ld[i]=Dat.d p.data[i]:=by rw [List.getElem?_eq_getElem h2] at hget;exact Option.some.inj hget
    generalize p.data[i]=x at*
    refine ⟨τ++[.box (Dat.cs x)], ?_⟩
    rw [←List.append_assoc]
    generalize σ++[.box p.cs]++τ=σ1 at*
    have hxl:x.cs.length=3:=rfl
    have hxt:x.cs.take 3=x.cs:=rfl
    have hxd:x.cs.drop 3=[]:=rfl
    have hxa:x.cs.all D.one=true:=rfl
    simp only [Dat.d] at*
    generalize x.cs=xc at*
    cases hx:datE x != 0
    ·have h0:datE x=0:=by simpa using hx
     simp [lp95_0,hi,hw,h2,h3,getA0,setA0,hcall,h0,hxl,hxt,hxd,hxa,putCells]
    ·have h0: ¬datE x=0:=by simpa using hx
     simp [lp95_0,hi,hw,h2,h3,getA0,setA0,hcall,h0,hx,hxl,hxt,hxd,hxa,putCells]) (fun τ=>⟨τ,by simp [lp95_0]⟩) []
 rw [Int.natCast_zero,List.append_nil] at hit1
 obtain ⟨τ2,hit2⟩:=loop_seek (f:=evalI CI XB GI 81 false lp95_1) (σ:=σ++[.box p.cs]) p.effects (fun i=>[(1, .ptr σ.length 0),(43, .slice (p.effects.map Eff.d)),(44, .int .i64 p.effects.length),(45, .int .i64 (i:Nat))]) (fun a=>effE a != 0) (fun a=>(.ret,[(2, .int .i64 (effE a))]))
  (.exit 2,[(1, .ptr σ.length 0),(43, .slice (p.effects.map Eff.d)),(44, .int .i64 p.effects.length),(45, .int .i64 p.effects.length),(46, .bool false)]) (by simp) (by simp)
  (fun i hi τ=>by
    have hw:=wrap_nat (n:=i) (by unfold maxL at hel;omega)
    have hcall:=fun σ=>c141 _ (he _ (List.getElem_mem hi)) σ
    have hlen: (p.effects.map Eff.d).length=p.effects.length:=by simp
    have hget: (p.effects.map Eff.d)[i]? =some (Eff.d p.effects[i]):=by simp [hi]
    generalize p.effects.map Eff.d=ld at*
    have h2:i<ld.length:=by omega
    have h3:ld[i]=Eff.d p.effects[i]:=by rw [List.getElem?_eq_getElem h2] at hget;exact Option.some.inj hget
    generalize p.effects[i]=x at*
    refine ⟨τ++[.box (Eff.cs x)], ?_⟩
    rw [←List.append_assoc]
    generalize σ++[.box p.cs]++τ=σ1 at*
    have hxl:x.cs.length=2:=rfl
    have hxt:x.cs.take 2=x.cs:=rfl
    have hxd:x.cs.drop 2=[]:=rfl
    have hxa:x.cs.all D.one=true:=rfl
    simp only [Eff.d] at*
    generalize x.cs=xc at*
    cases hx:effE x != 0
    ·have h0:effE x=0:=by simpa using hx
     simp [lp95_1,hi,hw,h2,h3,getA0,setA0,hcall,h0,hxl,hxt,hxd,hxa,putCells]
    ·have h0: ¬effE x=0:=by simpa using hx
     simp [lp95_1,hi,hw,h2,h3,getA0,setA0,hcall,h0,hx,hxl,hxt,hxd,hxa,putCells]) (fun τ=>⟨τ,by simp [lp95_1]⟩) τ1
 rw [Int.natCast_zero] at hit2
 have hit3:=fun τ=>loop_seek (f:=evalI CI XB GI 81 false lp95_2) (σ:=σ++[.box p.cs]) p.defs (fun i=>[(1, .ptr σ.length 0),(61, .slice (p.defs.map Dfn.d)),(62, .int .i64 p.defs.length),(63, .int .i64 (i:Nat))]) (fun a=>dfnE a != 0) (fun a=>(.ret,[(2, .int .i64 (dfnE a))]))
  (.exit 4,[(1, .ptr σ.length 0),(61, .slice (p.defs.map Dfn.d)),(62, .int .i64 p.defs.length),(63, .int .i64 p.defs.length),(64, .bool false)]) (by simp) (by simp)
  (fun i hi τ=>by
    have hw:=wrap_nat (n:=i) (by unfold maxL at hfl;omega)
    have hcall:=fun σ=>c131 _ (hf _ (List.getElem_mem hi)) σ
    have hlen: (p.defs.map Dfn.d).length=p.defs.length:=by simp
    have hget: (p.defs.map Dfn.d)[i]? =some (Dfn.d p.defs[i]):=by simp [hi]
    generalize p.defs.map Dfn.d=ld at*
    have h2:i<ld.length:=by omega
    have h3:ld[i]=Dfn.d p.defs[i]:=by rw [List.getElem?_eq_getElem h2] at hget;exact Option.some.inj hget
    generalize p.defs[i]=x at*
    refine ⟨τ++[.box (Dfn.cs x)], ?_⟩
    rw [←List.append_assoc]
    generalize σ++[.box p.cs]++τ=σ1 at*
    rcases x with ⟨name,body⟩
    have hxl:=body.cs_len
    have hxt:=body.cs_take
    have hxa:=body.cs_all
    have hxd:body.cs.drop 7=[]:=List.drop_eq_nil_of_le (by simp)
    simp only [Dfn.d,Dfn.cs,dfnE] at*
    generalize body.cs=xc at*
    cases hv:varW name
    ·simp [lp95_2,hi,hw,h2,h3,getA0,setA0,c143,isC1,hv,hcall,hxl,hxt,hxd,hxa,putCells]
    ·cases hx:body.e != 0
     ·have h0:body.e=0:=by simpa using hx
      simp [lp95_2,hi,hw,h2,h3,getA0,setA0,c143,isC1,hv,hcall,h0,hxl,hxt,hxd,hxa,putCells]
     ·have h0: ¬body.e=0:=by simpa using hx
      simp [lp95_2,hi,hw,h2,h3,getA0,setA0,c143,isC1,hv,hcall,h0,hx,hxl,hxt,hxd,hxa,putCells]) (fun τ=>⟨τ,by simp [lp95_2]⟩) τ
 simp only [Int.natCast_zero] at hit3
 obtain ⟨τ,hτ⟩: ∃τ,bodyI CI XB GI af95 [.agg p.cs] σ=some (.ret (.int .i64 p.syn),σ++τ):=by
  unfold Prg.syn
  have hg: ∀τ,(σ++[.box p.cs]++τ)[σ.length]? =some (.box p.cs):=fun τ=>by rw [List.append_assoc];exact getA0
  have hg1:=hg τ1
  have hg2:=hg τ2
  obtain ⟨σ1,hσ1⟩: ∃σ1,σ++[.box p.cs]++τ1=σ1:=⟨_,rfl⟩
  obtain ⟨σ2,hσ2⟩: ∃σ2,σ++[.box p.cs]++τ2=σ2:=⟨_,rfl⟩
  rw [hσ1] at hg1 hit1 hit2
  rw [hσ2] at hg2 hit2
  have hall:p.cs.all D.one=true:=by rcases p with ⟨_,_,_,main⟩;simp only [Prg.cs,List.all_append,main.cs_all];rfl
  have hdL: (p.data.map Dat.d).length=p.data.length:=by simp
  have heL: (p.effects.map Eff.d).length=p.effects.length:=by simp
  have hfL: (p.defs.map Dfn.d).length=p.defs.length:=by simp
  have hm1:=p.main.cs_len
  have hm2:=p.main.cs_take
  have hm3:=p.main.cs_all
  have hpc:p.cs= .slice (p.data.map Dat.d):: .slice (p.effects.map Eff.d):: .slice (p.defs.map Dfn.d)::p.main.cs:=by cases p;rfl
  have hpl:p.cs.length=10:=by rw [hpc];simp
  have hpt:p.cs.take 10=p.cs:=List.take_of_length_le (by omega)
  rw [firstE_find,firstE_find]
  by_cases hA:12<p.data.length
  ·refine ⟨[.box p.cs], ?_⟩
   have hA': (12:Int) <p.data.length:=by omega
   rw [if_pos (.inl hA)]
   rw [hpc] at hall ⊢
   generalize p.data.map Dat.d=dd at*
   generalize p.effects.map Eff.d=ed at*
   generalize p.defs.map Dfn.d=fd at*
   generalize p.main.cs=mc at*
   simp [bodyI,af95,getA0,hm3,hdL,hA,hA']
  by_cases hB:12<p.effects.length
  ·refine ⟨[.box p.cs], ?_⟩
   have hA': ¬(12:Int) <p.data.length:=by omega
   have hB': (12:Int) <p.effects.length:=by omega
   rw [if_pos (.inr (.inl hB))]
   rw [hpc] at hall ⊢
   generalize p.data.map Dat.d=dd at*
   generalize p.effects.map Eff.d=ed at*
   generalize p.defs.map Dfn.d=fd at*
   generalize p.main.cs=mc at*
   simp [bodyI,af95,getA0,hm3,hdL,heL,hA,hA',hB,hB']
  by_cases hC:60<p.defs.length
  ·refine ⟨[.box p.cs], ?_⟩
   have hA': ¬(12:Int) <p.data.length:=by omega
   have hB': ¬(12:Int) <p.effects.length:=by omega
   have hC': (60:Int) <p.defs.length:=by omega
   rw [if_pos (.inr (.inr hC))]
   rw [hpc] at hall ⊢
   generalize p.data.map Dat.d=dd at*
   generalize p.effects.map Eff.d=ed at*
   generalize p.defs.map Dfn.d=fd at*
   generalize p.main.cs=mc at*
   simp [bodyI,af95,getA0,hm3,hdL,heL,hfL,hA,hA',hB,hB',hC,hC']
  have hA': ¬(12:Int) <p.data.length:=by omega
  have hB': ¬(12:Int) <p.effects.length:=by omega
  have hC': ¬(60:Int) <p.defs.length:=by omega
  rw [if_neg (by omega)]
  cases hf1:p.data.find? (fun a=>datE a != 0) with
  |some a=>
   rw [hf1] at hit1
   have h0: ¬datE a=0:=by have:=List.find?_some hf1;simpa using this
   refine ⟨[.box p.cs]++τ1, ?_⟩
   rw [←List.append_assoc,hσ1]
   simp only [orE,if_neg h0]
   simp only [hpc] at hall hit1 hg1 ⊢
   generalize p.data.map Dat.d=dd at*
   generalize p.effects.map Eff.d=ed at*
   generalize p.defs.map Dfn.d=fd at*
   generalize p.main.cs=mc at*
   simp [bodyI,af95,getA0,hm3,hdL,heL,hfL,hA,hA',hB,hB',hC,hC',hit1]
  |none=>
  rw [hf1] at hit1
  simp only [orE,if_pos rfl]
  cases hf2:p.effects.find? (fun a=>effE a != 0) with
  |some a=>
   rw [hf2] at hit2
   have h0: ¬effE a=0:=by have:=List.find?_some hf2;simpa using this
   refine ⟨[.box p.cs]++τ2, ?_⟩
   rw [←List.append_assoc,hσ2]
   simp only [if_neg h0]
   simp only [hpc] at hall hit1 hg1 hg2 ⊢
   generalize p.data.map Dat.d=dd at*
   generalize p.effects.map Eff.d=ed at*
   generalize p.defs.map Dfn.d=fd at*
   generalize p.main.cs=mc at*
   simp [bodyI,af95,getA0,hm3,hdL,heL,hfL,hA,hA',hB,hB',hC,hC',hit1,hg1,hit2]
  |none=>
  rw [hf2] at hit2
  simp only [if_pos rfl]
  obtain ⟨q,hq⟩: ∃q,(nestE p.defs p.main).take 1 (3000,0)=q:=⟨_,rfl⟩
  rw [hq]
  have h130':=h130 σ2.length (σ2++[mBox 3000 0]) (by rw [getA0];rfl)
  rw [setA0,hq] at h130'
  obtain ⟨τ3,hit3⟩:=hit3 (τ2++[mBox q.2.1 q.2.2])
  rw [←List.append_assoc,hσ2] at hit3
  have hg3:=hg τ3
  simp only [mBox,List.set] at h130' hit3
  cases hq1:q.1
  ·refine ⟨[.box p.cs]++(τ2++[mBox q.2.1 q.2.2]), ?_⟩
   rw [hq1] at h130'
   rw [←List.append_assoc,←List.append_assoc,hσ2]
   simp only [mBox]
   simp only [hpc] at hall hit1 hg1 hg2 hpl hpt h142 ⊢
   generalize p.data.map Dat.d=dd at*
   generalize p.effects.map Eff.d=ed at*
   generalize p.defs.map Dfn.d=fd at*
   generalize p.main.cs=mc at*
   simp [bodyI,af95,getA0,hm1,hm3,hm2,hdL,heL,hfL,hA,hA',hB,hB',hC,hC',hit1,hg1,hit2,hg2,setA0,getO hg2,fillD,putCells,h142,h130']
  ·rw [hq1] at h130'
   rw [firstE_find]
   cases hf3:p.defs.find? (fun a=>dfnE a != 0) with
   |some a=>
    rw [hf3] at hit3
    have h0: ¬dfnE a=0:=by have:=List.find?_some hf3;simpa using this
    refine ⟨[.box p.cs]++τ3, ?_⟩
    rw [←List.append_assoc]
    generalize hσ3:σ++[.box p.cs]++τ3=σ3 at*
    simp only [if_neg h0]
    simp only [hpc] at hall hit1 hg1 hg2 hg3 hpl hpt h142 ⊢
    generalize p.data.map Dat.d=dd at*
    generalize p.effects.map Eff.d=ed at*
    generalize p.defs.map Dfn.d=fd at*
    generalize p.main.cs=mc at*
    simp [bodyI,af95,getA0,hm1,hm3,hm2,hdL,heL,hfL,hA,hA',hB,hB',hC,hC',hit1,hg1,hit2,hg2,setA0,getO hg2,fillD,putCells,h142,h130',hit3]
   |none=>
    rw [hf3] at hit3
    refine ⟨[.box p.cs]++τ3, ?_⟩
    rw [←List.append_assoc]
    generalize hσ3:σ++[.box p.cs]++τ3=σ3 at*
    simp only [hpc] at hall hit1 hg1 hg2 hg3 hpl hpt h142 ⊢
    generalize p.data.map Dat.d=dd at*
    generalize p.effects.map Eff.d=ed at*
    generalize p.defs.map Dfn.d=fd at*
    generalize p.main.cs=mc at*
    simp [bodyI,af95,getA0,hm1,hm3,hm2,hdL,heL,hfL,hA,hA',hB,hB',hC,hC',hit1,hg1,hit2,hg2,setA0,getO hg2,fillD,putCells,h142,h130',hit3,hg3,h131]
 exact CI_tree tab95 hτ rfl rfl
end Go.AI
namespace Go.Proofs.YtgenoggafhhgfaaGreatDoor
open Go Go.AI Go.ChangeShapes Go.WideShapes Go.ChangeAt Go.RowKit
set_option maxRecDepth 100000
def oldB (W:World) (b:Nat):Prop:=b<W.heap.size
def RC (W:World) (ds:List D) (cs:List Value):Prop:=ds.length=cs.length∧ ∀ (j:Nat) (d:D),ds[j]? =some d→ ∃v,cs[j]? =some v∧R (bare (oldB W)) W d v
theorem RC.one {W:World} {d:D} {v:Value} (h:R (bare (oldB W)) W d v):RC W [d] [v]:=
 ⟨rfl,fun j x hx=>by
  match j,hx with
  |0,hx=>cases hx;exact ⟨v,rfl,h⟩⟩
theorem RC.nil {W:World} {cs:List Value} {off:Nat} (h:cs.length≤off):RC W [] (cs.drop off):=⟨by rw [List.drop_eq_nil_of_le h];rfl,fun j x hx=>by simp at hx⟩
theorem RC.cons {W:World} {a rest:List D} {cs:List Value} {off s:Nat} (h:RC W a ((cs.drop off).take s)) (hr:RC W rest (cs.drop (off+s))) (hl:off+s≤cs.length):RC W (a++rest) (cs.drop off):=by
 obtain ⟨h1,h2⟩:=h
 obtain ⟨r1,r2⟩:=hr
 simp only [List.length_take,List.length_drop] at h1 r1
 have hal:a.length=s:=by omega
 refine ⟨by simp only [List.length_append,List.length_drop];omega,fun j d hd=> ?_⟩
 by_cases hj:j<a.length
 ·rw [List.getElem?_append_left hj] at hd
  obtain ⟨v,hv,hvr⟩:=h2 j d hd
  rw [List.getElem?_take_of_lt (by omega)] at hv
  exact ⟨v,hv,hvr⟩
 ·rw [List.getElem?_append_right (by omega)] at hd
  obtain ⟨v,hv,hvr⟩:=r2 (j - a.length) d hd
  rw [List.getElem?_drop] at hv ⊢
  exact ⟨v,by rw [←hv];congr 1;omega,hvr⟩
section
variable {H:Type} {enc:TypeId × Value→H} {W:World} {sp:Nat→Bool} {held:Bool}
end
end Go.Proofs.YtgenoggafhhgfaaGreatDoor
namespace Go.Proofs.YtgenoggafhhgfaaGreatDoor
open Go Go.AI Go.ChangeShapes Go.WideShapes Go.ChangeAt Go.RowKit
set_option maxRecDepth 100000
section
variable {H:Type} {enc:TypeId × Value→H} {W:World} {sp:Nat→Bool} {held:Bool}
def Lab.cs (x:Lab):List D:=[.str x.s, .int .i64 x.n]
end
end Go.Proofs.YtgenoggafhhgfaaGreatDoor
namespace Go.AI
open Go Go.Proofs
end Go.AI
namespace Go.Proofs.YtgenoggafhhgfaaGreatDoor
open Go Go.AI Go.ChangeShapes Go.WideShapes Go.ChangeAt Go.RowKit
set_option maxRecDepth 100000
abbrev laid3:List (String × DataW Unit):=[("unicode.White_Space",Rows.laid_unicode_White_Space),("strings.asciiSpace",Rows.laid_strings_asciiSpace),("reprise/syntax.shapes",Rows.laid_reprise_syntax_shapes)]
theorem plain3: (laid3.all fun x=>x.2.handleName?.isNone)=true:=by kernel_rfl
theorem tab_space {W:World} (h:laidMetH Tryz.prog laid3 W):Lib.TabIs Tryz.prog W "strings.asciiSpace" .u8 Lib.asciiSpaceTab:=by
 rw [MakeChecks.laidMetH_plain _ _ _ plain3] at h
 have h3:=h.tail
 have e: (Rows.laid_strings_asciiSpace:DataW Unit)=Lib.tabData .u8 Lib.asciiSpaceTab:=by kernel_rfl
 rw [e] at h3
 exact Lib.tabIs_of_head (g:=1) (t:=251) (e:=5) (n:=256) (by kernel_rfl) (by kernel_rfl) (by kernel_rfl) (by kernel_rfl) (by kernel_rfl) (by kernel_rfl) h3
theorem glob_of_tab {W:World} {name:String} {g:Nat} {k:IntKind} {zs:List Int} (hg:Tryz.prog.globalNamed name=some g) (h:Lib.TabIs Tryz.prog W name k zs) (_h0:0<zs.length):
 R (bare (oldB W)) W (.tptr (zs.map (.int k))) (.pointer (some ⟨g,0,none⟩))∧ ∃c ty fz,W.heap[g]? =some (.cells c ty fz)∧c.size=(zs.map (D.int k)).length:=by
 have hcell:=fun i hi=>h.cell hg i hi
 unfold Lib.TabIs World.var? at h
 rw [hg] at h
 simp only [Option.bind_some] at h
 split at h
 ·rename_i cs ty fz hb
  have hcs:=Option.some.inj h
  refine ⟨.tptr (f:=fun j=> .int k (zs.getD j 0)) ?_ (fun j hj=> ?_) (fun j d hd=> ?_),cs,ty,fz,hb,by rw [hcs];simp⟩
  ·exact (Array.getElem?_eq_some_iff.1 hb).1
  ·have:=hcell j (by simpa using hj)
   simpa using this
  ·have hj:j<zs.length:=by have:=(List.getElem?_eq_some_iff.1 hd).1;simpa using this
   have:d= .int k (zs.getD j 0):=by
    have:=(List.getElem?_eq_some_iff.1 hd).2
    simp at this
    simp [List.getD,hj,this]
   rw [this]
   exact .int _ _
 ·cases h
def litD:DataW Unit→List D
 | .lit (.int k n)=>[.int k n]
 | .lit (.bool b)=>[.bool b]
 |_=>[]
theorem cell_lit {enc:TypeId × Value→Unit} {W:World} {sp:Nat→Bool} {held:Bool} {m:Nat} {t:TypeId} {cs:List Value} {x:DataW Unit × List MemPlace} (ht:Tryz.prog.underlying t=some (.int .i64)∨Tryz.prog.underlying t=some .bool)
 (h:DataW.trod enc Tryz.prog W 0 sp held m t cs=some x):RC W (litD x.1) cs:=by
 rcases ht with ht|ht
 ·obtain ⟨n,rfl,rfl,_⟩:=DataW.trod_int ht h
  exact .one (.int _ _)
 ·obtain ⟨b,rfl,rfl⟩:=DataW.trod_bool ht h
  exact .one (.bool _)
theorem shape_row {enc:TypeId × Value→Unit} {W:World} {sp:Nat→Bool} {held:Bool} {m:Nat} {cs:List Value} {parts:List (DataW Unit)} {ps:List MemPlace}
 (h:DataW.trod enc Tryz.prog W 0 sp held m 231 cs=some (.agg parts,ps)):RC W (parts.flatMap litD) cs:=by
 have hu:=Tryz.underlying231
 obtain ⟨xs,n,rfl,hx,hl,hlen,hf⟩:=DataW.trod_struct hu h
 have hl:cs.length=9:=hl.trans (by kernel_rfl)
 have hlen:xs.length=9:=hlen
 obtain ⟨rfl,_⟩:parts=xs.map (·.1)∧ps=_:=by simpa using hx
 have c3:Tryz.prog.cellsOf 3=1:=by kernel_rfl
 have c4:Tryz.prog.cellsOf 4=1:=by kernel_rfl
 obtain ⟨x0,x1,x2,x3,x4,x5,x6,x7,x8,rfl⟩: ∃x0 x1 x2 x3 x4 x5 x6 x7 x8,xs=[x0,x1,x2,x3,x4,x5,x6,x7,x8]:=by
  rcases xs with _| ⟨x0,_| ⟨x1,_| ⟨x2,_| ⟨x3,_| ⟨x4,_| ⟨x5,_| ⟨x6,_| ⟨x7,_| ⟨x8,_| ⟨x9,xs⟩⟩⟩⟩⟩⟩⟩⟩⟩⟩<;>simp at hlen
  exact ⟨_,_,_,_,_,_,_,_,_,rfl⟩
 have u3:=Tryz.underlying3
 have u4:=Tryz.underlying4
 have f0:RC W (litD x0.1) ((cs.drop 0).take 1):=c3 ▸ cell_lit (.inl u3) (hf 0 _ rfl)
 have f1:RC W (litD x1.1) ((cs.drop 1).take 1):=c3 ▸ cell_lit (.inl u3) (hf 1 _ rfl)
 have f2:RC W (litD x2.1) ((cs.drop 2).take 1):=c3 ▸ cell_lit (.inl u3) (hf 2 _ rfl)
 have f3:RC W (litD x3.1) ((cs.drop 3).take 1):=c3 ▸ cell_lit (.inl u3) (hf 3 _ rfl)
 have f4:RC W (litD x4.1) ((cs.drop 4).take 1):=c3 ▸ cell_lit (.inl u3) (hf 4 _ rfl)
 have f5:RC W (litD x5.1) ((cs.drop 5).take 1):=c3 ▸ cell_lit (.inl u3) (hf 5 _ rfl)
 have f6:RC W (litD x6.1) ((cs.drop 6).take 1):=c4 ▸ cell_lit (.inr u4) (hf 6 _ rfl)
 have f7:RC W (litD x7.1) ((cs.drop 7).take 1):=c3 ▸ cell_lit (.inl u3) (hf 7 _ rfl)
 have f8:RC W (litD x8.1) ((cs.drop 8).take 1):=c3 ▸ cell_lit (.inl u3) (hf 8 _ rfl)
 have hR:=RC.cons (off:=0) (s:=1) f0 (RC.cons (off:=1) (s:=1) f1 (RC.cons (off:=2) (s:=1) f2 (RC.cons (off:=3) (s:=1) f3 (RC.cons (off:=4) (s:=1) f4 (RC.cons (off:=5) (s:=1) f5 (RC.cons (off:=6) (s:=1) f6 (RC.cons (off:=7) (s:=1) f7 (RC.cons (off:=8) (s:=1) f8 (RC.nil (W:=W) (cs:=cs) (off:=9) (by omega)) (by omega)) (by omega)) (by omega)) (by omega)) (by omega)) (by omega)) (by omega)) (by omega)) (by omega)
 rw [List.drop_zero] at hR
 simpa using hR
def rowD:DataW Unit→List D
 | .agg ps=>ps.flatMap litD
 |_=>[]
theorem shape_row' {enc:TypeId × Value→Unit} {W:World} {sp:Nat→Bool} {held:Bool} {m:Nat} {cs:List Value} {x:DataW Unit × List MemPlace}
 (h:DataW.trod enc Tryz.prog W 0 sp held m 231 cs=some x):RC W (rowD x.1) cs:=by
 have hu:=Tryz.underlying231
 obtain ⟨xs,n,_,hx,_⟩:=DataW.trod_struct hu h
 rcases x with ⟨d,ps⟩
 obtain ⟨rfl,_⟩:=Prod.mk.inj hx
 exact shape_row h
theorem shape_rows {W:World} {cs:List Value} {parts:List (DataW Unit)} (hl:cs.length=parts.length*9) (h: ∀i d,parts[i]? =some d→RC W (rowD d) ((cs.drop (i*9)).take 9)):
 ∀ (k i:Nat),i+k=parts.length→RC W ((parts.drop i).flatMap rowD) (cs.drop (i*9))
 |0,i,hi=>by
  have:i=parts.length:=by omega
  subst this
  rw [List.drop_length]
  exact RC.nil (by omega)
 |k+1,i,hi=>by
  have hlt:i<parts.length:=by omega
  rw [List.drop_eq_getElem_cons hlt,List.flatMap_cons]
  have ih:=shape_rows hl h k (i+1) (by omega)
  rw [show (i+1) *9=i*9+9 by omega] at ih
  exact RC.cons (h i _ (by simp [hlt])) ih (by rw [hl];omega)
theorem tab_shapes {W:World} (h:laidMetH Tryz.prog laid3 W):R (bare (oldB W)) W (.tptr shapes) (.pointer (some ⟨0,0,none⟩))∧ ∃c ty fz,W.heap[0]? =some (.cells c ty fz)∧c.size=shapes.length:=by
 rw [MakeChecks.laidMetH_plain _ _ _ plain3] at h
 obtain ⟨ps,⟨g,t,cs,fuel,p,q,hg,ht,hvar,hd,_,_⟩,_⟩:=h.tail.tail
 have hg0:Tryz.prog.globalNamed "reprise/syntax.shapes" =some 0:=by kernel_rfl
 obtain rfl:=Option.some.inj (hg0.symm.trans hg)
 have ht0: (Tryz.prog.globals[0]?).map (·.type)=some 232:=by kernel_rfl
 obtain rfl:=Option.some.inj (ht0.symm.trans ht)
 have hu:Tryz.prog.underlying 232=some (.array 20 231):=by kernel_rfl
 obtain ⟨xs,m,rfl,hx,hl,hlen,hf⟩:=DataW.trod_array hu hd
 have hl:cs.toList.length=20*9:=hl.trans (by kernel_rfl)
 have c9:Tryz.prog.cellsOf 231=9:=by kernel_rfl
 obtain ⟨hparts,_⟩:=Prod.mk.inj hx
 have hR:RC W ((xs.map (·.1)).flatMap rowD) cs.toList:=by
  have:=shape_rows (W:=W) (cs:=cs.toList) (parts:=xs.map (·.1)) (by rw [hl];simp [hlen]) (fun i d hi=>by
   rw [List.getElem?_map] at hi
   obtain ⟨x,hx,rfl⟩:=Option.map_eq_some_iff.1 hi
   have hi20:i<20:=by have:=(List.getElem?_eq_some_iff.1 hx).1;omega
   have:=hf i hi20
   rw [c9,hx] at this
   exact shape_row' this) 20 0 (by simp [hlen])
  simpa using this
 have hsh: (xs.map (·.1)).flatMap rowD=shapes:=by
  have e: (Rows.laid_reprise_syntax_shapes:DataW Unit)= .agg (xs.map (·.1)):=hparts
  have: (match (Rows.laid_reprise_syntax_shapes:DataW Unit) with| .agg ps=>ps.flatMap rowD|_=>[])=shapes:=by kernel_rfl
  rw [e] at this
  exact this
 rw [hsh] at hR
 obtain ⟨hR1,hR2⟩:=hR
 unfold World.var? at hvar
 rw [hg0] at hvar
 simp only [Option.bind_some] at hvar
 split at hvar
 ·rename_i cs' ty fz hb
  cases hvar
  have hsz:shapes.length=cs.size:=by rw [hR1];simp
  refine ⟨.tptr (f:=fun j=>cs.getD j undef) (Array.getElem?_eq_some_iff.1 hb).1 (fun j hj=> ?_) (fun j d hd=> ?_),cs,ty,fz,hb,hsz.symm⟩
  ·have hj':j<cs.size:=by omega
   simp [World.cell?,hb,Array.getD,hj']
  ·obtain ⟨v,hv,hr⟩:=hR2 j d hd
   have hv':cs[j]? =some v:=by simpa using hv
   obtain ⟨hlt,he⟩:=Array.getElem?_eq_some_iff.1 hv'
   have:cs.getD j undef=v:=by simp [Array.getD,hlt,he]
   rw [this];exact hr
 ·cases hvar
theorem glob_ok {W:World} (h:laidMetH Tryz.prog laid3 W):GlobR (bare (oldB W)) W GI:=by
 intro g cs hg
 simp only [GI_g,globT] at hg
 split at hg
 ·rename_i hg1;subst hg1
  cases hg
  exact tab_shapes h
 ·split at hg
  ·rename_i hg3;subst hg3
   cases hg
   exact glob_of_tab (by kernel_rfl) (tab_space h) (by rw [Lib.asciiSpaceTab_length];omega)
  ·cases hg
theorem own:ownKnob Tryz.prog.godebug=none:=by kernel_rfl
theorem laid_witness (os:Os) (args:Array Value):laidMetH Tryz.prog laid3 ((World.laidAll Tryz.prog os laid3).forCall (fun _ _=>0) ⟨#[],args,[]⟩).memory:=by
 rw [MakeChecks.laidMetH_plain _ _ _ plain3];exact laidMet_laidAll _ (by kernel_rfl) (by kernel_rfl)
end Go.Proofs.YtgenoggafhhgfaaGreatDoor
namespace Go.AI
open Go Go.Proofs
set_option maxRecDepth 100000
def w15:List (List D × D):=[
 ([(.agg [exData,(.slice [(.agg [(.str [83,116,97,116,101]),(.slice [(.agg [(.str [103,101,116]),(j 4),o,e,n,n,o,(j 2),o,e,n,n,o,(.bool false)]),(.agg [(.str [112,117,116]),(j 2),o,e,n,n,o,(j 4),o,e,n,n,o,(.bool false)])])]),(.agg [(.str [69,120,99]),(.slice [(.agg [(.str [114,97,105,115,101]),(j 4),o,e,n,n,o,(j 6),o,(.str [86,111,105,100]),n,n,o,(.bool true)])])])]),n,(j 3),o,e,e,n,n,n]),(.str [78,111,100,101]),n],(.tuple [(.slice [(.agg [(j 6),o,(.str [84,114,101,101]),n,n,o]),(.agg [(j 2),o,e,n,n,o]),(.agg [(j 6),o,(.str [84,114,101,101]),n,n,o])]),o]))]
def w20:List (List D × D):=[
 ([(.agg [exData,(.slice [(.agg [(.str [83,116,97,116,101]),(.slice [(.agg [(.str [103,101,116]),(j 4),o,e,n,n,o,(j 2),o,e,n,n,o,(.bool false)]),(.agg [(.str [112,117,116]),(j 2),o,e,n,n,o,(j 4),o,e,n,n,o,(.bool false)])])]),(.agg [(.str [69,120,99]),(.slice [(.agg [(.str [114,97,105,115,101]),(j 4),o,e,n,n,o,(j 6),o,(.str [86,111,105,100]),n,n,o,(.bool true)])])])]),n,(j 3),o,e,e,n,n,n]),(.agg [(j 5),o,e,(.slice [(.agg [(j 6),o,(.str [86,111,105,100]),n,n,o]),(.agg [(j 6),o,(.str [76,111,111,112]),n,n,o])]),n,(j (-1))])],(.tuple [(.bool true),o])),
 ([(.agg [exData,(.slice [(.agg [(.str [83,116,97,116,101]),(.slice [(.agg [(.str [103,101,116]),(j 4),o,e,n,n,o,(j 2),o,e,n,n,o,(.bool false)]),(.agg [(.str [112,117,116]),(j 2),o,e,n,n,o,(j 4),o,e,n,n,o,(.bool false)])])]),(.agg [(.str [69,120,99]),(.slice [(.agg [(.str [114,97,105,115,101]),(j 4),o,e,n,n,o,(j 6),o,(.str [86,111,105,100]),n,n,o,(.bool true)])])])]),n,(j 3),o,e,e,n,n,n]),(.agg [(j 6),o,(.str [76,111,111,112]),n,n,o])],(.tuple [(.bool false),o]))]
def w22:List (List D × D):=[
 ([(.agg [exData,(.slice [(.agg [(.str [83,116,97,116,101]),(.slice [(.agg [(.str [103,101,116]),(j 4),o,e,n,n,o,(j 2),o,e,n,n,o,(.bool false)]),(.agg [(.str [112,117,116]),(j 2),o,e,n,n,o,(j 4),o,e,n,n,o,(.bool false)])])]),(.agg [(.str [69,120,99]),(.slice [(.agg [(.str [114,97,105,115,101]),(j 4),o,e,n,n,o,(j 6),o,(.str [86,111,105,100]),n,n,o,(.bool true)])])])]),n,(j 3),o,e,e,n,n,n]),(.agg [(j 6),o,(.str [84,114,101,101]),n,n,o]),(j 4)],(.tuple [(j 3),o]))]
def w24:List (List D × D):=[
 ([(.agg [exData,(.slice [(.agg [(.str [83,116,97,116,101]),(.slice [(.agg [(.str [103,101,116]),(j 4),o,e,n,n,o,(j 2),o,e,n,n,o,(.bool false)]),(.agg [(.str [112,117,116]),(j 2),o,e,n,n,o,(j 4),o,e,n,n,o,(.bool false)])])]),(.agg [(.str [69,120,99]),(.slice [(.agg [(.str [114,97,105,115,101]),(j 4),o,e,n,n,o,(j 6),o,(.str [86,111,105,100]),n,n,o,(.bool true)])])])]),n,(j 3),o,e,e,n,n,n]),(.agg [(j 6),o,(.str [76,105,115,116]),(.slice [(.agg [(j 3),o,e,n,n,o])]),n,o]),(j 3)],(.tuple [(.slice [(.agg [(j 10),o,(.str [78,105,108]),e,n,n,n]),(.agg [(j 10),o,(.str [67,111,110,115]),e,n,(.slice [(.agg [(j 2),o,e,e,n,n,n]),(.agg [(j 10),o,(.str [78,105,108]),e,n,n,n])]),n]),(.agg [(j 10),o,(.str [67,111,110,115]),e,n,(.slice [(.agg [(j 2),(j 1),e,e,n,n,n]),(.agg [(j 10),o,(.str [78,105,108]),e,n,n,n])]),n])]),o]))]
def w26:List (List D × D):=[
 ([(.agg [exData,(.slice [(.agg [(.str [83,116,97,116,101]),(.slice [(.agg [(.str [103,101,116]),(j 4),o,e,n,n,o,(j 2),o,e,n,n,o,(.bool false)]),(.agg [(.str [112,117,116]),(j 2),o,e,n,n,o,(j 4),o,e,n,n,o,(.bool false)])])]),(.agg [(.str [69,120,99]),(.slice [(.agg [(.str [114,97,105,115,101]),(j 4),o,e,n,n,o,(j 6),o,(.str [86,111,105,100]),n,n,o,(.bool true)])])])]),n,(j 3),o,e,e,n,n,n]),(.agg [(j 6),o,(.str [76,105,115,116]),(.slice [(.agg [(j 3),o,e,n,n,o])]),n,o]),(.agg [(j 10),o,(.str [67,111,110,115]),e,n,(.slice [(.agg [(j 1),(j 1),e,e,n,n,n]),(.agg [(j 10),o,(.str [78,105,108]),e,n,n,n])]),n])],(.tuple [(.bool false),o])),
 ([(.agg [exData,(.slice [(.agg [(.str [83,116,97,116,101]),(.slice [(.agg [(.str [103,101,116]),(j 4),o,e,n,n,o,(j 2),o,e,n,n,o,(.bool false)]),(.agg [(.str [112,117,116]),(j 2),o,e,n,n,o,(j 4),o,e,n,n,o,(.bool false)])])]),(.agg [(.str [69,120,99]),(.slice [(.agg [(.str [114,97,105,115,101]),(j 4),o,e,n,n,o,(j 6),o,(.str [86,111,105,100]),n,n,o,(.bool true)])])])]),n,(j 3),o,e,e,n,n,n]),(.agg [(j 6),o,(.str [84,114,101,101]),n,n,o]),(.agg [(j 10),o,(.str [76,101,97,102]),e,n,n,n])],(.tuple [(.bool true),o]))]
def w32:List (List D × D):=[
 ([(.agg [exData,(.slice [(.agg [(.str [83,116,97,116,101]),(.slice [(.agg [(.str [103,101,116]),(j 4),o,e,n,n,o,(j 2),o,e,n,n,o,(.bool false)]),(.agg [(.str [112,117,116]),(j 2),o,e,n,n,o,(j 4),o,e,n,n,o,(.bool false)])])]),(.agg [(.str [69,120,99]),(.slice [(.agg [(.str [114,97,105,115,101]),(j 4),o,e,n,n,o,(j 6),o,(.str [86,111,105,100]),n,n,o,(.bool true)])])])]),n,(j 3),o,e,e,n,n,n]),(.str [112,117,116])],(.tuple [o,(j 1),o]))]
def w34:List (List D × D):=[
 ([(.agg [exData,(.slice [(.agg [(.str [83,116,97,116,101]),(.slice [(.agg [(.str [103,101,116]),(j 4),o,e,n,n,o,(j 2),o,e,n,n,o,(.bool false)]),(.agg [(.str [112,117,116]),(j 2),o,e,n,n,o,(j 4),o,e,n,n,o,(.bool false)])])]),(.agg [(.str [69,120,99]),(.slice [(.agg [(.str [114,97,105,115,101]),(j 4),o,e,n,n,o,(j 6),o,(.str [86,111,105,100]),n,n,o,(.bool true)])])])]),n,(j 3),o,e,e,n,n,n]),(.str [69,120,99])],(.tuple [(j 1),o])),
 ([(.agg [exData,(.slice [(.agg [(.str [83,116,97,116,101]),(.slice [(.agg [(.str [103,101,116]),(j 4),o,e,n,n,o,(j 2),o,e,n,n,o,(.bool false)]),(.agg [(.str [112,117,116]),(j 2),o,e,n,n,o,(j 4),o,e,n,n,o,(.bool false)])])]),(.agg [(.str [69,120,99]),(.slice [(.agg [(.str [114,97,105,115,101]),(j 4),o,e,n,n,o,(j 6),o,(.str [86,111,105,100]),n,n,o,(.bool true)])])])]),n,(j 3),o,e,e,n,n,n]),(.str [70,111,111])],(.tuple [o,(j 6)])),
 ([(.agg [exData,(.slice [(.agg [(.str [83,116,97,116,101]),(.slice [(.agg [(.str [103,101,116]),(j 4),o,e,n,n,o,(j 2),o,e,n,n,o,(.bool false)]),(.agg [(.str [112,117,116]),(j 2),o,e,n,n,o,(j 4),o,e,n,n,o,(.bool false)])])]),(.agg [(.str [69,120,99]),(.slice [(.agg [(.str [114,97,105,115,101]),(j 4),o,e,n,n,o,(j 6),o,(.str [86,111,105,100]),n,n,o,(.bool true)])])])]),n,(j 3),o,e,e,n,n,n]),(.str [73,79])],(.tuple [(j (-1)),o]))]
def w38:List (List D × D):=[
 ([(.agg [exData,(.slice [(.agg [(.str [83,116,97,116,101]),(.slice [(.agg [(.str [103,101,116]),(j 4),o,e,n,n,o,(j 2),o,e,n,n,o,(.bool false)]),(.agg [(.str [112,117,116]),(j 2),o,e,n,n,o,(j 4),o,e,n,n,o,(.bool false)])])]),(.agg [(.str [69,120,99]),(.slice [(.agg [(.str [114,97,105,115,101]),(j 4),o,e,n,n,o,(j 6),o,(.str [86,111,105,100]),n,n,o,(.bool true)])])])]),n,(j 3),o,e,e,n,n,n]),(.agg [(j 16),o,(.str [70,111,111]),e,n,(.slice [(.agg [(j 1),(j 1),e,e,n,n,n])]),n])],(j 6)),
 ([(.agg [exData,(.slice [(.agg [(.str [83,116,97,116,101]),(.slice [(.agg [(.str [103,101,116]),(j 4),o,e,n,n,o,(j 2),o,e,n,n,o,(.bool false)]),(.agg [(.str [112,117,116]),(j 2),o,e,n,n,o,(j 4),o,e,n,n,o,(.bool false)])])]),(.agg [(.str [69,120,99]),(.slice [(.agg [(.str [114,97,105,115,101]),(j 4),o,e,n,n,o,(j 6),o,(.str [86,111,105,100]),n,n,o,(.bool true)])])])]),n,(j 3),o,e,e,n,n,n]),(.agg [(j 17),o,e,e,(.slice [(.str [120]),(.str [69,120,99])]),(.slice [(.agg [(j 1),(j 1),e,e,n,n,n]),(.agg [(j 1),(j 1),e,e,n,n,n]),(.agg [(j 1),(j 1),e,e,n,n,n])]),n])],o),
 ([(.agg [exData,(.slice [(.agg [(.str [83,116,97,116,101]),(.slice [(.agg [(.str [103,101,116]),(j 4),o,e,n,n,o,(j 2),o,e,n,n,o,(.bool false)]),(.agg [(.str [112,117,116]),(j 2),o,e,n,n,o,(j 4),o,e,n,n,o,(.bool false)])])]),(.agg [(.str [69,120,99]),(.slice [(.agg [(.str [114,97,105,115,101]),(j 4),o,e,n,n,o,(j 6),o,(.str [86,111,105,100]),n,n,o,(.bool true)])])])]),n,(j 3),o,e,e,n,n,n]),(.agg [(j 17),o,e,e,(.slice [(.str [120]),(.str [73,79])]),(.slice [(.agg [(j 1),(j 1),e,e,n,n,n]),(.agg [(j 1),(j 1),e,e,n,n,n]),(.agg [(j 1),(j 1),e,e,n,n,n])]),n])],(j 5))]
def w40:List (List D × D):=[
 ([(.agg [exData,(.slice [(.agg [(.str [83,116,97,116,101]),(.slice [(.agg [(.str [103,101,116]),(j 4),o,e,n,n,o,(j 2),o,e,n,n,o,(.bool false)]),(.agg [(.str [112,117,116]),(j 2),o,e,n,n,o,(j 4),o,e,n,n,o,(.bool false)])])]),(.agg [(.str [69,120,99]),(.slice [(.agg [(.str [114,97,105,115,101]),(j 4),o,e,n,n,o,(j 6),o,(.str [86,111,105,100]),n,n,o,(.bool true)])])])]),n,(j 3),o,e,e,n,n,n]),(.agg [(j 5),o,e,(.slice [(.agg [(j 2),o,e,n,n,o]),(.agg [(j 6),o,(.str [86,111,105,100]),n,n,o])]),(.slice [(.agg [(.str [69,120,99]),o]),(.agg [(.str [73,79]),o])]),(j (-1))])],o),
 ([(.agg [exData,(.slice [(.agg [(.str [83,116,97,116,101]),(.slice [(.agg [(.str [103,101,116]),(j 4),o,e,n,n,o,(j 2),o,e,n,n,o,(.bool false)]),(.agg [(.str [112,117,116]),(j 2),o,e,n,n,o,(j 4),o,e,n,n,o,(.bool false)])])]),(.agg [(.str [69,120,99]),(.slice [(.agg [(.str [114,97,105,115,101]),(j 4),o,e,n,n,o,(j 6),o,(.str [86,111,105,100]),n,n,o,(.bool true)])])])]),n,(j 3),o,e,e,n,n,n]),(.agg [(j 6),o,(.str [76,105,115,116]),(.slice [(.agg [(j 6),o,(.str [76,105,115,116]),(.slice [(.agg [(j 6),o,(.str [70,111,111]),n,n,o])]),n,o])]),n,o])],(j 6))]
def w60:List (List D × D):=[
 ([(.agg [(j 1),o,(.str [97]),n,n,o])],o),
 ([(.agg [(j 2),o,e,n,n,o])],o),
 ([(.agg [(j 4),o,e,n,n,o])],o),
 ([(.agg [(j 5),o,e,(.slice [(.agg [(j 2),o,e,n,n,o]),(.agg [(j 6),o,(.str [86,111,105,100]),n,n,o])]),(.slice [(.agg [(.str [69,120,99]),o]),(.agg [(.str [73,79]),o])]),(j (-1))])],o),
 ([(.agg [(j 5),o,e,(.slice [(.agg [(j 6),o,(.str [86,111,105,100]),n,n,o]),(.agg [(j 6),o,(.str [76,111,111,112]),n,n,o])]),n,(j (-1))])],o),
 ([(.agg [(j 6),o,(.str [76,105,115,116]),(.slice [(.agg [(j 1),o,(.str [97]),n,n,o])]),n,o])],o),
 ([(.agg [(j 6),o,(.str [76,105,115,116]),(.slice [(.agg [(j 3),o,e,n,n,o])]),n,o])],o),
 ([(.agg [(j 6),o,(.str [76,105,115,116]),(.slice [(.agg [(j 6),o,(.str [76,105,115,116]),(.slice [(.agg [(j 6),o,(.str [70,111,111]),n,n,o])]),n,o])]),n,o])],o),
 ([(.agg [(j 6),o,(.str [76,111,111,112]),n,n,o])],o),
 ([(.agg [(j 6),o,(.str [84,114,101,101]),n,n,o])],o),
 ([(.agg [(j 6),o,(.str [86,111,105,100]),n,n,o])],o)]
def w80:List (List D × D):=[
 ([(.agg [(j 10),o,(.str [67,111,110,115]),e,n,(.slice [(.agg [(j 1),(j 1),e,e,n,n,n]),(.agg [(j 10),o,(.str [78,105,108]),e,n,n,n])]),n])],o),
 ([(.agg [(j 10),o,(.str [76,101,97,102]),e,n,n,n])],o),
 ([(.agg [(j 16),o,(.str [70,111,111]),e,n,(.slice [(.agg [(j 1),(j 1),e,e,n,n,n])]),n])],o),
 ([(.agg [(j 17),o,e,e,(.slice [(.str [120]),(.str [69,120,99])]),(.slice [(.agg [(j 1),(j 1),e,e,n,n,n]),(.agg [(j 1),(j 1),e,e,n,n,n]),(.agg [(j 1),(j 1),e,e,n,n,n])]),n])],o),
 ([(.agg [(j 17),o,e,e,(.slice [(.str [120]),(.str [73,79])]),(.slice [(.agg [(j 1),(j 1),e,e,n,n,n]),(.agg [(j 1),(j 1),e,e,n,n,n]),(.agg [(j 1),(j 1),e,e,n,n,n])]),n])],o)]
def w95:List (List D × D):=[
 ([(.agg [exData,(.slice [(.agg [(.str [83,116,97,116,101]),(.slice [(.agg [(.str [103,101,116]),(j 4),o,e,n,n,o,(j 2),o,e,n,n,o,(.bool false)]),(.agg [(.str [112,117,116]),(j 2),o,e,n,n,o,(j 4),o,e,n,n,o,(.bool false)])])]),(.agg [(.str [69,120,99]),(.slice [(.agg [(.str [114,97,105,115,101]),(j 4),o,e,n,n,o,(j 6),o,(.str [86,111,105,100]),n,n,o,(.bool true)])])])]),n,(j 3),o,e,e,n,n,n])],o)]
def w143:List (List D × D):=[
 ([(.str [103,101,116]),(j 1)],(.bool true)),
 ([(.str [112,117,116]),(j 1)],(.bool true)),
 ([(.str [114,97,105,115,101]),(j 1)],(.bool true)),
 ([(.str [120]),(j 1)],(.bool true)),
 ([(.str [67,111,110,115]),(j 2)],(.bool true)),
 ([(.str [69,120,99]),(j 2)],(.bool true)),
 ([(.str [70,111,111]),(j 2)],(.bool true)),
 ([(.str [73,79]),(j 2)],(.bool true)),
 ([(.str [76,101,97,102]),(j 2)],(.bool true)),
 ([(.str [76,105,115,116]),(j 2)],(.bool true)),
 ([(.str [76,111,111,112]),(j 2)],(.bool true)),
 ([(.str [77,111,114,101]),(j 2)],(.bool true)),
 ([(.str [78,105,108]),(j 2)],(.bool true)),
 ([(.str [78,111,100,101]),(j 2)],(.bool true)),
 ([(.str [83,116,97,116,101]),(j 2)],(.bool true)),
 ([(.str [84,114,101,101]),(j 2)],(.bool true)),
 ([(.str [86,111,105,100]),(j 2)],(.bool true)),
 ([(.str [97]),(j 1)],(.bool true)),
 ([e,o],(.bool true))]
def w210:List (List D × D):=[
 ([(.str [103,101,116])],(.bool false)),
 ([(.str [112,117,116])],(.bool false)),
 ([(.str [114,97,105,115,101])],(.bool false)),
 ([(.str [120])],(.bool false)),
 ([(.str [97])],(.bool false))]
def loop7:List D:=[(.agg [exData,(.slice [(.agg [(.str [83,116,97,116,101]),(.slice [(.agg [(.str [103,101,116]),(j 4),o,e,n,n,o,(j 2),o,e,n,n,o,(.bool false)]),(.agg [(.str [112,117,116]),(j 2),o,e,n,n,o,(j 4),o,e,n,n,o,(.bool false)])])]),(.agg [(.str [69,120,99]),(.slice [(.agg [(.str [114,97,105,115,101]),(j 4),o,e,n,n,o,(j 6),o,(.str [86,111,105,100]),n,n,o,(.bool true)])])])]),n,(j 3),o,e,e,n,n,n]),(.agg [(j 6),o,(.str [76,111,111,112]),n,n,o]),(j 7)]
theorem wc210: ∀p ∈ w210,Comp tabT (extOf X0) GC 210 p.1 p.2:=all_comp (k:=60) (by kernel_rfl)
def W210:ExtL:=(210,memo w210)::X0
theorem extW210:ExtR Tryz.prog GC (extOf W210):=ExtR.over extR0 extR0 real210 (memo_comp wc210)
theorem wc143: ∀p ∈ w143,Comp tabT (extOf W210) GC 143 p.1 p.2:=all_comp (k:=60) (by kernel_rfl)
def W143:ExtL:=(143,memo w143)::W210
theorem extW143:ExtR Tryz.prog GC (extOf W143):=ExtR.over extW210 extW210 real143 (memo_comp wc143)
theorem wc60_0:isAt (extOf W143) 400 60 ((w60[0]?).getD ([],o))=true:=by kernel_rfl
theorem wc60_1:isAt (extOf W143) 400 60 ((w60[1]?).getD ([],o))=true:=by kernel_rfl
theorem wc60_2:isAt (extOf W143) 400 60 ((w60[2]?).getD ([],o))=true:=by kernel_rfl
theorem wc60_3:isAt (extOf W143) 400 60 ((w60[3]?).getD ([],o))=true:=by kernel_rfl
theorem wc60_4:isAt (extOf W143) 400 60 ((w60[4]?).getD ([],o))=true:=by kernel_rfl
theorem wc60_5:isAt (extOf W143) 400 60 ((w60[5]?).getD ([],o))=true:=by kernel_rfl
theorem wc60_6:isAt (extOf W143) 400 60 ((w60[6]?).getD ([],o))=true:=by kernel_rfl
theorem wc60_7:isAt (extOf W143) 400 60 ((w60[7]?).getD ([],o))=true:=by kernel_rfl
theorem wc60_8:isAt (extOf W143) 400 60 ((w60[8]?).getD ([],o))=true:=by kernel_rfl
theorem wc60_9:isAt (extOf W143) 400 60 ((w60[9]?).getD ([],o))=true:=by kernel_rfl
theorem wc60_10:isAt (extOf W143) 400 60 ((w60[10]?).getD ([],o))=true:=by kernel_rfl
theorem wc60: ∀p ∈ w60,Comp tabT (extOf W143) GC 60 p.1 p.2:=by
 intro p hp
 unfold w60 at hp
 simp only [List.mem_cons,List.not_mem_nil,or_false] at hp
 rcases hp with rfl|rfl|rfl|rfl|rfl|rfl|rfl|rfl|rfl|rfl|rfl
 ·exact isAt_comp wc60_0
 ·exact isAt_comp wc60_1
 ·exact isAt_comp wc60_2
 ·exact isAt_comp wc60_3
 ·exact isAt_comp wc60_4
 ·exact isAt_comp wc60_5
 ·exact isAt_comp wc60_6
 ·exact isAt_comp wc60_7
 ·exact isAt_comp wc60_8
 ·exact isAt_comp wc60_9
 ·exact isAt_comp wc60_10
def W60:ExtL:=(60,memo w60)::W143
theorem extW60:ExtR Tryz.prog GC (extOf W60):=ExtR.over extW143 extW143 real60 (memo_comp wc60)
theorem wc80_0:isAt (extOf W143) 400 80 ((w80[0]?).getD ([],o))=true:=by kernel_rfl
theorem wc80_1:isAt (extOf W143) 400 80 ((w80[1]?).getD ([],o))=true:=by kernel_rfl
theorem wc80_2:isAt (extOf W143) 400 80 ((w80[2]?).getD ([],o))=true:=by kernel_rfl
theorem wc80_3:isAt (extOf W143) 400 80 ((w80[3]?).getD ([],o))=true:=by kernel_rfl
theorem wc80_4:isAt (extOf W143) 400 80 ((w80[4]?).getD ([],o))=true:=by kernel_rfl
theorem wc80: ∀p ∈ w80,Comp tabT (extOf W143) GC 80 p.1 p.2:=by
 intro p hp
 unfold w80 at hp
 simp only [List.mem_cons,List.not_mem_nil,or_false] at hp
 rcases hp with rfl|rfl|rfl|rfl|rfl
 ·exact isAt_comp wc80_0
 ·exact isAt_comp wc80_1
 ·exact isAt_comp wc80_2
 ·exact isAt_comp wc80_3
 ·exact isAt_comp wc80_4
def W80:ExtL:=(80,memo w80)::W60
theorem extW80:ExtR Tryz.prog GC (extOf W80):=ExtR.over extW143 extW60 real80 (memo_comp wc80)
theorem wc95_0:isAt (extOf W80) 400 95 ((w95[0]?).getD ([],o))=true:=by kernel_rfl
theorem wc95: ∀p ∈ w95,Comp tabT (extOf W80) GC 95 p.1 p.2:=by
 intro p hp
 unfold w95 at hp
 simp only [List.mem_cons,List.not_mem_nil,or_false] at hp
 subst hp
 exact isAt_comp wc95_0
def W95:ExtL:=(95,memo w95)::W80
theorem extW95:ExtR Tryz.prog GC (extOf W95):=ExtR.over extW80 extW80 real95 (memo_comp wc95)
end Go.AI
namespace Go.AI
open Go Go.Proofs Go.Lx
set_option maxRecDepth 100000
def refD (e:Int):D:= .iface 154 (.agg [.int .i64 e])
def outR (e:Int):FRes:=if e=0 then .ret (.tuple []) else .panic (refD e)
theorem CI_panic {f:FuncId} {af:AFunc} (hT:tabT f=some af) {args:List D} {σ τ:St} {d:D} (h:bodyI CI XB GI af args σ=some (.panic d,σ++τ)) (hd:d.tree=true)
 (hx:okF f:=by exact ⟨⟨rfl,rfl⟩,rfl⟩):CI (.fn f) args σ=some (.panic d,σ):=
 CI_fn hT h (postI_panic hd) hx
theorem CI_out {f:FuncId} {af:AFunc} (hT:tabT f=some af) {args:List D} {σ τ:St} {e:Int} (h:bodyI CI XB GI af args σ=some (outR e,σ++τ))
 (hx:okF f:=by exact ⟨⟨rfl,rfl⟩,rfl⟩):CI (.fn f) args σ=some (outR e,σ):=by
 unfold outR at*
 by_cases he:e=0
 ·rw [if_pos he] at h ⊢;exact CI_tree hT h rfl rfl hx
 ·rw [if_neg he] at h ⊢;exact CI_panic hT h rfl hx
theorem outR_zero:outR 0= .ret (.tuple []):=rfl
theorem outR_ne {e:Int} (h: ¬e=0):outR e= .panic (refD e):=by unfold outR;rw [if_neg h]
theorem c58 (e:Int) (σ:St):CI (.fn 58) [.int .i64 e] σ=some (.panic (refD e),σ):=by
 refine CI_panic tab58 (τ:=[]) ?_ rfl
 simp [bodyI,af58,fillD,putCells,refD]
theorem c59 (e:Int) (σ:St):CI (.fn 59) [.int .i64 e] σ=some (outR e,σ):=by
 refine CI_out tab59 (τ:=[]) ?_
 rw [List.append_nil]
 by_cases h:e=0
 ·subst h
  simp [bodyI,af59,outR_zero]
 ·have h': (e != 0)=true:=by simpa using h
  rw [outR_ne h]
  simp [bodyI,af59,h,h',c58]
def idxOf {α:Type} (Q:α→Bool) (l:List α):Int:=match l.findIdx? Q with|some i=>i|none=> -1
theorem p139 (l:List Eff) (f:Nat) (caps:List D) (Q:Eff→Bool) (σ:St) (hl:l.length≤maxL) (h: ∀x ∈ l,CI (.fn f) (.agg x.cs::caps) σ=some (.ret (.bool (Q x)),σ)):
 CI (.fn 139) [.slice (l.map Eff.d), .func f [] caps] σ=some (.ret (.int .i64 (idxOf Q l)),σ):=by
 unfold maxL at hl
 have hlen: (l.map Eff.d).length=l.length:=by simp
 have hit:=loop_find (f:=evalI CI XB GI 19 false lp139_0) (σ:=σ) l (fun i=>[(0, .slice (l.map Eff.d)),(1, .func f [] caps),(7, .int .i64 l.length),(8, .int .i64 (i:Nat))]) Q (fun i=>(.ret,[(4, .int .i64 (i:Nat))],σ)) (.exit 0,[(0, .slice (l.map Eff.d)),(1, .func f [] caps),(7, .int .i64 l.length),(8, .int .i64 l.length),(9, .bool false)],σ) (by simp) (by simp)
  (fun i hi=>by
    have hw:=wrap_nat (n:=i) (by omega)
    have hc:=h l[i] (List.getElem_mem hi)
    have hget: (l.map Eff.d)[i]? =some (.agg l[i].cs):=by simp [hi];rfl
    generalize l.map Eff.d=ld at*
    have h2:i<ld.length:=by omega
    have h3:ld[i]= .agg l[i].cs:=by rw [List.getElem?_eq_getElem h2] at hget;exact Option.some.inj hget
    have hxl:l[i].cs.length=2:=by first|rfl|simp
    have hxt:l[i].cs.take 2=l[i].cs:=by first|rfl|simp
    generalize l[i].cs=xc at*
    cases hb:Q l[i]<;>rw [hb] at hc<;>simp [lp139_0,hi,hw,h2,h3,hc,hxl,hxt]) (by
    generalize l.map Eff.d=ld at*
    simp [lp139_0])
 rw [Int.natCast_zero] at hit
 generalize l.map Eff.d=ld at*
 unfold idxOf
 cases hf:l.findIdx? Q with
 |none=>
  rw [hf] at hit
  refine CI_tree0 tab139 (d:= .int .i64 (-1)) ?_ rfl rfl
  simp [bodyI,af139,hlen,hit]
 |some i=>
  rw [hf] at hit
  refine CI_tree0 tab139 (d:= .int .i64 i) ?_ rfl rfl
  simp [bodyI,af139,hlen,hit]
theorem p92 (l:List Eff) (f:Nat) (caps:List D) (Q:Eff→Bool) (σ:St) (hl:l.length≤maxL) (h: ∀x ∈ l,CI (.fn f) (.agg x.cs::caps) σ=some (.ret (.bool (Q x)),σ)):
 CI (.fn 92) [.slice (l.map Eff.d), .func f [] caps] σ=some (.ret (.int .i64 (idxOf Q l)),σ):=by
 refine CI_tree0 tab92 (d:= .int .i64 (idxOf Q l)) ?_ rfl rfl
 have:=p139 l f caps Q σ hl h
 generalize l.map Eff.d=ld at*
 simp [bodyI,af92,this]
theorem p201 (l:List Dat) (f:Nat) (caps:List D) (Q:Dat→Bool) (σ:St) (hl:l.length≤maxL) (h: ∀x ∈ l,CI (.fn f) (.agg x.cs::caps) σ=some (.ret (.bool (Q x)),σ)):
 CI (.fn 201) [.slice (l.map Dat.d), .func f [] caps] σ=some (.ret (.int .i64 (idxOf Q l)),σ):=by
 unfold maxL at hl
 have hlen: (l.map Dat.d).length=l.length:=by simp
 have hit:=loop_find (f:=evalI CI XB GI 19 false lp201_0) (σ:=σ) l (fun i=>[(0, .slice (l.map Dat.d)),(1, .func f [] caps),(7, .int .i64 l.length),(8, .int .i64 (i:Nat))]) Q (fun i=>(.ret,[(4, .int .i64 (i:Nat))],σ)) (.exit 0,[(0, .slice (l.map Dat.d)),(1, .func f [] caps),(7, .int .i64 l.length),(8, .int .i64 l.length),(9, .bool false)],σ) (by simp) (by simp)
  (fun i hi=>by
    have hw:=wrap_nat (n:=i) (by omega)
    have hc:=h l[i] (List.getElem_mem hi)
    have hget: (l.map Dat.d)[i]? =some (.agg l[i].cs):=by simp [hi];rfl
    generalize l.map Dat.d=ld at*
    have h2:i<ld.length:=by omega
    have h3:ld[i]= .agg l[i].cs:=by rw [List.getElem?_eq_getElem h2] at hget;exact Option.some.inj hget
    have hxl:l[i].cs.length=3:=by first|rfl|simp
    have hxt:l[i].cs.take 3=l[i].cs:=by first|rfl|simp
    generalize l[i].cs=xc at*
    cases hb:Q l[i]<;>rw [hb] at hc<;>simp [lp201_0,hi,hw,h2,h3,hc,hxl,hxt]) (by
    generalize l.map Dat.d=ld at*
    simp [lp201_0])
 rw [Int.natCast_zero] at hit
 generalize l.map Dat.d=ld at*
 unfold idxOf
 cases hf:l.findIdx? Q with
 |none=>
  rw [hf] at hit
  refine CI_tree0 tab201 (d:= .int .i64 (-1)) ?_ rfl rfl
  simp [bodyI,af201,hlen,hit]
 |some i=>
  rw [hf] at hit
  refine CI_tree0 tab201 (d:= .int .i64 i) ?_ rfl rfl
  simp [bodyI,af201,hlen,hit]
theorem p164 (l:List Dat) (f:Nat) (caps:List D) (Q:Dat→Bool) (σ:St) (hl:l.length≤maxL) (h: ∀x ∈ l,CI (.fn f) (.agg x.cs::caps) σ=some (.ret (.bool (Q x)),σ)):
 CI (.fn 164) [.slice (l.map Dat.d), .func f [] caps] σ=some (.ret (.int .i64 (idxOf Q l)),σ):=by
 refine CI_tree0 tab164 (d:= .int .i64 (idxOf Q l)) ?_ rfl rfl
 have:=p201 l f caps Q σ hl h
 generalize l.map Dat.d=ld at*
 simp [bodyI,af164,this]
theorem tb63:Nat.testBit 63 3=true:=by decide
theorem Prg.cs_eq (p:Prg):p.cs= .slice (p.data.map Dat.d):: .slice (p.effects.map Eff.d):: .slice (p.defs.map Dfn.d)::p.main.cs:=by cases p;rfl
theorem Prg.cs_len (p:Prg):p.cs.length=10:=by rw [p.cs_eq];simp
theorem Prg.cs_take (p:Prg):p.cs.take 10=p.cs:=List.take_of_length_le (by rw [p.cs_len];exact Nat.le_refl _)
theorem Prg.cs_all (p:Prg):p.cs.all D.one=true:=by rw [p.cs_eq];simp [D.one,Ex.cs_all]
theorem c93 (x:Eff) (s:Bs) (q:Nat) (σ:St) (hq:σ[q]? =some (.box [.str s])):CI (.fn 93) [.agg x.cs, .ptr q 0] σ=some (.ret (.bool (x.name==s)),σ):=by
 have hτ:bodyI CI XB GI af93 [.agg x.cs, .ptr q 0] σ=some (.ret (.bool (x.name==s)),σ++[.box x.cs]):=by
  rcases x with ⟨name,ops⟩
  simp only [Eff.cs]
  generalize ops.map Opn.d=od
  simp [bodyI,af93,getA0,getO hq]
 exact CI_tree tab93 hτ rfl rfl
theorem c165 (x:Dat) (s:Bs) (q:Nat) (σ:St) (hq:σ[q]? =some (.box [.str s])):CI (.fn 165) [.agg x.cs, .ptr q 0] σ=some (.ret (.bool (x.name==s)),σ):=by
 have hτ:bodyI CI XB GI af165 [.agg x.cs, .ptr q 0] σ=some (.ret (.bool (x.name==s)),σ++[.box x.cs]):=by
  rcases x with ⟨name,params,cons⟩
  simp only [Dat.cs]
  simp only [slD]
  generalize cons.map Con.d=od
  generalize params.map D.str=pd
  simp [bodyI,af165,getA0,getO hq]
 exact CI_tree tab165 hτ rfl rfl
def nIO:Bs:=[73,79]
def findEffI (l:List Eff) (s:Bs):Int:=if 0≤idxOf (fun x:Eff=>x.name==s) l then idxOf (fun x:Eff=>x.name==s) l else if s==nIO then -1 else 0
def findEffE (l:List Eff) (s:Bs):Int:=if 0≤idxOf (fun x:Eff=>x.name==s) l then 0 else if s==nIO then 0 else 6
theorem c34 (p:Prg) (hl:p.effects.length≤maxL) (s:Bs) (σ:St):CI (.fn 34) [.agg p.cs, .str s] σ=some (.ret (.tuple [.int .i64 (findEffI p.effects s), .int .i64 (findEffE p.effects s)]),σ):=by
 obtain ⟨τ,hτ⟩: ∃τ,bodyI CI XB GI af34 [.agg p.cs, .str s] σ=some (.ret (.tuple [.int .i64 (findEffI p.effects s), .int .i64 (findEffE p.effects s)]),σ++τ):=by
  refine ⟨[.box p.cs, .box [.str s]], ?_⟩
  have h92:=p92 p.effects 93 [.ptr (σ.length+1) 0] (fun x=>x.name==s) (σ++[.box p.cs, .box [.str s]]) hl (fun x _=>c93 x s (σ.length+1) _ (by rw [getA];rfl))
  unfold findEffI findEffE
  have hall:=p.cs_all
  rw [p.cs_eq] at*
  generalize idxOf (fun x:Eff=>x.name==s) p.effects=k at*
  generalize p.data.map Dat.d=dd at*
  generalize p.effects.map Eff.d=ed at*
  generalize p.defs.map Dfn.d=fd at*
  have hm3:=p.main.cs_all
  generalize p.main.cs=mc at*
  by_cases hk:0≤k
  ·simp [bodyI,af34,getA0,getA,hall,hm3,h92,hk]
  ·unfold nIO
   cases hs:s==[73,79]<;>simp [bodyI,af34,getA0,getA,hall,hm3,h92,hk,hs]
 exact CI_tree tab34 hτ rfl rfl
abbrev CMap:=List (Bs × Nat × Nat)
def plD (x:Nat × Nat):D:= .agg [.int .i64 x.1, .int .i64 x.2]
def kvs (m:CMap):List (D × D):=m.map fun x=>(.str x.1,plD x.2)
def IsT (σ:St) (t:Nat) (p:Prg) (m:CMap):Prop:= ∃j,σ[t]? =some (.box (p.cs++[.map j]))∧σ[j]? =some (.map (kvs m))
theorem IsT.app {σ τ:St} {t:Nat} {p:Prg} {m:CMap} (h:IsT σ t p m):IsT (σ++τ) t p m:=by
 obtain ⟨j,h1,h2⟩:=h
 exact ⟨j,getO h1,getO h2⟩
theorem c117 (p:Prg) (m:CMap) (hl:p.data.length≤maxL) (s:Bs) (t:Nat) (σ:St) (h:IsT σ t p m):CI (.fn 117) [.ptr t 0, .str s] σ=some (.ret (.int .i64 (idxOf (fun x:Dat=>x.name==s) p.data)),σ):=by
 obtain ⟨j,h1,_⟩:=h
 have h164:=p164 p.data 165 [.ptr σ.length 0] (fun x=>x.name==s) (σ++[.box [.str s]]) hl (fun x _=>c165 x s σ.length _ (by rw [getA0];rfl))
 have hτ:bodyI CI XB GI af117 [.ptr t 0, .str s] σ=some (.ret (.int .i64 (idxOf (fun x:Dat=>x.name==s) p.data)),σ++[.box [.str s]]):=by
  rw [p.cs_eq] at h1
  generalize idxOf (fun x:Dat=>x.name==s) p.data=k at*
  generalize p.data.map Dat.d=dd at*
  generalize p.effects.map Eff.d=ed at*
  generalize p.defs.map Dfn.d=fd at*
  generalize p.main.cs=mc at*
  simp [bodyI,af117,getA0,getO h1,h164]
 exact CI_tree tab117 hτ rfl rfl
theorem loop_seekP_from {α:Type} {f:Env→St→Option (AExit × Env × St)} {σ:St} (l:List α) (E:Nat→Env) (e:α→Int) (X:Int→AExit) (Y:AExit × Env) (hX: ∀b,X b≠ .normal) (hY:Y.1≠ .normal)
 (h: ∀i (hi:i<l.length) (τ:St),∃τ' ev,f (E i) (σ++τ)=some (if e l[i]=0 then (.normal,E (i+1),σ++τ') else (X (e l[i]),ev,σ++τ'))) (hf: ∀τ,∃τ',f (E l.length) (σ++τ)=some (Y.1,Y.2,σ++τ')):
 ∀ (m j:Nat) (τ:St),j+m=l.length→ ∃τ' ev,iterI f (E j) (σ++τ)=some (if firstE ((l.drop j).map e)=0 then (Y.1,Y.2,σ++τ') else (X (firstE ((l.drop j).map e)),ev,σ++τ'))
 |0,j,τ,hj=>by
  obtain rfl:j=l.length:=by omega
  rw [List.drop_length]
  obtain ⟨τ',h1⟩:=hf τ
  exact ⟨τ',[],iterI_end h1 hY⟩
 |m+1,j,τ,hj=>by
  have hlt:j<l.length:=by omega
  obtain ⟨τ1,ev,hb⟩:=h j hlt τ
  rw [List.drop_eq_getElem_cons hlt]
  simp only [List.map_cons,firstE]
  by_cases hq:e l[j]=0
  ·rw [if_pos hq] at hb ⊢
   rw [iterI_next hb]
   exact loop_seekP_from l E e X Y hX hY h hf m (j+1) τ1 (by omega)
  ·simp only [if_neg hq] at hb ⊢
   exact ⟨τ1,ev,iterI_end hb (hX _)⟩
theorem loop_seekP {α:Type} {f:Env→St→Option (AExit × Env × St)} {σ:St} (l:List α) (E:Nat→Env) (e:α→Int) (X:Int→AExit) (Y:AExit × Env) (hX: ∀b,X b≠ .normal) (hY:Y.1≠ .normal)
 (h: ∀i (hi:i<l.length) (τ:St),∃τ' ev,f (E i) (σ++τ)=some (if e l[i]=0 then (.normal,E (i+1),σ++τ') else (X (e l[i]),ev,σ++τ'))) (hf: ∀τ,∃τ',f (E l.length) (σ++τ)=some (Y.1,Y.2,σ++τ')) (τ:St):
 ∃τ' ev,iterI f (E 0) (σ++τ)=some (if firstE (l.map e)=0 then (Y.1,Y.2,σ++τ') else (X (firstE (l.map e)),ev,σ++τ')):=by
 have:=loop_seekP_from l E e X Y hX hY h hf l.length 0 τ (by omega)
 rw [List.drop_zero] at this
 exact this
def StrsD (pd:D) (l:List Bs):Prop:=pd=slD l∨(pd= .empty∧l=[])
theorem c111e (s:Bs) (σ:St):CI (.fn 111) [.empty, .str s] σ=some (.ret (.bool false),σ):=by
 have h:iterI (evalI CI XB GI 19 false lp89_0) [(0, .empty),(1, .str s),(7, .int .i64 0),(8, .int .i64 0)] σ=some (.exit 0,[(0, .empty),(1, .str s),(7, .int .i64 0),(8, .int .i64 0),(9, .bool false)],σ):=iterI_end (by simp [lp89_0]) (by simp)
 have h89:CI (.fn 89) [.empty, .str s] σ=some (.ret (.int .i64 (-1)),σ):=by
  refine CI_tree0 tab89 (d:= .int .i64 (-1)) ?_ rfl rfl
  simp [bodyI,af89,h]
 refine CI_tree0 tab111 (d:= .bool false) ?_ rfl rfl
 simp [bodyI,af111,h89]
theorem k111e {pd:D} {l:List Bs} (h:StrsD pd l) (hl:l.length≤maxL) (s:Bs) (σ:St):CI (.fn 111) [pd, .str s] σ=some (.ret (.bool (hasS l s)),σ):=by
 rcases h with rfl| ⟨rfl,rfl⟩
 ·exact h111 l s σ hl
 ·exact c111e s σ
def ordN (p:Prg) (params:List Bs) (k:Int) (s:Bs) (n:Nat) (ls:List Lab):Int:=
 if k=1 then (if hasS params s then 0 else 6)
 else if k=6 then (match p.data.find? (fun x:Dat=>x.name==s) with|none=>6|some d=>if d.params.length=n then 0 else 7)
 else if k=5 then firstE (ls.map fun x=>findEffE p.effects x.s) else 0
mutual
def Ty.ord (p:Prg) (params:List Bs):Ty→Int
 | .mk k _ s l ls _=>if ordN p params k s l.length ls=0 then tysOrd p params l else ordN p params k s l.length ls
def tysOrd (p:Prg) (params:List Bs):List Ty→Int
 | []=>0
 |t::r=>if t.ord p params=0 then tysOrd p params r else t.ord p params
end
theorem tysOrd_first (p:Prg) (params:List Bs): ∀ (l:List Ty),tysOrd p params l=firstE (l.map fun t=>t.ord p params)
 | []=>rfl
 |t::r=>by
  simp only [tysOrd,List.map_cons,firstE,tysOrd_first p params r]
theorem it112 (p:Prg) (m:CMap) (hel:p.effects.length≤maxL) (tb:Nat) (pd:D) (ls:List Lab) (hls:ls.length≤maxL) (q:Nat) (σ:St) (hT:IsT σ tb p m):
 ∃τ' ev,iterI (evalI CI XB GI 82 false lp112_0) [(0, .ptr tb 0),(2,pd),(4, .ptr q 0),(51, .slice (ls.map Lab.d)),(52, .int .i64 ls.length),(53, .int .i64 0)] σ=
  some (if firstE (ls.map fun x=>findEffE p.effects x.s)=0 then (.exit 1,[(0, .ptr tb 0),(2,pd),(4, .ptr q 0),(51, .slice (ls.map Lab.d)),(52, .int .i64 ls.length),(53, .int .i64 ls.length),(54, .bool false)],σ++τ') else (.panic (refD (firstE (ls.map fun x=>findEffE p.effects x.s))),ev,σ++τ')):=by
 unfold maxL at hls
 have:=loop_seekP (f:=evalI CI XB GI 82 false lp112_0) (σ:=σ) ls (fun i=>[(0, .ptr tb 0),(2,pd),(4, .ptr q 0),(51, .slice (ls.map Lab.d)),(52, .int .i64 ls.length),(53, .int .i64 (i:Nat))]) (fun x=>findEffE p.effects x.s) (fun e=> .panic (refD e))
  (.exit 1,[(0, .ptr tb 0),(2,pd),(4, .ptr q 0),(51, .slice (ls.map Lab.d)),(52, .int .i64 ls.length),(53, .int .i64 ls.length),(54, .bool false)]) (by simp) (by simp)
  (fun i hi τ=>by
    have hw:=wrap_nat (n:=i) (by omega)
    have hT':=hT.app (τ:=τ)
    rcases hx:ls[i] with ⟨s,n⟩
    refine ⟨τ++[.box [.str s, .int .i64 n]],[(0, .ptr tb 0),(2,pd),(4, .ptr q 0),(10, .int .i64 (findEffE p.effects s)),(51, .slice (ls.map Lab.d)),(52, .int .i64 ls.length),(53, .int .i64 (i:Nat))], ?_⟩
    rw [←List.append_assoc]
    generalize σ++τ=σ1 at*
    obtain ⟨j,h1,_⟩:=hT'
    have h34:=fun σ=>c34 p hel s σ
    have q34:qI 34=false:=rfl
    have x34:XB 34=false:=rfl
    have hpl:=p.cs_len
    have hpt:=p.cs_take
    generalize p.cs=pc at*
    generalize findEffI p.effects s=fi at*
    generalize findEffE p.effects s=fe at*
    by_cases he:fe=0
    ·rw [if_pos he]
     subst he
     simp [lp112_0,hi,hw,hx,Lab.d,getA0,setA0,getO h1,hpl,hpt,h34,c59,outR_zero,q34,x34,tb63]
    ·rw [if_neg he]
     simp [lp112_0,hi,hw,hx,Lab.d,getA0,setA0,getO h1,hpl,hpt,h34,c59,outR_ne he,q34,x34,tb63]) (fun τ=>⟨τ,by simp [lp112_0]⟩) []
 simpa using this
theorem idxOf_find {α:Type} (Q:α→Bool) (l:List α): (idxOf Q l<0∧l.find? Q=none)∨(∃i,idxOf Q l=(i:Nat)∧ ∃h:i<l.length,l.find? Q=some l[i]∧Q l[i]=true):=by
 unfold idxOf
 cases h:l.findIdx? Q with
 |none=>
  left
  rw [List.findIdx?_eq_none_iff] at h
  exact ⟨by simp,List.find?_eq_none.2 fun x hx=>by simp [h x hx]⟩
 |some i=>
  right
  obtain ⟨h1,h2,h3⟩:=List.findIdx?_eq_some_iff_getElem.1 h
  refine ⟨i,rfl,h1, ?_,h2⟩
  rw [List.find?_eq_some_iff_getElem]
  exact ⟨h2,i,h1,rfl,fun j hj=>by simpa using h3 j hj⟩
set_option maxHeartbeats 1000000 in
theorem c112 (p:Prg) (m:CMap) (hdl:p.data.length≤maxL) (hel:p.effects.length≤maxL) (params:List Bs) (hpar:params.length≤maxL) (pd:D) (hpd:StrsD pd params) (tb:Nat):
 ∀ (t:Ty),t.ok→ ∀ (σ:St),IsT σ tb p m→CI (.fn 112) [.ptr tb 0, .agg t.cs,pd] σ=some (outR (t.ord p params),σ)
 | .mk k n s l ls tail,hok,σ,hT=>by
  obtain ⟨hl1,hl2,hl3⟩:=hok
  have htail: ∀τ,∃τ' ev,iterI (evalI CI XB GI 82 false lp112_1) [(0, .ptr tb 0),(2,pd),(71, .slice (tysD l)),(72, .int .i64 l.length),(73, .int .i64 0)] (σ++[.box (Ty.mk k n s l ls tail).cs]++τ)=
   some (if tysOrd p params l=0 then (.exit 3,[(0, .ptr tb 0),(2,pd),(71, .slice (tysD l)),(72, .int .i64 l.length),(73, .int .i64 l.length),(74, .bool false)],σ++[.box (Ty.mk k n s l ls tail).cs]++τ') else (.panic (refD (tysOrd p params l)),ev,σ++[.box (Ty.mk k n s l ls tail).cs]++τ')):=by
   intro τ
   have hlen:=tysD_len l
   have:=loop_seekP (f:=evalI CI XB GI 82 false lp112_1) (σ:=σ++[.box (Ty.mk k n s l ls tail).cs]) l (fun i=>[(0, .ptr tb 0),(2,pd),(71, .slice (tysD l)),(72, .int .i64 l.length),(73, .int .i64 (i:Nat))]) (fun t=>t.ord p params) (fun e=> .panic (refD e))
    (.exit 3,[(0, .ptr tb 0),(2,pd),(71, .slice (tysD l)),(72, .int .i64 l.length),(73, .int .i64 l.length),(74, .bool false)]) (by simp) (by simp)
    (fun i hi τ=>by
      have hw:=wrap_nat (n:=i) (by unfold maxL at hl1;omega)
      have ih:=c112 p m hdl hel params hpar pd hpd tb l[i] (tysOk_mem hl3 (List.getElem_mem hi)) (σ++[Obj.box (Ty.mk k n s l ls tail).cs]++τ++[Obj.box l[i].cs]) hT.app.app.app
      have hget: (tysD l)[i]? =some (.agg l[i].cs):=by rw [tysD_map];simp [Ty.d,hi]
      refine ⟨τ++[.box l[i].cs],[(0, .ptr tb 0),(2,pd),(12, .ptr (σ++[Obj.box (Ty.mk k n s l ls tail).cs]++τ).length 0),(71, .slice (tysD l)),(72, .int .i64 l.length),(73, .int .i64 (i:Nat)),(78, .agg l[i].cs)], ?_⟩
      rw [←List.append_assoc]
      generalize σ++[.box (Ty.mk k n s l ls tail).cs]++τ=σ1 at*
      generalize tysD l=ld at*
      have h2:i<ld.length:=by omega
      have h3:ld[i]= .agg l[i].cs:=by rw [List.getElem?_eq_getElem h2] at hget;exact Option.some.inj hget
      generalize l[i]=x at*
      have hx1:=x.cs_len
      have hx2:=x.cs_take
      have hx3:x.cs.all D.one=true:=by cases x;rfl
      have hx4:x.cs.drop 6=[]:=List.drop_eq_nil_of_le (by simp)
      generalize x.cs=xc at*
      by_cases he:x.ord p params=0
      ·rw [if_pos he]
       rw [he,outR_zero] at ih
       simp [lp112_1,hi,hw,h2,h3,getA0,setA0,hx1,hx2,hx3,hx4,putCells,ih]
      ·rw [if_neg he]
       rw [outR_ne he] at ih
       simp [lp112_1,hi,hw,h2,h3,getA0,setA0,hx1,hx2,hx3,hx4,putCells,ih]) (fun τ=>⟨τ,by generalize tysD l=ld at*;simp [lp112_1]⟩) τ
   rw [←tysOrd_first,Int.natCast_zero] at this
   exact this
  obtain ⟨τ,hτ⟩: ∃τ,bodyI CI XB GI af112 [.ptr tb 0, .agg (Ty.mk k n s l ls tail).cs,pd] σ=some (outR ((Ty.mk k n s l ls tail).ord p params),σ++τ):=by
   have hlen:=tysD_len l
   have hlsl: (ls.map Lab.d).length=ls.length:=by simp
   have h111:=fun σ=>k111e hpd hpar s σ
   have h117:=fun τ=>c117 p m hdl s tb (σ++τ) hT.app
   have it:=it112 p m hel tb pd ls hl2 σ.length (σ++[Obj.box (Ty.mk k n s l ls tail).cs]) hT.app
   simp only [Ty.ord]
   have hfin: ∀τ0,(∀τ' r,(∃ev,iterI (evalI CI XB GI 82 false lp112_1) [(0, .ptr tb 0),(2,pd),(71, .slice (tysD l)),(72, .int .i64 l.length),(73, .int .i64 0)] (σ++[.box (Ty.mk k n s l ls tail).cs]++τ0)=some (if tysOrd p params l=0 then (.exit 3,[(0, .ptr tb 0),(2,pd),(71, .slice (tysD l)),(72, .int .i64 l.length),(73, .int .i64 l.length),(74, .bool false)],σ++τ') else (.panic (refD (tysOrd p params l)),ev,σ++τ')))→r=outR (tysOrd p params l)→
    bodyI CI XB GI af112 [.ptr tb 0, .agg (Ty.mk k n s l ls tail).cs,pd] σ=some (r,σ++τ'))→ ∃τ,bodyI CI XB GI af112 [.ptr tb 0, .agg (Ty.mk k n s l ls tail).cs,pd] σ=some (outR (tysOrd p params l),σ++τ):=by
    intro τ0 h
    obtain ⟨τ',ev,h1⟩:=htail τ0
    exact ⟨_,h ([.box (Ty.mk k n s l ls tail).cs]++τ') _ ⟨ev,by rw [h1];simp only [List.append_assoc]⟩ rfl⟩
   clear htail
   by_cases hk1:k=1
   ·subst hk1
    cases hh:hasS params s
    ·refine ⟨[.box (Ty.mk 1 n s l ls tail).cs], ?_⟩
     have ho:ordN p params 1 s l.length ls=6:=by simp [ordN,hh]
     rw [ho,if_neg (by omega)]
     simp only [Ty.cs] at*
     generalize ls.map Lab.d=lsd at*
     generalize tysD l=ld at*
     simp [bodyI,af112,getA0,h111,hh,c58,outR]
    ·have ho:ordN p params 1 s l.length ls=0:=by simp [ordN,hh]
     rw [ho,if_pos rfl]
     refine hfin [] fun τ' r ⟨ev,hit⟩ hr=> ?_
     subst hr
     simp only [Ty.cs] at*
     generalize ls.map Lab.d=lsd at*
     generalize tysD l=ld at*
     by_cases hz:tysOrd p params l=0
     ·rw [if_pos hz,List.append_nil] at hit
      rw [hz]
      simp [bodyI,af112,getA0,h111,hh,hlen,hit,outR]
     ·rw [if_neg hz,List.append_nil] at hit
      rw [outR_ne hz]
      simp [bodyI,af112,getA0,h111,hh,hlen,hit]
   have hk1': (k==1)=false:=by simpa using hk1
   by_cases hk6:k=6
   ·subst hk6
    have h117:=h117 [.box (Ty.mk 6 n s l ls tail).cs]
    obtain ⟨j,hj,_⟩:=hT
    rw [p.cs_eq] at hj
    rcases idxOf_find (fun x:Dat=>x.name==s) p.data with ⟨hneg,hnone⟩ | ⟨i,hi,hlt,hsome,_⟩
    ·have ho:ordN p params 6 s l.length ls=6:=by simp [ordN,hnone]
     rw [ho,if_neg (by omega)]
     refine ⟨[.box (Ty.mk 6 n s l ls tail).cs], ?_⟩
     generalize idxOf (fun x:Dat=>x.name==s) p.data=z at*
     simp only [Ty.cs] at*
     generalize ls.map Lab.d=lsd at*
     generalize tysD l=ld at*
     simp [bodyI,af112,getA0,h117,hneg,c58,outR]
    ·have hget: (p.data.map Dat.d)[i]? =some (.agg p.data[i].cs):=by simp [hlt];rfl
     have hdlen: (p.data.map Dat.d).length=p.data.length:=by simp
     rw [hi] at h117
     have hni: ¬(i:Int) <0:=by omega
     have ho:ordN p params 6 s l.length ls=if p.data[i].params.length=l.length then 0 else 7:=by simp only [ordN,hsome];rfl
     rw [ho]
     generalize p.data[i]=d at*
     rcases d with ⟨dn,dp,dc⟩
     simp only [Dat.cs,slD] at*
     have hpl: (dp.map D.str).length=dp.length:=by simp
     generalize p.data.map Dat.d=dd at*
     generalize p.effects.map Eff.d=ed at*
     generalize p.defs.map Dfn.d=fd at*
     generalize p.main.cs=mc at*
     have h2:i<dd.length:=by omega
     have h3:dd[i]= .agg [.str dn, .slice (dp.map D.str), .slice (dc.map Con.d)]:=by rw [List.getElem?_eq_getElem h2] at hget;exact Option.some.inj hget
     generalize dc.map Con.d=cd at*
     generalize dp.map D.str=pdd at*
     by_cases hp:dp.length=l.length
     ·rw [if_pos hp,if_pos rfl]
      refine hfin [] fun τ' r ⟨ev,hit⟩ hr=> ?_
      subst hr
      simp only [Ty.cs] at*
      generalize ls.map Lab.d=lsd at*
      generalize tysD l=ld at*
      by_cases hz:tysOrd p params l=0
      ·rw [if_pos hz,List.append_nil] at hit
       rw [hz]
       simp [bodyI,af112,getA0,h117,hlen,hit,outR,h2,h3,hni,getO hj,hpl,hp]
      ·rw [if_neg hz,List.append_nil] at hit
       rw [outR_ne hz]
       simp [bodyI,af112,getA0,h117,hlen,hit,h2,h3,hni,getO hj,hpl,hp]
     ·rw [if_neg hp,if_neg (by omega)]
      refine ⟨[.box (Ty.mk 6 n s l ls tail).cs], ?_⟩
      have hp': ((dp.length:Int) ==(l.length:Int))=false:=by simp;omega
      have hp2: ¬(dp.length:Int)=(l.length:Int):=by omega
      simp only [Ty.cs] at*
      generalize ls.map Lab.d=lsd at*
      generalize tysD l=ld at*
      simp [bodyI,af112,getA0,h117,hlen,c58,outR,h2,h3,hni,getO hj,hpl,hp,hp',hp2,bne]
   have hk6': (k==6)=false:=by simpa using hk6
   by_cases hk5:k=5
   ·subst hk5
    obtain ⟨τl,evl,hitl⟩:=it
    have ho:ordN p params 5 s l.length ls=firstE (ls.map fun x=>findEffE p.effects x.s):=by simp [ordN]
    rw [ho]
    generalize firstE (ls.map fun x=>findEffE p.effects x.s)=fe at*
    by_cases hfe:fe=0
    ·rw [if_pos hfe] at hitl ⊢
     have hg: (σ++[.box (Ty.mk 5 n s l ls tail).cs]++τl)[σ.length]? =some (.box (Ty.mk 5 n s l ls tail).cs):=by rw [List.append_assoc];exact getA0
     refine hfin τl fun τ' r ⟨ev,hit⟩ hr=> ?_
     subst hr
     generalize hσ1:σ++[.box (Ty.mk 5 n s l ls tail).cs]++τl=σ1 at*
     simp only [Ty.cs] at*
     generalize ls.map Lab.d=lsd at*
     generalize tysD l=ld at*
     by_cases hz:tysOrd p params l=0
     ·rw [if_pos hz] at hit
      rw [hz]
      simp [bodyI,af112,getA0,hg,hlsl,hitl,hlen,hit,outR]
     ·rw [if_neg hz] at hit
      rw [outR_ne hz]
      simp [bodyI,af112,getA0,hg,hlsl,hitl,hlen,hit]
    ·rw [if_neg hfe] at hitl ⊢
     refine ⟨[.box (Ty.mk 5 n s l ls tail).cs]++τl, ?_⟩
     rw [←List.append_assoc,outR_ne hfe]
     generalize hσ1:σ++[.box (Ty.mk 5 n s l ls tail).cs]++τl=σ1 at*
     simp only [Ty.cs] at*
     generalize ls.map Lab.d=lsd at*
     generalize tysD l=ld at*
     simp [bodyI,af112,getA0,hlsl,hitl]
   have hk5': (k==5)=false:=by simpa using hk5
   have ho:ordN p params k s l.length ls=0:=by simp [ordN,hk1,hk5,hk6]
   rw [ho,if_pos rfl]
   refine hfin [] fun τ' r ⟨ev,hit⟩ hr=> ?_
   subst hr
   simp only [Ty.cs] at*
   generalize ls.map Lab.d=lsd at*
   generalize tysD l=ld at*
   by_cases hz:tysOrd p params l=0
   ·rw [if_pos hz,List.append_nil] at hit
    rw [hz]
    simp [bodyI,af112,getA0,hk1',hk5',hk6',hlen,hit,outR]
   ·rw [if_neg hz,List.append_nil] at hit
    rw [outR_ne hz]
    simp [bodyI,af112,getA0,hk1',hk5',hk6',hlen,hit]
  exact CI_out tab112 hτ
termination_by t=>SizeOf.sizeOf t
decreasing_by
 have:=List.sizeOf_lt_of_mem (List.getElem_mem hi)
 simp only [Ty.mk.sizeOf_spec]
 omega
theorem mapFind_kvs (s:Bs): ∀ (m:CMap),mapFind 2 (.str s) (kvs m)=some ((m.find? (fun x=>x.1==s)).map fun x=>plD x.2)
 | []=>rfl
 |x::r=>by
  have:kvs (x::r)=(.str x.1,plD x.2)::kvs r:=rfl
  rw [this]
  simp only [mapFind,D.kindEq,List.find?_cons]
  have hc: (s==x.1)=(x.1==s):=BEq.comm
  rw [hc]
  cases h:x.1==s
  ·exact mapFind_kvs s r
  ·rfl
theorem mapSet_kvs (s:Bs) (v:Nat × Nat): ∀ (m:CMap),m.find? (fun x=>x.1==s)=none→mapSet 2 (.str s) (plD v) (kvs m)=some (kvs (m++[(s,v)]))
 | [],_=>rfl
 |x::r,h=>by
  have:kvs (x::r)=(.str x.1,plD x.2)::kvs r:=rfl
  rw [this]
  rw [List.find?_cons] at h
  simp only [mapSet,D.kindEq]
  have hc: (s==x.1)=(x.1==s):=BEq.comm
  rw [hc]
  cases hx:x.1==s
  ·rw [hx] at h
   simp only
   rw [mapSet_kvs s v r h]
   rfl
  ·rw [hx] at h;cases h
def addC (i k:Nat) (c:Con) (m:CMap):CMap:=match m.find? (fun x=>x.1==c.name) with|some _=>m|none=>m++[(c.name,i,k)]
def addCs (i:Nat):List Con→Nat→CMap→CMap
 | [],_,m=>m
 |c::r,k,m=>addCs i r (k+1) (addC i k c m)
def addDs:List Dat→Nat→CMap→CMap
 | [],_,m=>m
 |d::r,i,m=>addDs r (i+1) (addCs i d.cons 0 m)
def Prg.cm (p:Prg):CMap:=addDs p.data 0 []
set_option maxHeartbeats 2000000 in
theorem b55 (pc:List D) (hpl:pc.length=10) (tb j:Nat) (m:CMap) (σ:St) (htb:σ[tb]? =some (.box (pc++[.map j]))) (hj:σ[j]? =some (.map (kvs m))) (i k:Nat) (cons:List Con) (hk:k<cons.length) (hcl:cons.length≤maxL) (d15:D) (d16:Int):
 ∃τ,evalI CI XB GI 54 false lp55_0 [(3, .ptr tb 0),(4, .int .i64 i),(15,d15),(16, .int .i64 d16),(17, .int .i64 i),(23, .slice (cons.map Con.d)),(24, .int .i64 cons.length),(25, .int .i64 k)] σ=
  some (.normal,[(3, .ptr tb 0),(4, .int .i64 i),(15,d15),(16, .int .i64 d16),(17, .int .i64 i),(23, .slice (cons.map Con.d)),(24, .int .i64 cons.length),(25, .int .i64 ((k+1:Nat):Int))],σ.set j (.map (kvs (addC i k cons[k] m)))++τ):=by
 have hw:=wrap_nat (n:=k) (by unfold maxL at hcl;omega)
 have hget: (cons.map Con.d)[k]? =some (Con.d cons[k]):=by simp [hk]
 have hlen: (cons.map Con.d).length=cons.length:=by simp
 generalize cons.map Con.d=ld at*
 have h2:k<ld.length:=by omega
 have h3:ld[k]=Con.d cons[k]:=by rw [List.getElem?_eq_getElem h2] at hget;exact Option.some.inj hget
 generalize cons[k]=c at*
 rcases c with ⟨cn,args⟩
 simp only [Con.d,Con.cs] at*
 generalize tysD args=ad at*
 have hpd:pc.drop 10=[]:=List.drop_eq_nil_of_le (by omega)
 have hmf:=mapFind_kvs cn m
 have hms:=mapSet_kvs cn (i,k) m
 have hjl:=lt_of_get hj
 unfold addC
 cases hf:m.find? (fun x=>x.1==cn) with
 |some v=>
  rw [hf] at hmf
  have hs:σ.set j (.map (kvs m))=σ:=by
   rw [←(List.getElem?_eq_some_iff.1 hj).2];exact List.set_getElem_self _
  simp only [hs]
  refine ⟨[.box [.str cn, .slice ad], .box [.int .i64 v.2.1, .int .i64 v.2.2]], ?_⟩
  generalize kvs m=km at*
  simp [lp55_0,hk,hw,h2,h3,getA0,getA,setA0,setA,getO htb,getO hj,hpl,hpd,hmf,plD,D.kindEq,Nat.testBit_eq_decide_div_mod_eq]
 |none=>
  rw [hf] at hmf
  have hms:=hms hf
  refine ⟨[.box [.str cn, .slice ad], .box [.int .i64 0, .int .i64 0]], ?_⟩
  generalize kvs m=km at*
  generalize kvs (m++[(cn,i,k)])=km' at*
  simp only [plD] at hms
  simp [lp55_0,hk,hw,h2,h3,getA0,getA,setA0,setA,setO hjl,getO htb,getO hj,hpl,hpd,hmf,hms,plD,fillD,putCells,D.kindEq,Nat.testBit_eq_decide_div_mod_eq]
theorem foldS_addC (i:Nat): ∀ (l:List Con) (k:Nat) (m:CMap),foldS (γ:=Unit) (fun k c m=> .inl (addC i k c m)) l k m= .inl (addCs i l k m)
 | [],k,m=>rfl
 |c::r,k,m=>by simp only [foldS,addCs,foldS_addC i r]
theorem foldS_addD: ∀ (l:List Dat) (i:Nat) (m:CMap),foldS (γ:=Unit) (fun i (d:Dat) m=> .inl (addCs i d.cons 0 m)) l i m= .inl (addDs l i m)
 | [],k,m=>rfl
 |c::r,k,m=>by simp only [foldS,addDs,foldS_addD r]
def lookS (p:Prg) (σ:St) (m:CMap):St:=σ++[.box p.cs, .map (kvs m), .box (p.cs++[.map (σ.length+1)])]
theorem lookS_set (p:Prg) (σ τ:St) (m m':CMap): (lookS p σ m++τ).set (σ.length+1) (.map (kvs m'))=lookS p σ m'++τ:=by
 unfold lookS
 rw [List.append_assoc,setA];simp
theorem lookS_1 (p:Prg) (σ τ:St) (m:CMap): (lookS p σ m++τ)[σ.length+1]? =some (.map (kvs m)):=by
 unfold lookS;rw [List.append_assoc];exact getA
theorem lookS_2 (p:Prg) (σ τ:St) (m:CMap): (lookS p σ m++τ)[σ.length+2]? =some (.box (p.cs++[.map (σ.length+1)])):=by
 unfold lookS;rw [List.append_assoc];exact getA
theorem it55_0 (p:Prg) (σ:St) (i:Nat) (cons:List Con) (hcl:cons.length≤maxL) (d15:D) (d16:Int) (m:CMap) (τ:St):
 ∃τ',iterI (evalI CI XB GI 54 false lp55_0) [(3, .ptr (σ.length+2) 0),(4, .int .i64 i),(15,d15),(16, .int .i64 d16),(17, .int .i64 i),(23, .slice (cons.map Con.d)),(24, .int .i64 cons.length),(25, .int .i64 0)] (lookS p σ m++τ)=
  some (.exit 2,[(3, .ptr (σ.length+2) 0),(4, .int .i64 i),(15,d15),(16, .int .i64 d16),(17, .int .i64 i),(23, .slice (cons.map Con.d)),(24, .int .i64 cons.length),(25, .int .i64 cons.length),(26, .bool false)],lookS p σ (addCs i cons 0 m)++τ'):=by
 obtain ⟨τ',h⟩:=loop_foldS (γ:=Unit) (f:=evalI CI XB GI 54 false lp55_0) cons (fun k _=>[(3, .ptr (σ.length+2) 0),(4, .int .i64 i),(15,d15),(16, .int .i64 d16),(17, .int .i64 i),(23, .slice (cons.map Con.d)),(24, .int .i64 cons.length),(25, .int .i64 (k:Nat))])
  (fun m=>lookS p σ m) (fun _ _=>True) (fun k c m=> .inl (addC i k c m)) (fun _=>(.ret,[])) (fun _=>[]) (fun _=>(.exit 2,[(3, .ptr (σ.length+2) 0),(4, .int .i64 i),(15,d15),(16, .int .i64 d16),(17, .int .i64 i),(23, .slice (cons.map Con.d)),(24, .int .i64 cons.length),(25, .int .i64 cons.length),(26, .bool false)]))
  (by simp) (by simp) (fun _ _ _ _ _ _=>trivial)
  (fun k hk m τ _=>by
    obtain ⟨τ1,h1⟩:=b55 p.cs p.cs_len (σ.length+2) (σ.length+1) m (lookS p σ m++τ) (lookS_2 ..) (lookS_1 ..) i k cons hk hcl d15 d16
    refine ⟨τ++τ1, ?_⟩
    rw [h1,lookS_set,List.append_assoc])
  (fun m τ _=>⟨τ,by
    generalize cons.map Con.d=ld
    simp [lp55_0]⟩) m τ trivial
 rw [foldS_addC] at h
 exact ⟨τ',h⟩
theorem it55_1 (p:Prg) (hdl:p.data.length≤maxL) (hd: ∀d ∈ p.data,d.ok) (σ:St):
 ∃τ',iterI (evalI CI XB GI 54 false lp55_1) [(3, .ptr (σ.length+2) 0),(15, .slice (p.data.map Dat.d)),(16, .int .i64 p.data.length),(17, .int .i64 0)] (lookS p σ [])=
  some (.exit 0,[(3, .ptr (σ.length+2) 0),(15, .slice (p.data.map Dat.d)),(16, .int .i64 p.data.length),(17, .int .i64 p.data.length),(18, .bool false)],lookS p σ p.cm++τ'):=by
 obtain ⟨τ',h⟩:=loop_foldS (γ:=Unit) (f:=evalI CI XB GI 54 false lp55_1) p.data (fun i _=>[(3, .ptr (σ.length+2) 0),(15, .slice (p.data.map Dat.d)),(16, .int .i64 p.data.length),(17, .int .i64 (i:Nat))])
  (fun m=>lookS p σ m) (fun _ _=>True) (fun i d m=> .inl (addCs i d.cons 0 m)) (fun _=>(.ret,[])) (fun _=>[]) (fun _=>(.exit 0,[(3, .ptr (σ.length+2) 0),(15, .slice (p.data.map Dat.d)),(16, .int .i64 p.data.length),(17, .int .i64 p.data.length),(18, .bool false)]))
  (by simp) (by simp) (fun _ _ _ _ _ _=>trivial)
  (fun i hi m τ _=>by
    have hw:=wrap_nat (n:=i) (by unfold maxL at hdl;omega)
    have hx:=hd _ (List.getElem_mem hi)
    have hget: (p.data.map Dat.d)[i]? =some (Dat.d p.data[i]):=by simp [hi]
    have hlen: (p.data.map Dat.d).length=p.data.length:=by simp
    obtain ⟨τ1,hit⟩:=it55_0 p σ i p.data[i].cons hx.2.1 (.slice (p.data.map Dat.d)) p.data.length m (τ++[.box p.data[i].cs])
    refine ⟨τ1, ?_⟩
    generalize p.data.map Dat.d=ld at*
    have h2:i<ld.length:=by omega
    have h3:ld[i]=Dat.d p.data[i]:=by rw [List.getElem?_eq_getElem h2] at hget;exact Option.some.inj hget
    generalize p.data[i]=d at*
    rcases d with ⟨dn,dp,dc⟩
    have hcl: (dc.map Con.d).length=dc.length:=by simp
    simp only [Dat.d,Dat.cs,slD] at*
    generalize dc.map Con.d=cd at*
    generalize dp.map D.str=pd at*
    rw [←List.append_assoc] at hit
    generalize lookS p σ (addCs i dc 0 m)++τ1=σ2 at*
    generalize lookS p σ m++τ=σ1 at*
    simp [lp55_1,hi,hw,h2,h3,hcl,getA0,setA0,hit])
  (fun m τ _=>⟨τ,by
    generalize p.data.map Dat.d=ld
    simp [lp55_1]⟩) [] [] trivial
 rw [foldS_addD,List.append_nil] at h
 exact ⟨τ',h⟩
theorem CI_new {f:FuncId} {af:AFunc} (hT:tabT f=some af) {args:List D} {σ τ:St} {i:Nat} (h:bodyI CI XB GI af args σ=some (.ret (.ptr (σ.length+i) 0),σ++τ)) (hq:qI f=false)
 (hx:okF f:=by exact ⟨⟨rfl,rfl⟩,rfl⟩):CI (.fn f) args σ=some (.ret (.ptr (σ.length+i) 0),σ++τ):=by
 refine CI_fn hT h ?_ hx
 have ht:trim σ (some (.ret (.ptr (σ.length+i) 0),σ++τ))=some (.ret (.ptr (σ.length+i) 0),σ++τ):=by
  unfold trim
  have:trimV σ.length (σ++τ) (.ret (.ptr (σ.length+i) 0))=none:=by simp [trimV,strip,D.tree,D.under]
  simp only [this,if_pos keeps_app]
 unfold postI
 rw [ht]
 simp [hq]
theorem c55 (p:Prg) (hdl:p.data.length≤maxL) (hd: ∀d ∈ p.data,d.ok) (σ:St): ∃τ,CI (.fn 55) [.agg p.cs] σ=some (.ret (.ptr (σ.length+2) 0),lookS p σ p.cm++τ):=by
 obtain ⟨τ,hit⟩:=it55_1 p hdl hd σ
 refine ⟨τ, ?_⟩
 have hτ:bodyI CI XB GI af55 [.agg p.cs] σ=some (.ret (.ptr (σ.length+2) 0),lookS p σ p.cm++τ):=by
  have hall:=p.cs_all
  have hpl:=p.cs_len
  have hpt:=p.cs_take
  have hlen: (p.data.map Dat.d).length=p.data.length:=by simp
  generalize lookS p σ p.cm++τ=σ2 at*
  unfold lookS at hit
  have hpd:p.cs.drop 10=[]:=List.drop_eq_nil_of_le (by omega)
  have hg: ∀τ,(σ++ .box p.cs::τ)[σ.length]? =some (.box (.slice (p.data.map Dat.d):: .slice (p.effects.map Eff.d):: .slice (p.defs.map Dfn.d)::p.main.cs)):=fun τ=>by rw [←p.cs_eq];exact getA0
  simp only [kvs,List.map_nil] at hit
  have hd11: (p.cs++[D.nilmap]).drop 11=[]:=List.drop_eq_nil_of_le (by simp [hpl])
  have hh:p.cs.head?=some (.slice (p.data.map Dat.d)):=by rw [p.cs_eq];rfl
  clear hg
  generalize p.data.map Dat.d=dd at*
  generalize p.cs=pc at*
  simp [bodyI,af55,hall,hpl,hpt,hpd,getA0,fillD,putCells,hh,hlen,hit,hd11]
 have e:lookS p σ p.cm++τ=σ++([.box p.cs, .map (kvs p.cm), .box (p.cs++[.map (σ.length+1)])]++τ):=by unfold lookS;rw [List.append_assoc]
 rw [e] at hτ ⊢
 exact CI_new tab55 hτ rfl
theorem lookS_T (p:Prg) (σ τ:St):IsT (lookS p σ p.cm++τ) (σ.length+2) p p.cm:=⟨_,lookS_2 ..,lookS_1 ..⟩
def rowS (l:List Bs):Obj:= .row 1 (l.map .str) 0
def refS (r:Nat) (l:List Bs):Obj:= .box [.arr r l.length 0 l.length]
theorem c89r (l:List Bs) (s:Bs) (r:Nat) (σ:St) (hr:σ[r]? =some (rowS l)) (hl:l.length≤maxL):CI (.fn 89) [.arr r l.length 0 l.length, .str s] σ=some (.ret (.int .i64 (indexP l s)),σ):=by
 unfold maxL at hl
 unfold rowS at hr
 refine CI_tree0 tab89 (d:= .int .i64 (indexP l s)) ?_ rfl rfl
 have hit:=loop_find (f:=evalI CI XB GI 19 false lp89_0) (σ:=σ) l (fun i=>[(0, .arr r l.length 0 l.length),(1, .str s),(7, .int .i64 l.length),(8, .int .i64 (i:Nat))]) (· ==s) (fun i=>(.ret,[(4, .int .i64 (i:Nat))],σ)) (.exit 0,[(0, .arr r l.length 0 l.length),(1, .str s),(7, .int .i64 l.length),(8, .int .i64 l.length),(9, .bool false)],σ) (by simp) (by simp)
  (fun i hi=>by
    have hw:=wrap_nat (n:=i) (by omega)
    have hc: (s==l[i])=(l[i] ==s):=BEq.comm
    cases hb:l[i] ==s<;>simp [lp89_0,hi,hw,hb,hc,hr]) (by
    simp [lp89_0])
 rw [Int.natCast_zero] at hit
 unfold indexP
 cases hf:l.findIdx? (· ==s)<;>(rw [hf] at hit;simp [bodyI,af89,hit])
theorem h111r (l:List Bs) (s:Bs) (r:Nat) (σ:St) (hr:σ[r]? =some (rowS l)) (hl:l.length≤maxL):CI (.fn 111) [.arr r l.length 0 l.length, .str s] σ=some (.ret (.bool (hasS l s)),σ):=by
 refine CI_tree0 tab111 (d:= .bool (hasS l s)) ?_ rfl rfl
 unfold hasS
 rw [←indexP_ge]
 simp [bodyI,af111,c89r l s r σ hr hl]
theorem c110 (l:List Bs) (s:Bs) (b r:Nat) (σ:St) (hb:σ[b]? =some (refS r l)) (hr:σ[r]? =some (rowS l)) (hne:b≠r) (hl:l.length≤1000000):
 CI (.fn 110) [.ptr b 0, .str s] σ=some (if hasS l s then (.panic (refD 5),σ) else (.ret (.tuple []),(σ.set r (rowS (l++[s]))).set b (refS r (l++[s])))):=by
 have h111:=h111r l s r σ hr (by unfold maxL;omega)
 have hbl:=lt_of_get hb
 have hrl:=lt_of_get hr
 cases hh:hasS l s
 ·rw [hh] at h111
  have hτ:bodyI CI XB GI af110 [.ptr b 0, .str s] σ=some (.ret (.tuple []),(σ.set r (rowS (l++[s]))).set b (refS r (l++[s]))):=by
   unfold refS rowS at*
   have hb2: (σ.set r (.row 1 (l.map .str++[.str s]) 0))[b]? =some (.box [.arr r l.length 0 l.length]):=by rw [List.getElem?_set_ne hne.symm];exact hb
   have hlen: (l.map D.str).length=l.length:=by simp
   have hba: ((l.length:Nat) +1) *16≤140737488355328:=by omega
   simp [bodyI,af110,hb,hr,hb2,h111,rowOf,fillRow,hba,List.map_append]
  exact CI_fn tab110 hτ (postI_len (by simp) rfl rfl rfl)
 ·rw [hh] at h111
  have hτ:bodyI CI XB GI af110 [.ptr b 0, .str s] σ=some (.panic (refD 5),σ++[]):=by
   unfold refS rowS at*
   simp [bodyI,af110,hb,h111,c58]
  exact CI_panic tab110 hτ rfl
def onceS (σ:St) (a b:List Bs):St:=σ++[rowS a,rowS b,refS σ.length a,refS (σ.length+1) b]
theorem onceS_r (σ τ:St) (a b:List Bs): (onceS σ a b++τ)[σ.length]? =some (rowS a):=by unfold onceS;rw [List.append_assoc];exact getA0
theorem onceS_r1 (σ τ:St) (a b:List Bs): (onceS σ a b++τ)[σ.length+1]? =some (rowS b):=by unfold onceS;rw [List.append_assoc];exact getA
theorem onceS_b (σ τ:St) (a b:List Bs): (onceS σ a b++τ)[σ.length+2]? =some (refS σ.length a):=by unfold onceS;rw [List.append_assoc];exact getA
theorem onceS_b1 (σ τ:St) (a b:List Bs): (onceS σ a b++τ)[σ.length+3]? =some (refS (σ.length+1) b):=by unfold onceS;rw [List.append_assoc];exact getA
theorem onceS_set (σ τ:St) (a b a':List Bs): ((onceS σ a b++τ).set σ.length (rowS a')).set (σ.length+2) (refS σ.length a')=onceS σ a' b++τ:=by
 unfold onceS;rw [List.append_assoc,setA0,setA];simp
theorem onceS_set1 (σ τ:St) (a b b':List Bs): ((onceS σ a b++τ).set (σ.length+1) (rowS b')).set (σ.length+3) (refS (σ.length+1) b')=onceS σ a b'++τ:=by
 unfold onceS;rw [List.append_assoc,setA,setA];simp
theorem onceS_app (σ τ:St) (a b:List Bs):onceS σ a b++τ=σ++([rowS a,rowS b,refS σ.length a,refS (σ.length+1) b]++τ):=by unfold onceS;rw [List.append_assoc]
theorem it56_0 (p:Prg) (m:CMap) (hdl:p.data.length≤maxL) (hel:p.effects.length≤maxL) (params:List Bs) (hpar:params.length≤maxL) (dn:Bs) (dc:D) (q tb:Nat) (σ σ1:St) (hT:IsT σ1 tb p m) (hq:σ1[q]? =some (.box [.str dn,slD params,dc]))
 (args:List Ty) (hal:args.length≤maxL) (hok:tysOk args) (d37 d38 d39 d48 d49 d50:D):
 ∃τ' ev,iterI (evalI CI XB GI 110 false lp56_0) [(0, .ptr tb 0),(2, .ptr (σ.length+2) 0),(3, .ptr (σ.length+3) 0),(4, .func 110 [] []),(6, .ptr q 0),(37,d37),(38,d38),(39,d39),(48,d48),(49,d49),(50,d50),(59, .slice (tysD args)),(60, .int .i64 args.length),(61, .int .i64 0)] σ1=
  some (if firstE (args.map fun t=>t.ord p params)=0 then (.exit 4,[(0, .ptr tb 0),(2, .ptr (σ.length+2) 0),(3, .ptr (σ.length+3) 0),(4, .func 110 [] []),(6, .ptr q 0),(37,d37),(38,d38),(39,d39),(48,d48),(49,d49),(50,d50),(59, .slice (tysD args)),(60, .int .i64 args.length),(61, .int .i64 args.length),(62, .bool false)],σ1++τ') else (.panic (refD (firstE (args.map fun t=>t.ord p params))),ev,σ1++τ')):=by
 have hlen:=tysD_len args
 have:=loop_seekP (f:=evalI CI XB GI 110 false lp56_0) (σ:=σ1) args (fun i=>[(0, .ptr tb 0),(2, .ptr (σ.length+2) 0),(3, .ptr (σ.length+3) 0),(4, .func 110 [] []),(6, .ptr q 0),(37,d37),(38,d38),(39,d39),(48,d48),(49,d49),(50,d50),(59, .slice (tysD args)),(60, .int .i64 args.length),(61, .int .i64 (i:Nat))]) (fun t=>t.ord p params) (fun e=> .panic (refD e))
  (.exit 4,[(0, .ptr tb 0),(2, .ptr (σ.length+2) 0),(3, .ptr (σ.length+3) 0),(4, .func 110 [] []),(6, .ptr q 0),(37,d37),(38,d38),(39,d39),(48,d48),(49,d49),(50,d50),(59, .slice (tysD args)),(60, .int .i64 args.length),(61, .int .i64 args.length),(62, .bool false)]) (by simp) (by simp)
  (fun i hi τ=>by
    have hw:=wrap_nat (n:=i) (by unfold maxL at hal;omega)
    have hc:=c112 p m hdl hel params hpar (slD params) (.inl rfl) tb args[i] (tysOk_mem hok (List.getElem_mem hi)) (σ1++τ++[Obj.box args[i].cs]) hT.app.app
    have hget: (tysD args)[i]? =some (.agg args[i].cs):=by rw [tysD_map];simp [Ty.d,hi]
    have hq':=getO (τ:=τ) hq
    refine ⟨τ++[.box args[i].cs],[(0, .ptr tb 0),(2, .ptr (σ.length+2) 0),(3, .ptr (σ.length+3) 0),(4, .func 110 [] []),(6, .ptr q 0),(10, .ptr (σ1++τ).length 0),(37,d37),(38,d38),(39,d39),(48,d48),(49,d49),(50,d50),(59, .slice (tysD args)),(60, .int .i64 args.length),(61, .int .i64 (i:Nat)),(66, .agg args[i].cs),(67, .ptr q 1),(68,slD params)], ?_⟩
    rw [←List.append_assoc]
    generalize σ1++τ=σ2 at*
    generalize tysD args=ld at*
    have h2:i<ld.length:=by omega
    have h3:ld[i]= .agg args[i].cs:=by rw [List.getElem?_eq_getElem h2] at hget;exact Option.some.inj hget
    generalize args[i]=x at*
    have hx1:=x.cs_len
    have hx2:=x.cs_take
    have hx3:x.cs.all D.one=true:=by cases x;rfl
    have hx4:x.cs.drop 6=[]:=List.drop_eq_nil_of_le (by simp)
    generalize x.cs=xc at*
    unfold slD at*
    generalize params.map D.str=pd at*
    by_cases he:x.ord p params=0
    ·rw [if_pos he]
     rw [he,outR_zero] at hc
     simp [lp56_0,hi,hw,h2,h3,getA0,setA0,getO hq',hx1,hx2,hx3,hx4,putCells,hc]
    ·rw [if_neg he]
     rw [outR_ne he] at hc
     simp [lp56_0,hi,hw,h2,h3,getA0,setA0,getO hq',hx1,hx2,hx3,hx4,putCells,hc]) (fun τ=>⟨τ,by generalize tysD args=ld at*;simp [lp56_0]⟩) []
 simpa using this
theorem onceS_len (σ:St) (a b:List Bs): (onceS σ a b).length=σ.length+4:=by simp [onceS]
def consStep (p:Prg) (params:List Bs) (_:Nat) (c:Con) (b:List Bs):List Bs ⊕ Int:=
 if hasS b c.name then .inr 5 else if firstE (c.args.map fun t=>t.ord p params)=0 then .inl (b++[c.name]) else .inr (firstE (c.args.map fun t=>t.ord p params))
theorem consStep_len {p:Prg} {params:List Bs} {i:Nat} {c:Con} {b b':List Bs} (h:consStep p params i c b= .inl b'):b'=b++[c.name]:=by
 unfold consStep at h
 split at h
 ·cases h
 ·split at h
  ·cases h;rfl
  ·cases h
theorem foldS_cons_len {p:Prg} {params:List Bs} : ∀ {l:List Con} {i:Nat} {b b':List Bs},foldS (consStep p params) l i b= .inl b'→b'.length=b.length+l.length
 | [],i,b,b',h=>by cases h;rfl
 |c::r,i,b,b',h=>by
  simp only [foldS] at h
  cases hs:consStep p params i c b with
  |inl b1=>
   rw [hs] at h
   have h1:=consStep_len hs
   have h2:=foldS_cons_len h
   rw [h2,h1]
   simp only [List.length_append,List.length_cons,List.length_nil]
   omega
  |inr e=>rw [hs] at h;cases h
set_option maxHeartbeats 1000000 in
theorem it56_1 (p:Prg) (m:CMap) (hdl:p.data.length≤maxL) (hel:p.effects.length≤maxL) (params:List Bs) (hpar:params.length≤maxL) (dn:Bs) (cons:List Con) (q tb:Nat) (σ τ0:St) (a:List Bs) (hT:IsT σ tb p m)
 (hq: ∀b,(onceS σ a b++τ0)[q]? =some (.box [.str dn,slD params, .slice (cons.map Con.d)])) (hcl:cons.length≤maxL) (hok: ∀c ∈ cons,c.ok) (b0:List Bs) (hb0:b0.length+cons.length≤1000000) (d37 d38 d39:D):
 ∃τ' ev,iterI (evalI CI XB GI 110 false lp56_1) [(0, .ptr tb 0),(2, .ptr (σ.length+2) 0),(3, .ptr (σ.length+3) 0),(4, .func 110 [] []),(6, .ptr q 0),(37,d37),(38,d38),(39,d39),(48, .slice (cons.map Con.d)),(49, .int .i64 cons.length),(50, .int .i64 0)] (onceS σ a b0++τ0)=
  some (match foldS (consStep p params) cons 0 b0 with| .inl b'=>(.exit 2,[(0, .ptr tb 0),(2, .ptr (σ.length+2) 0),(3, .ptr (σ.length+3) 0),(4, .func 110 [] []),(6, .ptr q 0),(37,d37),(38,d38),(39,d39),(48, .slice (cons.map Con.d)),(49, .int .i64 cons.length),(50, .int .i64 cons.length),(51, .bool false)],onceS σ a b'++τ0++τ') | .inr e=>(.panic (refD e),ev,σ++τ')):=by
 have:=loop_foldP (f:=evalI CI XB GI 110 false lp56_1) cons (fun k _=>[(0, .ptr tb 0),(2, .ptr (σ.length+2) 0),(3, .ptr (σ.length+3) 0),(4, .func 110 [] []),(6, .ptr q 0),(37,d37),(38,d38),(39,d39),(48, .slice (cons.map Con.d)),(49, .int .i64 cons.length),(50, .int .i64 (k:Nat))]) (fun b=>onceS σ a b++τ0) (fun k b=>b.length=b0.length+k) (consStep p params) (fun e=> .panic (refD e)) σ (fun _=>(.exit 2,[(0, .ptr tb 0),(2, .ptr (σ.length+2) 0),(3, .ptr (σ.length+3) 0),(4, .func 110 [] []),(6, .ptr q 0),(37,d37),(38,d38),(39,d39),(48, .slice (cons.map Con.d)),(49, .int .i64 cons.length),(50, .int .i64 cons.length),(51, .bool false)])) (by simp) (by simp)
  (fun k hk b b' hb hs=>by rw [consStep_len hs];simp;omega)
  (fun k hk b τ hb=>by
    have hw:=wrap_nat (n:=k) (by unfold maxL at hcl;omega)
    have hcok:=hok _ (List.getElem_mem hk)
    have hget: (cons.map Con.d)[k]? =some (Con.d cons[k]):=by simp [hk]
    have hlen: (cons.map Con.d).length=cons.length:=by simp
    have hTT: ∀b x,IsT (onceS σ a b++τ0++τ++[x]) tb p m:=fun b x=>by rw [onceS_app,List.append_assoc,List.append_assoc];exact hT.app
    have hqq: ∀b x,(onceS σ a b++τ0++τ++[x])[q]? =some (.box [.str dn,slD params, .slice (cons.map Con.d)]):=fun b x=>by rw [List.append_assoc];exact getO (hq b)
    generalize cons.map Con.d=cd at*
    have h2:k<cd.length:=by omega
    have h3:cd[k]=Con.d cons[k]:=by rw [List.getElem?_eq_getElem h2] at hget;exact Option.some.inj hget
    generalize cons[k]=c at*
    rcases c with ⟨cn,args⟩
    have hal:=tysD_len args
    simp only [Con.d,Con.cs] at*
    have h110:=c110 b cn (σ.length+3) (σ.length+1) (onceS σ a b++τ0++τ++[Obj.box [.str cn, .slice (tysD args)]]) (by simp only [List.append_assoc];exact onceS_b1 ..) (by simp only [List.append_assoc];exact onceS_r1 ..) (by omega) (by omega)
    have hset: ((onceS σ a b++τ0++τ++[Obj.box [.str cn, .slice (tysD args)]]).set (σ.length+1) (rowS (b++[cn]))).set (σ.length+3) (refS (σ.length+1) (b++[cn]))=onceS σ a (b++[cn])++τ0++τ++[Obj.box [.str cn, .slice (tysD args)]]:=by
     simp only [List.append_assoc];exact onceS_set1 ..
    rw [hset] at h110
    have hqc: ∃qc,(onceS σ a b++τ0++τ).length=qc:=⟨_,rfl⟩
    obtain ⟨qc,hqc⟩:=hqc
    have hgc: (onceS σ a (b++[cn])++τ0++τ++[Obj.box [.str cn, .slice (tysD args)]])[qc]? =some (.box [.str cn, .slice (tysD args)]):=by
     have:qc=(onceS σ a (b++[cn])++τ0++τ).length:=by rw [←hqc];simp only [List.length_append,onceS_len]
     rw [this];exact getA0
    obtain ⟨τ1,ev1,hit⟩:=it56_0 p m hdl hel params hpar dn (.slice cd) q tb σ (onceS σ a (b++[cn])++τ0++τ++[Obj.box [.str cn, .slice (tysD args)]]) (hTT _ _) (hqq _ _) args hcok.1 hcok.2 d37 d38 d39 (.slice cd) (.int .i64 cons.length) (.int .i64 k)
    unfold consStep
    cases hh:hasS b cn
    ·rw [hh] at h110
     simp only [Bool.false_eq_true,if_false] at h110 ⊢
     have e1: ∀x,onceS σ a b++τ0++τ++[x]=σ++([rowS a,rowS b,refS σ.length a,refS (σ.length+1) b]++τ0++τ++[x]):=fun x=>by simp [onceS]
     by_cases hz:firstE (args.map fun t=>t.ord p params)=0
     ·rw [if_pos hz] at hit
      simp only [hz,if_true]
      refine ⟨τ++[Obj.box [.str cn, .slice (tysD args)]]++τ1,[], ?_⟩
      simp only [←List.append_assoc]
      generalize onceS σ a (b++[cn])++τ0++τ++[Obj.box [.str cn, .slice (tysD args)]]=σ3 at*
      generalize onceS σ a b++τ0++τ=σ2 at*
      subst hqc
      generalize tysD args=ad at*
      simp [lp56_1,hk,hw,h2,h3,getA0,setA0,h110,hgc,hal,hit]
     ·rw [if_neg hz] at hit
      simp only [if_neg hz]
      refine ⟨[rowS a,rowS (b++[cn]),refS σ.length a,refS (σ.length+1) (b++[cn])]++τ0++τ++[Obj.box [.str cn, .slice (tysD args)]]++τ1,ev1, ?_⟩
      have e2:σ++([rowS a,rowS (b++[cn]),refS σ.length a,refS (σ.length+1) (b++[cn])]++τ0++τ++[Obj.box [.str cn, .slice (tysD args)]]++τ1)=onceS σ a (b++[cn])++τ0++τ++[Obj.box [.str cn, .slice (tysD args)]]++τ1:=by simp [onceS]
      rw [e2]
      generalize onceS σ a (b++[cn])++τ0++τ++[Obj.box [.str cn, .slice (tysD args)]]=σ3 at*
      generalize onceS σ a b++τ0++τ=σ2 at*
      subst hqc
      generalize tysD args=ad at*
      simp [lp56_1,hk,hw,h2,h3,getA0,setA0,h110,hgc,hal,hit]
    ·rw [hh] at h110
     simp only [if_true] at h110 ⊢
     refine ⟨[rowS a,rowS b,refS σ.length a,refS (σ.length+1) b]++τ0++τ++[Obj.box [.str cn, .slice (tysD args)]],[(0, .ptr tb 0),(2, .ptr (σ.length+2) 0),(3, .ptr (σ.length+3) 0),(4, .func 110 [] []),(6, .ptr q 0),(8, .ptr qc 0),(37,d37),(38,d38),(39,d39),(48, .slice (cd)),(49, .int .i64 cons.length),(50, .int .i64 (k:Nat)),(55, .ptr qc 0),(56, .str cn)], ?_⟩
     have e2:σ++([rowS a,rowS b,refS σ.length a,refS (σ.length+1) b]++τ0++τ++[Obj.box [.str cn, .slice (tysD args)]])=onceS σ a b++τ0++τ++[Obj.box [.str cn, .slice (tysD args)]]:=by simp [onceS]
     rw [e2]
     clear hit hgc
     generalize onceS σ a b++τ0++τ=σ2 at*
     subst hqc
     generalize tysD args=ad at*
     simp [lp56_1,hk,hw,h2,h3,getA0,setA0,h110])
  (fun b τ _=>⟨τ,by
    generalize cons.map Con.d=cd
    simp [lp56_1]⟩) b0 [] (by simp)
 simp only [List.append_nil,Int.natCast_zero] at this
 obtain ⟨τ',ev,h⟩:=this
 refine ⟨τ',ev, ?_⟩
 rw [h]
 cases foldS (consStep p params) cons 0 b0<;>rfl
def datStep (p:Prg) (_:Nat) (d:Dat) (x:List Bs × List Bs): (List Bs × List Bs) ⊕ Int:=
 if hasS x.1 d.name then .inr 5 else match foldS (consStep p d.params) d.cons 0 x.2 with
  | .inl b=> .inl (x.1++[d.name],b)
  | .inr e=> .inr e
set_option maxHeartbeats 1000000 in
theorem it56_2 (p:Prg) (m:CMap) (hdl:p.data.length≤12) (hel:p.effects.length≤maxL) (hok: ∀d ∈ p.data,d.ok∧d.cons.length≤8) (tb:Nat) (σ:St) (hT:IsT σ tb p m) (a0 b0:List Bs) (ha0:a0.length≤10) (hb0:b0.length≤10):
 ∃τ' ev,iterI (evalI CI XB GI 110 false lp56_2) [(0, .ptr tb 0),(2, .ptr (σ.length+2) 0),(3, .ptr (σ.length+3) 0),(4, .func 110 [] []),(37, .slice (p.data.map Dat.d)),(38, .int .i64 p.data.length),(39, .int .i64 0)] (onceS σ a0 b0)=
  some (match foldS (datStep p) p.data 0 (a0,b0) with| .inl x=>(.exit 0,[(0, .ptr tb 0),(2, .ptr (σ.length+2) 0),(3, .ptr (σ.length+3) 0),(4, .func 110 [] []),(37, .slice (p.data.map Dat.d)),(38, .int .i64 p.data.length),(39, .int .i64 p.data.length),(40, .bool false)],onceS σ x.1 x.2++τ') | .inr e=>(.panic (refD e),ev,σ++τ')):=by
 have:=loop_foldP (f:=evalI CI XB GI 110 false lp56_2) p.data (fun i _=>[(0, .ptr tb 0),(2, .ptr (σ.length+2) 0),(3, .ptr (σ.length+3) 0),(4, .func 110 [] []),(37, .slice (p.data.map Dat.d)),(38, .int .i64 p.data.length),(39, .int .i64 (i:Nat))]) (fun x=>onceS σ x.1 x.2) (fun i x=>x.1.length≤10+i∧x.2.length≤10+8*i) (datStep p) (fun e=> .panic (refD e)) σ (fun _=>(.exit 0,[(0, .ptr tb 0),(2, .ptr (σ.length+2) 0),(3, .ptr (σ.length+3) 0),(4, .func 110 [] []),(37, .slice (p.data.map Dat.d)),(38, .int .i64 p.data.length),(39, .int .i64 p.data.length),(40, .bool false)])) (by simp) (by simp)
  (fun i hi x x' hx hs=>by
    have h8:=(hok _ (List.getElem_mem hi)).2
    unfold datStep at hs
    split at hs
    ·cases hs
    ·split at hs
     ·rename_i b hb
      cases hs
      have:=foldS_cons_len hb
      constructor
      ·simp;omega
      ·simp only;omega
     ·cases hs)
  (fun i hi x τ hx=>by
    have hw:=wrap_nat (n:=i) (by omega)
    obtain ⟨hdok,h8⟩:=hok _ (List.getElem_mem hi)
    have hget: (p.data.map Dat.d)[i]? =some (Dat.d p.data[i]):=by simp [hi]
    have hlen: (p.data.map Dat.d).length=p.data.length:=by simp
    have hdl':p.data.length≤maxL:=by unfold maxL;omega
    generalize p.data.map Dat.d=dd at*
    have h2:i<dd.length:=by omega
    have h3:dd[i]=Dat.d p.data[i]:=by rw [List.getElem?_eq_getElem h2] at hget;exact Option.some.inj hget
    generalize p.data[i]=d at*
    rcases d with ⟨dn,params,cons⟩
    rcases x with ⟨a,b⟩
    obtain ⟨hpar,hcl,hcok⟩:=hdok
    simp only [Dat.d,Dat.cs] at*
    have hxl: (cons.map Con.d).length=cons.length:=by simp
    have h110:=c110 a dn (σ.length+2) σ.length (onceS σ a b++τ++[Obj.box [.str dn,slD params, .slice (cons.map Con.d)]]) (by simp only [List.append_assoc];exact onceS_b ..) (by simp only [List.append_assoc];exact onceS_r ..) (by omega) (by omega)
    have hset: ((onceS σ a b++τ++[Obj.box [.str dn,slD params, .slice (cons.map Con.d)]]).set σ.length (rowS (a++[dn]))).set (σ.length+2) (refS σ.length (a++[dn]))=onceS σ (a++[dn]) b++τ++[Obj.box [.str dn,slD params, .slice (cons.map Con.d)]]:=by
     simp only [List.append_assoc];exact onceS_set ..
    rw [hset] at h110
    obtain ⟨qd,hqd⟩: ∃qd,(onceS σ a b++τ).length=qd:=⟨_,rfl⟩
    have hgd: ∀b,(onceS σ (a++[dn]) b++(τ++[Obj.box [.str dn,slD params, .slice (cons.map Con.d)]]))[qd]? =some (.box [.str dn,slD params, .slice (cons.map Con.d)]):=fun b'=>by
     have:qd=(onceS σ (a++[dn]) b'++τ).length:=by rw [←hqd];simp only [List.length_append,onceS_len]
     rw [this,←List.append_assoc];exact getA0
    obtain ⟨τ1,ev1,hit⟩:=it56_1 p m hdl' hel params hpar dn cons qd tb σ (τ++[Obj.box [.str dn,slD params, .slice (cons.map Con.d)]]) (a++[dn]) hT hgd hcl hcok b (by omega) (.slice dd) (.int .i64 p.data.length) (.int .i64 i)
    unfold datStep
    cases hh:hasS a dn
    ·rw [hh] at h110
     have hgd:=hgd b
     simp only [←List.append_assoc] at hit hgd
     simp only [Bool.false_eq_true,if_false] at h110 ⊢
     generalize cons.map Con.d=cd at*
     unfold slD at*
     generalize params.map D.str=pd at*
     generalize hσ3:onceS σ (a++[dn]) b++τ++[Obj.box [.str dn, .slice pd, .slice cd]]=σ3 at*
     cases hz:foldS (consStep p params) cons 0 b with
     |inl b'=>
      rw [hz] at hit
      refine ⟨τ++[Obj.box [.str dn, .slice pd, .slice cd]]++τ1,[], ?_⟩
      simp only [←List.append_assoc] at hit ⊢
      generalize onceS σ a b++τ=σ2 at*
      generalize onceS σ (a++[dn]) b'++τ++[Obj.box [.str dn, .slice pd, .slice cd]]++τ1=σ4 at*
      subst hqd
      simp [lp56_2,hi,hw,h2,h3,getA0,setA0,h110,hgd,hxl,hit]
     |inr e=>
      rw [hz] at hit
      refine ⟨τ1,ev1, ?_⟩
      generalize onceS σ a b++τ=σ2 at*
      subst hqd
      simp [lp56_2,hi,hw,h2,h3,getA0,setA0,h110,hgd,hxl,hit]
    ·rw [hh] at h110
     simp only [if_true] at h110 ⊢
     refine ⟨[rowS a,rowS b,refS σ.length a,refS (σ.length+1) b]++τ++[Obj.box [.str dn,slD params, .slice (cons.map Con.d)]],[(0, .ptr tb 0),(2, .ptr (σ.length+2) 0),(3, .ptr (σ.length+3) 0),(4, .func 110 [] []),(6, .ptr qd 0),(37, .slice (dd)),(38, .int .i64 p.data.length),(39, .int .i64 (i:Nat)),(44, .ptr qd 0),(45, .str dn)], ?_⟩
     have e2:σ++([rowS a,rowS b,refS σ.length a,refS (σ.length+1) b]++τ++[Obj.box [.str dn,slD params, .slice (cons.map Con.d)]])=onceS σ a b++τ++[Obj.box [.str dn,slD params, .slice (cons.map Con.d)]]:=by simp [onceS]
     rw [e2]
     clear hit hgd
     generalize cons.map Con.d=cd at*
     unfold slD at*
     generalize params.map D.str=pd at*
     generalize onceS σ a b++τ=σ2 at*
     subst hqd
     simp [lp56_2,hi,hw,h2,h3,getA0,setA0,h110])
  (fun x τ _=>⟨τ,by
    generalize p.data.map Dat.d=dd
    simp [lp56_2]⟩) (a0,b0) [] (by simp;omega)
 simp only [List.append_nil,Int.natCast_zero] at this
 obtain ⟨τ',ev,h⟩:=this
 refine ⟨τ',ev, ?_⟩
 rw [h]
 cases foldS (datStep p) p.data 0 (a0,b0)<;>rfl
def opnErr (p:Prg) (o:Opn):Int:=if o.arg.ord p []=0 then o.res.ord p [] else o.arg.ord p []
def opnStep (p:Prg) (_:Nat) (o:Opn) (b:List Bs):List Bs ⊕ Int:=
 if hasS b o.name then .inr 5 else if opnErr p o=0 then .inl (b++[o.name]) else .inr (opnErr p o)
theorem opnStep_len {p:Prg} {i:Nat} {c:Opn} {b b':List Bs} (h:opnStep p i c b= .inl b'):b'=b++[c.name]:=by
 unfold opnStep at h
 split at h
 ·cases h
 ·split at h
  ·cases h;rfl
  ·cases h
theorem foldS_opn_len {p:Prg} : ∀ {l:List Opn} {i:Nat} {b b':List Bs},foldS (opnStep p) l i b= .inl b'→b'.length=b.length+l.length
 | [],i,b,b',h=>by cases h;rfl
 |c::r,i,b,b',h=>by
  simp only [foldS] at h
  cases hs:opnStep p i c b with
  |inl b1=>
   rw [hs] at h
   have h1:=opnStep_len hs
   have h2:=foldS_opn_len h
   rw [h2,h1]
   simp only [List.length_append,List.length_cons,List.length_nil]
   omega
  |inr e=>rw [hs] at h;cases h
set_option maxHeartbeats 1000000 in
theorem it56_3 (p:Prg) (m:CMap) (hdl:p.data.length≤maxL) (hel:p.effects.length≤maxL) (ops:List Opn) (tb:Nat) (σ τ0:St) (a:List Bs) (hT:IsT σ tb p m)
 (hcl:ops.length≤maxL) (hok: ∀o ∈ ops,o.ok) (b0:List Bs) (hb0:b0.length+ops.length≤1000000) (d79 d80 d81:D):
 ∃τ' ev,iterI (evalI CI XB GI 110 false lp56_3) [(0, .ptr tb 0),(4, .func 110 [] []),(11, .ptr (σ.length+2) 0),(12, .ptr (σ.length+3) 0),(79,d79),(80,d80),(81,d81),(90, .slice (ops.map Opn.d)),(91, .int .i64 ops.length),(92, .int .i64 0)] (onceS σ a b0++τ0)=
  some (match foldS (opnStep p) ops 0 b0 with| .inl b'=>(.exit 8,[(0, .ptr tb 0),(4, .func 110 [] []),(11, .ptr (σ.length+2) 0),(12, .ptr (σ.length+3) 0),(79,d79),(80,d80),(81,d81),(90, .slice (ops.map Opn.d)),(91, .int .i64 ops.length),(92, .int .i64 ops.length),(93, .bool false)],onceS σ a b'++τ0++τ') | .inr e=>(.panic (refD e),ev,σ++τ')):=by
 have:=loop_foldP (f:=evalI CI XB GI 110 false lp56_3) ops (fun k _=>[(0, .ptr tb 0),(4, .func 110 [] []),(11, .ptr (σ.length+2) 0),(12, .ptr (σ.length+3) 0),(79,d79),(80,d80),(81,d81),(90, .slice (ops.map Opn.d)),(91, .int .i64 ops.length),(92, .int .i64 (k:Nat))]) (fun b=>onceS σ a b++τ0) (fun k b=>b.length=b0.length+k) (opnStep p) (fun e=> .panic (refD e)) σ (fun _=>(.exit 8,[(0, .ptr tb 0),(4, .func 110 [] []),(11, .ptr (σ.length+2) 0),(12, .ptr (σ.length+3) 0),(79,d79),(80,d80),(81,d81),(90, .slice (ops.map Opn.d)),(91, .int .i64 ops.length),(92, .int .i64 ops.length),(93, .bool false)])) (by simp) (by simp)
  (fun k hk b b' hb hs=>by rw [opnStep_len hs];simp;omega)
  (fun k hk b τ hb=>by
    have hw:=wrap_nat (n:=k) (by unfold maxL at hcl;omega)
    have hcok:=hok _ (List.getElem_mem hk)
    have hget: (ops.map Opn.d)[k]? =some (Opn.d ops[k]):=by simp [hk]
    have hlen: (ops.map Opn.d).length=ops.length:=by simp
    have hTT: ∀b x,IsT (onceS σ a b++τ0++τ++[x]) tb p m:=fun b x=>by rw [onceS_app,List.append_assoc,List.append_assoc];exact hT.app
    generalize ops.map Opn.d=od at*
    have h2:k<od.length:=by omega
    have h3:od[k]=Opn.d ops[k]:=by rw [List.getElem?_eq_getElem h2] at hget;exact Option.some.inj hget
    generalize ops[k]=o at*
    rcases o with ⟨on,arg,res,once⟩
    obtain ⟨hoa,hor⟩:=hcok
    simp only at hoa hor
    simp only [Opn.d,Opn.cs] at*
    have hca:=c112 p m hdl hel [] (by unfold maxL;simp) .empty (.inr ⟨rfl,rfl⟩) tb arg hoa _ (hTT (b++[on]) (.box (.str on::(arg.cs++res.cs++[.bool once]))))
    have hcr:=c112 p m hdl hel [] (by unfold maxL;simp) .empty (.inr ⟨rfl,rfl⟩) tb res hor _ (hTT (b++[on]) (.box (.str on::(arg.cs++res.cs++[.bool once]))))
    simp only [opnStep,opnErr]
    generalize arg.ord p []=ea at*
    generalize res.ord p []=er at*
    rcases arg with ⟨k1,n1,s1,l1,ls1,t1⟩
    rcases res with ⟨k2,n2,s2,l2,ls2,t2⟩
    simp only [Ty.cs,List.cons_append,List.nil_append] at*
    generalize tysD l1=ld1 at*
    generalize tysD l2=ld2 at*
    generalize ls1.map Lab.d=lsd1 at*
    generalize ls2.map Lab.d=lsd2 at*
    generalize hoc: [D.str on,D.int .i64 k1,D.int .i64 n1,D.str s1,D.slice ld1,D.slice lsd1,D.int .i64 t1,D.int .i64 k2,D.int .i64 n2,D.str s2,D.slice ld2,D.slice lsd2,D.int .i64 t2,D.bool once]=oc at*
    have h110:=c110 b on (σ.length+3) (σ.length+1) (onceS σ a b++τ0++τ++[Obj.box oc]) (by simp only [List.append_assoc];exact onceS_b1 ..) (by simp only [List.append_assoc];exact onceS_r1 ..) (by omega) (by omega)
    have hset: ((onceS σ a b++τ0++τ++[Obj.box oc]).set (σ.length+1) (rowS (b++[on]))).set (σ.length+3) (refS (σ.length+1) (b++[on]))=onceS σ a (b++[on])++τ0++τ++[Obj.box oc]:=by
     simp only [List.append_assoc];exact onceS_set1 ..
    rw [hset] at h110
    obtain ⟨qo,hqo⟩: ∃qo,(onceS σ a b++τ0++τ).length=qo:=⟨_,rfl⟩
    have hgc: (onceS σ a (b++[on])++τ0++τ++[Obj.box oc])[qo]? =some (.box oc):=by
     have:qo=(onceS σ a (b++[on])++τ0++τ).length:=by rw [←hqo];simp only [List.length_append,onceS_len]
     rw [this];exact getA0
    cases hh:hasS b on
    ·rw [hh] at h110
     simp only [Bool.false_eq_true,if_false] at h110 ⊢
     have e2:σ++([rowS a,rowS (b++[on]),refS σ.length a,refS (σ.length+1) (b++[on])]++τ0++τ++[Obj.box oc])=onceS σ a (b++[on])++τ0++τ++[Obj.box oc]:=by simp [onceS]
     by_cases hz1:ea=0
     ·subst hz1
      simp only [if_true]
      rw [outR_zero] at hca
      by_cases hz2:er=0
      ·subst hz2
       simp only [if_true]
       rw [outR_zero] at hcr
       refine ⟨τ++[Obj.box oc],[], ?_⟩
       simp only [←List.append_assoc]
       generalize onceS σ a (b++[on])++τ0++τ++[Obj.box oc]=σ3 at*
       generalize onceS σ a b++τ0++τ=σ2 at*
       subst hqo hoc
       simp [lp56_3,hk,hw,h2,h3,getA0,setA0,h110,hgc,hca,hcr]
      ·simp only [if_neg hz2]
       rw [outR_ne hz2] at hcr
       refine ⟨[rowS a,rowS (b++[on]),refS σ.length a,refS (σ.length+1) (b++[on])]++τ0++τ++[Obj.box oc],[(0, .ptr tb 0),(4, .func 110 [] []),(11, .ptr (σ.length+2) 0),(12, .ptr (σ.length+3) 0),(16, .ptr qo 0),(79,d79),(80,d80),(81,d81),(90, .slice (od)),(91, .int .i64 ops.length),(92, .int .i64 (k:Nat)),(105, .ptr qo 7),(106, .agg [.int .i64 k2, .int .i64 n2, .str s2, .slice ld2, .slice lsd2, .int .i64 t2])], ?_⟩
       rw [e2]
       generalize onceS σ a (b++[on])++τ0++τ++[Obj.box oc]=σ3 at*
       generalize onceS σ a b++τ0++τ=σ2 at*
       subst hqo hoc
       simp [lp56_3,hk,hw,h2,h3,getA0,setA0,h110,hgc,hca,hcr]
     ·simp only [if_neg hz1]
      rw [outR_ne hz1] at hca
      refine ⟨[rowS a,rowS (b++[on]),refS σ.length a,refS (σ.length+1) (b++[on])]++τ0++τ++[Obj.box oc],[(0, .ptr tb 0),(4, .func 110 [] []),(11, .ptr (σ.length+2) 0),(12, .ptr (σ.length+3) 0),(16, .ptr qo 0),(79,d79),(80,d80),(81,d81),(90, .slice (od)),(91, .int .i64 ops.length),(92, .int .i64 (k:Nat)),(101, .ptr qo 1),(102, .agg [.int .i64 k1, .int .i64 n1, .str s1, .slice ld1, .slice lsd1, .int .i64 t1])], ?_⟩
      rw [e2]
      generalize onceS σ a (b++[on])++τ0++τ++[Obj.box oc]=σ3 at*
      generalize onceS σ a b++τ0++τ=σ2 at*
      subst hqo hoc
      simp [lp56_3,hk,hw,h2,h3,getA0,setA0,h110,hgc,hca]
    ·rw [hh] at h110
     simp only [if_true] at h110 ⊢
     refine ⟨[rowS a,rowS b,refS σ.length a,refS (σ.length+1) b]++τ0++τ++[Obj.box oc],[(0, .ptr tb 0),(4, .func 110 [] []),(11, .ptr (σ.length+2) 0),(12, .ptr (σ.length+3) 0),(16, .ptr qo 0),(79,d79),(80,d80),(81,d81),(90, .slice (od)),(91, .int .i64 ops.length),(92, .int .i64 (k:Nat)),(97, .ptr qo 0),(98, .str on)], ?_⟩
     have e2:σ++([rowS a,rowS b,refS σ.length a,refS (σ.length+1) b]++τ0++τ++[Obj.box oc])=onceS σ a b++τ0++τ++[Obj.box oc]:=by simp [onceS]
     rw [e2]
     clear hgc
     generalize onceS σ a b++τ0++τ=σ2 at*
     subst hqo hoc
     simp [lp56_3,hk,hw,h2,h3,getA0,setA0,h110])
  (fun b τ _=>⟨τ,by
    generalize ops.map Opn.d=cd
    simp [lp56_3]⟩) b0 [] (by simp)
 simp only [List.append_nil,Int.natCast_zero] at this
 obtain ⟨τ',ev,h⟩:=this
 refine ⟨τ',ev, ?_⟩
 rw [h]
 cases foldS (opnStep p) ops 0 b0<;>rfl
def effStep (p:Prg) (_:Nat) (d:Eff) (x:List Bs × List Bs): (List Bs × List Bs) ⊕ Int:=
 if hasS x.1 d.name then .inr 5 else match foldS (opnStep p) d.ops 0 x.2 with
  | .inl b=> .inl (x.1++[d.name],b)
  | .inr e=> .inr e
set_option maxHeartbeats 1000000 in
theorem it56_4 (p:Prg) (m:CMap) (hdl:p.data.length≤maxL) (hel:p.effects.length≤12) (hok: ∀d ∈ p.effects,d.ok∧d.ops.length≤8) (tb:Nat) (σ:St) (hT:IsT σ tb p m) (a0 b0:List Bs) (ha0:a0.length≤10) (hb0:b0.length≤10):
 ∃τ' ev,iterI (evalI CI XB GI 110 false lp56_4) [(0, .ptr tb 0),(4, .func 110 [] []),(11, .ptr (σ.length+2) 0),(12, .ptr (σ.length+3) 0),(79, .slice (p.effects.map Eff.d)),(80, .int .i64 p.effects.length),(81, .int .i64 0)] (onceS σ a0 b0)=
  some (match foldS (effStep p) p.effects 0 (a0,b0) with| .inl x=>(.exit 6,[(0, .ptr tb 0),(4, .func 110 [] []),(11, .ptr (σ.length+2) 0),(12, .ptr (σ.length+3) 0),(79, .slice (p.effects.map Eff.d)),(80, .int .i64 p.effects.length),(81, .int .i64 p.effects.length),(82, .bool false)],onceS σ x.1 x.2++τ') | .inr e=>(.panic (refD e),ev,σ++τ')):=by
 have:=loop_foldP (f:=evalI CI XB GI 110 false lp56_4) p.effects (fun i _=>[(0, .ptr tb 0),(4, .func 110 [] []),(11, .ptr (σ.length+2) 0),(12, .ptr (σ.length+3) 0),(79, .slice (p.effects.map Eff.d)),(80, .int .i64 p.effects.length),(81, .int .i64 (i:Nat))]) (fun x=>onceS σ x.1 x.2) (fun i x=>x.1.length≤10+i∧x.2.length≤10+8*i) (effStep p) (fun e=> .panic (refD e)) σ (fun _=>(.exit 6,[(0, .ptr tb 0),(4, .func 110 [] []),(11, .ptr (σ.length+2) 0),(12, .ptr (σ.length+3) 0),(79, .slice (p.effects.map Eff.d)),(80, .int .i64 p.effects.length),(81, .int .i64 p.effects.length),(82, .bool false)])) (by simp) (by simp)
  (fun i hi x x' hx hs=>by
    have h8:=(hok _ (List.getElem_mem hi)).2
    unfold effStep at hs
    split at hs
    ·cases hs
    ·split at hs
     ·rename_i b hb
      cases hs
      have:=foldS_opn_len hb
      constructor
      ·simp;omega
      ·simp only;omega
     ·cases hs)
  (fun i hi x τ hx=>by
    have hw:=wrap_nat (n:=i) (by omega)
    obtain ⟨hdok,h8⟩:=hok _ (List.getElem_mem hi)
    have hget: (p.effects.map Eff.d)[i]? =some (Eff.d p.effects[i]):=by simp [hi]
    have hlen: (p.effects.map Eff.d).length=p.effects.length:=by simp
    have hel':p.effects.length≤maxL:=by unfold maxL;omega
    generalize p.effects.map Eff.d=dd at*
    have h2:i<dd.length:=by omega
    have h3:dd[i]=Eff.d p.effects[i]:=by rw [List.getElem?_eq_getElem h2] at hget;exact Option.some.inj hget
    generalize p.effects[i]=d at*
    rcases d with ⟨en,ops⟩
    rcases x with ⟨a,b⟩
    obtain ⟨hcl,hcok⟩:=hdok
    simp only [Eff.d,Eff.cs] at*
    have hxl: (ops.map Opn.d).length=ops.length:=by simp
    have h110:=c110 a en (σ.length+2) σ.length (onceS σ a b++τ++[Obj.box [.str en, .slice (ops.map Opn.d)]]) (by simp only [List.append_assoc];exact onceS_b ..) (by simp only [List.append_assoc];exact onceS_r ..) (by omega) (by omega)
    have hset: ((onceS σ a b++τ++[Obj.box [.str en, .slice (ops.map Opn.d)]]).set σ.length (rowS (a++[en]))).set (σ.length+2) (refS σ.length (a++[en]))=onceS σ (a++[en]) b++τ++[Obj.box [.str en, .slice (ops.map Opn.d)]]:=by
     simp only [List.append_assoc];exact onceS_set ..
    rw [hset] at h110
    obtain ⟨qd,hqd⟩: ∃qd,(onceS σ a b++τ).length=qd:=⟨_,rfl⟩
    have hgd: ∀b,(onceS σ (a++[en]) b++(τ++[Obj.box [.str en, .slice (ops.map Opn.d)]]))[qd]? =some (.box [.str en, .slice (ops.map Opn.d)]):=fun b'=>by
     have:qd=(onceS σ (a++[en]) b'++τ).length:=by rw [←hqd];simp only [List.length_append,onceS_len]
     rw [this,←List.append_assoc];exact getA0
    obtain ⟨τ1,ev1,hit⟩:=it56_3 p m hdl hel' ops tb σ (τ++[Obj.box [.str en, .slice (ops.map Opn.d)]]) (a++[en]) hT hcl hcok b (by omega) (.slice dd) (.int .i64 p.effects.length) (.int .i64 i)
    unfold effStep
    cases hh:hasS a en
    ·rw [hh] at h110
     have hgd:=hgd b
     simp only [←List.append_assoc] at hit hgd
     simp only [Bool.false_eq_true,if_false] at h110 ⊢
     generalize ops.map Opn.d=cd at*
     generalize hσ3:onceS σ (a++[en]) b++τ++[Obj.box [.str en, .slice cd]]=σ3 at*
     cases hz:foldS (opnStep p) ops 0 b with
     |inl b'=>
      rw [hz] at hit
      refine ⟨τ++[Obj.box [.str en, .slice cd]]++τ1,[], ?_⟩
      simp only [←List.append_assoc] at hit ⊢
      generalize onceS σ a b++τ=σ2 at*
      generalize onceS σ (a++[en]) b'++τ++[Obj.box [.str en, .slice cd]]++τ1=σ4 at*
      subst hqd
      simp [lp56_4,hi,hw,h2,h3,getA0,setA0,h110,hgd,hxl,hit]
     |inr e=>
      rw [hz] at hit
      refine ⟨τ1,ev1, ?_⟩
      generalize onceS σ a b++τ=σ2 at*
      subst hqd
      simp [lp56_4,hi,hw,h2,h3,getA0,setA0,h110,hgd,hxl,hit]
    ·rw [hh] at h110
     simp only [if_true] at h110 ⊢
     refine ⟨[rowS a,rowS b,refS σ.length a,refS (σ.length+1) b]++τ++[Obj.box [.str en, .slice (ops.map Opn.d)]],[(0, .ptr tb 0),(4, .func 110 [] []),(11, .ptr (σ.length+2) 0),(12, .ptr (σ.length+3) 0),(14, .ptr qd 0),(79, .slice (dd)),(80, .int .i64 p.effects.length),(81, .int .i64 (i:Nat)),(86, .ptr qd 0),(87, .str en)], ?_⟩
     have e2:σ++([rowS a,rowS b,refS σ.length a,refS (σ.length+1) b]++τ++[Obj.box [.str en, .slice (ops.map Opn.d)]])=onceS σ a b++τ++[Obj.box [.str en, .slice (ops.map Opn.d)]]:=by simp [onceS]
     rw [e2]
     clear hit hgd
     generalize ops.map Opn.d=cd at*
     generalize onceS σ a b++τ=σ2 at*
     subst hqd
     simp [lp56_4,hi,hw,h2,h3,getA0,setA0,h110])
  (fun x τ _=>⟨τ,by
    generalize p.effects.map Eff.d=dd
    simp [lp56_4]⟩) (a0,b0) [] (by simp;omega)
 simp only [List.append_nil,Int.natCast_zero] at this
 obtain ⟨τ',ev,h⟩:=this
 refine ⟨τ',ev, ?_⟩
 rw [h]
 cases foldS (effStep p) p.effects 0 (a0,b0)<;>rfl
def unitE:Ex:= .mk 3 0 [] [] [] [] []
def Prg.bare (p:Prg):Prg:=⟨p.data,p.effects,[],unitE⟩
def nPrint:Bs:=[112,114,105,110,116]
def nRead:Bs:=[114,101,97,100]
def Prg.ordE (p:Prg):Int:=match foldS (datStep p) p.data 0 (builtins,[]) with
 | .inr e=>e
 | .inl _=>match foldS (effStep p) p.effects 0 ([nIO],[nPrint,nRead]) with
  | .inr e=>e
  | .inl _=>0
def Prg.decls (p:Prg):Int:=orE p.bare.syn p.ordE
theorem Prg.bare_ok {p:Prg} (h:p.ok):p.bare.ok:=⟨h.dl,h.d,h.el,h.e,by unfold maxL;simp [Prg.bare],by simp [Prg.bare],by show unitE.ok;exact ⟨by simp [maxL],by simp [maxL],by simp [maxL],trivial,trivial⟩⟩
theorem firstE_zero {l:List Int} :firstE l=0↔ ∀x ∈ l,x=0:=by
 induction l with
 |nil=>simp [firstE]
 |cons a r ih=>
  simp only [firstE,List.forall_mem_cons]
  by_cases h:a=0
  ·simp [h,ih]
  ·simp [h]
theorem orE_zero {a b:Int} :orE a b=0↔a=0∧b=0:=by
 unfold orE
 by_cases h:a=0<;>simp [h]
theorem Prg.syn_data {p:Prg} (h:p.syn=0):p.data.length≤12∧p.effects.length≤12∧p.defs.length≤60∧(∀d ∈ p.data,datE d=0)∧(∀e ∈ p.effects,effE e=0)∧((nestE p.defs p.main).take 1 (3000,0)).1=true∧(∀d ∈ p.defs,dfnE d=0)∧p.main.e=0:=by
 unfold Prg.syn at h
 split at h
 ·cases h
 ·rename_i hn
  simp only [orE_zero,firstE_zero,List.forall_mem_map] at h
  obtain ⟨h1,h2,h3⟩:=h
  split at h3
  ·rename_i ht
   simp only [orE_zero,firstE_zero,List.forall_mem_map] at h3
   exact ⟨by omega,by omega,by omega,h1,h2,ht,h3.1,h3.2⟩
  ·cases h3
theorem datE_cons {d:Dat} (h:datE d=0):d.params.length≤4∧d.cons.length≤8∧upW d.name=true∧distE d.params 1=0∧ ∀c ∈ d.cons,conE c=0:=by
 unfold datE at h
 split at h
 ·cases h
 ·split at h
  ·split at h
   ·rename_i h1 h2 h3
    simp only [firstE_zero,List.forall_mem_map] at h
    exact ⟨by omega,by omega,h2,h3,h⟩
   ·rename_i h1 h2 h3
    exact absurd h h3
  ·cases h
theorem effE_ops {e:Eff} (h:effE e=0):e.ops.length≤8∧upW e.name=true∧ ∀o ∈ e.ops,opnE o=0:=by
 unfold effE at h
 split at h
 ·cases h
 ·split at h
  ·rename_i h1 h2
   simp only [firstE_zero,List.forall_mem_map] at h
   exact ⟨by omega,h2,h⟩
  ·cases h
theorem foldS_inr {α β γ:Type} {step:Nat→α→β→β ⊕ γ} {P:γ→Prop} : ∀ (l:List α) (_: ∀a ∈ l,∀i b c,step i a b= .inr c→P c) (i:Nat) (b:β) (c:γ),foldS step l i b= .inr c→P c
 | [],h,i,b,c,hc=>by cases hc
 |a::r,h,i,b,c,hc=>by
  simp only [foldS] at hc
  cases hs:step i a b with
  |inl b1=>rw [hs] at hc;exact foldS_inr r (fun x hx=>h x (List.mem_cons_of_mem _ hx)) _ _ _ hc
  |inr c1=>rw [hs] at hc;cases hc;exact h a List.mem_cons_self _ _ _ hs
theorem consStep_ne {p:Prg} {params:List Bs} {i:Nat} {c:Con} {b:List Bs} {e:Int} (h:consStep p params i c b= .inr e):e≠0:=by
 unfold consStep at h
 split at h
 ·cases h;omega
 ·split at h
  ·cases h
  ·rename_i hz;cases h;exact hz
theorem datStep_ne {p:Prg} {i:Nat} {d:Dat} {b:List Bs × List Bs} {e:Int} (h:datStep p i d b= .inr e):e≠0:=by
 unfold datStep at h
 split at h
 ·cases h;omega
 ·split at h
  ·cases h
  ·rename_i e' he
   cases h
   exact foldS_inr (P:=fun e=>e≠0) _ (fun _ _ _ _ _ h=>consStep_ne h) _ _ _ he
theorem opnStep_ne {p:Prg} {i:Nat} {c:Opn} {b:List Bs} {e:Int} (h:opnStep p i c b= .inr e):e≠0:=by
 unfold opnStep at h
 split at h
 ·cases h;omega
 ·split at h
  ·cases h
  ·rename_i hz;cases h;exact hz
theorem effStep_ne {p:Prg} {i:Nat} {d:Eff} {b:List Bs × List Bs} {e:Int} (h:effStep p i d b= .inr e):e≠0:=by
 unfold effStep at h
 split at h
 ·cases h;omega
 ·split at h
  ·cases h
  ·rename_i e' he
   cases h
   exact foldS_inr (P:=fun e=>e≠0) _ (fun _ _ _ _ _ h=>opnStep_ne h) _ _ _ he
set_option maxHeartbeats 2000000 in
theorem c56 (p:Prg) (m:CMap) (hok:p.ok) (tb:Nat) (σ:St) (hT:IsT σ tb p m):CI (.fn 56) [.ptr tb 0] σ=some (outR p.decls,σ):=by
 have h95:=fun σ=>c95 p.bare (Prg.bare_ok hok) σ
 have q95:qI 95=false:=rfl
 have x95:XB 95=false:=rfl
 have q59:qI 59=false:=rfl
 have x59:XB 59=false:=rfl
 obtain ⟨τ,hτ⟩: ∃τ,bodyI CI XB GI af56 [.ptr tb 0] σ=some (outR p.decls,σ++τ):=by
  obtain ⟨j,hj,hm⟩:=id hT
  have hcs:p.bare.cs=[.slice (p.data.map Dat.d), .slice (p.effects.map Eff.d), .slice [], .int .i64 3, .int .i64 0, .str [], .str [], .slice [], .slice [], .slice []]:=rfl
  rw [hcs] at h95
  rw [p.cs_eq] at hj
  unfold Prg.decls
  by_cases hs:p.bare.syn=0
  ·obtain ⟨hs1,hs2,_,hs3,hs4,_⟩:=Prg.syn_data hs
   rw [hs] at h95 ⊢
   obtain ⟨τ1,ev1,hit1⟩:=it56_2 p m hs1 hok.el (fun d hd=>⟨hok.d d hd,(datE_cons (hs3 d hd)).2.1⟩) tb σ hT builtins [] (by decide) (by decide)
   have hdL: (p.data.map Dat.d).length=p.data.length:=by simp
   have heL: (p.effects.map Eff.d).length=p.effects.length:=by simp
   have ho:orE 0 p.ordE=p.ordE:=rfl
   rw [ho]
   unfold Prg.ordE
   simp only [onceS,rowS,refS,builtins,nInt,nBool,nUnit,List.map_cons,List.map_nil,List.length_cons,List.length_nil] at hit1
   cases hz1:foldS (datStep p) p.data 0 ([[73,110,116],[66,111,111,108],[85,110,105,116]],[]) with
   |inr e=>
    have hne:e≠0:=foldS_inr (P:=fun e=>e≠0) _ (fun _ _ _ _ _ h=>datStep_ne h) _ _ _ hz1
    rw [hz1] at hit1
    have hz1':foldS (datStep p) p.data 0 (builtins,[])= .inr e:=hz1
    rw [hz1']
    simp only [outR_ne hne]
    refine ⟨τ1, ?_⟩
    generalize p.data.map Dat.d=dd at*
    generalize p.effects.map Eff.d=ed at*
    generalize p.defs.map Dfn.d=fd at*
    generalize p.main.cs=mc at*
    simp [bodyI,af56,hj,getO hj,fillD,fillRow,putCells,h95,c59,outR_zero,q95,x95,q59,x59,Nat.testBit_eq_decide_div_mod_eq,getA0,getA,setA,setA0,hdL,hit1]
   |inl x=>
    rw [hz1] at hit1
    have hz1':foldS (datStep p) p.data 0 (builtins,[])= .inl x:=hz1
    rw [hz1']
    simp only at hit1 ⊢
    have e1: ∀τ,∃τ',σ++[.row 1 (x.1.map .str) 0, .row 1 (x.2.map .str) 0, .box [.arr σ.length x.1.length 0 x.1.length], .box [.arr (σ.length+1) x.2.length 0 x.2.length]]++τ1++τ=σ++τ':=fun τ=>⟨_,by rw [List.append_assoc,List.append_assoc]⟩
    have hT2:IsT (σ++[.row 1 (x.1.map .str) 0, .row 1 (x.2.map .str) 0, .box [.arr σ.length x.1.length 0 x.1.length], .box [.arr (σ.length+1) x.2.length 0 x.2.length]]++τ1) tb p m:=hT.app.app
    have hj2: (σ++[.row 1 (x.1.map .str) 0, .row 1 (x.2.map .str) 0, .box [.arr σ.length x.1.length 0 x.1.length], .box [.arr (σ.length+1) x.2.length 0 x.2.length]]++τ1)[tb]? =_:=getO (getO hj)
    generalize hσ2:σ++[.row 1 (x.1.map .str) 0, .row 1 (x.2.map .str) 0, .box [.arr σ.length x.1.length 0 x.1.length], .box [.arr (σ.length+1) x.2.length 0 x.2.length]]++τ1=σ2 at*
    obtain ⟨τ2,ev2,hit2⟩:=it56_4 p m hok.dl hs2 (fun d hd=>⟨hok.e d hd,(effE_ops (hs4 d hd)).1⟩) tb σ2 hT2 [nIO] [nPrint,nRead] (by decide) (by decide)
    simp only [onceS,rowS,refS,nIO,nPrint,nRead,List.map_cons,List.map_nil,List.length_cons,List.length_nil] at hit2
    cases hz2:foldS (effStep p) p.effects 0 ([[73,79]],[[112,114,105,110,116],[114,101,97,100]]) with
    |inr e=>
     have hne:e≠0:=foldS_inr (P:=fun e=>e≠0) _ (fun _ _ _ _ _ h=>effStep_ne h) _ _ _ hz2
     rw [hz2] at hit2
     have hz2':foldS (effStep p) p.effects 0 ([nIO],[nPrint,nRead])= .inr e:=hz2
     rw [hz2']
     simp only [outR_ne hne] at hit2 ⊢
     obtain ⟨τ',hτ'⟩:=e1 τ2
     refine ⟨τ', ?_⟩
     rw [←hτ']
     generalize p.data.map Dat.d=dd at*
     generalize p.effects.map Eff.d=ed at*
     generalize p.defs.map Dfn.d=fd at*
     generalize p.main.cs=mc at*
     simp [bodyI,af56,hj,getO hj,fillD,fillRow,putCells,h95,c59,outR_zero,q95,x95,q59,x59,Nat.testBit_eq_decide_div_mod_eq,getA0,getA,setA,setA0,hdL,heL,hit1,hj2,getO hj2,hit2]
    |inl y=>
     rw [hz2] at hit2
     have hz2':foldS (effStep p) p.effects 0 ([nIO],[nPrint,nRead])= .inl y:=hz2
     rw [hz2']
     simp only [outR_zero] at hit2 ⊢
     obtain ⟨τ',hτ'⟩:=e1 ([.row 1 (y.1.map .str) 0, .row 1 (y.2.map .str) 0, .box [.arr σ2.length y.1.length 0 y.1.length], .box [.arr (σ2.length+1) y.2.length 0 y.2.length]]++τ2)
     refine ⟨τ', ?_⟩
     rw [←hτ',←List.append_assoc]
     generalize p.data.map Dat.d=dd at*
     generalize p.effects.map Eff.d=ed at*
     generalize p.defs.map Dfn.d=fd at*
     generalize p.main.cs=mc at*
     simp [bodyI,af56,hj,getO hj,fillD,fillRow,putCells,h95,c59,outR_zero,q95,x95,q59,x59,Nat.testBit_eq_decide_div_mod_eq,getA0,getA,setA,setA0,hdL,heL,hit1,hj2,getO hj2,hit2]
  ·refine ⟨[], ?_⟩
   have ho:orE p.bare.syn p.ordE=p.bare.syn:=by unfold orE;rw [if_neg hs]
   rw [ho,outR_ne hs]
   generalize p.bare.syn=e at*
   generalize p.data.map Dat.d=dd at*
   generalize p.effects.map Eff.d=ed at*
   generalize p.defs.map Dfn.d=fd at*
   generalize p.main.cs=mc at*
   simp [bodyI,af56,hj,fillD,putCells,h95,c59,outR_ne hs,q95,x95,q59,x59,Nat.testBit_eq_decide_div_mod_eq]
 exact CI_out tab56 hτ
def findConL (s:Bs):List Dat→Nat→Option (Nat × Nat)
 | [],_=>none
 |d::r,i=>match d.cons.findIdx? (fun c=>c.name==s) with
  |some k=>some (i,k)
  |none=>findConL s r (i+1)
def opNames (p:Prg) (i:Int):List Bs:=if i<0 then [nPrint,nRead] else match p.effects[i.toNat]? with|some e=>e.ops.map Opn.name|none=>[]
def findOpL (s:Bs):List Eff→Nat→Option (Nat × Nat)
 | [],_=>none
 |e::r,i=>match (e.ops.map Opn.name).findIdx? (· ==s) with
  |some k=>some (i,k)
  |none=>findOpL s r (i+1)
end Go.AI
namespace Go.AI
open Go Go.Proofs
set_option maxRecDepth 100000
theorem pure_ofI {X:Ext} (hX:ExtR Tryz.prog GI X) {f:FuncId} {args:List D} {r:D} (hr:r.tree=true) (h:callI tabT X GI (.fn f) args []=some (.ret r,[])):PureCall Tryz.prog GI f args r:=by
 obtain ⟨hreal,hcalls⟩:=(callI_sound postN hX tabR isGI.tree isGI.natR isGI.post mixed).2 (.fn f) args [] (.ret r) [] h
 refine fun fx W vs hfx hG ha=> ?_
 have up: ∀ {d v},R (bare fx) W d v→R (cold Tryz.prog fx) W d v:=fun hr=>R.mono (ρ:=bare fx) (ρ':=cold Tryz.prog fx) (fun i v p h=>by simp [bare] at h) (fun _ h=>h) (fun _ _=>rfl) hr
 refine Calls.mono (hcalls (cold Tryz.prog fx) W vs (cold_rel hfx) (fun g cs hg=>⟨up (hG g cs hg).1,(hG g cs hg).2⟩) rfl ⟨ha.1,fun j x hx=>up (ha.2 j x hx)⟩) fun en w he=> ?_
 obtain ⟨ρ1,L,hR1,hrr⟩:=he
 have hs:strip 16 [] r=some r:=by simp [strip,hr]
 cases en with
 |returned v=>
  refine ⟨lent ρ1 (leads 16 [] r),v,rfl,fun b hb=> .inl (L.fix b hb),fun b hb=> ?_,fun b hb=>L.own b hb (fun i v p h=>by simp [cold] at h),L.size,L.os,L.tape,L.output, ?_⟩
  ·rcases hb with hb| ⟨i,v,p,_,hp,rfl⟩
   ·rcases L.fixnew b hb with h| ⟨j,u,q,hq,_⟩ |hge
    ·exact .inl h
    ·simp [cold] at hq
    ·exact .inr ⟨hge,hR1.fixlt b hb⟩
   ·rcases L.new i v p hp with ⟨j,u,q,hq,_⟩ |hge
    ·simp [cold] at hq
    ·exact .inr ⟨hge,(hR1.blk i v p hp).1⟩
  ·exact strip_sound hR1 (leads 16 [] r) 16 16 (Nat.le_refl _) r r v hrr hs fun i hi=>hi
 |_=>exact hrr.elim
def RowIs (σ:St) (r sz:Nat) (es:List D):Prop:= ∃since,since≤es.length∧(σ[r]? =some (.row sz es since)∨σ[r]? =some (.fro sz es since))
theorem freeze_get (l:List Nat) (σ:St) (j:Nat): (freeze l σ)[j]? =(σ[j]?).map fun o=>if l.contains j then o.freeze else o:=by
 simp only [freeze,List.getElem?_map,List.getElem?_zipIdx]
 cases σ[j]? <;>simp
theorem RowIs.freeze {l:List Nat} {σ:St} {r sz:Nat} {es:List D} (h:RowIs σ r sz es):RowIs (AI.freeze l σ) r sz es:=by
 obtain ⟨s,hs,h⟩:=h
 refine ⟨s,hs, ?_⟩
 rw [freeze_get]
 rcases h with h|h
 ·rw [h]
  by_cases hc:l.contains r
  ·right;simp only [Option.map_some,hc,if_true];rfl
  ·left;simp only [Option.map_some,if_neg hc]
 ·right
  rw [h]
  simp [Obj.freeze]
end Go.AI
namespace Go.AI
open Go Go.Proofs Go.Lx
end Go.AI
namespace Go.AI
open Go Go.Proofs Go.Lx
set_option maxRecDepth 100000
def Prg.conOf (p:Prg) (s:Bs):Option (Dat × Con):=match findConL s p.data 0 with
 |some (i,k)=>(p.data[i]?).bind fun d=>(d.cons[k]?).map fun c=>(d,c)
 |none=>none
def conErr (p:Prg) (s:Bs) (n:Nat):Int:=match p.conOf s with
 |none=>6
 |some (_,c)=>if c.args.length=n then 0 else 7
mutual
theorem D.eqb_tree: ∀ (d:D),d.tree=true→d.eqb d=true
 | .bool b,_=>by simp [D.eqb]
 | .int k n,_=>by simp [D.eqb]
 | .str s,_=>by simp [D.eqb]
 | .nilptr,_| .empty,_| .nilmap,_| .nilfunc,_| .niliface,_=>rfl
 | .slice es,h| .agg es,h| .tuple es,h=>by simp only [D.tree,D.eqb] at*;exact eqbL_tree es h
 | .func f a b,h=>by
  simp only [D.tree,Bool.and_eq_true] at h
  simp only [D.eqb,Bool.and_eq_true]
  exact ⟨⟨by simp,eqbL_tree a h.1⟩,eqbL_tree b h.2⟩
 | .iface t v,h=>by
  simp only [D.tree] at h
  simp only [D.eqb,Bool.and_eq_true]
  exact ⟨by simp,D.eqb_tree v h⟩
 | .ptr _ _,h| .rptr _ _ _ _,h| .tptr _,h| .arr _ _ _ _,h| .map _,h| .yield _,h| .undef,h| .any,h=>by simp [D.tree] at h
theorem eqbL_tree: ∀ (l:List D),treeL l=true→eqbL l l=true
 | [],_=>rfl
 |d::r,h=>by
  simp only [treeL,Bool.and_eq_true] at h
  simp only [eqbL,Bool.and_eq_true]
  exact ⟨D.eqb_tree d h.1,eqbL_tree r h.2⟩
end
def all2 {α β:Type} (P:α→β→Bool):List α→List β→Bool
 | [],[]=>true
 |a::r,b::s=>P a b&&all2 P r s
 |_,_=>false
def matchErr (p:Prg) (arms:List Arm):Int:=match arms with
 | []=>9
 |a::_=>match p.conOf a.op with
  |none=>6
  |some (d,_)=>if all2 (fun (c:Con) (a:Arm)=>c.name==a.op) d.cons arms then (if all2 (fun (c:Con) (a:Arm)=>decide (c.args.length=a.names.length)) d.cons arms then 0 else 7) else 9
theorem q34:qI 34=false:=rfl
theorem x34:XB 34=false:=rfl
def opErr (p:Prg) (s:Bs):Int:=match findOpL s p.effects 0 with
 |some _=>0
 |none=>if hasS [nPrint,nRead] s then 0 else 6
def useE (p:Prg) (s:Bs):Int:=if s==nIO then 5 else findEffE p.effects s
def usingErr (p:Prg) (names:List Bs):Int:=firstE (names.tail.map (useE p))
def handlerErr (p:Prg) (s:Bs) (arms:List Arm):Int:=
 if findEffE p.effects s=0 then (if all2 (fun (o:Bs) (a:Arm)=>o==a.op) (opNames p (findEffI p.effects s)) arms.tail then 0 else 9) else findEffE p.effects s
end Go.AI
