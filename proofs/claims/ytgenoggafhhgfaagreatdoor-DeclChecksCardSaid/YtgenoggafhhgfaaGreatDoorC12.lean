/- Texts of the proof: what functions of the program compute, step by step. No conditions of its own. -/
import Derived.Test.YtgenoggafhhgfaaGreatDoorC11
import Derived.Test.YtgenoggafhhgfaaGreatDoorC5
set_option linter.unusedVariables false
set_option linter.unusedSimpArgs false
namespace Go.AI
open Go Go.Proofs Go.Lx
set_option maxRecDepth 100000
def Ex.chk (e:Ex):Int:=if (e.take 1 (3000,0)).1 then e.e else 3
set_option maxHeartbeats 1000000 in
theorem c82 (e:Ex) (hok:e.ok) (σ:St):CI (.fn 82) [.agg e.cs] σ=some (.ret (.tuple [.agg [.int .i64 (e.take 1 (3000,0)).2.1, .int .i64 (e.take 1 (3000,0)).2.2], .int .i64 e.chk]),σ):=by
 have h130:=fun i σ h=>c130 e hok 1 (3000,0) i σ ⟨by simp,by simp⟩ (by omega) (by omega) h
 have h131:=fun σ=>c131 e hok σ
 have q131:qI 131=false:=rfl
 have x131:XB 131=false:=rfl
 obtain ⟨τ,hτ⟩: ∃τ,bodyI CI XB GI af82 [.agg e.cs] σ=some (.ret (.tuple [.agg [.int .i64 (e.take 1 (3000,0)).2.1, .int .i64 (e.take 1 (3000,0)).2.2], .int .i64 e.chk]),σ++τ):=by
  unfold Ex.chk
  have hall:=e.cs_all
  have hcl:=e.cs_len
  have hct:=e.cs_take
  have hee:eqbL e.cs e.cs=true:=eqbL_tree _ e.plain.1
  have h:=h130 (σ.length+2) (σ++[.box e.cs, .box z2, .box [.int .i64 3000, .int .i64 0]]) (by rw [getA];rfl)
  rw [setA] at h
  generalize e.take 1 (3000,0)=q at*
  simp only [mBox,List.set] at h
  refine ⟨[.box e.cs, .box [.int .i64 q.2.1, .int .i64 q.2.2], .box [.int .i64 q.2.1, .int .i64 q.2.2]], ?_⟩
  generalize e.cs=ec at*
  simp only [z2] at h
  cases hq:q.1
  ·rw [hq] at h
   simp [bodyI,af82,getA0,getA,setA,setA0,hall,hcl,hct,fillD,putCells,h]
  ·rw [hq] at h
   simp [bodyI,af82,getA0,getA,setA,setA0,hall,hcl,hct,hee,fillD,putCells,h,h131,q131,x131,Nat.testBit_eq_decide_div_mod_eq]
 exact CI_tree tab82 hτ rfl rfl
theorem c80 (e:Ex) (hok:e.ok) (σ:St):CI (.fn 80) [.agg e.cs] σ=some (.ret (.int .i64 e.chk),σ):=by
 have h82:=fun σ=>c82 e hok σ
 have hτ:bodyI CI XB GI af80 [.agg e.cs] σ=some (.ret (.int .i64 e.chk),σ++[.box e.cs, .box [.int .i64 (e.take 1 (3000,0)).2.1, .int .i64 (e.take 1 (3000,0)).2.2]]):=by
  have hall:=e.cs_all
  have hcl:=e.cs_len
  have hct:=e.cs_take
  generalize e.cs=ec at*
  generalize (e.take 1 (3000,0)).2=q at*
  simp [bodyI,af80,getA0,getA,setA,hall,hcl,hct,putCells,h82]
 exact CI_tree tab80 hτ rfl rfl
theorem Ex.chk_e {e:Ex} (h:e.chk=0):e.e=0∧(e.take 1 (3000,0)).1=true:=by
 unfold Ex.chk at h
 split at h
 ·rename_i ht;exact ⟨h,ht⟩
 ·cases h
def Prg.exprE (p:Prg) (x:Ex):Int:=orE p.decls (orE x.chk (x.ordE p))
theorem c98 (p:Prg) (hok:p.ok) (x:Ex) (hx:x.ok) (a b:Nat) (σ:St) (ha:σ[a]? =some (.box p.cs)) (hb:σ[b]? =some (.box x.cs)):CI (.fn 98) [.ptr a 0, .ptr b 0] σ=some (outR (p.exprE x),σ):=by
 obtain ⟨τ1,h55⟩:=c55 p hok.dl hok.d σ
 have hT:=lookS_T p σ τ1
 have e1:lookS p σ p.cm++τ1=σ++([.box p.cs, .map (kvs p.cm), .box (p.cs++[.map (σ.length+1)])]++τ1):=by unfold lookS;rw [List.append_assoc]
 have hb2: (lookS p σ p.cm++τ1)[b]? =some (.box x.cs):=by rw [e1];exact getO hb
 have h56:=c56 p p.cm hok _ _ hT
 have h80:=fun σ=>c80 x hx σ
 have h96:=fun h=>c96 p hok (σ.length+2) (lookS p σ p.cm++τ1) x hx h hT
 have hpl:=p.cs_len
 have hpt:=p.cs_take
 have hcl:=x.cs_len
 have hct:=x.cs_take
 refine CI_out tab98 (τ:=[.box p.cs, .map (kvs p.cm), .box (p.cs++[.map (σ.length+1)])]++τ1) ?_
 rw [←e1]
 generalize lookS p σ p.cm++τ1=σ2 at*
 clear e1
 unfold Prg.exprE orE
 generalize p.cs=pc at*
 generalize x.cs=xc at*
 by_cases h1:p.decls=0
 ·rw [h1,outR_zero] at h56
  by_cases h2:x.chk=0
  ·have h96:=h96 (Ex.chk_e h2).1
   rw [h2] at h80
   rw [if_pos h1,if_pos h2]
   generalize x.ordE p=e at*
   by_cases h3:e=0
   ·subst h3
    rw [outR_zero] at h96
    simp [bodyI,af98,ha,hb2,hpl,hpt,hcl,hct,h55,h56,h80,h96,c59,outR_zero]
   ·rw [outR_ne h3] at h96
    simp [bodyI,af98,ha,hb2,hpl,hpt,hcl,hct,h55,h56,h80,h96,c59,outR_zero,outR_ne h3]
  ·rw [if_pos h1,if_neg h2]
   generalize x.chk=e at*
   simp [bodyI,af98,ha,hb2,hpl,hpt,hcl,hct,h55,h56,h80,c59,outR_ne h2]
 ·rw [if_neg h1]
  rw [outR_ne h1] at h56
  simp [bodyI,af98,ha,hpl,hpt,h55,h56,outR_ne h1]
theorem c38 (p:Prg) (hok:p.ok) (x:Ex) (hx:x.ok) (σ:St):CI (.fn 38) [.agg p.cs, .agg x.cs] σ=some (.ret (.int .i64 (p.exprE x)),σ):=by
 have h98:=c98 p hok x hx σ.length (σ.length+1) (σ++[.box p.cs, .box x.cs]++[.box [.int .i64 0]]) (by rw [List.append_assoc];exact getA0) (by rw [List.append_assoc];exact getA)
 have h54:=c54 98 [] [.ptr σ.length 0, .ptr (σ.length+1) 0] _ (σ++[Obj.box p.cs,Obj.box x.cs]) h98
 have hτ:bodyI CI XB GI af38 [.agg p.cs, .agg x.cs] σ=some (.ret (.int .i64 (p.exprE x)),σ++[.box p.cs, .box x.cs]):=by
  have h1:=p.cs_all
  have h2:=x.cs_all
  generalize p.exprE x=e at*
  generalize p.cs=pc at*
  generalize x.cs=xc at*
  simp [bodyI,af38,h1,h2,h54]
 exact CI_tree tab38 hτ rfl rfl
def Prg.chk (p:Prg):Int:=orE p.syn (orE p.decls (orE (firstE (p.defs.map fun d=>d.body.ordE p)) (p.main.ordE p)))
theorem Prg.syn_e {p:Prg} (h:p.syn=0): (∀d ∈ p.defs,d.body.e=0)∧p.main.e=0:=by
 obtain ⟨_,_,_,_,_,_,h7,h8⟩:=Prg.syn_data h
 refine ⟨fun d hd=> ?_,h8⟩
 have:=h7 d hd
 unfold dfnE at this
 split at this
 ·exact this
 ·cases this
set_option maxHeartbeats 1000000 in
theorem c94 (p:Prg) (hok:p.ok) (a:Nat) (σ:St) (ha:σ[a]? =some (.box p.cs)):CI (.fn 94) [.ptr a 0] σ=some (outR p.chk,σ):=by
 obtain ⟨τ1,h55⟩:=c55 p hok.dl hok.d σ
 have hT:=lookS_T p σ τ1
 have e1:lookS p σ p.cm++τ1=σ++([.box p.cs, .map (kvs p.cm), .box (p.cs++[.map (σ.length+1)])]++τ1):=by unfold lookS;rw [List.append_assoc]
 have ha2: (lookS p σ p.cm++τ1)[a]? =some (.box p.cs):=by rw [e1];exact getO ha
 have h56:=c56 p p.cm hok _ _ hT
 have h95:=fun σ=>c95 p hok σ
 have hpl:=p.cs_len
 have hpt:=p.cs_take
 obtain ⟨τ,hτ⟩: ∃τ,bodyI CI XB GI af94 [.ptr a 0] σ=some (outR p.chk,σ++τ):=by
  unfold Prg.chk orE
  by_cases h0:p.syn=0
  ·rw [if_pos h0]
   obtain ⟨hd0,hm0⟩:=Prg.syn_e h0
   rw [h0] at h95
   by_cases h1:p.decls=0
   ·rw [if_pos h1]
    rw [h1,outR_zero] at h56
    have hfl:=hok.fl
    obtain ⟨τ2,ev,hit⟩:=loop_seekP (f:=evalI CI XB GI 27 false lp94_0) (σ:=lookS p σ p.cm++τ1) p.defs (fun i=>[(0, .ptr a 0),(1, .ptr (σ.length+2) 0),(12, .slice (p.defs.map Dfn.d)),(13, .int .i64 p.defs.length),(14, .int .i64 (i:Nat))]) (fun d=>d.body.ordE p) (fun e=> .panic (refD e))
     (.exit 0,[(0, .ptr a 0),(1, .ptr (σ.length+2) 0),(12, .slice (p.defs.map Dfn.d)),(13, .int .i64 p.defs.length),(14, .int .i64 p.defs.length),(15, .bool false)]) (by simp) (by simp)
     (fun i hi τ=>by
       have hw:=wrap_nat (n:=i) (by unfold maxL at hfl;omega)
       have h96:=c96 p hok (σ.length+2) (lookS p σ p.cm++τ1++τ++[Obj.box p.defs[i].cs]) p.defs[i].body (hok.f _ (List.getElem_mem hi)) (hd0 _ (List.getElem_mem hi)) hT.app.app
       have hget: (p.defs.map Dfn.d)[i]? =some (Dfn.d p.defs[i]):=by simp [hi]
       have hlen: (p.defs.map Dfn.d).length=p.defs.length:=by simp
       refine ⟨τ++[.box p.defs[i].cs],[(0, .ptr a 0),(1, .ptr (σ.length+2) 0),(3, .ptr (lookS p σ p.cm++τ1++τ).length 0),(12, .slice (p.defs.map Dfn.d)),(13, .int .i64 p.defs.length),(14, .int .i64 (i:Nat)),(19, .ptr (lookS p σ p.cm++τ1++τ).length 1),(20, .agg p.defs[i].body.cs)], ?_⟩
       rw [←List.append_assoc]
       generalize lookS p σ p.cm++τ1++τ=σ3 at*
       generalize p.defs.map Dfn.d=ld at*
       have h2:i<ld.length:=by omega
       have h3:ld[i]=Dfn.d p.defs[i]:=by rw [List.getElem?_eq_getElem h2] at hget;exact Option.some.inj hget
       generalize p.defs[i]=d at*
       rcases d with ⟨dn,body⟩
       have hx1:=body.cs_all
       have hx2:=body.cs_len
       have hx3:=body.cs_take
       have hx4:body.cs.drop 7=[]:=List.drop_eq_nil_of_le (by simp)
       simp only [Dfn.d,Dfn.cs] at*
       generalize body.ordE p=e at*
       generalize body.cs=bc at*
       by_cases he:e=0
       ·rw [if_pos he]
        subst he
        rw [outR_zero] at h96
        simp [lp94_0,hi,hw,h2,h3,getA0,setA0,hx1,hx2,hx3,hx4,putCells,h96]
       ·rw [if_neg he]
        rw [outR_ne he] at h96
        simp [lp94_0,hi,hw,h2,h3,getA0,setA0,hx1,hx2,hx3,hx4,putCells,h96]) (fun τ=>⟨τ,by generalize p.defs.map Dfn.d=ld at*;simp [lp94_0]⟩) []
    rw [List.append_nil,Int.natCast_zero] at hit
    have hh:p.cs[2]? =some (.slice (p.defs.map Dfn.d)):=by rw [p.cs_eq];rfl
    have hh2: ∀h:2<p.cs.length,p.cs[2]= .slice (p.defs.map Dfn.d):=fun h=>by rw [List.getElem?_eq_getElem h] at hh;exact Option.some.inj hh
    have hd3: (p.cs.drop 3).take 7=p.main.cs:=by rw [p.cs_eq];simp
    have hd3':p.cs.drop 3=p.main.cs:=by rw [p.cs_eq];simp
    have hm1:=p.main.cs_len
    have hm2:=p.main.cs_take
    have hlen: (p.defs.map Dfn.d).length=p.defs.length:=by simp
    refine ⟨[.box p.cs, .map (kvs p.cm), .box (p.cs++[.map (σ.length+1)])]++τ1++τ2, ?_⟩
    have e2:σ++([.box p.cs, .map (kvs p.cm), .box (p.cs++[.map (σ.length+1)])]++τ1++τ2)=lookS p σ p.cm++τ1++τ2:=by rw [e1];simp only [List.append_assoc]
    rw [e2]
    have ha3:=getO (τ:=τ2) ha2
    have h96:=c96 p hok (σ.length+2) (lookS p σ p.cm++τ1++τ2) p.main hok.m hm0 hT.app
    generalize lookS p σ p.cm++τ1++τ2=σ3 at*
    generalize lookS p σ p.cm++τ1=σ2 at*
    clear e1 e2
    generalize p.defs.map Dfn.d=ld at*
    generalize firstE (p.defs.map fun d=>d.body.ordE p)=e1 at*
    generalize p.main.ordE p=e2 at*
    generalize p.main.cs=mc at*
    generalize p.cs=pc at*
    by_cases hf:e1=0
    ·rw [if_pos hf] at hit ⊢
     by_cases hm:e2=0
     ·subst hm
      rw [outR_zero] at h96
      simp [bodyI,af94,ha,ha2,ha3,hpl,hpt,hh2,hd3,hd3',hm1,hm2,hlen,h95,h55,h56,h96,hit,c59,outR_zero]
     ·rw [outR_ne hm] at h96
      simp [bodyI,af94,ha,ha2,ha3,hpl,hpt,hh2,hd3,hd3',hm1,hm2,hlen,h95,h55,h56,h96,hit,c59,outR_zero,outR_ne hm]
    ·rw [if_neg hf] at hit ⊢
     simp [bodyI,af94,ha,ha2,ha3,hpl,hpt,hh2,hlen,h95,h55,h56,hit,c59,outR_zero,outR_ne hf]
   ·rw [if_neg h1]
    refine ⟨[.box p.cs, .map (kvs p.cm), .box (p.cs++[.map (σ.length+1)])]++τ1, ?_⟩
    rw [←e1]
    rw [outR_ne h1] at h56
    generalize lookS p σ p.cm++τ1=σ2 at*
    clear e1
    generalize p.cs=pc at*
    simp [bodyI,af94,ha,hpl,hpt,h95,h55,h56,c59,outR_zero,outR_ne h1]
  ·rw [if_neg h0]
   refine ⟨[], ?_⟩
   generalize p.cs=pc at*
   simp [bodyI,af94,ha,hpl,hpt,h95,c59,outR_ne h0]
 exact CI_out tab94 hτ
theorem c36 (p:Prg) (hok:p.ok) (σ:St):CI (.fn 36) [.agg p.cs] σ=some (.ret (.int .i64 p.chk),σ):=by
 have h94:=c94 p hok σ.length (σ++[.box p.cs]++[.box [.int .i64 0]]) (by rw [List.append_assoc];exact getA0)
 have h54:=c54 94 [] [.ptr σ.length 0] _ (σ++[Obj.box p.cs]) h94
 have hτ:bodyI CI XB GI af36 [.agg p.cs] σ=some (.ret (.int .i64 p.chk),σ++[.box p.cs]):=by
  have h1:=p.cs_all
  generalize p.chk=e at*
  generalize p.cs=pc at*
  simp [bodyI,af36,h1,h54]
 exact CI_tree tab36 hτ rfl rfl
theorem c123 (p:Prg) (hdl:p.data.length≤maxL) (s:Bs) (σ:St):CI (.fn 123) [.agg p.cs, .str s] σ=some (.ret (.int .i64 (idxOf (fun x:Dat=>x.name==s) p.data)),σ):=by
 have hall:=p.cs_all
 have hh:p.cs.head?=some (.slice (p.data.map Dat.d)):=by rw [p.cs_eq];rfl
 have hlen: (p.data.map Dat.d).length=p.data.length:=by simp
 have hq: (σ++[Obj.box p.cs])[σ.length]? =some (.box p.cs):=getA0
 have hit:=loop_find (f:=evalI CI XB GI 22 false lp123_0) (σ:=σ++[.box p.cs]) p.data (fun i=>[(1, .str s),(2, .ptr σ.length 0),(5, .int .i64 (i:Nat))]) (fun x:Dat=>x.name==s) (fun i=>(.ret,[(4, .int .i64 (i:Nat))],σ++[.box p.cs])) (.exit 0,[(1, .str s),(2, .ptr σ.length 0),(5, .int .i64 p.data.length),(10, .bool false)],σ++[.box p.cs]) (by simp) (by simp)
  (fun i hi=>by
    have hw:=wrap_nat (n:=i) (by unfold maxL at hdl;omega)
    have hget: (p.data.map Dat.d)[i]? =some (Dat.d p.data[i]):=by simp [hi]
    generalize σ++[.box p.cs]=σ1 at*
    generalize p.data.map Dat.d=dd at*
    have h2:i<dd.length:=by omega
    have h3:dd[i]=Dat.d p.data[i]:=by rw [List.getElem?_eq_getElem h2] at hget;exact Option.some.inj hget
    generalize p.data[i]=d at*
    rcases d with ⟨dn,dp,dc⟩
    simp only [Dat.d,Dat.cs,slD] at*
    generalize dp.map D.str=pd at*
    generalize dc.map Con.d=cd at*
    generalize p.cs=pc at*
    cases hb:dn==s<;>simp [lp123_0,hq,hh,hi,hw,hlen,h2,h3,hb]) (by
    generalize σ++[.box p.cs]=σ1 at*
    generalize p.data.map Dat.d=dd at*
    generalize p.cs=pc at*
    simp [lp123_0,hq,hh,hlen])
 rw [Int.natCast_zero] at hit
 refine CI_tree tab123 (d:= .int .i64 (idxOf (fun x:Dat=>x.name==s) p.data)) (τ:=[.box p.cs]) ?_ rfl rfl
 unfold idxOf
 have hb: ∀x,bodyI CI XB GI af123 [.agg p.cs, .str s] σ=x→bodyI CI XB GI af123 [.agg p.cs, .str s] σ=x:=fun _ h=>h
 generalize p.cs=pc at*
 cases hf:p.data.findIdx? (fun x:Dat=>x.name==s)<;>(rw [hf] at hit;simp [bodyI,af123,hall,hit])
theorem c35 (p:Prg) (hel:p.effects.length≤maxL) (s:Bs) (σ:St):CI (.fn 35) [.agg p.cs, .str s] σ=some (.ret (.tuple [.int .i64 (findEffI p.effects s), .int .i64 (findEffE p.effects s)]),σ):=by
 have hall:=p.cs_all
 have hpl:=p.cs_len
 have hh:p.cs[1]? =some (.slice (p.effects.map Eff.d)):=by rw [p.cs_eq];rfl
 have hlen: (p.effects.map Eff.d).length=p.effects.length:=by simp
 have hq: (σ++[Obj.box p.cs])[σ.length]? =some (.box p.cs):=getA0
 have hit:=loop_find (f:=evalI CI XB GI 25 false lp35_0) (σ:=σ++[.box p.cs]) p.effects (fun i=>[(1, .str s),(2, .ptr σ.length 0),(6, .int .i64 (i:Nat))]) (fun x:Eff=>x.name==s) (fun i=>(.ret,[(4, .int .i64 (i:Nat)),(5, .int .i64 0)],σ++[.box p.cs])) (.exit 0,[(1, .str s),(2, .ptr σ.length 0),(6, .int .i64 p.effects.length),(11, .bool false)],σ++[.box p.cs]) (by simp) (by simp)
  (fun i hi=>by
    have hw:=wrap_nat (n:=i) (by unfold maxL at hel;omega)
    have hget: (p.effects.map Eff.d)[i]? =some (Eff.d p.effects[i]):=by simp [hi]
    generalize σ++[.box p.cs]=σ1 at*
    generalize p.effects.map Eff.d=dd at*
    have h2:i<dd.length:=by omega
    have h3:dd[i]=Eff.d p.effects[i]:=by rw [List.getElem?_eq_getElem h2] at hget;exact Option.some.inj hget
    generalize p.effects[i]=d at*
    rcases d with ⟨dn,ops⟩
    simp only [Eff.d,Eff.cs] at*
    generalize ops.map Opn.d=cd at*
    generalize p.cs=pc at*
    have hh2: ∀h:1<pc.length,pc[1]= .slice dd:=fun h=>by rw [List.getElem?_eq_getElem h] at hh;exact Option.some.inj hh
    cases hb:dn==s<;>simp [lp35_0,hq,hpl,hh2,hi,hw,hlen,h2,h3,hb]) (by
    generalize σ++[.box p.cs]=σ1 at*
    generalize p.effects.map Eff.d=dd at*
    generalize p.cs=pc at*
    have hh2: ∀h:1<pc.length,pc[1]= .slice dd:=fun h=>by rw [List.getElem?_eq_getElem h] at hh;exact Option.some.inj hh
    simp [lp35_0,hq,hpl,hh2,hlen])
 rw [Int.natCast_zero] at hit
 refine CI_tree tab35 (d:= .tuple [.int .i64 (findEffI p.effects s), .int .i64 (findEffE p.effects s)]) (τ:=[.box p.cs]) ?_ rfl rfl
 unfold findEffI findEffE idxOf nIO
 generalize p.cs=pc at*
 cases hf:p.effects.findIdx? (fun x:Eff=>x.name==s) with
 |some k=>
  rw [hf] at hit
  have: (0:Int)≤(k:Int):=by omega
  simp [bodyI,af35,hall,hit]
 |none=>
  rw [hf] at hit
  cases hs:s==[73,79]<;>simp [bodyI,af35,hall,hit,hs]
theorem it31_0 (p:Prg) (hok:p.ok) (s:Bs) (i:Nat) (hi:i<p.data.length) (q:Nat) (σ:St) (hq:σ[q]? =some (.box p.cs)):
 iterI (evalI CI XB GI 41 false lp31_0) [(1, .str s),(2, .ptr q 0),(7, .int .i64 i),(8, .int .i64 0)] σ=
  some (match p.data[i].cons.findIdx? (fun c=>c.name==s) with|some k=>(.ret,[(4, .int .i64 i),(5, .int .i64 (k:Nat)),(6, .int .i64 0)],σ) |none=>(.exit 2,[(1, .str s),(2, .ptr q 0),(7, .int .i64 i),(8, .int .i64 p.data[i].cons.length),(24, .bool false)],σ)):=by
 have hx:=hok.d _ (List.getElem_mem hi)
 have hh:p.cs.head?=some (.slice (p.data.map Dat.d)):=by rw [p.cs_eq];rfl
 have hget: (p.data.map Dat.d)[i]? =some (Dat.d p.data[i]):=by simp [hi]
 have hlen: (p.data.map Dat.d).length=p.data.length:=by simp
 generalize p.data.map Dat.d=dd at*
 have h2:i<dd.length:=by omega
 have h3:dd[i]=Dat.d p.data[i]:=by rw [List.getElem?_eq_getElem h2] at hget;exact Option.some.inj hget
 generalize p.data[i]=d at*
 rcases d with ⟨dn,params,cons⟩
 obtain ⟨_,hcl,_⟩:=hx
 simp only [Dat.d,Dat.cs,slD] at*
 have hcdl: (cons.map Con.d).length=cons.length:=by simp
 have hcg: ∀k (hk:k<cons.length),(cons.map Con.d)[k]? =some (Con.d cons[k]):=fun k hk=>by simp [hk]
 generalize cons.map Con.d=cd at*
 generalize params.map D.str=pd at*
 generalize p.cs=pc at*
 have:=loop_find (f:=evalI CI XB GI 41 false lp31_0) (σ:=σ) cons (fun k=>[(1, .str s),(2, .ptr q 0),(7, .int .i64 i),(8, .int .i64 (k:Nat))]) (fun c=>c.name==s) (fun k=>(.ret,[(4, .int .i64 i),(5, .int .i64 (k:Nat)),(6, .int .i64 0)],σ)) (.exit 2,[(1, .str s),(2, .ptr q 0),(7, .int .i64 i),(8, .int .i64 cons.length),(24, .bool false)],σ) (by simp) (by simp)
  (fun k hk=>by
    have hw:=wrap_nat (n:=k) (by unfold maxL at hcl;omega)
    have hcg:=hcg k hk
    have h4:k<cd.length:=by omega
    have h5:cd[k]=Con.d cons[k]:=by rw [List.getElem?_eq_getElem h4] at hcg;exact Option.some.inj hcg
    generalize cons[k]=c at*
    rcases c with ⟨cn,args⟩
    simp only [Con.d,Con.cs] at*
    generalize tysD args=ad at*
    cases hb:cn==s<;>simp [lp31_0,hq,hh,h2,h3,h4,h5,hk,hw,hcdl,hb])
  (by simp [lp31_0,hq,hh,h2,h3,hcdl])
 rw [Int.natCast_zero] at this
 exact this
theorem c31 (p:Prg) (hok:p.ok) (s:Bs) (σ:St):CI (.fn 31) [.agg p.cs, .str s] σ=some (.ret (conD (findConL s p.data 0)),σ):=by
 obtain ⟨τ,hτ⟩: ∃τ,bodyI CI XB GI af31 [.agg p.cs, .str s] σ=some (.ret (conD (findConL s p.data 0)),σ++τ):=by
  have hdl:=hok.dl
  have hall:=p.cs_all
  have hh:p.cs.head?=some (.slice (p.data.map Dat.d)):=by rw [p.cs_eq];rfl
  have hlen: (p.data.map Dat.d).length=p.data.length:=by simp
  obtain ⟨τ,hit⟩:=loop_seekM (f:=evalI CI XB GI 41 false lp31_1) (σ:=σ++[.box p.cs]) p.data (fun i=>[(1, .str s),(2, .ptr σ.length 0),(7, .int .i64 (i:Nat))])
   (fun i (d:Dat)=>(d.cons.findIdx? (fun c=>c.name==s)).map fun k=>(i,k)) (fun x=>(.ret,[(4, .int .i64 x.1),(5, .int .i64 x.2),(6, .int .i64 0)])) (.exit 0,[(1, .str s),(2, .ptr σ.length 0),(7, .int .i64 p.data.length),(13, .bool false)]) (by simp) (by simp)
   (fun i hi τ=>by
     have hw:=wrap_nat (n:=i) (by unfold maxL at hdl;omega)
     have hq: (σ++[Obj.box p.cs]++τ)[σ.length]? =some (.box p.cs):=by rw [List.append_assoc];exact getA0
     have h0:=it31_0 p hok s i hi σ.length _ hq
     refine ⟨τ, ?_⟩
     generalize σ++[.box p.cs]++τ=σ1 at*
     generalize p.data.map Dat.d=dd at*
     generalize p.cs=pc at*
     cases hf:p.data[i].cons.findIdx? (fun c=>c.name==s) with
     |some k=>
      rw [hf] at h0
      simp [lp31_1,hq,hh,hi,hw,hlen,h0]
     |none=>
      rw [hf] at h0
      simp [lp31_1,hq,hh,hi,hw,hlen,h0]) (fun τ=>⟨τ,by
     have hq: (σ++[Obj.box p.cs]++τ)[σ.length]? =some (.box p.cs):=by rw [List.append_assoc];exact getA0
     generalize σ++[.box p.cs]++τ=σ1 at*
     generalize p.data.map Dat.d=dd at*
     generalize p.cs=pc at*
     simp [lp31_1,hq,hh,hlen]⟩) []
  rw [seekM_con,List.append_nil,Int.natCast_zero] at hit
  refine ⟨[.box p.cs]++τ, ?_⟩
  rw [←List.append_assoc]
  generalize hσ1:σ++[.box p.cs]++τ=σ1 at*
  generalize p.cs=pc at*
  cases hf:findConL s p.data 0 with
  |some x=>
   rw [hf] at hit
   simp [bodyI,af31,hall,hit,conD]
  |none=>
   rw [hf] at hit
   simp [bodyI,af31,hall,hit,conD]
 exact CI_tree tab31 hτ (by unfold conD;split<;>rfl) (by unfold conD;split<;>rfl)
def tyI:Ty:= .mk 2 0 [] [] [] 0
def tyU:Ty:= .mk 4 0 [] [] [] 0
def ioE:Eff:=⟨nIO,[⟨nPrint,tyI,tyU,true⟩,⟨nRead,tyU,tyI,true⟩]⟩
def z6i (k:Int):List D:=[.int .i64 k, .int .i64 0, .str [], .empty, .empty, .int .i64 0]
theorem c91 (σ:St):CI (.fn 91) [] σ=some (.ret (.agg ioE.cs),σ):=by
 refine CI_tree tab91 (d:= .agg [.str nIO, .slice [.agg (.str nPrint::(z6i 2++z6i 4++[.bool true])), .agg (.str nRead::(z6i 4++z6i 2++[.bool true]))]]) (τ:=[.box [.str nIO, .slice [.agg (.str nPrint::(z6i 2++z6i 4++[.bool true])), .agg (.str nRead::(z6i 4++z6i 2++[.bool true]))]], .box (z6i 2), .box (z6i 4)]) ?_ rfl rfl
 simp [bodyI,af91,z6i,nIO,nPrint,nRead,getA0,getA,setA,setA0,fillD,fillRow,putCells]
def opStepI (n:Nat) (s:Bs) (i:Nat) (e:Eff):Option (Int × Nat):=((e.ops.map Opn.name).findIdx? (· ==s)).map fun k=>(if i<n then (i:Int) else -1,k)
def opRes:Option (Int × Nat)→D
 |some (i,k)=> .tuple [.int .i64 i, .int .i64 k, .int .i64 0]
 |none=> .tuple [.int .i64 0, .int .i64 0, .int .i64 6]
theorem opRes_eq (n:Nat) (s:Bs): ∀ (l:List Eff) (i:Nat),i+l.length=n→opRes (seekM (opStepI n s) (l++[ioE]) i)=opD s (findOpL s l i)
 | [],i,hi=>by
  simp only [List.nil_append,seekM,findOpL,opD,opStepI]
  have: ¬i<n:=by simp at hi;omega
  simp only [if_neg this]
  have e:ioE.ops.map Opn.name=[nPrint,nRead]:=rfl
  rw [e]
  cases [nPrint,nRead].findIdx? (· ==s)<;>rfl
 |e::r,i,hi=>by
  have:i<n:=by simp at hi;omega
  simp only [List.cons_append,seekM,findOpL,opStepI,if_pos this]
  cases (e.ops.map Opn.name).findIdx? (· ==s) with
  |some k=>rfl
  |none=>exact opRes_eq n s r (i+1) (by simp at hi;omega)
theorem it33_0 (e:Eff) (hol:e.ops.length≤maxL) (s:Bs) (d2 d7:D) (at':Int) (q:Nat) (σ:St) (hq:σ[q]? =some (.box e.cs)):
 iterI (evalI CI XB GI 47 false lp33_0) [(1, .str s),(2,d2),(7,d7),(8, .ptr q 0),(9, .int .i64 at'),(10, .int .i64 0)] σ=
  some (match (e.ops.map Opn.name).findIdx? (· ==s) with|some k=>(.ret,[(4, .int .i64 at'),(5, .int .i64 (k:Nat)),(6, .int .i64 0)],σ) |none=>(.exit 2,[(1, .str s),(2,d2),(7,d7),(8, .ptr q 0),(9, .int .i64 at'),(10, .int .i64 e.ops.length),(34, .bool false)],σ)):=by
 rcases e with ⟨en,ops⟩
 rw [findIdx_map]
 simp only at hol ⊢
 simp only [Eff.cs] at hq
 have hcdl: (ops.map Opn.d).length=ops.length:=by simp
 have hcg: ∀k (hk:k<ops.length),(ops.map Opn.d)[k]? =some (Opn.d ops[k]):=fun k hk=>by simp [hk]
 generalize ops.map Opn.d=cd at*
 have:=loop_find (f:=evalI CI XB GI 47 false lp33_0) (σ:=σ) ops (fun k=>[(1, .str s),(2,d2),(7,d7),(8, .ptr q 0),(9, .int .i64 at'),(10, .int .i64 (k:Nat))]) (fun o=>o.name==s) (fun k=>(.ret,[(4, .int .i64 at'),(5, .int .i64 (k:Nat)),(6, .int .i64 0)],σ)) (.exit 2,[(1, .str s),(2,d2),(7,d7),(8, .ptr q 0),(9, .int .i64 at'),(10, .int .i64 ops.length),(34, .bool false)],σ) (by simp) (by simp)
  (fun k hk=>by
    have hw:=wrap_nat (n:=k) (by unfold maxL at hol;omega)
    have hcg:=hcg k hk
    have h4:k<cd.length:=by omega
    have h5:cd[k]=Opn.d ops[k]:=by rw [List.getElem?_eq_getElem h4] at hcg;exact Option.some.inj hcg
    have hol2: (Opn.cs ops[k]).length=14:=by simp [Opn.cs]
    have ho0: (Opn.cs ops[k]).head?=some (.str ops[k].name):=rfl
    simp only [Opn.d] at h5
    generalize ops[k].name=cn at*
    generalize Opn.cs ops[k]=oc at*
    cases hb:cn==s<;>simp [lp33_0,hq,h4,h5,hk,hw,hcdl,hol2,ho0,hb])
  (by simp [lp33_0,hq,hcdl])
 rw [Int.natCast_zero] at this
 exact this
theorem c33 (p:Prg) (hok:p.ok) (s:Bs) (σ:St):CI (.fn 33) [.agg p.cs, .str s] σ=some (.ret (opD s (findOpL s p.effects 0)),σ):=by
 obtain ⟨τ,hτ⟩: ∃τ,bodyI CI XB GI af33 [.agg p.cs, .str s] σ=some (.ret (opD s (findOpL s p.effects 0)),σ++τ):=by
  have hel:=hok.el
  have hall:=p.cs_all
  have hpl:=p.cs_len
  have hh:p.cs[1]? =some (.slice (p.effects.map Eff.d)):=by rw [p.cs_eq];rfl
  have hlen: (p.effects.map Eff.d).length=p.effects.length:=by simp
  have hLl: (p.effects++[ioE]).length=p.effects.length+1:=by simp
  obtain ⟨τ,hit⟩:=loop_seekM (f:=evalI CI XB GI 47 false lp33_1) (σ:=σ++[.box p.cs]) (p.effects++[ioE]) (fun i=>[(1, .str s),(2, .ptr σ.length 0),(7, .int .i64 (i:Nat))])
   (opStepI p.effects.length s) (fun x=>(.ret,[(4, .int .i64 x.1),(5, .int .i64 x.2),(6, .int .i64 0)])) (.exit 0,[(1, .str s),(2, .ptr σ.length 0),(7, .int .i64 (p.effects.length+1:Nat)),(15, .bool false)]) (by simp) (by simp)
   (fun i hi τ=>by
     have hw:=wrap_nat (n:=i) (by unfold maxL at hel;omega)
     have hq: (σ++[Obj.box p.cs]++τ)[σ.length]? =some (.box p.cs):=by rw [List.append_assoc];exact getA0
     have hle: (i:Int)≤p.effects.length:=by omega
     have hle':i≤p.effects.length:=by omega
     have hii:ioE.cs.length=2∧ioE.cs.take 2=ioE.cs∧ioE.cs.drop 2=[]∧ioE.cs.all D.one=true:=⟨rfl,rfl,rfl,rfl⟩
     obtain ⟨i1,i2,i3,i4⟩:=hii
     have h91:=c91
     by_cases hlt:i<p.effects.length
     ·have hLi: (p.effects++[ioE])[i]=p.effects[i]:=by rw [List.getElem_append_left hlt]
      rw [hLi]
      have hx:=hok.e _ (List.getElem_mem hlt)
      have hget: (p.effects.map Eff.d)[i]? =some (Eff.d p.effects[i]):=by simp [hlt]
      have h0:=it33_0 p.effects[i] hx.1 s (.ptr σ.length 0) (.int .i64 i) i (σ++[Obj.box p.cs]++τ).length (σ++[Obj.box p.cs]++τ++[.box p.effects[i].cs]) getA0
      refine ⟨τ++[.box p.effects[i].cs], ?_⟩
      rw [←List.append_assoc]
      unfold opStepI
      rw [if_pos hlt]
      generalize σ++[.box p.cs]++τ=σ1 at*
      generalize p.effects.map Eff.d=dd at*
      have h2:i<dd.length:=by omega
      have h3:dd[i]= .agg p.effects[i].cs:=by rw [List.getElem?_eq_getElem h2] at hget;exact Option.some.inj hget
      have hlt': (i:Int) <p.effects.length:=by omega
      generalize p.effects[i]=e at*
      have e1:e.cs.length=2:=rfl
      have e2:e.cs.take 2=e.cs:=rfl
      have e3:e.cs.drop 2=[]:=rfl
      have e4:e.cs.all D.one=true:=rfl
      generalize ioE.cs=ic at*
      generalize e.cs=ec at*
      generalize p.cs=pc at*
      have hh2: ∀h:1<pc.length,pc[1]= .slice dd:=fun h=>by rw [List.getElem?_eq_getElem h] at hh;exact Option.some.inj hh
      cases hf: (e.ops.map Opn.name).findIdx? (· ==s) with
      |some k=>
       rw [hf] at h0
       simp [lp33_1,hq,hpl,hh2,getO hq,hw,hlen,hle,hle',hlt,hlt',h2,h3,h91,getA0,setA0,i1,i2,i3,i4,e1,e2,e3,e4,putCells,h0]
      |none=>
       rw [hf] at h0
       simp [lp33_1,hq,hpl,hh2,getO hq,hw,hlen,hle,hle',hlt,hlt',h2,h3,h91,getA0,setA0,i1,i2,i3,i4,e1,e2,e3,e4,putCells,h0]
     ·have hin:i=p.effects.length:=by omega
      have hLi: (p.effects++[ioE])[i]=ioE:=by
       have: (p.effects++[ioE])[i]? =some ioE:=by rw [hin];simp
       rw [List.getElem?_eq_getElem hi] at this;exact Option.some.inj this
      rw [hLi]
      have h0:=it33_0 ioE (by unfold maxL;decide) s (.ptr σ.length 0) (.int .i64 i) (-1) (σ++[Obj.box p.cs]++τ).length (σ++[Obj.box p.cs]++τ++[.box ioE.cs]) getA0
      refine ⟨τ++[.box ioE.cs], ?_⟩
      rw [←List.append_assoc]
      unfold opStepI
      rw [if_neg hlt]
      generalize σ++[.box p.cs]++τ=σ1 at*
      generalize p.effects.map Eff.d=dd at*
      have hlt': ¬(i:Int) <p.effects.length:=by omega
      generalize ioE.ops.map Opn.name=io at*
      generalize ioE.ops.length=il at*
      generalize ioE.cs=ic at*
      generalize p.cs=pc at*
      have hh2: ∀h:1<pc.length,pc[1]= .slice dd:=fun h=>by rw [List.getElem?_eq_getElem h] at hh;exact Option.some.inj hh
      cases hf:io.findIdx? (· ==s) with
      |some k=>
       rw [hf] at h0
       simp [lp33_1,hq,hpl,hh2,getO hq,hw,hlen,hle,hle',hlt,hlt',h91,getA0,setA0,i1,i2,i3,i4,putCells,h0]
      |none=>
       rw [hf] at h0
       simp [lp33_1,hq,hpl,hh2,getO hq,hw,hlen,hle,hle',hlt,hlt',h91,getA0,setA0,i1,i2,i3,i4,putCells,h0]) (fun τ=>⟨τ,by
     have hq: (σ++[Obj.box p.cs]++τ)[σ.length]? =some (.box p.cs):=by rw [List.append_assoc];exact getA0
     rw [hLl]
     generalize σ++[.box p.cs]++τ=σ1 at*
     generalize p.effects.map Eff.d=dd at*
     generalize p.cs=pc at*
     have hh2: ∀h:1<pc.length,pc[1]= .slice dd:=fun h=>by rw [List.getElem?_eq_getElem h] at hh;exact Option.some.inj hh
     have hn: ¬((p.effects.length:Int) +1≤p.effects.length):=by omega
     simp [lp33_1,hq,hpl,hh2,hlen,hn]⟩) []
  have hres:=opRes_eq p.effects.length s p.effects 0 (by omega)
  rw [List.append_nil,Int.natCast_zero] at hit
  refine ⟨[.box p.cs]++τ, ?_⟩
  rw [←List.append_assoc,←hres]
  generalize hσ1:σ++[.box p.cs]++τ=σ1 at*
  generalize p.cs=pc at*
  cases hf:seekM (opStepI p.effects.length s) (p.effects++[ioE]) 0 with
  |some x=>
   rw [hf] at hit
   simp [bodyI,af33,hall,hit,opRes]
  |none=>
   rw [hf] at hit
   simp [bodyI,af33,hall,hit,opRes]
 exact CI_tree tab33 hτ (opD_tree _ _).1 (opD_tree _ _).2
theorem c122e (s:Bs) (σ:St):CI (.fn 122) [.empty, .str s] σ=some (.ret (.bool false),σ):=by
 have h:iterI (evalI CI XB GI 19 false lp152_0) [(0, .empty),(1, .str s),(5, .int .i64 0)] σ=some (.exit 0,[(0, .empty),(1, .str s),(5, .int .i64 0),(9, .bool false)],σ):=iterI_end (by simp [lp152_0]) (by simp)
 have h152:CI (.fn 152) [.empty, .str s] σ=some (.ret (.int .i64 (-1)),σ):=by
  refine CI_tree0 tab152 (d:= .int .i64 (-1)) ?_ rfl rfl
  simp [bodyI,af152,h]
 refine CI_tree0 tab122 (d:= .bool false) ?_ rfl rfl
 simp [bodyI,af122,h152]
theorem k122e {pd:D} {l:List Bs} (h:StrsD pd l) (hl:l.length≤maxL) (s:Bs) (σ:St):CI (.fn 122) [pd, .str s] σ=some (.ret (.bool (hasS l s)),σ):=by
 rcases h with rfl| ⟨rfl,rfl⟩
 ·exact h122 l s σ hl
 ·exact c122e s σ
def datErr (p:Prg) (s:Bs) (n:Nat):Int:=match p.data.find? (fun x:Dat=>x.name==s) with|none=>6|some d=>if d.params.length=n then 0 else 7
def ordRN (p:Prg) (params:List Bs) (k:Int) (s:Bs) (n:Nat) (ls:List Lab):Int:=
 if k=1∧hasS params s=false then 6 else if k=6∧datErr p s n≠0 then datErr p s n else firstE (ls.map fun x=>findEffE p.effects x.s)
mutual
def Ty.ordR (p:Prg) (params:List Bs):Ty→Int
 | .mk k _ s l ls _=>if ordRN p params k s l.length ls=0 then tysOrdR p params l else ordRN p params k s l.length ls
def tysOrdR (p:Prg) (params:List Bs):List Ty→Int
 | []=>0
 |t::r=>if t.ordR p params=0 then tysOrdR p params r else t.ordR p params
end
theorem tysOrdR_first (p:Prg) (params:List Bs): ∀ (l:List Ty),tysOrdR p params l=firstE (l.map fun t=>t.ordR p params)
 | []=>rfl
 |t::r=>by simp only [tysOrdR,List.map_cons,firstE,tysOrdR_first p params r]
set_option maxHeartbeats 2000000 in
theorem c73 (p:Prg) (hdl:p.data.length≤maxL) (hel:p.effects.length≤maxL) (params:List Bs) (hpar:params.length≤maxL) (pd:D) (hpd:StrsD pd params):
 ∀ (t:Ty),t.ok→ ∀ (σ:St),CI (.fn 73) [.agg p.cs,pd, .agg t.cs] σ=some (.ret (.int .i64 (t.ordR p params)),σ)
 | .mk k n s l ls tail,hok,σ=>by
  obtain ⟨hl1,hl2,hl3⟩:=hok
  have hpl:=p.cs_len
  have hpt:=p.cs_take
  have hpa:=p.cs_all
  have q35:qI 35=false:=rfl
  have x35:XB 35=false:=rfl
  have q73:qI 73=false:=rfl
  have x73:XB 73=false:=rfl
  have hq1: (σ++[Obj.box p.cs, .box (Ty.mk k n s l ls tail).cs])[σ.length]? =some (.box p.cs):=getA0
  have hq2: (σ++[Obj.box p.cs, .box (Ty.mk k n s l ls tail).cs])[σ.length+1]? =some (.box [.int .i64 k, .int .i64 n, .str s, .slice (tysD l), .slice (ls.map Lab.d), .int .i64 tail]):=getA
  have hlen:=tysD_len l
  have hlsl: (ls.map Lab.d).length=ls.length:=by simp
  have h35:=fun s σ=>c35 p hel s σ
  have it0:iterI (evalI CI XB GI 84 false lp73_0) [(1,pd),(3, .ptr σ.length 0),(5, .ptr (σ.length+1) 0),(8, .int .i64 0)] (σ++[Obj.box p.cs, .box (Ty.mk k n s l ls tail).cs])=
   some (match ls.find? (fun a=>findEffE p.effects a.s != 0) with|some a=>(.ret,[(6, .int .i64 (findEffE p.effects a.s))],σ++[Obj.box p.cs, .box (Ty.mk k n s l ls tail).cs]) |none=>(.exit 0,[(1,pd),(3, .ptr σ.length 0),(5, .ptr (σ.length+1) 0),(8, .int .i64 ls.length),(48, .bool false)],σ++[Obj.box p.cs, .box (Ty.mk k n s l ls tail).cs])):=by
   generalize σ++[Obj.box p.cs, .box (Ty.mk k n s l ls tail).cs]=σ1 at*
   have hee:eqbL p.cs p.cs=true:=eqbL_tree _ p.plain.1
   have:=loop_find (f:=evalI CI XB GI 84 false lp73_0) (σ:=σ1) ls (fun i=>[(1,pd),(3, .ptr σ.length 0),(5, .ptr (σ.length+1) 0),(8, .int .i64 (i:Nat))]) (fun a=>findEffE p.effects a.s != 0) (fun i=>(.ret,[(6, .int .i64 (findEffE p.effects (ls.getD i ⟨[],0⟩).s))],σ1)) (.exit 0,[(1,pd),(3, .ptr σ.length 0),(5, .ptr (σ.length+1) 0),(8, .int .i64 ls.length),(48, .bool false)],σ1) (by simp) (by simp)
    (fun i hi=>by
      have hw:=wrap_nat (n:=i) (by unfold maxL at hl2;omega)
      have hget: (ls.map Lab.d)[i]? =some (Lab.d ls[i]):=by simp [hi]
      have hgd:ls.getD i ⟨[],0⟩=ls[i]:=by simp [List.getD,hi]
      rw [hgd]
      generalize ls.map Lab.d=ld at*
      have h2:i<ld.length:=by omega
      have h3:ld[i]=Lab.d ls[i]:=by rw [List.getElem?_eq_getElem h2] at hget;exact Option.some.inj hget
      have h35:=h35 ls[i].s
      generalize ls[i]=x at*
      rcases x with ⟨xs,xn⟩
      simp only [Lab.d] at*
      generalize p.cs=pc at*
      generalize tysD l=td at*
      generalize findEffI p.effects xs=fi at*
      generalize findEffE p.effects xs=fe at*
      cases hb:fe != 0
      ·have h0:fe=0:=by simpa using hb
       subst h0
       simp [lp73_0,hq1,hq2,hi,hw,hlsl,h2,h3,hpl,hpt,h35,q35,x35,Nat.testBit_eq_decide_div_mod_eq]
      ·have h0: ¬fe=0:=by simpa using hb
       simp [lp73_0,hq1,hq2,hi,hw,hlsl,h2,h3,hpl,hpt,h35,q35,x35,hb,h0,Nat.testBit_eq_decide_div_mod_eq])
    (by generalize ls.map Lab.d=ld at*;generalize tysD l=td at*;simp [lp73_0,hq2,hlsl])
   rw [Int.natCast_zero] at this
   rw [this]
   cases hf:ls.findIdx? (fun a=>findEffE p.effects a.s != 0) with
   |none=>
    rw [List.findIdx?_eq_none_iff] at hf
    rw [List.find?_eq_none.2 fun x hx=>by simpa using hf x hx]
   |some i=>
    obtain ⟨h1,h2,h3⟩:=List.findIdx?_eq_some_iff_getElem.1 hf
    have:ls.find? (fun a=>findEffE p.effects a.s != 0)=some ls[i]:=by
     rw [List.find?_eq_some_iff_getElem]
     exact ⟨h2,i,h1,rfl,fun j hj=>by simpa using h3 j hj⟩
    rw [this]
    simp [List.getD,h1]
  have it1:iterI (evalI CI XB GI 84 false lp73_1) [(1,pd),(3, .ptr σ.length 0),(5, .ptr (σ.length+1) 0),(11, .int .i64 0)] (σ++[Obj.box p.cs, .box (Ty.mk k n s l ls tail).cs])=
   some (if tysOrdR p params l=0 then (.exit 2,[(1,pd),(3, .ptr σ.length 0),(5, .ptr (σ.length+1) 0),(11, .int .i64 l.length),(70, .bool false)],σ++[Obj.box p.cs, .box (Ty.mk k n s l ls tail).cs]) else (.ret,[(6, .int .i64 (tysOrdR p params l))],σ++[Obj.box p.cs, .box (Ty.mk k n s l ls tail).cs])):=by
   have ih:=fun i (hi:i<l.length) σ=>c73 p hdl hel params hpar pd hpd l[i] (tysOk_mem hl3 (List.getElem_mem hi)) σ
   generalize σ++[Obj.box p.cs, .box (Ty.mk k n s l ls tail).cs]=σ1 at*
   have:=loop_find (f:=evalI CI XB GI 84 false lp73_1) (σ:=σ1) l (fun i=>[(1,pd),(3, .ptr σ.length 0),(5, .ptr (σ.length+1) 0),(11, .int .i64 (i:Nat))]) (fun a=>a.ordR p params != 0) (fun i=>(.ret,[(6, .int .i64 ((l.getD i tyI).ordR p params))],σ1)) (.exit 2,[(1,pd),(3, .ptr σ.length 0),(5, .ptr (σ.length+1) 0),(11, .int .i64 l.length),(70, .bool false)],σ1) (by simp) (by simp)
    (fun i hi=>by
      have hw:=wrap_nat (n:=i) (by unfold maxL at hl1;omega)
      have hget: (tysD l)[i]? =some (.agg l[i].cs):=by rw [tysD_map];simp [Ty.d,hi]
      have hgd:l.getD i tyI=l[i]:=by simp [List.getD,hi]
      rw [hgd]
      have ih:=ih i hi
      generalize tysD l=ld at*
      have h2:i<ld.length:=by omega
      have h3:ld[i]= .agg l[i].cs:=by rw [List.getElem?_eq_getElem h2] at hget;exact Option.some.inj hget
      have y1:=l[i].cs_len
      have y2:=l[i].cs_take
      generalize l[i]=x at*
      generalize x.cs=xc at*
      generalize p.cs=pc at*
      generalize ls.map Lab.d=lsd at*
      generalize x.ordR p params=fe at*
      cases hb:fe != 0
      ·have h0:fe=0:=by simpa using hb
       subst h0
       simp [lp73_1,hq1,hq2,hi,hw,hlen,h2,h3,hpl,hpt,y1,y2,ih,q73,x73,Nat.testBit_eq_decide_div_mod_eq]
      ·have h0: ¬fe=0:=by simpa using hb
       simp [lp73_1,hq1,hq2,hi,hw,hlen,h2,h3,hpl,hpt,y1,y2,ih,q73,x73,hb,h0,Nat.testBit_eq_decide_div_mod_eq])
    (by generalize ls.map Lab.d=ld at*;generalize tysD l=td at*;simp [lp73_1,hq2,hlen])
   rw [Int.natCast_zero] at this
   rw [this,tysOrdR_first,firstE_find]
   cases hf:l.findIdx? (fun a=>a.ordR p params != 0) with
   |none=>
    rw [List.findIdx?_eq_none_iff] at hf
    rw [List.find?_eq_none.2 fun x hx=>by simpa using hf x hx]
    rfl
   |some i=>
    obtain ⟨h1,h2,h3⟩:=List.findIdx?_eq_some_iff_getElem.1 hf
    have:l.find? (fun a=>a.ordR p params != 0)=some l[i]:=by
     rw [List.find?_eq_some_iff_getElem]
     exact ⟨h2,i,h1,rfl,fun j hj=>by simpa using h3 j hj⟩
    rw [this]
    have hne: ¬(l[i].ordR p params=0):=by simpa using h2
    simp [List.getD,h1,hne]
  have h122:=fun σ=>k122e hpd hpar s σ
  have h123:=fun σ=>c123 p hdl s σ
  have hh:p.cs.head?=some (.slice (p.data.map Dat.d)):=by rw [p.cs_eq];rfl
  have hdlen: (p.data.map Dat.d).length=p.data.length:=by simp
  have hcs: (Ty.mk k n s l ls tail).cs=[.int .i64 k, .int .i64 n, .str s, .slice (tysD l), .slice (ls.map Lab.d), .int .i64 tail]:=rfl
  have hτ:bodyI CI XB GI af73 [.agg p.cs,pd, .agg (Ty.mk k n s l ls tail).cs] σ=some (.ret (.int .i64 ((Ty.mk k n s l ls tail).ordR p params)),σ++[Obj.box p.cs, .box (Ty.mk k n s l ls tail).cs]):=by
   simp only [Ty.ordR]
   rw [hcs] at it0 it1 hq1 ⊢
   generalize tysOrdR p params l=te at*
   have fin: ∀ (hA: ¬(k=1∧hasS params s=false)) (hB:k=6→ ∃i,∃h:i<p.data.length,idxOf (fun x:Dat=>x.name==s) p.data=(i:Nat)∧p.data[i].params.length=l.length),
    bodyI CI XB GI af73 [.agg p.cs,pd, .agg [.int .i64 k, .int .i64 n, .str s, .slice (tysD l), .slice (ls.map Lab.d), .int .i64 tail]] σ=some (.ret (.int .i64 (match ls.find? (fun a=>findEffE p.effects a.s != 0) with|some a=>findEffE p.effects a.s|none=>te)),σ++[Obj.box p.cs, .box [.int .i64 k, .int .i64 n, .str s, .slice (tysD l), .slice (ls.map Lab.d), .int .i64 tail]]):=by
    intro hA hB
    have hk1: (k==1)=false∨((k==1)=true∧hasS params s=true):=by
     cases hk:k==1
     ·exact .inl rfl
     ·right
      refine ⟨rfl, ?_⟩
      cases hs:hasS params s
      ·exact absurd ⟨by simpa using hk,hs⟩ hA
      ·rfl
    by_cases hk6:k=6
    ·obtain ⟨i,hi,hidx,hpn⟩:=hB hk6
     subst hk6
     rw [hidx] at h123
     have hget: (p.data.map Dat.d)[i]? =some (Dat.d p.data[i]):=by simp [hi]
     generalize p.data.map Dat.d=dd at*
     have h2:i<dd.length:=by omega
     have h3:dd[i]=Dat.d p.data[i]:=by rw [List.getElem?_eq_getElem h2] at hget;exact Option.some.inj hget
     generalize p.data[i]=d at*
     rcases d with ⟨dn,dp,dc⟩
     simp only [Dat.d,Dat.cs,slD] at*
     have hpl2: (dp.map D.str).length=dp.length:=by simp
     generalize dp.map D.str=pdd at*
     generalize dc.map Con.d=cd at*
     have hni: ¬(i:Int) <0:=by omega
     generalize tysD l=ld at*
     generalize ls.map Lab.d=lsd at*
     generalize p.cs=pc at*
     cases hf:ls.find? (fun a=>findEffE p.effects a.s != 0) with
     |some a=>
      rw [hf] at it0
      simp [bodyI,af73,getA0,getA,hpa,hpl,hpt,hh,h123,hni,h2,h3,hlen,hpl2,hpn,it0]
     |none=>
      rw [hf] at it0
      by_cases hz:te=0
      ·rw [if_pos hz] at it1
       simp [bodyI,af73,getA0,getA,hpa,hpl,hpt,hh,h123,hni,h2,h3,hlen,hpl2,hpn,it0,it1,hz]
      ·rw [if_neg hz] at it1
       simp [bodyI,af73,getA0,getA,hpa,hpl,hpt,hh,h123,hni,h2,h3,hlen,hpl2,hpn,it0,it1]
    ·have hk6': (k==6)=false:=by simpa using hk6
     generalize tysD l=ld at*
     generalize ls.map Lab.d=lsd at*
     generalize p.cs=pc at*
     cases hf:ls.find? (fun a=>findEffE p.effects a.s != 0) with
     |some a=>
      rw [hf] at it0
      rcases hk1 with hk1| ⟨hk1,hs1⟩
      ·simp [bodyI,af73,getA0,getA,hpa,hpl,hpt,hk1,hk6',it0]
      ·rw [hs1] at h122
       simp [bodyI,af73,getA0,getA,hpa,hpl,hpt,hk1,hk6',h122,it0]
     |none=>
      rw [hf] at it0
      by_cases hz:te=0
      ·rw [if_pos hz] at it1
       rcases hk1 with hk1| ⟨hk1,hs1⟩
       ·simp [bodyI,af73,getA0,getA,hpa,hpl,hpt,hk1,hk6',it0,it1,hz]
       ·rw [hs1] at h122
        simp [bodyI,af73,getA0,getA,hpa,hpl,hpt,hk1,hk6',h122,it0,it1,hz]
      ·rw [if_neg hz] at it1
       rcases hk1 with hk1| ⟨hk1,hs1⟩
       ·simp [bodyI,af73,getA0,getA,hpa,hpl,hpt,hk1,hk6',it0,it1]
       ·rw [hs1] at h122
        simp [bodyI,af73,getA0,getA,hpa,hpl,hpt,hk1,hk6',h122,it0,it1]
   by_cases hA:k=1∧hasS params s=false
   ·have hN:ordRN p params k s l.length ls=6:=if_pos hA
    have h6: ¬(6:Int)=0:=by decide
    rw [hN,if_neg h6]
    obtain ⟨rfl,hs1⟩:=hA
    rw [hs1] at h122
    generalize tysD l=ld at*
    generalize ls.map Lab.d=lsd at*
    generalize p.cs=pc at*
    simp [bodyI,af73,getA0,getA,hpa,hpl,hpt,h122]
   ·have hlast: ∀v:Int,v=firstE (ls.map fun x=>findEffE p.effects x.s)→(match ls.find? (fun a=>findEffE p.effects a.s != 0) with|some a=>findEffE p.effects a.s|none=>te)=if v=0 then te else v:=by
     rintro v rfl
     rw [firstE_find]
     cases hf:ls.find? (fun a=>findEffE p.effects a.s != 0) with
     |none=>exact (if_pos rfl).symm
     |some a=>
      have:=List.find?_some hf
      have hne: ¬findEffE p.effects a.s=0:=by simpa using this
      exact (if_neg hne).symm
    by_cases h6:k=6
    ·subst h6
     rcases idxOf_find (fun x:Dat=>x.name==s) p.data with ⟨hneg,hn⟩ | ⟨i,hidx,hi,hn, -⟩
     ·have hdE:datErr p s l.length=6:=by unfold datErr;rw [hn]
      have h6: ¬(6:Int)=0:=by decide
      have hN:ordRN p params 6 s l.length ls=6:=by
       unfold ordRN
       rw [if_neg hA,hdE]
       exact if_pos ⟨rfl,h6⟩
      rw [hN,if_neg h6]
      generalize idxOf (fun x:Dat=>x.name==s) p.data=ix at*
      generalize tysD l=ld at*
      generalize ls.map Lab.d=lsd at*
      generalize p.cs=pc at*
      simp [bodyI,af73,getA0,getA,hpa,hpl,hpt,h123,hneg]
     ·by_cases hpn:p.data[i].params.length=l.length
      ·have hdE:datErr p s l.length=0:=by unfold datErr;rw [hn];exact if_pos hpn
       have:=fin hA (fun _=>⟨i,hi,hidx,hpn⟩)
       rw [this,hlast (ordRN p params 6 s l.length ls)]
       unfold ordRN
       rw [if_neg hA,hdE]
       exact if_neg fun h=>h.2 rfl
      ·have hdE:datErr p s l.length=7:=by unfold datErr;rw [hn];exact if_neg hpn
       have h7: ¬(7:Int)=0:=by decide
       have hN:ordRN p params 6 s l.length ls=7:=by
        unfold ordRN
        rw [if_neg hA,hdE]
        exact if_pos ⟨rfl,h7⟩
       rw [hN,if_neg h7]
       rw [hidx] at h123
       have hget: (p.data.map Dat.d)[i]? =some (Dat.d p.data[i]):=by simp [hi]
       generalize p.data.map Dat.d=dd at*
       have h2:i<dd.length:=by omega
       have h3:dd[i]=Dat.d p.data[i]:=by rw [List.getElem?_eq_getElem h2] at hget;exact Option.some.inj hget
       generalize p.data[i]=d at*
       rcases d with ⟨dn,dp,dc⟩
       simp only [Dat.d,Dat.cs,slD] at*
       have hpl2: (dp.map D.str).length=dp.length:=by simp
       generalize dp.map D.str=pdd at*
       generalize dc.map Con.d=cd at*
       have hni: ¬(i:Int) <0:=by omega
       have hpn': ((l.length:Int) != (dp.length:Int))=true:=by
        simp only [bne_iff_ne,ne_eq]
        intro h
        exact hpn (by omega)
       generalize tysD l=ld at*
       generalize ls.map Lab.d=lsd at*
       generalize p.cs=pc at*
       simp [bodyI,af73,getA0,getA,hpa,hpl,hpt,hh,h123,hni,h2,h3,hlen,hpl2,hpn']
    ·have:=fin hA (fun h=>absurd h h6)
     rw [this,hlast (ordRN p params k s l.length ls)]
     unfold ordRN
     rw [if_neg hA]
     exact if_neg fun h=>h6 h.1
  exact CI_tree tab73 hτ rfl rfl
termination_by t=>SizeOf.sizeOf t
decreasing_by
 have:=List.sizeOf_lt_of_mem (List.getElem_mem hi)
 simp only [Ty.mk.sizeOf_spec]
 omega
theorem c169 (ls:List Lab) (tail:Int) (σ:St) (hl:ls.length≤maxL):CI (.fn 169) [.agg [.slice (ls.map Lab.d), .int .i64 tail]] σ=some (.ret (.int .i64 (rowE ls tail)),σ):=by
 have hτ:bodyI CI XB GI af169 [.agg [.slice (ls.map Lab.d), .int .i64 tail]] σ=some (.ret (.int .i64 (rowE ls tail)),σ++[.box [.slice (ls.map Lab.d), .int .i64 tail]]):=by
  have hq: (σ++[Obj.box [.slice (ls.map Lab.d), .int .i64 tail]])[σ.length]? =some (.box [.slice (ls.map Lab.d), .int .i64 tail]):=getA0
  have hlsl: (ls.map Lab.d).length=ls.length:=by simp
  have hit:=loop_find (f:=evalI CI XB GI 31 false lp169_0) (σ:=σ++[.box [.slice (ls.map Lab.d), .int .i64 tail]]) ls (fun i=>[(1, .ptr σ.length 0),(3, .int .i64 (i:Nat))]) (fun a=>labE a != 0) (fun i=>(.ret,[(2, .int .i64 (labE (ls.getD i ⟨[],0⟩)))],σ++[.box [.slice (ls.map Lab.d), .int .i64 tail]]))
   (.exit 0,[(1, .ptr σ.length 0),(3, .int .i64 ls.length),(8, .bool false)],σ++[.box [.slice (ls.map Lab.d), .int .i64 tail]]) (by simp) (by simp)
   (fun i hi=>by
     have hw:=wrap_nat (n:=i) (by unfold maxL at hl;omega)
     have hget: (ls.map Lab.d)[i]? =some (Lab.d ls[i]):=by simp [hi]
     have hgd:ls.getD i ⟨[],0⟩=ls[i]:=by simp [List.getD,hi]
     rw [hgd]
     generalize σ++[.box [.slice (ls.map Lab.d), .int .i64 tail]]=σ1 at*
     generalize ls.map Lab.d=ld at*
     have h2:i<ld.length:=by omega
     have h3:ld[i]=Lab.d ls[i]:=by rw [List.getElem?_eq_getElem h2] at hget;exact Option.some.inj hget
     generalize ls[i]=x at*
     rcases x with ⟨s,n⟩
     simp only [Lab.d] at h3
     unfold labE
     cases h1:upW s
     ·simp [lp169_0,hq,hi,hw,hlsl,h2,h3,c176,h1]
     ·cases h4:inR n 0 999999999
      ·simp [lp169_0,hq,hi,hw,hlsl,h2,h3,c176,h1,k157,h4]
      ·simp [lp169_0,hq,hi,hw,hlsl,h2,h3,c176,h1,k157,h4])
   (by generalize σ++[.box [.slice (ls.map Lab.d), .int .i64 tail]]=σ1 at*;generalize ls.map Lab.d=ld at*;simp [lp169_0,hq,hlsl])
  rw [Int.natCast_zero] at hit
  unfold rowE
  rw [firstE_app,firstE_find]
  have hfi:ls.find? (fun a=>labE a != 0)=(ls.findIdx? (fun a=>labE a != 0)).map fun i=>ls.getD i ⟨[],0⟩:=by
   cases hf:ls.findIdx? (fun a=>labE a != 0) with
   |none=>
    rw [List.findIdx?_eq_none_iff] at hf
    rw [List.find?_eq_none.2 fun x hx=>by simpa using hf x hx]
    rfl
   |some i=>
    obtain ⟨h1,h2,h3⟩:=List.findIdx?_eq_some_iff_getElem.1 hf
    have:ls.find? (fun a=>labE a != 0)=some ls[i]:=by
     rw [List.find?_eq_some_iff_getElem]
     exact ⟨h2,i,h1,rfl,fun j hj=>by simpa using h3 j hj⟩
    rw [this]
    simp [List.getD,h1]
  cases hf:ls.findIdx? (fun a=>labE a != 0) with
  |some i=>
   rw [hf] at hit hfi
   rw [hfi]
   have:labE (ls.getD i ⟨[],0⟩)≠0:=by have:=List.find?_some hfi;simpa using this
   clear hfi
   dsimp only at hit
   show bodyI CI XB GI af169 [.agg [.slice (ls.map Lab.d), .int .i64 tail]] σ=some (.ret (.int .i64 (if labE (ls.getD i ⟨[],0⟩)=0 then _ else labE (ls.getD i ⟨[],0⟩))),_)
   generalize ls.getD i ⟨[],0⟩=x at*
   generalize labE x=le at*
   simp [bodyI,af169,getA0,hit,this]
  |none=>
   rw [hf] at hit hfi
   rw [hfi]
   simp only [Option.map_none]
   generalize ls.map Lab.d=ld at*
   unfold firstE
   cases h4:inR tail (-1) 999999999
   ·simp [bodyI,af169,getA0,hit,k157,h4,firstE]
   ·simp [bodyI,af169,getA0,hit,k157,h4,firstE]
 exact CI_tree tab169 hτ rfl rfl
theorem it177 (σ:St): ∀ (r pre:List Bs),(pre++r).length≤maxL→ ∀m,m=pre.length→
 iterI (evalI CI XB GI 24 false lp177_0) [(0,slD (pre++r)),(3, .int .i64 (m:Nat))] σ=
  some (if distFrom pre r 1=0 then (.exit 0,[(0,slD (pre++r)),(3, .int .i64 (pre++r).length),(7, .bool false)],σ) else (.ret,[(2, .int .i64 (distFrom pre r 1))],σ))
 | [],pre,hl,m,hm=>by
  have:m=(pre++([]:List Bs)).length:=by rw [hm];simp
  refine iterI_end ?_ (by simp [distFrom])
  generalize pre++([]:List Bs)=q at*
  simp [lp177_0,this,distFrom]
 |s::r,pre,hl,m,hm=>by
  have hmt:m< (pre++s::r).length:=by simp;omega
  have hget: (pre++s::r)[m]? =some s:=by rw [hm];simp
  have htk: ((pre++s::r).map D.str).take m=pre.map D.str:=by rw [hm];simp
  have hw:=wrap_nat (n:=m) (by unfold maxL at hl;simp at hl;omega)
  have h122:=h122 pre s σ (by unfold maxL at*;simp at hl;omega)
  have hp:pre++[s]++r=pre++s::r:=by simp
  have ih:=it177 σ r (pre++[s]) (by rw [hp];exact hl) (m+1) (by simp [hm])
  rw [hp] at ih
  simp only [distFrom]
  simp only [slD] at h122
  generalize hq:pre++s::r=q at*
  have h3:q[m]=s:=by rw [List.getElem?_eq_getElem hmt] at hget;exact Option.some.inj hget
  have hm': (m:Int)≤q.length:=by omega
  have hv:isC s 1=varW s:=rfl
  have q122:qI 122=false:=rfl
  have x122:XB 122=false:=rfl
  by_cases hc:varW s=true
  ·by_cases hh:hasS pre s=true
   ·simp only [hv,hc,hh,if_true]
    refine iterI_end ?_ (by simp)
    rw [hh] at h122
    simp [lp177_0,hmt,h3,c135,hc,bound,hm',htk,h122,q122,x122,Nat.testBit_eq_decide_div_mod_eq]
   ·simp only [hv,hc,if_true,if_neg hh]
    rw [←ih]
    refine iterI_next ?_
    rw [Bool.not_eq_true] at hh
    rw [hh] at h122
    simp [lp177_0,hmt,h3,c135,hc,hw,bound,hm',htk,h122,q122,x122,Nat.testBit_eq_decide_div_mod_eq]
  ·simp only [hv,if_neg hc]
   refine iterI_end ?_ (by simp)
   rw [Bool.not_eq_true] at hc
   simp [lp177_0,hmt,h3,c135,hc]
theorem c177 (l:List Bs) (σ:St) (hl:l.length≤maxL):CI (.fn 177) [slD l] σ=some (.ret (.int .i64 (distE l 1)),σ):=by
 refine CI_tree0 tab177 (d:= .int .i64 (distE l 1)) ?_ rfl rfl
 have hit:=it177 σ l [] hl 0 rfl
 rw [Int.natCast_zero,List.nil_append] at hit
 unfold distE
 by_cases h:distFrom [] l 1=0
 ·rw [if_pos h] at hit
  simp [bodyI,af177,hit,h]
 ·rw [if_neg h] at hit
  simp [bodyI,af177,hit]
theorem findIdx_none_all {α:Type} (l:List α) (Q:α→Bool) (h:l.findIdx? (fun a=> !Q a)=none):l.all Q=true:=by
 rw [List.findIdx?_eq_none_iff] at h
 exact List.all_eq_true.2 fun x hx=>by simpa using h x hx
theorem findIdx_some_all {α:Type} (l:List α) (Q:α→Bool) (i:Nat) (h:l.findIdx? (fun a=> !Q a)=some i):l.all Q=false:=by
 obtain ⟨h1,h2, -⟩:=List.findIdx?_eq_some_iff_getElem.1 h
 rw [List.all_eq_false]
 exact ⟨l[i],List.getElem_mem h1,by simpa using h2⟩
theorem loop_all {α:Type} {f:Env→St→Option (AExit × Env × St)} {σ:St} (l:List α) (E:Nat→Env) (Q:α→Bool) (X Y:AExit × Env × St) (hX:X.1≠ .normal) (hY:Y.1≠ .normal)
 (h: ∀i (hi:i<l.length),f (E i) σ=if Q l[i] then some (.normal,E (i+1),σ) else some X) (hf:f (E l.length) σ=some Y):
 iterI f (E 0) σ=some (if l.all Q then Y else X):=by
 have:=loop_find (f:=f) (σ:=σ) l E (fun a=> !Q a) (fun _=>X) Y (fun _=>hX) hY (fun i hi=>by rw [h i hi];cases Q l[i]<;>rfl) hf
 rw [this]
 cases hf:l.findIdx? (fun a=> !Q a) with
 |none=>rw [findIdx_none_all l Q hf];rfl
 |some i=>rw [findIdx_some_all l Q i hf];rfl
theorem loop_err {α:Type} {f:Env→St→Option (AExit × Env × St)} {σ:St} (l:List α) (E:Nat→Env) (e:α→Int) (X:Int→AExit × Env × St) (Y:AExit × Env × St) (hX: ∀n,(X n).1≠ .normal) (hY:Y.1≠ .normal)
 (h: ∀i (hi:i<l.length),f (E i) σ=if e l[i]=0 then some (.normal,E (i+1),σ) else some (X (e l[i]))) (hf:f (E l.length) σ=some Y):
 iterI f (E 0) σ=some (if firstE (l.map e)=0 then Y else X (firstE (l.map e))):=by
 have from_: ∀ (m j:Nat),j+m=l.length→iterI f (E j) σ=some (if firstE ((l.drop j).map e)=0 then Y else X (firstE ((l.drop j).map e))):=by
  intro m
  induction m with
  |zero=>
   intro j hj
   obtain rfl:j=l.length:=by omega
   rw [List.drop_length]
   exact iterI_end hf hY
  |succ m ih=>
   intro j hj
   have hlt:j<l.length:=by omega
   have hb:=h j hlt
   rw [List.drop_eq_getElem_cons hlt]
   simp only [List.map_cons,firstE]
   by_cases hq:e l[j]=0
   ·rw [if_pos hq] at hb ⊢
    rw [iterI_next hb]
    exact ih (j+1) (by omega)
   ·simp only [if_neg hq] at hb ⊢
    exact iterI_end hb (hX _)
 have:=from_ l.length 0 (by omega)
 rw [List.drop_zero] at this
 exact this
theorem c204: ∀ (t:Ty),t.ok→ ∀ (σ:St),CI (.fn 204) [.agg t.cs] σ=some (.ret (.bool (t.cl tailC)),σ)
 | .mk k n s l ls tail,hok,σ=>by
  obtain ⟨hl1,hl2,hl3⟩:=hok
  have hq1: (σ++[Obj.box (Ty.mk k n s l ls tail).cs])[σ.length]? =some (.box [.int .i64 k, .int .i64 n, .str s, .slice (tysD l), .slice (ls.map Lab.d), .int .i64 tail]):=getA0
  have hlen:=tysD_len l
  have hlsl: (ls.map Lab.d).length=ls.length:=by simp
  have it0:iterI (evalI CI XB GI 49 false lp204_0) [(1, .ptr σ.length 0),(3, .int .i64 0)] (σ++[Obj.box (Ty.mk k n s l ls tail).cs])=
   some (if ls.all (fun x=>x.n==0) then (.exit 0,[(1, .ptr σ.length 0),(3, .int .i64 ls.length),(24, .bool false)],σ++[Obj.box (Ty.mk k n s l ls tail).cs]) else (.ret,[(2, .bool false)],σ++[Obj.box (Ty.mk k n s l ls tail).cs])):=by
   generalize σ++[Obj.box (Ty.mk k n s l ls tail).cs]=σ1 at*
   refine loop_all ls (fun i=>[(1, .ptr σ.length 0),(3, .int .i64 (i:Nat))]) _ _ _ (by simp) (by simp) (fun i hi=> ?_) ?_
   ·have hw:=wrap_nat (n:=i) (by unfold maxL at hl2;omega)
    have hget: (ls.map Lab.d)[i]? =some (Lab.d ls[i]):=by simp [hi]
    generalize ls.map Lab.d=ld at*
    have h2:i<ld.length:=by omega
    have h3:ld[i]=Lab.d ls[i]:=by rw [List.getElem?_eq_getElem h2] at hget;exact Option.some.inj hget
    generalize ls[i]=x at*
    rcases x with ⟨xs,xn⟩
    simp only [Lab.d] at h3
    generalize tysD l=td at*
    cases h4:xn==0
    ·have h5: (xn != 0)=true:=by simpa using h4
     have h6: ¬xn=0:=by simpa using h4
     simp [lp204_0,hq1,hi,hw,hlsl,h2,h3,h5,h6]
    ·have h5:xn=0:=by simpa using h4
     simp [lp204_0,hq1,hi,hw,hlsl,h2,h3,h5]
   ·generalize ls.map Lab.d=ld at*
    generalize tysD l=td at*
    simp [lp204_0,hq1,hlsl]
  have it1:iterI (evalI CI XB GI 49 false lp204_1) [(1, .ptr σ.length 0),(4, .int .i64 0)] (σ++[Obj.box (Ty.mk k n s l ls tail).cs])=
   some (if l.all (fun t=>t.cl tailC) then (.exit 2,[(1, .ptr σ.length 0),(4, .int .i64 l.length),(39, .bool false)],σ++[Obj.box (Ty.mk k n s l ls tail).cs]) else (.ret,[(2, .bool false)],σ++[Obj.box (Ty.mk k n s l ls tail).cs])):=by
   have ih:=fun i (hi:i<l.length) σ=>c204 l[i] (tysOk_mem hl3 (List.getElem_mem hi)) σ
   generalize σ++[Obj.box (Ty.mk k n s l ls tail).cs]=σ1 at*
   refine loop_all l (fun i=>[(1, .ptr σ.length 0),(4, .int .i64 (i:Nat))]) _ _ _ (by simp) (by simp) (fun i hi=> ?_) ?_
   ·have hw:=wrap_nat (n:=i) (by unfold maxL at hl1;omega)
    have hget: (tysD l)[i]? =some (.agg l[i].cs):=by rw [tysD_map];simp [Ty.d,hi]
    have ih:=ih i hi
    generalize tysD l=ld at*
    have h2:i<ld.length:=by omega
    have h3:ld[i]= .agg l[i].cs:=by rw [List.getElem?_eq_getElem h2] at hget;exact Option.some.inj hget
    have y1:=l[i].cs_len
    have y2:=l[i].cs_take
    generalize l[i]=x at*
    generalize x.cs=xc at*
    generalize ls.map Lab.d=lsd at*
    cases hb:x.cl tailC
    ·rw [hb] at ih
     simp [lp204_1,hq1,hi,hw,hlen,h2,h3,y1,y2,ih]
    ·rw [hb] at ih
     simp [lp204_1,hq1,hi,hw,hlen,h2,h3,y1,y2,ih]
   ·generalize ls.map Lab.d=ld at*
    generalize tysD l=td at*
    simp [lp204_1,hq1,hlen]
  have hτ:bodyI CI XB GI af204 [.agg (Ty.mk k n s l ls tail).cs] σ=some (.ret (.bool ((Ty.mk k n s l ls tail).cl tailC)),σ++[.box (Ty.mk k n s l ls tail).cs]):=by
   simp only [Ty.cl,tysCl_all]
   simp only [Ty.cs] at it0 it1 ⊢
   unfold tailC at*
   generalize ls.map Lab.d=lsd at*
   generalize tysD l=ld at*
   generalize (ls.all fun x=>x.n==0)=lb at*
   generalize (l.all fun t=>t.cl fun n=>n != -1)=tb at*
   have rest: ∀ (b:Bool),b=(lb&&tb)→(k==0)=false→((k==5)&&(tail != -1))=false→bodyI CI XB GI af204 [.agg [.int .i64 k, .int .i64 n, .str s, .slice ld, .slice lsd, .int .i64 tail]] σ=some (.ret (.bool b),σ++[.box [.int .i64 k, .int .i64 n, .str s, .slice ld, .slice lsd, .int .i64 tail]]):=by
    rintro b rfl hk hk5
    cases h5:k==5
    ·cases lb
     ·simp [bodyI,af204,getA0,hk,h5,it0]
     ·cases tb<;>simp [bodyI,af204,getA0,hk,h5,it0,it1]
    ·rw [h5] at hk5
     have ht: (tail != -1)=false:=by simpa using hk5
     cases lb
     ·simp [bodyI,af204,getA0,hk,h5,ht,it0]
     ·cases tb<;>simp [bodyI,af204,getA0,hk,h5,ht,it0,it1]
   cases hk:k==0
   ·cases hk5: (k==5)&&(tail != -1)
    ·rw [rest (lb&&tb) rfl hk hk5]
     simp
    ·obtain ⟨h5,ht⟩:=Bool.and_eq_true_iff.1 hk5
     simp [bodyI,af204,getA0,hk,h5,ht]
   ·simp [bodyI,af204,getA0,hk]
  exact CI_tree tab204 hτ rfl rfl
termination_by t=>SizeOf.sizeOf t
decreasing_by
 have:=List.sizeOf_lt_of_mem (List.getElem_mem hi)
 simp only [Ty.mk.sizeOf_spec]
 omega
def at2 {α β:Type} (P:α→β→Bool) (l:List α) (m:List β) (i:Nat):Bool:=match l[i]?,m[i]? with
 |some a,some b=>P a b
 |_,_=>false
theorem all_range_succ (n:Nat) (Q:Nat→Bool): (List.range (n+1)).all Q=(Q 0&&(List.range n).all fun i=>Q (i+1)):=by
 rw [List.range_succ_eq_map,List.all_cons,List.all_map];rfl
theorem all2_range {α β:Type} (P:α→β→Bool): ∀ (l:List α) (m:List β),all2 P l m=(List.range (max l.length m.length)).all (at2 P l m)
 | [],[]=>rfl
 | [],b::m=>by
  simp only [List.length_nil,List.length_cons,Nat.zero_max,all_range_succ]
  simp [all2,at2]
 |a::l,[]=>by
  simp only [List.length_nil,List.length_cons,Nat.max_zero,all_range_succ]
  simp [all2,at2]
 |a::l,b::m=>by
  have e:max (a::l).length (b::m).length=max l.length m.length+1:=by simp only [List.length_cons];omega
  rw [e,all_range_succ]
  simp only [all2]
  rw [all2_range P l m]
  rfl
theorem it193_0 (cons:List Con) (arms:List Arm) (hcl:cons.length≤maxL) (hal:arms.length≤maxL) (σ:St):
 iterI (evalI CI XB GI 87 false lp193_0) [(1, .slice (armsD arms)),(8, .slice (cons.map Con.d)),(9, .int .i64 0)] σ=
  some (if all2 (fun (c:Con) (a:Arm)=>c.name==a.op) cons arms then (.exit 0,[(1, .slice (armsD arms)),(8, .slice (cons.map Con.d)),(9, .int .i64 (max cons.length arms.length:Nat)),(42, .bool false)],σ) else (.ret,[(4, .int .i64 9)],σ)):=by
 rw [all2_range]
 obtain ⟨cd,hcd,hcl2,hcg⟩:=opq Con.d cons
 obtain ⟨ad,had,hal2,hag⟩:=opq Arm.d arms
 rw [armsD_map,hcd,had]
 have:=loop_all (f:=evalI CI XB GI 87 false lp193_0) (σ:=σ) (List.range (max cons.length arms.length)) (fun i=>[(1, .slice ad),(8, .slice cd),(9, .int .i64 (i:Nat))]) (at2 (fun (c:Con) (a:Arm)=>c.name==a.op) cons arms) (.ret,[(4, .int .i64 9)],σ) (.exit 0,[(1, .slice ad),(8, .slice cd),(9, .int .i64 (max cons.length arms.length:Nat)),(42, .bool false)],σ) (by simp) (by simp)
  (fun i hi=>by
    rw [List.length_range] at hi
    rw [List.getElem_range]
    have hw:=wrap_nat (n:=i) (by unfold maxL at*;omega)
    by_cases h1:i<arms.length
    ·obtain ⟨h2,h3⟩:=hag i h1
     have h1': ¬(arms.length:Int)≤i:=by omega
     have h1'': (i:Int) <arms.length:=by omega
     by_cases h4:i<cons.length
     ·obtain ⟨h5,h6⟩:=hcg i h4
      have h4': ¬(cons.length:Int)≤i:=by omega
      have hq:at2 (fun (c:Con) (a:Arm)=>c.name==a.op) cons arms i=(cons[i].name==arms[i].op):=by
       unfold at2;rw [List.getElem?_eq_getElem h1,List.getElem?_eq_getElem h4]
      generalize at2 (fun (c:Con) (a:Arm)=>c.name==a.op) cons arms i=Q at*
      generalize cons[i]=c at*
      generalize arms[i]=a at*
      rcases c with ⟨cn,args⟩
      rcases a with ⟨aop,an,ab⟩
      have hbl:=ab.cs_len
      simp only [Con.d,Con.cs,Arm.d,Arm.cs,Arm.op] at*
      generalize slD an=and at*
      generalize ab.cs=abc at*
      generalize tysD args=td at*
      have hc: (aop==cn)=Q:=by rw [hq,BEq.comm]
      clear hq
      cases Q<;>simp [lp193_0,h1,h1',h1'',h4,h4',h2,h3,h5,h6,hbl,hw,hal2,hcl2,hc,Nat.testBit_eq_decide_div_mod_eq]
     ·have h4': (cons.length:Int)≤i:=by omega
      have:at2 (fun (c:Con) (a:Arm)=>c.name==a.op) cons arms i=false:=by unfold at2;rw [List.getElem?_eq_none (by omega)]
      rw [this]
      simp [lp193_0,h1,h1',h1'',h4',h2,hal2,hcl2,Nat.testBit_eq_decide_div_mod_eq]
    ·have h1': (arms.length:Int)≤i:=by omega
     have h1'': ¬(i:Int) <arms.length:=by omega
     have h4: (i:Int) <cons.length:=by omega
     have:at2 (fun (c:Con) (a:Arm)=>c.name==a.op) cons arms i=false:=by
      unfold at2;rw [List.getElem?_eq_none (l:=arms) (by omega)];cases cons[i]? <;>rfl
     rw [this]
     simp [lp193_0,h1',h1'',h4,hal2,hcl2,Nat.testBit_eq_decide_div_mod_eq]) (by
    rw [List.length_range]
    have h1: ¬((max cons.length arms.length:Nat):Int) <arms.length:=by omega
    have h2: ¬((max cons.length arms.length:Nat):Int) <cons.length:=by omega
    generalize max cons.length arms.length=N at*
    simp [lp193_0,h1,h2,hal2,hcl2])
 rw [Int.natCast_zero] at this
 exact this
theorem it193_1 (cons:List Con) (arms:List Arm) (hlen:cons.length=arms.length) (hal:arms.length≤maxL) (σ:St):
 iterI (evalI CI XB GI 87 false lp193_1) [(1, .slice (armsD arms)),(8, .slice (cons.map Con.d)),(10, .int .i64 0)] σ=
  some (if all2 (fun (c:Con) (a:Arm)=>decide (c.args.length=a.names.length)) cons arms then (.exit 2,[(1, .slice (armsD arms)),(8, .slice (cons.map Con.d)),(10, .int .i64 arms.length),(71, .bool false)],σ) else (.ret,[(4, .int .i64 7)],σ)):=by
 rw [all2_range,hlen,Nat.max_self]
 obtain ⟨cd,hcd,hcl2,hcg⟩:=opq Con.d cons
 obtain ⟨ad,had,hal2,hag⟩:=opq Arm.d arms
 rw [armsD_map,hcd,had]
 have:=loop_all (f:=evalI CI XB GI 87 false lp193_1) (σ:=σ) (List.range arms.length) (fun i=>[(1, .slice ad),(8, .slice cd),(10, .int .i64 (i:Nat))]) (at2 (fun (c:Con) (a:Arm)=>decide (c.args.length=a.names.length)) cons arms) (.ret,[(4, .int .i64 7)],σ) (.exit 2,[(1, .slice ad),(8, .slice cd),(10, .int .i64 arms.length),(71, .bool false)],σ) (by simp) (by simp)
  (fun i hi=>by
    rw [List.length_range] at hi
    rw [List.getElem_range]
    have hw:=wrap_nat (n:=i) (by unfold maxL at*;omega)
    have hci:i<cons.length:=by omega
    obtain ⟨h2,h3⟩:=hag i hi
    obtain ⟨h5,h6⟩:=hcg i hci
    have hi': (i:Int) <arms.length:=by omega
    have hq: (at2 (fun (c:Con) (a:Arm)=>decide (c.args.length=a.names.length)) cons arms i=true)=(cons[i].args.length=arms[i].names.length):=by
     unfold at2;rw [List.getElem?_eq_getElem hi,List.getElem?_eq_getElem hci];exact decide_eq_true_eq
    generalize at2 (fun (c:Con) (a:Arm)=>decide (c.args.length=a.names.length)) cons arms i=Q at*
    generalize cons[i]=c at*
    generalize arms[i]=a at*
    rcases c with ⟨cn,args⟩
    rcases a with ⟨aop,an,ab⟩
    have hbl:=ab.cs_len
    have htl:=tysD_len args
    have hnl: (an.map D.str).length=an.length:=by simp
    simp only [Con.d,Con.cs,Arm.d,Arm.cs,Arm.names,slD] at*
    have hc: ((an.length:Int)=args.length)=(Q=true):=by rw [hq,eq_iff_iff];omega
    have hc2: ((an.length:Int) ==args.length)=Q:=by rw [Bool.eq_iff_iff,beq_iff_eq,hc]
    have hc3: ((an.length:Int) != args.length)= !Q:=by rw [bne,hc2]
    clear hq
    generalize an.map D.str=and at*
    generalize ab.cs=abc at*
    generalize tysD args=td at*
    cases Q<;>simp [lp193_1,hi,hi',hci,h2,h3,h5,h6,hbl,hw,hal2,hcl2,htl,hnl,hc,hc2,hc3,Nat.testBit_eq_decide_div_mod_eq]) (by
    rw [List.length_range]
    simp [lp193_1,hal2,hcl2])
 rw [Int.natCast_zero] at this
 exact this
set_option maxHeartbeats 2000000 in
theorem c193 (p:Prg) (hok:p.ok) (arms:List Arm) (hal:arms.length≤maxL) (σ:St):CI (.fn 193) [.agg p.cs, .slice (armsD arms)] σ=some (.ret (.int .i64 (matchErr p arms)),σ):=by
 have hla:=armsD_len arms
 have hall:=p.cs_all
 have hpl:=p.cs_len
 have hpt:=p.cs_take
 have q31:qI 31=false:=rfl
 have x31:XB 31=false:=rfl
 have hτ:bodyI CI XB GI af193 [.agg p.cs, .slice (armsD arms)] σ=some (.ret (.int .i64 (matchErr p arms)),σ++[.box p.cs]):=by
  cases arms with
  |nil=>
   generalize p.cs=pc at*
   simp [bodyI,af193,armsD,matchErr,hall]
  |cons a rest=>
   have hga: (armsD (a::rest))[0]? =some (.agg a.cs):=by rw [armsD_map];rfl
   have h31:=fun σ=>c31 p hok a.op σ
   have hne: ((rest.length:Int) +1==0)=false:=by rw [beq_eq_false_iff_ne];omega
   have hne': ¬((rest.length:Int) +1=0):=by omega
   have hh:p.cs.head?=some (.slice (p.data.map Dat.d)):=by rw [p.cs_eq];rfl
   have it0:=fun cons hcl=>it193_0 cons (a::rest) hcl hal (σ++[.box p.cs])
   have it1:=fun cons hcl=>it193_1 cons (a::rest) hcl hal (σ++[.box p.cs])
   unfold matchErr
   simp only
   rw [Arm.cs_eq] at hga
   have hbl:=a.body.cs_len
   generalize armsD (a::rest)=ad at*
   have had0:0<ad.length:=by rw [hla];simp
   have h0:ad[0]= .agg (.str a.op::slD a.names::a.body.cs):=by rw [List.getElem?_eq_getElem had0] at hga;exact Option.some.inj hga
   cases hf:findConL a.op p.data 0 with
   |none=>
    rw [hf] at h31
    rw [conOf_none hf]
    generalize a.op=aop at*
    generalize slD a.names=an at*
    generalize a.body.cs=ab at*
    generalize p.cs=pc at*
    simp [bodyI,af193,getA0,hall,hpl,hpt,hla,hne,hne',had0,h0,hbl,h31,conD,q31,x31,Nat.testBit_eq_decide_div_mod_eq]
   |some x=>
    rw [hf] at h31
    obtain ⟨i,k⟩:=x
    obtain ⟨hi,hk,hc,_⟩:=conOf_some hf
    rw [hc]
    obtain ⟨dd,hdd,hdl,hdg⟩:=opq Dat.d p.data
    obtain ⟨h2,h3⟩:=hdg i hi
    rw [hdd] at hh
    have hdok:=(hok.d _ (List.getElem_mem hi)).2.1
    generalize p.data[i]=d at*
    rcases d with ⟨dn,dp,dc⟩
    have it0:=it0 dc hdok
    have it1:=it1 dc
    simp only [Dat.d,Dat.cs,slD] at*
    clear hga hc
    generalize dp.map D.str=pd at*
    generalize hb1:all2 (fun (c:Con) (a:Arm)=>c.name==a.op) dc (a::rest)=b1 at*
    generalize all2 (fun (c:Con) (a:Arm)=>decide (c.args.length=a.names.length)) dc (a::rest)=b2 at*
    generalize dc.map Con.d=cd at*
    generalize a.op=aop at*
    generalize a.names.map D.str=an at*
    generalize a.body.cs=ab at*
    generalize p.cs=pc at*
    cases b1
    ·simp [bodyI,af193,getA0,hall,hpl,hpt,hla,hne,hne',had0,h0,hbl,h31,conD,q31,x31,hh,h2,h3,it0,Nat.testBit_eq_decide_div_mod_eq]
    ·have it1:=it1 (all2_len hb1)
     cases b2<;>simp [bodyI,af193,getA0,hall,hpl,hpt,hla,hne,hne',had0,h0,hbl,h31,conD,q31,x31,hh,h2,h3,it0,it1,Nat.testBit_eq_decide_div_mod_eq]
 exact CI_tree tab193 hτ rfl rfl
def effOf (p:Prg) (i:Int):Eff:=if i<0 then ioE else p.effects.getD i.toNat ioE
theorem findEff_range (p:Prg) (s:Bs) (h:findEffE p.effects s=0):findEffI p.effects s= -1∨ ∃i:Nat,findEffI p.effects s=i∧i<p.effects.length:=by
 unfold findEffE at h
 unfold findEffI idxOf at*
 cases hf:p.effects.findIdx? (fun x:Eff=>x.name==s) with
 |some k=>
  right
  have hk:=(List.findIdx?_eq_some_iff_getElem.1 hf).1
  have h0: (0:Int)≤k:=by omega
  exact ⟨k,by simp [h0],hk⟩
 |none=>
  rw [hf] at h
  left
  cases hs:s==nIO
  ·rw [hs] at h;simp at h
  ·simp
theorem opNames_eff (p:Prg) (s:Bs) (h:findEffE p.effects s=0):opNames p (findEffI p.effects s)=(effOf p (findEffI p.effects s)).ops.map Opn.name:=by
 rcases findEff_range p s h with h1| ⟨i,h1,h2⟩
 ·rw [h1];rfl
 ·rw [h1]
  unfold opNames effOf
  rw [if_neg (by omega),if_neg (by omega)]
  simp [h2]
theorem c211 (p:Prg) (s:Bs) (h:findEffE p.effects s=0) (σ:St):CI (.fn 211) [.agg p.cs, .int .i64 (findEffI p.effects s)] σ=some (.ret (effOf p (findEffI p.effects s)).d,σ):=by
 have hall:=p.cs_all
 have hpl:=p.cs_len
 have hg1:p.cs[1]? =some (.slice (p.effects.map Eff.d)):=by rw [p.cs_eq];rfl
 have hh1: ∀h:1<p.cs.length,p.cs[1]= .slice (p.effects.map Eff.d):=fun h=>by rw [List.getElem?_eq_getElem h] at hg1;exact Option.some.inj hg1
 rcases findEff_range p s h with h1| ⟨i,h1,h2⟩
 ·rw [h1]
  have e:effOf p (-1)=ioE:=rfl
  rw [e]
  have h91: ∀σ,CI (.fn 91) [] σ=some (.ret (.agg [.str nIO, .slice (ioE.ops.map Opn.d)]),σ):=fun σ=>c91 σ
  have hτ:bodyI CI XB GI af211 [.agg p.cs, .int .i64 (-1)] σ=some (.ret ioE.d,σ++[.box p.cs, .box ioE.cs]):=by
   show bodyI CI XB GI af211 [.agg p.cs, .int .i64 (-1)] σ=some (.ret (.agg [.str nIO, .slice (ioE.ops.map Opn.d)]),σ++[.box p.cs, .box [.str nIO, .slice (ioE.ops.map Opn.d)]])
   generalize ioE.ops.map Opn.d=od at*
   generalize p.cs=pc at*
   simp [bodyI,af211,getA0,getA,setA0,setA,hall,h91]
  exact CI_tree tab211 hτ (ioE.plain).1 (ioE.plain).2
 ·rw [h1]
  have e:effOf p (i:Int)=p.effects[i]:=by
   unfold effOf
   rw [if_neg (by omega)]
   simp [h2]
  rw [e]
  have hpn:=p.effects[i].plain
  obtain ⟨ed,hed,hel,heg⟩:=opq Eff.d p.effects
  obtain ⟨h3,h4⟩:=heg i h2
  rw [hed] at hh1
  have hi0: ¬(i:Int) <0:=by omega
  have hτ:bodyI CI XB GI af211 [.agg p.cs, .int .i64 i] σ=some (.ret p.effects[i].d,σ++[.box p.cs, .box p.effects[i].cs]):=by
   generalize p.effects[i]=x at*
   rcases x with ⟨xn,ops⟩
   simp only [Eff.d,Eff.cs] at*
   generalize ops.map Opn.d=od at*
   generalize p.cs=pc at*
   simp [bodyI,af211,getA0,getA,setA0,setA,hall,hpl,hh1,hel,h2,h3,h4,hi0]
  exact CI_tree tab211 hτ hpn.1 hpn.2
theorem it194_0 (ops:List Opn) (arms:List Arm) (hlen:arms.length=ops.length+1) (hal:arms.length≤maxL) (k n s t nd ld:D) (q:Nat) (σ:St) (hq:σ[q]? =some (.box [k,n,s,t,nd,ld, .slice (armsD arms)])):
 iterI (evalI CI XB GI 49 false lp194_0) [(3, .ptr q 0),(7, .slice (ops.map Opn.d)),(8, .int .i64 0)] σ=
  some (if all2 (fun (o:Bs) (a:Arm)=>o==a.op) (ops.map Opn.name) arms.tail then (.exit 0,[(3, .ptr q 0),(7, .slice (ops.map Opn.d)),(8, .int .i64 ops.length),(33, .bool false)],σ) else (.ret,[(4, .int .i64 9)],σ)):=by
 have htl:arms.tail.length=ops.length:=by rw [List.length_tail];omega
 rw [all2_range,List.length_map,htl,Nat.max_self]
 obtain ⟨od,hod,hol,hog⟩:=opq Opn.d ops
 obtain ⟨ad,had,hal2,hag⟩:=opq Arm.d arms
 rw [armsD_map,had] at hq
 rw [hod]
 have:=loop_all (f:=evalI CI XB GI 49 false lp194_0) (σ:=σ) (List.range ops.length) (fun i=>[(3, .ptr q 0),(7, .slice od),(8, .int .i64 (i:Nat))]) (at2 (fun (o:Bs) (a:Arm)=>o==a.op) (ops.map Opn.name) arms.tail) (.ret,[(4, .int .i64 9)],σ) (.exit 0,[(3, .ptr q 0),(7, .slice od),(8, .int .i64 ops.length),(33, .bool false)],σ) (by simp) (by simp)
  (fun i hi=>by
    rw [List.length_range] at hi
    rw [List.getElem_range]
    have hw:=wrap_nat (n:=i) (by unfold maxL at*;omega)
    have hai:i+1<arms.length:=by omega
    obtain ⟨h2,h3⟩:=hag (i+1) hai
    obtain ⟨h5,h6⟩:=hog i hi
    have hq2:at2 (fun (o:Bs) (a:Arm)=>o==a.op) (ops.map Opn.name) arms.tail i=(ops[i].name==arms[i+1].op):=by
     unfold at2
     rw [List.getElem?_map,List.getElem?_eq_getElem hi,List.getElem?_tail,List.getElem?_eq_getElem hai]
     rfl
    generalize at2 (fun (o:Bs) (a:Arm)=>o==a.op) (ops.map Opn.name) arms.tail i=Q at*
    have hi1: ((i:Int) +1).toNat=i+1:=by omega
    have hi2: (0:Int)≤(i:Int) +1:=by omega
    have hi3: (i:Int) +1<arms.length:=by omega
    have hol2: (Opn.cs ops[i]).length=14:=by simp [Opn.cs]
    have ho0: (Opn.cs ops[i]).head?=some (.str ops[i].name):=rfl
    unfold Opn.d at*
    generalize ops[i].name=on at*
    generalize Opn.cs ops[i]=oc at*
    generalize arms[i+1]=a at*
    rcases a with ⟨aop,an,ab⟩
    have hbl:=ab.cs_len
    simp only [Arm.d,Arm.cs,Arm.op] at*
    generalize slD an=and at*
    generalize ab.cs=abc at*
    have hc: (aop==on)=Q:=by rw [hq2,BEq.comm]
    clear hq2
    have hi4:i+1<ops.length+1:=by omega
    cases Q<;>simp [lp194_0,hq,hi,hi4,h2,h3,h5,h6,hbl,hw,hal2,hol,hc,hi1,hi2,hi3,hai,hlen,hol2,ho0,Nat.testBit_eq_decide_div_mod_eq]) (by
    rw [List.length_range]
    simp [lp194_0,hol])
 rw [Int.natCast_zero] at this
 exact this
theorem effOf_ok (p:Prg) (hok:p.ok) (s:Bs) (h:findEffE p.effects s=0): (effOf p (findEffI p.effects s)).ops.length≤maxL:=by
 rcases findEff_range p s h with h1| ⟨i,h1,h2⟩
 ·rw [h1];show ioE.ops.length≤maxL;unfold maxL;decide
 ·rw [h1]
  unfold effOf
  rw [if_neg (by omega)]
  have:=(hok.e _ (List.getElem_mem h2)).1
  simp [h2,this]
set_option maxHeartbeats 1000000 in
theorem c194 (p:Prg) (hok:p.ok) (k n:Int) (s u:Bs) (names:List Bs) (l:List Ex) (arms:List Arm) (ha:0<arms.length) (hal:arms.length≤maxL) (σ:St):
 CI (.fn 194) [.agg p.cs, .agg (Ex.mk k n s u names l arms).cs] σ=some (.ret (.int .i64 (handlerErr p s arms)),σ):=by
 have hall:=p.cs_all
 have hpl:=p.cs_len
 have hpt:=p.cs_take
 have h35:=fun σ=>c35 p hok.el s σ
 have hla:=armsD_len arms
 have hτ:bodyI CI XB GI af194 [.agg p.cs, .agg (Ex.mk k n s u names l arms).cs] σ=some (.ret (.int .i64 (handlerErr p s arms)),σ++[.box p.cs, .box (Ex.mk k n s u names l arms).cs]):=by
  unfold handlerErr
  by_cases he:findEffE p.effects s=0
  ·rw [if_pos he]
   have h211:=fun σ=>c211 p s he σ
   have hoo:=effOf_ok p hok s he
   rw [opNames_eff p s he]
   rw [he] at h35
   generalize findEffI p.effects s=fi at*
   generalize effOf p fi=e at*
   rcases e with ⟨en,ops⟩
   simp only at hoo ⊢
   have hwo:IntKind.i64.wrap ((ops.length:Int) +1)=(ops.length+1:Nat):=by rw [wrap_i64 (by omega) (by unfold maxL at hoo;omega)];omega
   have hol: (ops.map Opn.d).length=ops.length:=by simp
   by_cases hlen:arms.length=ops.length+1
   ·have hit:=it194_0 ops arms hlen hal (.int .i64 k) (.int .i64 n) (.str s) (.str u) (slD names) (.slice (exsD l)) (σ.length+1) (σ++[.box p.cs, .box (Ex.mk k n s u names l arms).cs]) (by rw [getA];rfl)
    simp only [Ex.cs,slD,Eff.d,Eff.cs] at*
    generalize names.map D.str=nd at*
    generalize exsD l=ld at*
    generalize armsD arms=ad at*
    generalize all2 (fun (o:Bs) (a:Arm)=>o==a.op) (ops.map Opn.name) arms.tail=b at*
    generalize ops.map Opn.d=od at*
    generalize p.cs=pc at*
    cases b<;>simp [bodyI,af194,getA0,getA,hall,hpl,hpt,h35,h211,hla,hol,hwo,hlen,hit]
   ·have hb:all2 (fun (o:Bs) (a:Arm)=>o==a.op) (ops.map Opn.name) arms.tail=false:=all2_ne (by rw [List.length_map,List.length_tail];omega)
    rw [hb]
    have hne: ((arms.length:Int) != (ops.length:Int) +1)=true:=by rw [bne_iff_ne];omega
    have hne2: ((arms.length:Int) ==(ops.length:Int) +1)=false:=by rw [beq_eq_false_iff_ne];omega
    have hne3: ¬((arms.length:Int)=(ops.length:Int) +1):=by omega
    simp only [Ex.cs,slD,Eff.d,Eff.cs] at*
    generalize names.map D.str=nd at*
    generalize exsD l=ld at*
    generalize armsD arms=ad at*
    generalize ops.map Opn.d=od at*
    generalize p.cs=pc at*
    simp [bodyI,af194,getA0,getA,hall,hpl,hpt,h35,h211,hla,hol,hwo,hne,hne2,hne3]
  ·rw [if_neg he]
   have he': (findEffE p.effects s != 0)=true:=by simpa using he
   simp only [Ex.cs,slD] at*
   generalize names.map D.str=nd at*
   generalize exsD l=ld at*
   generalize armsD arms=ad at*
   generalize findEffE p.effects s=e at*
   generalize p.cs=pc at*
   simp [bodyI,af194,getA0,getA,hall,hpl,hpt,h35,he,he']
 exact CI_tree tab194 hτ rfl rfl
theorem it151_0 (p:Prg) (hok:p.ok) (k n:Int) (s u:Bs) (names:List Bs) (l:List Ex) (arms:List Arm) (hn:0<names.length) (hnl:names.length≤maxL) (q r:Nat) (σ:St) (hq:σ[q]? =some (.box p.cs)) (hr:σ[r]? =some (.box (Ex.mk k n s u names l arms).cs)):
 iterI (evalI CI XB GI 123 false lp151_0) [(2, .ptr q 0),(3, .ptr r 0),(16, .int .i64 1)] σ=
  some (if usingErr p names=0 then (.exit 1,[(2, .ptr q 0),(3, .ptr r 0),(16, .int .i64 names.length),(101, .bool false)],σ) else (.ret,[(4, .int .i64 (usingErr p names))],σ)):=by
 unfold usingErr
 have hpl:=p.cs_len
 have hpt:=p.cs_take
 have q35:qI 35=false:=rfl
 have x35:XB 35=false:=rfl
 have h35:=fun s σ=>c35 p hok.el s σ
 have hnd: (names.map D.str).length=names.length:=by simp
 have hng: ∀i (hi:i<names.length),∃h:i< (names.map D.str).length,(names.map D.str)[i]= .str names[i]:=fun i hi=>⟨by omega,by simp⟩
 have htl:names.tail.length=names.length - 1:=List.length_tail
 have:=loop_err (f:=evalI CI XB GI 123 false lp151_0) (σ:=σ) names.tail (fun i=>[(2, .ptr q 0),(3, .ptr r 0),(16, .int .i64 (i+1:Nat))]) (useE p) (fun z=>(.ret,[(4, .int .i64 z)],σ)) (.exit 1,[(2, .ptr q 0),(3, .ptr r 0),(16, .int .i64 names.length),(101, .bool false)],σ) (by simp) (by simp)
  (fun i hi=>by
    have hi1:i+1<names.length:=by omega
    have hw:=wrap_nat (n:=i+1) (by unfold maxL at*;omega)
    have hw':IntKind.i64.wrap ((i:Int) +1+1)=(i:Int) +1+1:=wrap_i64 (by omega) (by unfold maxL at*;omega)
    have hgt:names.tail[i]=names[i+1]:=by simp
    rw [hgt]
    obtain ⟨h2,h3⟩:=hng (i+1) hi1
    have hi2: (i:Int) +1<names.length:=by omega
    have hi3: (0:Int)≤(i:Int) +1:=by omega
    have hi4: ((i:Int) +1).toNat=i+1:=by omega
    have h35:=h35 names[i+1]
    unfold useE nIO
    simp only [Ex.cs,slD] at hr
    generalize names[i+1]=x at*
    generalize findEffE p.effects x=fe at*
    generalize findEffI p.effects x=fi at*
    generalize names.map D.str=nd at*
    generalize exsD l=ld at*
    generalize armsD arms=ad at*
    generalize p.cs=pc at*
    cases hio:x==[73,79]
    ·by_cases h0:fe=0
     ·simp [lp151_0,hq,hr,hpl,hpt,hnd,hi1,hi2,hi3,hi4,h2,h3,hw,hw',hio,h35,q35,x35,h0,Nat.testBit_eq_decide_div_mod_eq]
     ·have h0': (fe != 0)=true:=by simpa using h0
      simp [lp151_0,hq,hr,hpl,hpt,hnd,hi1,hi2,hi3,hi4,h2,h3,hw,hw',hio,h35,q35,x35,h0,h0',Nat.testBit_eq_decide_div_mod_eq]
    ·simp [lp151_0,hq,hr,hnd,hi1,hi2,hi3,hi4,h2,h3,hio]) (by
    have e:names.tail.length+1=names.length:=by omega
    rw [e]
    simp only [Ex.cs,slD] at hr
    generalize names.map D.str=nd at*
    generalize exsD l=ld at*
    generalize armsD arms=ad at*
    simp [lp151_0,hr,hnd])
 have e0: ((0+1:Nat):Int)=1:=rfl
 rw [e0] at this
 exact this
end Go.AI
namespace Go.AI
open Go Go.Proofs Go.Lx
end Go.AI
namespace Go.AI
open Go Go.Proofs Go.Lx
set_option maxRecDepth 100000
theorem k16 (σ:St):CI (.fn 16) [] σ=some (.ret (.bool true),σ):=by
 exact callI_ext postN (g:=fun a=>g16 (weakL a)) rfl rfl
theorem exsD_app (a b:List Ex):exsD (a++b)=exsD a++exsD b:=by simp only [exsD_map,List.map_append]
theorem foldS_body: ∀ (l:List Arm) (i:Nat) (b:List Ex),foldS (γ:=Unit) (fun _ (a:Arm) b=> .inl (b++[a.body])) l i b= .inl (b++l.map Arm.body)
 | [],i,b=>by simp [foldS]
 |a::r,i,b=>by simp only [foldS,foldS_body r];simp
set_option maxHeartbeats 1000000 in
theorem c52 (k n:Int) (s t:Bs) (names:List Bs) (l:List Ex) (arms:List Arm) (hb:l.length+arms.length≤1000000) (σ:St):
 CI (.fn 52) [.agg (Ex.mk k n s t names l arms).cs] σ=some (.ret (.slice (exsD (Ex.mk k n s t names l arms).parts)),σ):=by
 have hel:=exsD_len l
 have hal:=armsD_len arms
 obtain ⟨τ,hit⟩:=loop_foldS (γ:=Unit) (f:=evalI CI XB GI 26 false lp52_0) arms (fun j b=>[(1, .ptr σ.length 0),(3, .arr (σ.length+1) b.length 0 b.length),(4, .int .i64 (j:Nat))])
  (fun b=>σ++[.box (Ex.mk k n s t names l arms).cs, .row 7 (exsD b) 0]) (fun j b=>b.length=l.length+j) (fun _ (a:Arm) b=> .inl (b++[a.body])) (fun _=>(.ret,[])) (fun _=>[]) (fun b=>(.exit 0,[(1, .ptr σ.length 0),(3, .arr (σ.length+1) b.length 0 b.length),(4, .int .i64 arms.length),(13, .bool false)]))
  (by simp) (by simp) (fun j hj b b' hb hs=>by cases hs;simp [hb];omega)
  (fun j hj b τ hbl=>by
    have hw:=wrap_nat (n:=j) (by omega)
    have hget: (armsD arms)[j]? =some (.agg arms[j].cs):=by rw [armsD_map];simp [Arm.d,hj]
    have hg0: (σ++[.box (Ex.mk k n s t names l arms).cs, .row 7 (exsD b) 0]++τ)[σ.length]? =some (.box [.int .i64 k, .int .i64 n, .str s, .str t,slD names, .slice (exsD l), .slice (armsD arms)]):=by rw [List.append_assoc];exact getA0
    have hg1: (σ++[.box (Ex.mk k n s t names l arms).cs, .row 7 (exsD b) 0]++τ)[σ.length+1]? =some (.row 7 (exsD b) 0):=by rw [List.append_assoc];exact getA
    have hs1: (σ++[Obj.box (Ex.mk k n s t names l arms).cs,Obj.row 7 (exsD b) 0]++τ).set (σ.length+1) (Obj.row 7 (exsD b++[D.agg arms[j].body.cs]) 0)=σ++[.box (Ex.mk k n s t names l arms).cs, .row 7 (exsD (b++[arms[j].body])) 0]++τ:=by
     rw [List.append_assoc,setA,exsD_app];simp [exsD]
    have hbl2:=exsD_len b
    refine ⟨τ, ?_⟩
    rw [Arm.cs_eq] at hget
    have hx1:=arms[j].body.cs_all
    have hx2:=arms[j].body.cs_len
    have hx3:=arms[j].body.cs_take
    simp only
    rw [←hs1]
    generalize σ++[.box (Ex.mk k n s t names l arms).cs, .row 7 (exsD b) 0]++τ=σ1 at*
    generalize exsD b=bd at*
    generalize armsD arms=ad at*
    have h2:j<ad.length:=by omega
    have h3:ad[j]= .agg (.str arms[j].op::slD arms[j].names::arms[j].body.cs):=by rw [List.getElem?_eq_getElem h2] at hget;exact Option.some.inj hget
    unfold slD at*
    generalize arms[j].names.map D.str=nd at*
    generalize arms[j].op=aop at*
    generalize arms[j].body.cs=bc at*
    generalize names.map D.str=nmd at*
    generalize exsD l=ld at*
    have hba: (b.length+1) *120≤140737488355328:=by omega
    simp [lp52_0,hj,hw,hal,h2,h3,hg0,hg1,hbl2,hba,rowOf,fillRow,hx1,hx2,hx3])
  (fun b τ hb=>⟨τ,by
    have hg0: (σ++[.box (Ex.mk k n s t names l arms).cs, .row 7 (exsD b) 0]++τ)[σ.length]? =some (.box [.int .i64 k, .int .i64 n, .str s, .str t,slD names, .slice (exsD l), .slice (armsD arms)]):=by rw [List.append_assoc];exact getA0
    generalize σ++[.box (Ex.mk k n s t names l arms).cs, .row 7 (exsD b) 0]++τ=σ1 at*
    generalize armsD arms=ad at*
    simp [lp52_0,hg0,hal]⟩) l [] rfl
 rw [foldS_body,List.append_nil,Int.natCast_zero] at hit
 have hparts: (Ex.mk k n s t names l arms).parts=l++arms.map Arm.body:=rfl
 rw [hparts]
 simp only at hit
 have hall: (exsD l).all (fun e=>e.cells.length==7&&e.cells.all D.one)=true:=by
  rw [exsD_map,List.all_map];simp [Ex.d,D.cells,Ex.cs_all]
 have hτ:bodyI CI XB GI af52 [.agg (Ex.mk k n s t names l arms).cs] σ=some (.ret (.arr (σ.length+1) (l++arms.map Arm.body).length 0 (l++arms.map Arm.body).length),σ++([.box (Ex.mk k n s t names l arms).cs, .row 7 (exsD (l++arms.map Arm.body)) 0]++τ)):=by
  rw [←List.append_assoc]
  generalize σ++[.box (Ex.mk k n s t names l arms).cs, .row 7 (exsD (l++arms.map Arm.body)) 0]++τ=σ2 at*
  generalize (l++arms.map Arm.body).length=pl at*
  simp only [Ex.cs,slD] at*
  generalize names.map D.str=nmd at*
  generalize exsD l=ld at*
  generalize armsD arms=ad at*
  simp only [D.cells] at hall
  have hba:l.length*120≤140737488355328:=by omega
  simp [bodyI,af52,getA0,getA,setA,fillRow,rowOf,hall,hel,hba,hit, -List.all_eq_true]
 refine CI_fn tab52 hτ ?_
 have hl: (l++arms.map Arm.body).length=(exsD (l++arms.map Arm.body)).length:=(exsD_len _).symm
 rw [hl,postI_row (sz:=7) (since:=0) (by rw [getA];rfl) (by omega) (by omega) (exs_plain _).1]
 rw [(exs_plain _).2]
theorem nodeE_few {k n:Int} {s t:Bs} {names:List Bs} {nl:Nat} {arms:List Arm} (h:nodeE k n s t names nl arms=0):nl≤4∧arms.length≤9:=by
 unfold nodeE at h
 split at h
 ·rename_i hk
  have hk':0≤k∧k≤19:=by unfold inR at hk;simpa using hk
  have hpq: (shapeOf k).p+ (shapeOf k).q≤4:=by
   have:k=0∨k=1∨k=2∨k=3∨k=4∨k=5∨k=6∨k=7∨k=8∨k=9∨k=10∨k=11∨k=12∨k=13∨k=14∨k=15∨k=16∨k=17∨k=18∨k=19:=by omega
   rcases this with rfl|rfl|rfl|rfl|rfl|rfl|rfl|rfl|rfl|rfl|rfl|rfl|rfl|rfl|rfl|rfl|rfl|rfl|rfl|rfl<;>decide
  split at h
  ·split at h
   ·split at h
    ·rename_i hr
     simp only [Bool.and_eq_true,inR,decide_eq_true_eq] at hr
     split at h
     ·cases h
     ·rename_i ha
      simp only [Bool.or_eq_true,Bool.and_eq_true,Bool.not_eq_true',decide_eq_true_eq,not_or] at ha
      exact ⟨by omega,by omega⟩
    ·cases h
   ·cases h
  ·cases h
 ·cases h
theorem k52 (e:Ex) (h:e.e=0) (σ:St):CI (.fn 52) [.agg e.cs] σ=some (.ret (.slice (exsD e.parts)),σ):=by
 rcases e with ⟨k,n,s,t,names,l,arms⟩
 obtain ⟨h1,h2⟩:=nodeE_few (Ex.e_node h).1
 exact c52 k n s t names l arms (by omega) σ
set_option maxHeartbeats 2000000 in
theorem c151 (p:Prg) (hok:p.ok) (x:Ex) (hx:x.ok) (he:x.e=0) (σ:St):CI (.fn 151) [.agg p.cs, .agg x.cs] σ=some (.ret (.int .i64 (x.ordErr p)),σ):=by
 rcases x with ⟨k,n,s,u,names,l,arms⟩
 have hn:=(Ex.e_node he).1
 obtain ⟨hnl,hll,hal, -⟩:=hx
 have hall:=p.cs_all
 have hpl:=p.cs_len
 have hpt:=p.cs_take
 have h31:=fun s σ=>c31 p hok s σ
 have h33:=fun s σ=>c33 p hok s σ
 have h35:=fun s σ=>c35 p hok.el s σ
 have h193:=fun σ=>c193 p hok arms hal σ
 have h194:=fun h σ=>c194 p hok k n s u names l arms h hal σ
 have hel:=exsD_len l
 have y1:=(Ex.mk k n s u names l arms).cs_len
 have y2:=(Ex.mk k n s u names l arms).cs_take
 have fin: ∀z,(∃τ,bodyI CI XB GI af151 [.agg p.cs, .agg (Ex.mk k n s u names l arms).cs] σ=some (.ret (.int .i64 z),σ++τ))→CI (.fn 151) [.agg p.cs, .agg (Ex.mk k n s u names l arms).cs] σ=some (.ret (.int .i64 z),σ):=fun z ⟨τ,h⟩=>CI_tree tab151 h rfl rfl
 apply fin
 clear fin
 refine ⟨[.box p.cs, .box (Ex.mk k n s u names l arms).cs], ?_⟩
 simp only [Ex.ordErr]
 by_cases k10:k=10
 ·subst k10
  rw [if_pos rfl]
  have h31:=h31 s
  unfold conErr
  have hh:p.cs.head?=some (.slice (p.data.map Dat.d)):=by rw [p.cs_eq];rfl
  obtain ⟨dd,hdd,hdl,hdg⟩:=opq Dat.d p.data
  rw [hdd] at hh
  cases hf:findConL s p.data 0 with
  |none=>
   rw [hf] at h31
   rw [conOf_none hf]
   simp only [Ex.cs,slD] at*
   generalize names.map D.str=nd at*
   generalize exsD l=ld at*
   generalize armsD arms=ad at*
   generalize p.cs=pc at*
   simp [bodyI,af151,getA0,getA,hall,hpl,hpt,h31,conD]
  |some x=>
   obtain ⟨i,q⟩:=x
   rw [hf] at h31
   obtain ⟨hi,hq,hc,_⟩:=conOf_some hf
   rw [hc]
   obtain ⟨h2,h3⟩:=hdg i hi
   clear hc
   generalize p.data[i]=d at*
   rcases d with ⟨dn,dp,dc⟩
   simp only at hq ⊢
   obtain ⟨cd,hcd,hcl,hcg⟩:=opq Con.d dc
   obtain ⟨h4,h5⟩:=hcg q hq
   generalize dc[q]=c at*
   rcases c with ⟨cn,args⟩
   have hadl:=tysD_len args
   simp only [Dat.d,Dat.cs,Con.d,Con.cs,Ex.cs,slD] at*
   rw [hcd] at h3
   generalize names.map D.str=nd at*
   generalize exsD l=ld at*
   generalize armsD arms=ad at*
   generalize tysD args=td at*
   generalize dp.map D.str=pd at*
   generalize p.cs=pc at*
   by_cases hz:args.length=l.length
   ·simp [bodyI,af151,getA0,getA,hall,hpl,hpt,h31,conD,hh,hdl,hi,h2,h3,hcl,hq,h4,h5,hel,hadl,hz,Nat.testBit_eq_decide_div_mod_eq]
   ·have hz1: ((l.length:Int) != args.length)=true:=by rw [bne_iff_ne];omega
    have hz2: ((l.length:Int) ==args.length)=false:=by rw [beq_eq_false_iff_ne];omega
    simp [bodyI,af151,getA0,getA,hall,hpl,hpt,h31,conD,hh,hdl,hi,h2,h3,hcl,hq,h4,h5,hel,hadl,hz,hz1,hz2,Nat.testBit_eq_decide_div_mod_eq]
 have b10: (k==10)=false:=by simpa using k10
 rw [if_neg k10]
 by_cases k11:k=11
 ·subst k11
  rw [if_pos rfl]
  simp only [Ex.cs,slD] at*
  generalize names.map D.str=nd at*
  generalize exsD l=ld at*
  generalize armsD arms=ad at*
  generalize p.cs=pc at*
  simp [bodyI,af151,getA0,getA,hall,hpl,hpt,h193]
 have b11: (k==11)=false:=by simpa using k11
 rw [if_neg k11]
 by_cases k12:k=12
 ·subst k12
  rw [if_pos rfl]
  obtain ⟨a,b,ho⟩:=opD_err p s
  have h33:=h33 s
  rw [ho] at h33
  simp only [Ex.cs,slD] at*
  generalize opErr p s=z at*
  generalize names.map D.str=nd at*
  generalize exsD l=ld at*
  generalize armsD arms=ad at*
  generalize p.cs=pc at*
  simp [bodyI,af151,getA0,getA,hall,hpl,hpt,h33]
 have b12: (k==12)=false:=by simpa using k12
 rw [if_neg k12]
 by_cases k13:k=13
 ·subst k13
  rw [if_pos rfl]
  obtain ⟨a,b,ho⟩:=opD_err p u
  have h33:=h33 u
  rw [ho] at h33
  simp only [Ex.cs,slD] at*
  generalize opErr p u=z at*
  generalize names.map D.str=nd at*
  generalize exsD l=ld at*
  generalize armsD arms=ad at*
  generalize p.cs=pc at*
  simp [bodyI,af151,getA0,getA,hall,hpl,hpt,h33]
 have b13: (k==13)=false:=by simpa using k13
 rw [if_neg k13]
 by_cases k14:k=14
 ·subst k14
  rw [if_pos rfl]
  have h194:=h194 (nodeE_arms hn (.inl rfl))
  simp only [Ex.cs,slD] at*
  generalize handlerErr p s arms=z at*
  generalize names.map D.str=nd at*
  generalize exsD l=ld at*
  generalize armsD arms=ad at*
  generalize p.cs=pc at*
  simp [bodyI,af151,getA0,getA,hall,hpl,hpt,h194]
 have b14: (k==14)=false:=by simpa using k14
 rw [if_neg k14]
 by_cases k15:k=15
 ·subst k15
  rw [if_pos rfl]
  have h194:=h194 (nodeE_arms hn (.inr rfl))
  simp only [Ex.cs,slD] at*
  generalize handlerErr p s arms=z at*
  generalize names.map D.str=nd at*
  generalize exsD l=ld at*
  generalize armsD arms=ad at*
  generalize p.cs=pc at*
  simp [bodyI,af151,getA0,getA,hall,hpl,hpt,h194]
 have b15: (k==15)=false:=by simpa using k15
 rw [if_neg k15]
 by_cases k16:k=16
 ·subst k16
  rw [if_pos rfl]
  have h35:=h35 s
  simp only [Ex.cs,slD] at*
  generalize findEffE p.effects s=z at*
  generalize findEffI p.effects s=z' at*
  generalize names.map D.str=nd at*
  generalize exsD l=ld at*
  generalize armsD arms=ad at*
  generalize p.cs=pc at*
  simp [bodyI,af151,getA0,getA,hall,hpl,hpt,h35]
 have b16: (k==16)=false:=by simpa using k16
 rw [if_neg k16]
 by_cases k17:k=17
 ·subst k17
  rw [if_pos rfl]
  have hit:=it151_0 p hok 17 n s u names l arms (nodeE_names hn) hnl σ.length (σ.length+1) (σ++[.box p.cs, .box (Ex.mk 17 n s u names l arms).cs]) getA0 getA
  simp only [Ex.cs,slD] at*
  generalize names.map D.str=nd at*
  generalize exsD l=ld at*
  generalize armsD arms=ad at*
  generalize p.cs=pc at*
  by_cases hz:usingErr p names=0
  ·rw [if_pos hz] at hit
   simp [bodyI,af151,getA0,getA,hall,hit,hz]
  ·rw [if_neg hz] at hit
   simp [bodyI,af151,getA0,getA,hall,hit]
 have b17: (k==17)=false:=by simpa using k17
 rw [if_neg k17]
 simp only [Ex.cs,slD] at*
 generalize names.map D.str=nd at*
 generalize exsD l=ld at*
 generalize armsD arms=ad at*
 generalize p.cs=pc at*
 simp [bodyI,af151,getA0,getA,hall,b10,b11,b12,b13,b14,b15,b16,b17]
mutual
def Ty.left:Ty→Int→Int→Int
 | .mk _ _ _ l ls _,left,d=>if d<1∨24<ls.length then -1 else tysLeft l (left - 1) (d - 1)
def tysLeft:List Ty→Int→Int→Int
 | [],left,_=>left
 |t::r,left,d=>if 0≤left then tysLeft r (t.left left d) d else left
end
mutual
theorem Ty.left_le: ∀ (t:Ty) (left d:Int),0≤left→ -1≤t.left left d∧t.left left d≤left
 | .mk _ _ _ l ls _,left,d,h=>by
  simp only [Ty.left]
  split
  ·exact ⟨by omega,by omega⟩
  ·have:=tysLeft_le l (left - 1) (d - 1) (by omega)
   exact ⟨this.1,by omega⟩
theorem tysLeft_le: ∀ (l:List Ty) (left d:Int), -1≤left→ -1≤tysLeft l left d∧tysLeft l left d≤left
 | [],left,d,h=>by simp only [tysLeft];exact ⟨h,by omega⟩
 |t::r,left,d,h=>by
  simp only [tysLeft]
  split
  ·rename_i h0
   obtain ⟨h1,h2⟩:=t.left_le left d h0
   have:=tysLeft_le r (t.left left d) d h1
   exact ⟨this.1,by omega⟩
  ·exact ⟨h,by omega⟩
end
mutual
theorem c120: ∀ (t:Ty),t.ok→ ∀ (left d:Int) (σ:St),0≤left→left≤1000000→0≤d→d≤1000→
 CI (.fn 120) [.agg t.cs, .int .i64 left, .int .i64 d] σ=some (.ret (.int .i64 (t.left left d)),σ)
 | .mk k n s l ls tail,hok,left,d,σ,h0,h1,hd0,hd1=>by
  obtain ⟨hl1,hl2,hl3⟩:=hok
  have hw:IntKind.i64.wrap (left - 1)=left - 1:=wrap_i64 (by omega) (by omega)
  have hlsl: (ls.map Lab.d).length=ls.length:=by simp
  have hτ:bodyI CI XB GI af120 [.agg (Ty.mk k n s l ls tail).cs, .int .i64 left, .int .i64 d] σ=some (.ret (.int .i64 ((Ty.mk k n s l ls tail).left left d)),σ++[.box (Ty.mk k n s l ls tail).cs]):=by
   simp only [Ty.left]
   by_cases hdd:d<1
   ·rw [if_pos (.inl hdd)]
    simp only [Ty.cs]
    generalize ls.map Lab.d=lsd at*
    generalize tysD l=ld at*
    simp [bodyI,af120,getA0,hw,hdd]
   ·by_cases h24:24<ls.length
    ·rw [if_pos (.inr h24)]
     simp only [Ty.cs]
     generalize ls.map Lab.d=lsd at*
     generalize tysD l=ld at*
     have h24': (24:Int) < (lsd.length:Int):=by omega
     have h24'':24<lsd.length:=by omega
     simp [bodyI,af120,getA0,hw,hdd,h24,h24',h24'']
    ·rw [if_neg (fun h=>h.elim hdd h24)]
     obtain ⟨j,hit⟩:=it120 l [] (left - 1) d (σ++[.box (Ty.mk k n s l ls tail).cs]) σ.length ⟨k,n,s, .slice (ls.map Lab.d),tail,by rw [getA0];rfl⟩ hl1 hl3 (by omega) (by omega) (by omega) (by omega) 0 rfl
     rw [Int.natCast_zero] at hit
     simp only [Ty.cs] at hit ⊢
     generalize ls.map Lab.d=lsd at*
     generalize tysD l=ld at*
     have h24': ¬(24:Int) < (lsd.length:Int):=by omega
     have h24'': ¬24<lsd.length:=by omega
     simp [bodyI,af120,getA0,hw,hdd,h24,h24',h24'',hit]
  exact CI_tree tab120 hτ rfl rfl
theorem it120: ∀ (r pre:List Ty) (left d:Int) (σ:St) (p:Nat),(∃k n s ls tail,σ[p]? =some (.box [.int .i64 k, .int .i64 n, .str s, .slice (tysD (pre++r)),ls, .int .i64 tail]))→(pre++r).length≤maxL→tysOk r→ -1≤left→left≤1000000→1≤d→d≤1000→ ∀ (m:Nat),m=pre.length→
 ∃j:Int,iterI (evalI CI XB GI 40 false lp120_0) [(1, .int .i64 left),(2, .int .i64 d),(3, .ptr p 0),(7, .int .i64 (m:Nat))] σ=
  some (.exit 0,[(1, .int .i64 (tysLeft r left (d - 1))),(2, .int .i64 d),(3, .ptr p 0),(7, .int .i64 j),(27, .bool false)],σ)
 | [],pre,left,d,σ,p,hσ,hl,hok,h0,h1,hd0,hd1,m,hm=>by
  obtain ⟨k,n,s,ls,tail,hσ⟩:=hσ
  rw [List.append_nil] at hσ
  refine ⟨(m:Int),iterI_end ?_ (by simp)⟩
  have hlen:=tysD_len pre
  generalize tysD pre=ld at*
  simp [lp120_0,hσ,hm,hlen,tysLeft]
 |t::r,pre,left,d,σ,p,hσ,hl,hok,h0,h1,hd0,hd1,m,hm=>by
  obtain ⟨k,n,s,ls,tail,hσ'⟩:=hσ
  have hlen:=tysD_len (pre++t::r)
  have hmt:m< (pre++t::r).length:=by simp;omega
  have hget: (tysD (pre++t::r))[m]? =some (.agg t.cs):=by rw [tysD_map,hm];simp [Ty.d]
  have hw:=wrap_nat (n:=m) (by unfold maxL at hl;omega)
  have hwd:IntKind.i64.wrap (d - 1)=d - 1:=wrap_i64 (by omega) (by omega)
  have hp:pre++[t]++r=pre++t::r:=by simp
  by_cases hlt:0≤left
  ·have ht:=t.left_le left (d - 1) hlt
   obtain ⟨j,ih⟩:=it120 r (pre++[t]) (t.left left (d - 1)) d σ p ⟨k,n,s,ls,tail,by rw [hp];exact hσ'⟩ (by rw [hp];exact hl) hok.2 ht.1 (by omega) hd0 hd1 (m+1) (by simp [hm])
   refine ⟨j, ?_⟩
   have h120:=c120 t hok.1 left (d - 1) σ hlt h1 (by omega) (by omega)
   simp only [tysLeft,if_pos hlt]
   rw [←ih]
   refine iterI_next ?_
   generalize tysD (pre++t::r)=ld at*
   generalize (pre++t::r).length=len at*
   have h2:m<ld.length:=by omega
   have h3:ld[m]= .agg t.cs:=by rw [List.getElem?_eq_getElem h2] at hget;exact Option.some.inj hget
   have y1:=t.cs_len
   have y2:=t.cs_take
   generalize t.cs=xc at*
   generalize t.left left (d - 1)=tl at*
   simp [lp120_0,hσ',hmt,hlen,h2,h3,y1,y2,hw,hwd,hlt,h120]
  ·refine ⟨(m:Int),iterI_end ?_ (by simp)⟩
   simp only [tysLeft,if_neg hlt]
   generalize tysD (pre++t::r)=ld at*
   generalize (pre++t::r).length=len at*
   simp [lp120_0,hσ',hmt,hlen,hlt]
end
theorem isB_mem {s:Bs} (h:isB s=true):s ∈ builtins:=by
 unfold isB hasS at h
 simpa using h
theorem isB_C0 {s:Bs} (h:isC s 0=true):isB s=false:=by
 cases hb:isB s
 ·rfl
 ·have: ∀x ∈ builtins,isC x 0=false:=by decide
  rw [this s (isB_mem hb)] at h
  cases h
theorem isB_C1 {s:Bs} (h:isC s 1=true):isB s=false:=by
 cases hb:isB s
 ·rfl
 ·have: ∀x ∈ builtins,isC x 1=false:=by decide
  rw [this s (isB_mem hb)] at h
  cases h
theorem tysE_first: ∀ (l:List Ty),tysE l=firstE (l.map Ty.e)
 | []=>rfl
 |t::r=>by simp only [tysE,List.map_cons,firstE,tysE_first r]
set_option maxHeartbeats 4000000 in
theorem c121: ∀ (t:Ty),t.ok→ ∀ (σ:St),CI (.fn 121) [.agg t.cs] σ=some (.ret (.int .i64 t.e),σ)
 | .mk k n s l ls tail,hok,σ=>by
  obtain ⟨hl1,hl2,hl3⟩:=hok
  have hq1: (σ++[Obj.box (Ty.mk k n s l ls tail).cs])[σ.length]? =some (.box [.int .i64 k, .int .i64 n, .str s, .slice (tysD l), .slice (ls.map Lab.d), .int .i64 tail]):=getA0
  have hlen:=tysD_len l
  have hlsl: (ls.map Lab.d).length=ls.length:=by simp
  have it0:iterI (evalI CI XB GI 125 false lp121_0) [(1, .ptr σ.length 0),(5, .int .i64 0)] (σ++[Obj.box (Ty.mk k n s l ls tail).cs])=
   some (if tysE l=0 then (.exit 0,[(1, .ptr σ.length 0),(5, .int .i64 l.length),(113, .bool false)],σ++[Obj.box (Ty.mk k n s l ls tail).cs]) else (.ret,[(2, .int .i64 (tysE l))],σ++[Obj.box (Ty.mk k n s l ls tail).cs])):=by
   have ih:=fun i (hi:i<l.length) σ=>c121 l[i] (tysOk_mem hl3 (List.getElem_mem hi)) σ
   generalize σ++[Obj.box (Ty.mk k n s l ls tail).cs]=σ1 at*
   rw [tysE_first]
   refine loop_err l (fun i=>[(1, .ptr σ.length 0),(5, .int .i64 (i:Nat))]) Ty.e (fun v=>(.ret,[(2, .int .i64 v)],σ1)) _ (by simp) (by simp) (fun i hi=> ?_) ?_
   ·have hw:=wrap_nat (n:=i) (by unfold maxL at hl1;omega)
    have hget: (tysD l)[i]? =some (.agg l[i].cs):=by rw [tysD_map];simp [Ty.d,hi]
    have ih:=ih i hi
    generalize tysD l=ld at*
    have h2:i<ld.length:=by omega
    have h3:ld[i]= .agg l[i].cs:=by rw [List.getElem?_eq_getElem h2] at hget;exact Option.some.inj hget
    have y1:=l[i].cs_len
    have y2:=l[i].cs_take
    generalize l[i]=x at*
    generalize x.cs=xc at*
    generalize ls.map Lab.d=lsd at*
    generalize x.e=xe at*
    by_cases hb:xe=0
    ·simp [lp121_0,hq1,hi,hw,hlen,h2,h3,y1,y2,ih,hb]
    ·have hb': (xe != 0)=true:=by simpa using hb
     simp [lp121_0,hq1,hi,hw,hlen,h2,h3,y1,y2,ih,hb,hb']
   ·generalize ls.map Lab.d=ld at*
    generalize tysD l=td at*
    simp [lp121_0,hq1,hlen]
  have hτ:bodyI CI XB GI af121 [.agg (Ty.mk k n s l ls tail).cs] σ=some (.ret (.int .i64 (Ty.mk k n s l ls tail).e),σ++[.box (Ty.mk k n s l ls tail).cs]):=by
   have h169:=fun σ=>c169 ls tail σ hl2
   simp only [Ty.e]
   simp only [Ty.cs] at it0 ⊢
   generalize ls.map Lab.d=lsd at*
   generalize tysD l=ld at*
   generalize tysE l=te at*
   have cut: ∀v,tnodeE k n s l.length ls tail=v→v≠0→bodyI CI XB GI af121 [.agg [.int .i64 k, .int .i64 n, .str s, .slice ld, .slice lsd, .int .i64 tail]] σ=some (.ret (.int .i64 v),σ++[.box [.int .i64 k, .int .i64 n, .str s, .slice ld, .slice lsd, .int .i64 tail]])→
    bodyI CI XB GI af121 [.agg [.int .i64 k, .int .i64 n, .str s, .slice ld, .slice lsd, .int .i64 tail]] σ=some (.ret (.int .i64 (if tnodeE k n s l.length ls tail=0 then te else tnodeE k n s l.length ls tail)),σ++[.box [.int .i64 k, .int .i64 n, .str s, .slice ld, .slice lsd, .int .i64 tail]]):=by
    intro v hv hne hb
    rw [hv,if_neg hne]
    exact hb
   have fin:tnodeE k n s l.length ls tail=0→bodyI CI XB GI af121 [.agg [.int .i64 k, .int .i64 n, .str s, .slice ld, .slice lsd, .int .i64 tail]] σ=some (.ret (.int .i64 te),σ++[.box [.int .i64 k, .int .i64 n, .str s, .slice ld, .slice lsd, .int .i64 tail]])→
    bodyI CI XB GI af121 [.agg [.int .i64 k, .int .i64 n, .str s, .slice ld, .slice lsd, .int .i64 tail]] σ=some (.ret (.int .i64 (if tnodeE k n s l.length ls tail=0 then te else tnodeE k n s l.length ls tail)),σ++[.box [.int .i64 k, .int .i64 n, .str s, .slice ld, .slice lsd, .int .i64 tail]]):=by
    intro hv hb
    rw [if_pos hv]
    exact hb
   cases hk:inR k 0 6
   ·exact cut 1 (by simp [tnodeE,hk]) (by decide) (by simp [bodyI,af121,getA0,k157,hk])
   cases hn:inR n 0 999999999
   ·exact cut 1 (by simp [tnodeE,hk,hn]) (by decide) (by simp [bodyI,af121,getA0,k157,hk,hn])
   have hn0:0≤n:=by unfold inR at hn;simp at hn;omega
   have hkk:0≤k∧k≤6:=by unfold inR at hk;simp at hk;omega
   by_cases hkn:k≠0∧n≠0
   ·obtain ⟨h1,h2⟩:=hkn
    have h3:0<n:=by omega
    have h1': (k != 0)=true:=by simpa using h1
    have h2': (n != 0)=true:=by simpa using h2
    exact cut 1 (by simp [tnodeE,hk,hn,h1,h3]) (by decide) (by simp [bodyI,af121,getA0,k157,hk,hn,h1',h2'])
   have hg: ((k != 0)&&(n != 0))=false:=by
    cases h: (k != 0)&&(n != 0)
    ·rfl
    ·exact absurd (by simpa using h) hkn
   have hg2: ((k != 0)&&decide (0<n))=false:=by
    cases h: (k != 0)&&decide (0<n)
    ·rfl
    ·obtain ⟨h1,h2⟩:=Bool.and_eq_true_iff.1 h
     exact absurd ⟨by simpa using h1,by have:=of_decide_eq_true h2;omega⟩ hkn
   have h0: (k != 0)=false∨((k != 0)=true∧(n != 0)=false):=by
    cases h:k != 0
    ·exact .inl rfl
    ·rw [h] at hg
     exact .inr ⟨rfl,by simpa using hg⟩
   have k167:=fun s k σ=>c167 s k σ
   by_cases hk1:k=1
   ·subst hk1
    have hcl:classT 1=1:=rfl
    have hnn: ¬0<n:=by simpa using hg2
    have hn0: (n != 0)=false:=by simpa using hg
    cases hc:isC s 1
    ·exact cut 4 (by simp [tnodeE,hk,hn,hnn,hcl,hc]) (by decide) (by simp [bodyI,af121,getA0,k157,k167,k168,hk,hn,hn0,hc])
    have hb:=isB_C1 hc
    by_cases hl:l.length=0
    rotate_left
    ·have hr:inR l.length (leastT 1) (mostT 1)=false:=by
      have e1:leastT 1=0:=by simp [leastT]
      have e2:mostT 1=0:=by simp [mostT]
      rw [e1,e2]
      unfold inR
      rw [decide_eq_false (p:=(l.length:Int)≤0) (by omega),Bool.and_false]
     have hl':0<l.length:=by omega
     exact cut 7 (by simp [tnodeE,hk,hn,hnn,hcl,hc,hb,hr]) (by decide) (by simp [bodyI,af121,getA0,k157,k167,k168,hk,hn,hn0,hc,hb,hlen,hl',hl])
    have hr:inR l.length (leastT 1) (mostT 1)=true:=by simp [inR,leastT,mostT,hl]
    have hl': ¬0<l.length:=by omega
    by_cases hlp:0<ls.length
    ·have hlp': (0:Int) < (lsd.length:Int):=by omega
     have hlp'':0<lsd.length:=by omega
     exact cut 1 (by simp [tnodeE,hk,hn,hnn,hcl,hc,hb,hr,hlp]) (by decide) (by simp [bodyI,af121,getA0,k157,k167,k168,hk,hn,hn0,hc,hb,hlen,hl',hl,hlp,hlp',hlp''])
    have hlp': ¬(0:Int) < (lsd.length:Int):=by omega
    have hlp'': ¬0<lsd.length:=by omega
    cases ht0:tail != 0
    ·refine fin (by simp [tnodeE,hk,hn,hnn,hcl,hc,hb,hr,hlp,ht0]) ?_
     by_cases ht:te=0<;>simp [bodyI,af121,getA0,k157,k167,k168,hk,hn,hn0,hc,hb,hlen,hl',hl,hlp,hlp',hlp'',ht0,it0,ht]
    ·exact cut 1 (by simp [tnodeE,hk,hn,hnn,hcl,hc,hb,hr,hlp,ht0]) (by decide) (by simp [bodyI,af121,getA0,k157,k167,k168,hk,hn,hn0,hc,hb,hlen,hl',hl,hlp,hlp',hlp'',ht0])
   by_cases hk5:k=5
   ·subst hk5
    have hcl:classT 5=0:=rfl
    have hnn: ¬0<n:=by simpa using hg2
    have hn0: (n != 0)=false:=by simpa using hg
    cases hc:isC s 0
    ·exact cut 4 (by simp [tnodeE,hk,hn,hnn,hcl,hc]) (by decide) (by simp [bodyI,af121,getA0,k157,k167,k168,hk,hn,hn0,hc])
    have hb:=isB_C0 hc
    by_cases hl:l.length=2
    rotate_left
    ·have hr:inR l.length (leastT 5) (mostT 5)=false:=by
      show (decide ((2:Int)≤l.length)&&decide ((l.length:Int)≤2))=false
      by_cases h2: (l.length:Int)≤2
      ·rw [decide_eq_false (p:=(2:Int)≤l.length) (by omega),Bool.false_and]
      ·rw [decide_eq_false h2,Bool.and_false]
     have hl': ((l.length:Int) != 2)=true:=by simp only [bne_iff_ne,ne_eq];omega
     exact cut 7 (by simp [tnodeE,hk,hn,hnn,hcl,hc,hb,hr]) (by decide) (by simp [bodyI,af121,getA0,k157,k167,k168,hk,hn,hn0,hc,hb,hlen,hl',hl])
    have hr:inR l.length (leastT 5) (mostT 5)=true:=by simp [inR,leastT,mostT,hl]
    have hl': ((l.length:Int) != 2)=false:=by simp [hl]
    have hN:tnodeE 5 n s l.length ls tail=rowE ls tail:=by simp [tnodeE,hk,hn,hnn,hcl,hc,hb,hr]
    by_cases hz:rowE ls tail=0
    ·refine fin (by rw [hN,hz]) ?_
     by_cases ht:te=0<;>simp [bodyI,af121,getA0,k157,k167,k168,hk,hn,hn0,hc,hb,hlen,hl',hl,h169,hz,it0,ht]
    ·have hz': (rowE ls tail != 0)=true:=by simpa using hz
     exact cut _ hN hz (by simp [bodyI,af121,getA0,k157,k167,k168,hk,hn,hn0,hc,hb,hlen,hl',hl,h169,hz,hz'])
   by_cases hk6:k=6
   ·subst hk6
    have hcl:classT 6=2:=rfl
    have hnn: ¬0<n:=by simpa using hg2
    have hn0: (n != 0)=false:=by simpa using hg
    cases hc:isC s 2
    ·exact cut 4 (by simp [tnodeE,hk,hn,hnn,hcl,hc]) (by decide) (by simp [bodyI,af121,getA0,k157,k167,k168,hk,hn,hn0,hc])
    cases hb:isB s
    rotate_left
    ·exact cut 4 (by simp [tnodeE,hk,hn,hnn,hcl,hc,hb]) (by decide) (by simp [bodyI,af121,getA0,k157,k167,k168,hk,hn,hn0,hc,hb])
    by_cases hl:l.length≤4
    rotate_left
    ·have hr:inR l.length (leastT 6) (mostT 6)=false:=by
      show (decide ((0:Int)≤l.length)&&decide ((l.length:Int)≤4))=false
      rw [decide_eq_false (p:=(l.length:Int)≤4) (by omega),Bool.and_false]
     have hl': (4:Int) < (l.length:Int):=by omega
     exact cut 7 (by simp [tnodeE,hk,hn,hnn,hcl,hc,hb,hr]) (by decide) (by simp [bodyI,af121,getA0,k157,k167,k168,hk,hn,hn0,hc,hb,hlen,hl',hl])
    have hr:inR l.length (leastT 6) (mostT 6)=true:=by simp [inR,leastT,mostT];omega
    have hl': ¬(4:Int) < (l.length:Int):=by omega
    by_cases hlp:0<ls.length
    ·have hlp': (0:Int) < (lsd.length:Int):=by omega
     have hlp'':0<lsd.length:=by omega
     exact cut 1 (by simp [tnodeE,hk,hn,hnn,hcl,hc,hb,hr,hlp]) (by decide) (by simp [bodyI,af121,getA0,k157,k167,k168,hk,hn,hn0,hc,hb,hlen,hl',hl,hlp,hlp',hlp''])
    have hlp': ¬(0:Int) < (lsd.length:Int):=by omega
    have hlp'': ¬0<lsd.length:=by omega
    cases ht0:tail != 0
    ·refine fin (by simp [tnodeE,hk,hn,hnn,hcl,hc,hb,hr,hlp,ht0]) ?_
     by_cases ht:te=0<;>simp [bodyI,af121,getA0,k157,k167,k168,hk,hn,hn0,hc,hb,hlen,hl',hl,hlp,hlp',hlp'',ht0,it0,ht]
    ·exact cut 1 (by simp [tnodeE,hk,hn,hnn,hcl,hc,hb,hr,hlp,ht0]) (by decide) (by simp [bodyI,af121,getA0,k157,k167,k168,hk,hn,hn0,hc,hb,hlen,hl',hl,hlp,hlp',hlp'',ht0])
   ·have hcl:classT k=0:=by simp [classT,hk1,hk6]
    have e1: (k==1)=false:=by simpa using hk1
    have e5: (k==5)=false:=by simpa using hk5
    have e6: (k==6)=false:=by simpa using hk6
    have n5: (k != 5)=true:=by simpa using hk5
    have n6: (k != 6)=true:=by simpa using hk6
    cases hc:isC s 0
    ·exact cut 4 (by simp [tnodeE,hk,hn,hg2,hcl,e1,e5,e6,n5,n6,hk5,hc]) (by decide) (by rcases h0 with h0|h0<;>simp [bodyI,af121,getA0,k157,k167,k168,hk,hn,h0,e1,e5,e6,n5,n6,hk5,hc])
    have hb:=isB_C0 hc
    by_cases hl:l.length=0
    rotate_left
    ·have hr:inR l.length (leastT k) (mostT k)=false:=by
      have e1:leastT k=0:=by simp [leastT,hk5,hk6]
      have e2:mostT k=0:=by simp [mostT,hk5,hk6]
      rw [e1,e2]
      unfold inR
      rw [decide_eq_false (p:=(l.length:Int)≤0) (by omega),Bool.and_false]
     have hl':0<l.length:=by omega
     exact cut 7 (by simp [tnodeE,hk,hn,hg2,hcl,e1,e5,e6,n5,n6,hk5,hc,hb,hr]) (by decide) (by rcases h0 with h0|h0<;>simp [bodyI,af121,getA0,k157,k167,k168,hk,hn,h0,e1,e5,e6,n5,n6,hk5,hc,hb,hlen,hl',hl])
    have hr:inR l.length (leastT k) (mostT k)=true:=by simp [inR,leastT,mostT,hl,hk5,hk6]
    have hl': ¬0<l.length:=by omega
    by_cases hlp:0<ls.length
    ·have hlp': (0:Int) < (lsd.length:Int):=by omega
     have hlp'':0<lsd.length:=by omega
     exact cut 1 (by simp [tnodeE,hk,hn,hg2,hcl,e1,e5,e6,n5,n6,hk5,hc,hb,hr,hlp]) (by decide) (by rcases h0 with h0|h0<;>simp [bodyI,af121,getA0,k157,k167,k168,hk,hn,h0,e1,e5,e6,n5,n6,hk5,hc,hb,hlen,hl',hl,hlp,hlp',hlp''])
    have hlp': ¬(0:Int) < (lsd.length:Int):=by omega
    have hlp'': ¬0<lsd.length:=by omega
    cases ht0:tail != 0
    ·refine fin (by simp [tnodeE,hk,hn,hg2,hcl,e1,e5,e6,n5,n6,hk5,hc,hb,hr,hlp,ht0]) ?_
     rcases h0 with h0|h0<;>by_cases ht:te=0<;>simp [bodyI,af121,getA0,k157,k167,k168,hk,hn,h0,e1,e5,e6,n5,n6,hk5,hc,hb,hlen,hl',hl,hlp,hlp',hlp'',ht0,it0,ht]
    ·exact cut 1 (by simp [tnodeE,hk,hn,hg2,hcl,e1,e5,e6,n5,n6,hk5,hc,hb,hr,hlp,ht0]) (by decide) (by rcases h0 with h0|h0<;>simp [bodyI,af121,getA0,k157,k167,k168,hk,hn,h0,e1,e5,e6,n5,n6,hk5,hc,hb,hlen,hl',hl,hlp,hlp',hlp'',ht0])
  exact CI_tree tab121 hτ rfl rfl
termination_by t=>SizeOf.sizeOf t
decreasing_by
 have:=List.sizeOf_lt_of_mem (List.getElem_mem hi)
 simp only [Ty.mk.sizeOf_spec]
 omega
theorem tysLeft_neg: ∀ (l:List Ty) (x d:Int),x<0→tysLeft l x d=x
 | [],_,_,_=>rfl
 |_::_,x,d,h=>by
  simp only [tysLeft]
  rw [if_neg (by omega)]
mutual
theorem Ty.take_eq: ∀ (t:Ty) (left d:Int),0≤left→((t.take left d).1=true↔0≤t.left left (201 - d))∧((t.take left d).1=true→(t.take left d).2=t.left left (201 - d))
 | .mk _ _ _ l ls _,left,d,h=>by
  simp only [Ty.take,Ty.left]
  by_cases h1:200<d
  ·rw [if_pos (.inr (.inl h1)),if_pos (.inl (by omega))]
   exact ⟨⟨fun h=>(by cases h),fun h=>(by omega)⟩,fun h=>(by cases h)⟩
  by_cases h2:24<ls.length
  ·rw [if_pos (.inr (.inr h2)),if_pos (.inr h2)]
   exact ⟨⟨fun h=>(by cases h),fun h=>(by omega)⟩,fun h=>(by cases h)⟩
  rw [if_neg (c:=201 - d<1∨24<ls.length) (fun h=>h.elim (by omega) h2)]
  by_cases h3:left - 1<0
  ·rw [if_pos (.inl h3),tysLeft_neg l _ _ h3]
   exact ⟨⟨fun h=>(by cases h),fun h=>(by omega)⟩,fun h=>(by cases h)⟩
  rw [if_neg (fun h=>h.elim h3 (fun h=>h.elim h1 h2))]
  have:=tysTake_eq l (left - 1) (d+1) (by omega)
  have e:201 - d - 1=201 - (d+1):=by omega
  rw [e]
  exact this
theorem tysTake_eq: ∀ (l:List Ty) (left d:Int),0≤left→((tysTake l left d).1=true↔0≤tysLeft l left (201 - d))∧((tysTake l left d).1=true→(tysTake l left d).2=tysLeft l left (201 - d))
 | [],left,d,h=>by
  simp only [tysTake,tysLeft]
  exact ⟨⟨fun _=>h,fun _=>trivial⟩,fun _=>trivial⟩
 |t::r,left,d,h=>by
  obtain ⟨h1,h2⟩:=t.take_eq left d h
  simp only [tysTake,tysLeft]
  rw [if_pos h]
  by_cases ht: (t.take left d).1=true
  ·rw [if_pos ht,h2 ht]
   exact tysTake_eq r _ d (h1.1 ht)
  ·rw [if_neg ht,tysLeft_neg r _ _ (by have:=mt h1.2 ht;omega)]
   have hn:=mt h1.2 ht
   exact ⟨⟨fun h=>(by cases h),fun h=>absurd h hn⟩,fun h=>(by cases h)⟩
end
theorem Ty.chk_left (t:Ty):t.chk=if t.left 3000 200<0 then 3 else t.e:=by
 obtain ⟨h1, -⟩:=t.take_eq 3000 1 (by omega)
 have e: (201:Int) - 1=200:=rfl
 rw [e] at h1
 unfold Ty.chk
 by_cases h: (t.take 3000 1).1=true
 ·rw [if_pos h,if_neg (by have:=h1.1 h;omega)]
 ·rw [if_neg h,if_pos (by have:=mt h1.2 h;omega)]
theorem tcl_node {k n:Int} {s:Bs} {len:Nat} {ls:List Lab} {tail:Int} (h:tnodeE k n s len ls tail=0) (hk:k=5):tail0 tail=tailC tail:=by
 unfold tnodeE at h
 subst hk
 split at h
 ·cases h
 split at h
 ·cases h
 split at h
 ·cases h
 rw [if_pos rfl] at h
 unfold rowE at h
 rw [firstE_app] at h
 have hr:inR tail (-1) 999999999=true:=by
  cases hr:inR tail (-1) 999999999
  ·rw [hr] at h
   split at h
   ·simp [firstE] at h
   ·rename_i h1;exact absurd h h1
  ·rfl
 unfold inR at hr
 unfold tail0 tailC
 simp at hr
 cases hb:tail != -1
 ·have:tail= -1:=by simpa using hb
  subst this
  rfl
 ·have: ¬tail= -1:=by simpa using hb
  exact decide_eq_true (by omega)
mutual
theorem Ty.cl_eq: ∀ (t:Ty),t.e=0→t.cl tailC=t.cl tail0
 | .mk k n s l ls tail,h=>by
  simp only [Ty.e] at h
  split at h
  ·rename_i h1
   simp only [Ty.cl]
   rw [tysCl_eq l h]
   cases hk:k==5
   ·simp
   ·rw [tcl_node h1 (by simpa using hk)]
  ·rename_i h1;exact absurd h h1
theorem tysCl_eq: ∀ (l:List Ty),tysE l=0→tysCl tailC l=tysCl tail0 l
 | [],_=>rfl
 |t::r,h=>by
  simp only [tysE] at h
  split at h
  ·rename_i h1
   simp only [tysCl]
   rw [t.cl_eq h1,tysCl_eq r h]
  ·rename_i h1;exact absurd h h1
end
theorem c71 (t:Ty) (hok:t.ok) (σ:St):CI (.fn 71) [.agg t.cs] σ=some (.ret (.int .i64 t.chk),σ):=by
 have hτ:bodyI CI XB GI af71 [.agg t.cs] σ=some (.ret (.int .i64 t.chk),σ++[.box t.cs]):=by
  have h120:=fun σ=>c120 t hok 3000 200 σ (by omega) (by omega) (by omega) (by omega)
  have h121:=fun σ=>c121 t hok σ
  have hall:t.cs.all D.one=true:=by cases t;rfl
  have y1:=t.cs_len
  have y2:=t.cs_take
  rw [t.chk_left]
  generalize t.left 3000 200=x at*
  generalize t.e=y at*
  generalize t.cs=xc at*
  by_cases hx:x<0
  ·simp [bodyI,af71,getA0,hall,y1,y2,h120,hx]
  ·simp [bodyI,af71,getA0,hall,y1,y2,h120,h121,hx]
 exact CI_tree tab71 hτ rfl rfl
theorem Ty.chk_e {t:Ty} (h:t.chk=0):t.e=0:=by
 unfold Ty.chk at h
 split at h
 ·exact h
 ·cases h
theorem c178 (t:Ty) (hok:t.ok) (σ:St):CI (.fn 178) [.agg t.cs] σ=some (.ret (.int .i64 (declE1 t)),σ):=by
 have hτ:bodyI CI XB GI af178 [.agg t.cs] σ=some (.ret (.int .i64 (declE1 t)),σ++[.box t.cs]):=by
  have h71:=fun σ=>c71 t hok σ
  have h204:=fun σ=>c204 t hok σ
  have hall:t.cs.all D.one=true:=by cases t;rfl
  have y1:=t.cs_len
  have y2:=t.cs_take
  unfold declE1
  by_cases hx:t.chk=0
  ·rw [t.cl_eq (Ty.chk_e hx)] at h204
   rw [if_pos hx]
   rw [hx] at h71
   generalize t.cs=xc at*
   cases hc:t.cl tail0
   ·rw [hc] at h204
    simp [bodyI,af178,getA0,hall,y1,y2,h71,h204]
   ·rw [hc] at h204
    simp [bodyI,af178,getA0,hall,y1,y2,h71,h204]
  ·have hx': (t.chk != 0)=true:=by simpa using hx
   rw [if_neg hx]
   generalize t.chk=x at*
   generalize t.cs=xc at*
   simp [bodyI,af178,getA0,hall,y1,y2,h71,hx,hx']
 exact CI_tree tab178 hτ rfl rfl
theorem tnode_labels {k n:Int} {s:Bs} {len:Nat} {ls:List Lab} {tail:Int} (h:tnodeE k n s len ls tail=0) (hk: ¬k=5):ls=[]:=by
 cases ls with
 |nil=>rfl
 |cons a r=>
  exfalso
  unfold tnodeE at h
  rw [if_neg hk] at h
  have: (decide (0< (a::r).length) || (tail != 0))=true:=by simp
  rw [if_pos this] at h
  split at h
  ·cases h
  split at h
  ·cases h
  split at h
  ·cases h
  ·cases h
theorem ordRN_eq (p:Prg) (params:List Bs) {k n:Int} {s:Bs} {len:Nat} {ls:List Lab} {tail:Int} (h:tnodeE k n s len ls tail=0):ordRN p params k s len ls=ordN p params k s len ls:=by
 unfold ordRN ordN datErr
 by_cases h5:k=5
 ·subst h5
  simp
 ·rw [tnode_labels h h5]
  by_cases h1:k=1
  ·subst h1
   cases hasS params s<;>simp [firstE]
  ·by_cases h6:k=6
   ·subst h6
    simp only [List.map_nil,firstE]
    cases hf:p.data.find? (fun x:Dat=>x.name==s) with
    |none=>simp
    |some d=>by_cases hp:d.params.length=len<;>simp [hp]
   ·simp [h1,h5,h6,firstE]
mutual
theorem Ty.ordR_eq (p:Prg) (params:List Bs): ∀ (t:Ty),t.e=0→t.ordR p params=t.ord p params
 | .mk k n s l ls tail,h=>by
  simp only [Ty.e] at h
  split at h
  ·rename_i h1
   simp only [Ty.ordR,Ty.ord]
   rw [tysOrdR_eq p params l h,ordRN_eq p params h1]
  ·rename_i h1;exact absurd h h1
theorem tysOrdR_eq (p:Prg) (params:List Bs): ∀ (l:List Ty),tysE l=0→tysOrdR p params l=tysOrd p params l
 | [],_=>rfl
 |t::r,h=>by
  simp only [tysE] at h
  split at h
  ·rename_i h1
   simp only [tysOrdR,tysOrd]
   rw [t.ordR_eq p params h1,tysOrdR_eq p params r h]
  ·rename_i h1;exact absurd h h1
end
theorem c134 (e:Eff) (hok:e.ok) (σ:St):CI (.fn 134) [e.d] σ=some (.ret (.int .i64 (effE e)),σ):=by
 rcases e with ⟨name,ops⟩
 obtain ⟨hol,ho⟩:=hok
 simp only at hol ho
 have hτ:bodyI CI XB GI af134 [Eff.d ⟨name,ops⟩] σ=some (.ret (.int .i64 (effE ⟨name,ops⟩)),σ++[.box [.str name, .slice (ops.map Opn.d)]]):=by
  have hlen: (ops.map Opn.d).length=ops.length:=by simp
  have hq: (σ++[Obj.box [.str name, .slice (ops.map Opn.d)]])[σ.length]? =some (.box [.str name, .slice (ops.map Opn.d)]):=getA0
  have hit:iterI (evalI CI XB GI 49 false lp134_0) [(1, .ptr σ.length 0),(3, .int .i64 0)] (σ++[Obj.box [.str name, .slice (ops.map Opn.d)]])=
   some (if firstE (ops.map opnE)=0 then (.exit 0,[(1, .ptr σ.length 0),(3, .int .i64 ops.length),(18, .bool false)],σ++[Obj.box [.str name, .slice (ops.map Opn.d)]]) else (.ret,[(2, .int .i64 (firstE (ops.map opnE)))],σ++[Obj.box [.str name, .slice (ops.map Opn.d)]])):=by
   generalize σ++[Obj.box [.str name, .slice (ops.map Opn.d)]]=σ1 at*
   refine loop_err ops (fun i=>[(1, .ptr σ.length 0),(3, .int .i64 (i:Nat))]) opnE (fun v=>(.ret,[(2, .int .i64 v)],σ1)) _ (by simp) (by simp) (fun i hi=> ?_) ?_
   ·have hw:=wrap_nat (n:=i) (by unfold maxL at hol;omega)
    have hx:=ho _ (List.getElem_mem hi)
    have hget: (ops.map Opn.d)[i]? =some (Opn.d ops[i]):=by simp [hi]
    generalize ops.map Opn.d=ld at*
    have h2:i<ld.length:=by omega
    have h3:ld[i]=Opn.d ops[i]:=by rw [List.getElem?_eq_getElem h2] at hget;exact Option.some.inj hget
    generalize ops[i]=x at*
    rcases x with ⟨on,arg,res,once⟩
    obtain ⟨ha,hb⟩:=hx
    simp only at ha hb
    have k1:=fun σ=>c178 arg ha σ
    have k2:=fun σ=>c178 res hb σ
    have hE:opnE ⟨on,arg,res,once⟩=if varW on then (if declE1 arg=0 then declE1 res else declE1 arg) else 4:=by
     simp only [opnE,declE,List.map_cons,List.map_nil,firstE]
     by_cases h:declE1 res=0<;>simp [h]
    rw [hE]
    simp only [Opn.d,Opn.cs] at*
    generalize declE1 arg=e1 at*
    generalize declE1 res=e2 at*
    rcases arg with ⟨k1',n1,s1,l1,ls1,t1⟩
    rcases res with ⟨k2',n2,s2,l2,ls2,t2⟩
    simp only [Ty.cs,List.cons_append,List.nil_append] at*
    generalize tysD l1=ld1 at*
    generalize tysD l2=ld2 at*
    generalize ls1.map Lab.d=lsd1 at*
    generalize ls2.map Lab.d=lsd2 at*
    cases hu:varW on
    ·simp [lp134_0,hq,hlen,hi,hw,h2,h3,c135,hu]
    ·by_cases h1:e1=0
     ·by_cases h4:e2=0
      ·simp [lp134_0,hq,hlen,hi,hw,h2,h3,c135,hu,k1,k2,h1,h4]
      ·have h4': (e2 != 0)=true:=by simpa using h4
       simp [lp134_0,hq,hlen,hi,hw,h2,h3,c135,hu,k1,k2,h1,h4,h4']
     ·have h1': (e1 != 0)=true:=by simpa using h1
      simp [lp134_0,hq,hlen,hi,hw,h2,h3,c135,hu,k1,h1,h1']
   ·generalize ops.map Opn.d=ld at*
    simp [lp134_0,hq,hlen]
  unfold effE
  simp only [Eff.d,Eff.cs] at*
  generalize ops.map Opn.d=ld at*
  generalize firstE (ops.map opnE)=fe at*
  by_cases h8:8<ops.length
  ·have h8': (8:Int) <ops.length:=by omega
   have h8'':8<ld.length:=by omega
   simp [bodyI,af134,getA0,h8,h8',h8'',hlen]
  have h8': ¬(8:Int) <ops.length:=by omega
  have h8'': ¬8<ld.length:=by omega
  cases hu:upW name
  ·simp [bodyI,af134,getA0,h8,h8',h8'',hlen,c176,hu]
  by_cases hf:fe=0
  ·simp [bodyI,af134,getA0,h8,h8',h8'',hlen,c176,hu,hit,hf]
  ·simp [bodyI,af134,getA0,h8,h8',h8'',hlen,c176,hu,hit,hf]
 exact CI_tree tab134 hτ rfl rfl
theorem it133 (l:List Ty) (hl:l.length≤maxL) (hok:tysOk l) (p:D) (i:Int) (nm:Bs) (q:Nat) (σ:St) (hq:σ[q]? =some (.box [.str nm, .slice (tysD l)])):
 iterI (evalI CI XB GI 64 false lp133_0) [(1,p),(4, .int .i64 i),(5, .ptr q 0),(6, .int .i64 0)] σ=
  some (if declE l=0 then (.exit 2,[(1,p),(4, .int .i64 i),(5, .ptr q 0),(6, .int .i64 l.length),(52, .bool false)],σ) else (.ret,[(2, .int .i64 (declE l))],σ)):=by
 have hlen:=tysD_len l
 unfold declE
 refine loop_err l (fun j=>[(1,p),(4, .int .i64 i),(5, .ptr q 0),(6, .int .i64 (j:Nat))]) declE1 (fun v=>(.ret,[(2, .int .i64 v)],σ)) _ (by simp) (by simp) (fun j hj=> ?_) ?_
 ·have hw:=wrap_nat (n:=j) (by unfold maxL at hl;omega)
  have hget: (tysD l)[j]? =some (.agg l[j].cs):=by rw [tysD_map];simp [Ty.d,hj]
  have ih:=c178 l[j] (tysOk_mem hok (List.getElem_mem hj)) σ
  generalize tysD l=ld at*
  have h2:j<ld.length:=by omega
  have h3:ld[j]= .agg l[j].cs:=by rw [List.getElem?_eq_getElem h2] at hget;exact Option.some.inj hget
  have y1:=l[j].cs_len
  have y2:=l[j].cs_take
  generalize l[j]=x at*
  generalize x.cs=xc at*
  generalize declE1 x=xe at*
  by_cases hb:xe=0
  ·simp [lp133_0,hq,hj,hw,hlen,h2,h3,y1,y2,ih,hb]
  ·have hb': (xe != 0)=true:=by simpa using hb
   simp [lp133_0,hq,hj,hw,hlen,h2,h3,y1,y2,ih,hb,hb']
 ·generalize tysD l=ld at*
  simp [lp133_0,hq,hlen]
theorem c133 (d:Dat) (hok:d.ok) (σ:St):CI (.fn 133) [d.d] σ=some (.ret (.int .i64 (datE d)),σ):=by
 rcases d with ⟨name,params,cons⟩
 obtain ⟨hpl,hcl,hco⟩:=hok
 simp only at hpl hcl hco
 obtain ⟨τ,hτ⟩: ∃τ,bodyI CI XB GI af133 [Dat.d ⟨name,params,cons⟩] σ=some (.ret (.int .i64 (datE ⟨name,params,cons⟩)),σ++τ):=by
  obtain ⟨τ,hit⟩:=loop_seek (f:=evalI CI XB GI 64 false lp133_1) (σ:=σ++[.box [.str name, .slice (params.map D.str), .slice (cons.map Con.d)]]) cons (fun i=>[(1, .ptr σ.length 0),(4, .int .i64 (i:Nat))]) (fun a=>conE a != 0) (fun a=>(.ret,[(2, .int .i64 (conE a))]))
   (.exit 0,[(1, .ptr σ.length 0),(4, .int .i64 cons.length),(32, .bool false)]) (by simp) (by simp)
   (fun i hi τ=>by
     have hw:=wrap_nat (n:=i) (by unfold maxL at hcl;omega)
     have hx:=hco _ (List.getElem_mem hi)
     have hlen: (cons.map Con.d).length=cons.length:=by simp
     have hget: (cons.map Con.d)[i]? =some (Con.d cons[i]):=by simp [hi]
     have hq: (σ++[Obj.box [.str name, .slice (params.map D.str), .slice (cons.map Con.d)]]++τ)[σ.length]? =some (.box [.str name, .slice (params.map D.str), .slice (cons.map Con.d)]):=by rw [List.append_assoc];exact getA0
     generalize hσ1:σ++[Obj.box [.str name, .slice (params.map D.str), .slice (cons.map Con.d)]]++τ=σ1 at*
     rcases hxx:cons[i] with ⟨cn,args⟩
     rw [hxx] at hx hget
     obtain ⟨ha,hb⟩:=hx
     simp only at ha hb
     have hal:=tysD_len args
     have hit2:=it133 args ha hb (.ptr σ.length 0) i cn σ1.length (σ1++[.box [.str cn, .slice (tysD args)]]) getA0
     have hq2: ∀x,(σ1++[x])[σ.length]? =some (.box [.str name, .slice (params.map D.str), .slice (cons.map Con.d)]):=fun x=>by
      have:=lt_of_get hq
      rw [List.getElem?_append_left this]
      exact hq
     refine ⟨τ++[.box [.str cn, .slice (tysD args)]], ?_⟩
     rw [←List.append_assoc]
     rw [hσ1]
     clear hσ1
     unfold conE
     simp only [Con.d,Con.cs] at*
     generalize cons.map Con.d=ld at*
     have h2:i<ld.length:=by omega
     have h3:ld[i]= .agg [.str cn, .slice (tysD args)]:=by rw [List.getElem?_eq_getElem h2] at hget;exact Option.some.inj hget
     generalize tysD args=ad at*
     by_cases h4:4<args.length
     ·have h4': (4:Int) <args.length:=by omega
      have h4'':4<ad.length:=by omega
      simp [lp133_1,fillD,putCells,hq,hlen,hi,hw,h2,h3,getA0,setA0,h4,h4',h4'',hal]
     ·have h4': ¬(4:Int) <args.length:=by omega
      have h4'': ¬4<ad.length:=by omega
      cases hu:upW cn
      ·simp [lp133_1,fillD,putCells,hq,hlen,hi,hw,h2,h3,getA0,setA0,h4,h4',h4'',hal,c176,hu]
      ·by_cases hd:declE args=0
       ·simp [lp133_1,fillD,putCells,hq,hq2,hlen,hi,hw,h2,h3,getA0,setA0,h4,h4',h4'',hal,c176,hu,hit2,hd]
       ·have hd': (declE args != 0)=true:=by simpa using hd
        simp [lp133_1,fillD,putCells,hq,hq2,hlen,hi,hw,h2,h3,getA0,setA0,h4,h4',h4'',hal,c176,hu,hit2,hd,hd'])
   (fun τ=>⟨τ,by
     have hq: (σ++[Obj.box [.str name, .slice (params.map D.str), .slice (cons.map Con.d)]]++τ)[σ.length]? =some (.box [.str name, .slice (params.map D.str), .slice (cons.map Con.d)]):=by rw [List.append_assoc];exact getA0
     have hlen: (cons.map Con.d).length=cons.length:=by simp
     generalize σ++[Obj.box [.str name, .slice (params.map D.str), .slice (cons.map Con.d)]]++τ=σ1 at*
     generalize cons.map Con.d=ld at*
     simp [lp133_1,hq,hlen]⟩) []
  rw [Int.natCast_zero,List.append_nil] at hit
  have hlen: (cons.map Con.d).length=cons.length:=by simp
  have h177:=fun σ=>c177 params σ hpl
  unfold datE
  simp only [Dat.d,Dat.cs] at*
  rw [firstE_find]
  simp only [slD] at*
  have hppl: (params.map D.str).length=params.length:=by simp
  generalize cons.map Con.d=ld at*
  generalize params.map D.str=pd at*
  by_cases h4:4<params.length
  ·have h4': (4:Int) <params.length:=by omega
   have h4'':4<pd.length:=by omega
   refine ⟨[.box [.str name, .slice pd, .slice ld]], ?_⟩
   simp [bodyI,af133,getA0,h4,h4',h4'',hppl]
  have h4': ¬(4:Int) <params.length:=by omega
  have h4'': ¬4<pd.length:=by omega
  by_cases h8:8<cons.length
  ·have h8': (8:Int) <cons.length:=by omega
   have h8'':8<ld.length:=by omega
   refine ⟨[.box [.str name, .slice pd, .slice ld]], ?_⟩
   simp [bodyI,af133,getA0,h4,h4',h4'',hppl,h8,h8',h8'',hlen]
  have h8': ¬(8:Int) <cons.length:=by omega
  have h8'': ¬8<ld.length:=by omega
  cases hu:upW name
  ·refine ⟨[.box [.str name, .slice pd, .slice ld]], ?_⟩
   simp [bodyI,af133,getA0,h4,h4',h4'',hppl,h8,h8',h8'',hlen,c176,hu]
  by_cases hd:distE params 1=0
  ·refine ⟨[.box [.str name, .slice pd, .slice ld]]++τ, ?_⟩
   rw [←List.append_assoc]
   rw [hd] at h177
   cases hf:cons.find? (fun a=>conE a != 0)<;>(rw [hf] at hit;simp [bodyI,af133,getA0,h4,h4',h4'',hppl,h8,h8',h8'',hlen,c176,hu,h177,hd,hit])
  ·have hd': (distE params 1 != 0)=true:=by simpa using hd
   refine ⟨[.box [.str name, .slice pd, .slice ld]], ?_⟩
   simp [bodyI,af133,getA0,h4,h4',h4'',hppl,h8,h8',h8'',hlen,c176,hu,h177,hd,hd']
 exact CI_tree tab133 hτ rfl rfl
mutual
def Ex.left:Ex→Int→Int→Int
 | .mk _ _ _ _ _ l arms,left,d=>if d<1 then -1 else armsLeft arms (exsLeft l (left - 1) (d - 1)) (d - 1)
def exsLeft:List Ex→Int→Int→Int
 | [],left,_=>left
 |x::r,left,d=>if 0≤left then exsLeft r (x.left left d) d else left
def armsLeft:List Arm→Int→Int→Int
 | [],left,_=>left
 | .mk _ _ x::r,left,d=>if 0≤left then armsLeft r (x.left left d) d else left
end
theorem exsLeft_neg: ∀ (l:List Ex) (x d:Int),x<0→exsLeft l x d=x
 | [],_,_,_=>rfl
 |_::_,x,d,h=>by
  simp only [exsLeft]
  rw [if_neg (by omega)]
theorem armsLeft_neg: ∀ (l:List Arm) (x d:Int),x<0→armsLeft l x d=x
 | [],_,_,_=>rfl
 | .mk _ _ _::_,x,d,h=>by
  simp only [armsLeft]
  rw [if_neg (by omega)]
mutual
theorem Ex.take_left2: ∀ (t:Ex) (d:Int) (b:Int × Int),0≤b.1→((t.take d b).1=true↔0≤t.left b.1 (201 - d))∧((t.take d b).1=true→(t.take d b).2.1=t.left b.1 (201 - d))
 | .mk _ _ _ _ _ l arms,d,b,h=>by
  simp only [Ex.take,Ex.left]
  by_cases h1:200<d
  ·rw [if_pos (.inr h1),if_pos (c:=201 - d<1) (by omega)]
   exact ⟨⟨fun h=>(by cases h),fun h=>(by omega)⟩,fun h=>(by cases h)⟩
  rw [if_neg (c:=201 - d<1) (by omega)]
  have e:201 - d - 1=201 - (d+1):=by omega
  rw [e]
  by_cases h3:b.1 - 1<0
  ·rw [if_pos (.inl h3),exsLeft_neg l _ _ h3,armsLeft_neg arms _ _ h3]
   exact ⟨⟨fun h=>(by cases h),fun h=>(by omega)⟩,fun h=>(by cases h)⟩
  rw [if_neg (fun h=>h.elim h3 h1)]
  obtain ⟨a1,a2⟩:=exsTake_left2 l (d+1) (b.1 - 1,if d>b.2 then d else b.2) (by simp;omega)
  generalize exsTake l (d+1) (b.1 - 1,if d>b.2 then d else b.2)=q at*
  by_cases ht:q.1=true
  ·rw [if_pos ht]
   have a2:=a2 ht
   have a1:=a1.1 ht
   simp only at a1 a2
   rw [←a2] at a1 ⊢
   exact armsTake_left2 arms (d+1) q.2 a1
  ·rw [if_neg ht]
   have hn:=mt a1.2 ht
   simp only at hn
   rw [armsLeft_neg arms _ _ (by omega)]
   exact ⟨⟨fun h=>(by cases h),fun h=>absurd h hn⟩,fun h=>(by cases h)⟩
theorem exsTake_left2: ∀ (l:List Ex) (d:Int) (b:Int × Int),0≤b.1→((exsTake l d b).1=true↔0≤exsLeft l b.1 (201 - d))∧((exsTake l d b).1=true→(exsTake l d b).2.1=exsLeft l b.1 (201 - d))
 | [],d,b,h=>by
  simp only [exsTake,exsLeft]
  exact ⟨⟨fun _=>h,fun _=>trivial⟩,fun _=>trivial⟩
 |t::r,d,b,h=>by
  obtain ⟨h1,h2⟩:=t.take_left2 d b h
  simp only [exsTake,exsLeft]
  rw [if_pos h]
  by_cases ht: (t.take d b).1=true
  ·rw [if_pos ht,←h2 ht]
   exact exsTake_left2 r d _ (by rw [h2 ht];exact h1.1 ht)
  ·have hn:=mt h1.2 ht
   rw [if_neg ht,exsLeft_neg r _ _ (by omega)]
   exact ⟨⟨fun h=>(by cases h),fun h=>absurd h hn⟩,fun h=>(by cases h)⟩
theorem armsTake_left2: ∀ (l:List Arm) (d:Int) (b:Int × Int),0≤b.1→((armsTake l d b).1=true↔0≤armsLeft l b.1 (201 - d))∧((armsTake l d b).1=true→(armsTake l d b).2.1=armsLeft l b.1 (201 - d))
 | [],d,b,h=>by
  simp only [armsTake,armsLeft]
  exact ⟨⟨fun _=>h,fun _=>trivial⟩,fun _=>trivial⟩
 | .mk _ _ t::r,d,b,h=>by
  obtain ⟨h1,h2⟩:=t.take_left2 d b h
  simp only [armsTake,armsLeft]
  rw [if_pos h]
  by_cases ht: (t.take d b).1=true
  ·rw [if_pos ht,←h2 ht]
   exact armsTake_left2 r d _ (by rw [h2 ht];exact h1.1 ht)
  ·have hn:=mt h1.2 ht
   rw [if_neg ht,armsLeft_neg r _ _ (by omega)]
   exact ⟨⟨fun h=>(by cases h),fun h=>absurd h hn⟩,fun h=>(by cases h)⟩
end
end Go.AI
