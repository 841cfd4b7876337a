/- Texts of the proof: what functions of the program compute, step by step. No conditions of its own. -/
import Derived.Test.YtgenoggafhhgfaaGreatDoorH9
import Derived.Test.YtgenoggafhhgfaaGreatDoorH5
set_option linter.unusedVariables false
set_option linter.unusedSimpArgs false
namespace Go.AI
open Go Go.Proofs Go.Lx
set_option maxRecDepth 100000
theorem Ev (p:Prg) (hdl:p.data.length<=aQ) (s:Bs) (σ:St):CI (.fn 123) [.agg p.cs, .str s] σ=some (.ret (.int .i64 (idxOf (fun x:Dat=>x.name==s) p.data)),σ):=by
 have hall:=p.bJ
 have hh:p.cs.head?=some (.slice (p.data.map Dat.d)):=by rw [p.dw];rfl
 have hlen: (p.data.map Dat.d).length=p.data.length:=by simp
 have hq: (σ++[Obj.box p.cs])[σ.length]? =some (.box p.cs):=az
 have hit:=cK (f:=aD CI XB GI 22 false s9) (σ:=σ++[.box p.cs]) p.data (fun i=>[(1, .str s),(2, .ptr σ.length 0),(5, .int .i64 (i:Nat))]) (fun x:Dat=>x.name==s) (fun i=>(.ret,[(4, .int .i64 (i:Nat))],σ++[.box p.cs])) (.exit 0,[(1, .str s),(2, .ptr σ.length 0),(5, .int .i64 p.data.length),(10, .bool false)],σ++[.box p.cs]) (by simp) (by simp)
  (fun i hi=>by
    have hw:=aI (n:=i) (by unfold aQ at hdl;omega)
    have bq: (p.data.map Dat.d)[i]? =some (Dat.d p.data[i]):=by simp [hi]
    generalize σ++[.box p.cs]=σ1 at*
    generalize p.data.map Dat.d=dd at*
    have h2:i<dd.length:=by omega
    have h3:dd[i]=Dat.d p.data[i]:=by rw [List.getElem?_eq_getElem h2] at bq;exact Option.some.inj bq
    generalize p.data[i]=d at*
    rcases d with ⟨dn,dp,dc⟩
    simp only [Dat.d,Dat.cs,slD] at*
    generalize dp.map D.str=pd at*
    generalize dc.map Con.d=cd at*
    generalize p.cs=pc at*
    cases hb:dn==s<;>simp [s9,hq,hh,hi,hw,hlen,h2,h3,hb]) (by
    generalize σ++[.box p.cs]=σ1 at*
    generalize p.data.map Dat.d=dd at*
    generalize p.cs=pc at*
    simp [s9,hq,hh,hlen])
 rw [Int.natCast_zero] at hit
 refine aR JZ (d:= .int .i64 (idxOf (fun x:Dat=>x.name==s) p.data)) (τ:=[.box p.cs]) ?_ rfl rfl
 unfold idxOf
 have hb: ∀x,ah CI XB GI wS [.agg p.cs, .str s] σ=x->ah CI XB GI wS [.agg p.cs, .str s] σ=x:=fun _ h=>h
 generalize p.cs=pc at*
 cases hf:p.data.findIdx? (fun x:Dat=>x.name==s)<;>(rw [hf] at hit;simp [ah,wS,hall,hit])
theorem c35 (p:Prg) (hel:p.aA.length<=aQ) (s:Bs) (σ:St):CI (.fn 35) [.agg p.cs, .str s] σ=some (.ret (.tuple [.int .i64 (gU p.aA s), .int .i64 (bK p.aA s)]),σ):=by
 have hall:=p.bJ
 have hpl:=p.aL
 have hh:p.cs[1]? =some (.slice (p.aA.map Eff.d)):=by rw [p.dw];rfl
 have hlen: (p.aA.map Eff.d).length=p.aA.length:=by simp
 have hq: (σ++[Obj.box p.cs])[σ.length]? =some (.box p.cs):=az
 have hit:=cK (f:=aD CI XB GI 25 false ya) (σ:=σ++[.box p.cs]) p.aA (fun i=>[(1, .str s),(2, .ptr σ.length 0),(6, .int .i64 (i:Nat))]) (fun x:Eff=>x.name==s) (fun i=>(.ret,[(4, .int .i64 (i:Nat)),(5, .int .i64 0)],σ++[.box p.cs])) (.exit 0,[(1, .str s),(2, .ptr σ.length 0),(6, .int .i64 p.aA.length),(11, .bool false)],σ++[.box p.cs]) (by simp) (by simp)
  (fun i hi=>by
    have hw:=aI (n:=i) (by unfold aQ at hel;omega)
    have bq: (p.aA.map Eff.d)[i]? =some (Eff.d p.aA[i]):=by simp [hi]
    generalize σ++[.box p.cs]=σ1 at*
    generalize p.aA.map Eff.d=dd at*
    have h2:i<dd.length:=by omega
    have h3:dd[i]=Eff.d p.aA[i]:=by rw [List.getElem?_eq_getElem h2] at bq;exact Option.some.inj bq
    generalize p.aA[i]=d at*
    rcases d with ⟨dn,ops⟩
    simp only [Eff.d,Eff.cs] at*
    generalize ops.map Opn.d=cd at*
    generalize p.cs=pc at*
    have hh2: ∀h:1<pc.length,pc[1]= .slice dd:=fun h=>by rw [List.getElem?_eq_getElem h] at hh;exact Option.some.inj hh
    cases hb:dn==s<;>simp [ya,hq,hpl,hh2,hi,hw,hlen,h2,h3,hb]) (by
    generalize σ++[.box p.cs]=σ1 at*
    generalize p.aA.map Eff.d=dd at*
    generalize p.cs=pc at*
    have hh2: ∀h:1<pc.length,pc[1]= .slice dd:=fun h=>by rw [List.getElem?_eq_getElem h] at hh;exact Option.some.inj hh
    simp [ya,hq,hpl,hh2,hlen])
 rw [Int.natCast_zero] at hit
 refine aR OM (d:= .tuple [.int .i64 (gU p.aA s), .int .i64 (bK p.aA s)]) (τ:=[.box p.cs]) ?_ rfl rfl
 unfold gU bK idxOf nIO
 generalize p.cs=pc at*
 cases hf:p.aA.findIdx? (fun x:Eff=>x.name==s) with
 |some k=>
  rw [hf] at hit
  have: (0:Int)<=(k:Int):=by omega
  simp [ah,Ew,hall,hit]
 |none=>
  rw [hf] at hit
  cases hs:s==[73,79]<;>simp [ah,Ew,hall,hit,hs]
def tyI:Ty:= .mk 2 0 [] [] [] 0
theorem ON (s:Bs) (σ:St):CI (.fn 122) [.empty, .str s] σ=some (.ret (.bool false),σ):=by
 have h:aU (aD CI XB GI 19 false iA) [(0, .empty),(1, .str s),(5, .int .i64 0)] σ=some (.exit 0,[(0, .empty),(1, .str s),(5, .int .i64 0),(9, .bool false)],σ):=aH (by simp [iA]) (by simp)
 have h152:CI (.fn 152) [.empty, .str s] σ=some (.ret (.int .i64 (-1)),σ):=by
  refine br BH (d:= .int .i64 (-1)) ?_ rfl rfl
  simp [ah,wT,h]
 refine br BI (d:= .bool false) ?_ rfl rfl
 simp [ah,wU,h152]
theorem OO {pd:D} {l:List Bs} (h:CG pd l) (hl:l.length<=aQ) (s:Bs) (σ:St):CI (.fn 122) [pd, .str s] σ=some (.ret (.bool (cV l s)),σ):=by
 rcases h with rfl| ⟨rfl,rfl⟩
 ·exact dO l s σ hl
 ·exact ON s σ
def j7 (p:Prg) (s:Bs) (n:Nat):Int:=match p.data.find? (fun x:Dat=>x.name==s) with|none=>6|some d=>if d.params.length=n then 0 else 7
def jC (p:Prg) (params:List Bs) (k:Int) (s:Bs) (n:Nat) (ls:List Lab):Int:=
 if k=1/\cV params s=false then 6 else if k=6/\j7 p s n≠0 then j7 p s n else bn (ls.map fun x=>bK p.aA x.s)
mutual
def Ty.oX (p:Prg) (params:List Bs):Ty->Int
 | .mk k _ s l ls _=>if jC p params k s l.length ls=0 then iB p params l else jC p params k s l.length ls
def iB (p:Prg) (params:List Bs):List Ty->Int
 | []=>0
 |t::r=>if t.oX p params=0 then iB p params r else t.oX p params
end
theorem ni (p:Prg) (params:List Bs): ∀ (l:List Ty),iB p params l=bn (l.map fun t=>t.oX p params)
 | []=>rfl
 |t::r=>by simp only [iB,List.map_cons,bn,ni p params r]
set_option maxHeartbeats 2000000 in
theorem c73 (p:Prg) (hdl:p.data.length<=aQ) (hel:p.aA.length<=aQ) (params:List Bs) (hpar:params.length<=aQ) (pd:D) (hpd:CG pd params):
 ∀ (t:Ty),t.ok-> ∀ (σ:St),CI (.fn 73) [.agg p.cs,pd, .agg t.cs] σ=some (.ret (.int .i64 (t.oX p params)),σ)
 | .mk k n s l ls tail,hok,σ=>by
  obtain ⟨hl1,hl2,hl3⟩:=hok
  have hpl:=p.aL
  have hpt:=p.aM
  have hpa:=p.bJ
  have q35:qI 35=false:=rfl
  have x35:XB 35=false:=rfl
  have q73:qI 73=false:=rfl
  have x73:XB 73=false:=rfl
  have hq1: (σ++[Obj.box p.cs, .box (Ty.mk k n s l ls tail).cs])[σ.length]? =some (.box p.cs):=az
  have hq2: (σ++[Obj.box p.cs, .box (Ty.mk k n s l ls tail).cs])[σ.length+1]? =some (.box [.int .i64 k, .int .i64 n, .str s, .slice (aT l), .slice (ls.map Lab.d), .int .i64 tail]):=aS
  have hlen:=cN l
  have hlsl: (ls.map Lab.d).length=ls.length:=by simp
  have h35:=fun s σ=>c35 p hel s σ
  have it0:aU (aD CI XB GI 84 false qN) [(1,pd),(3, .ptr σ.length 0),(5, .ptr (σ.length+1) 0),(8, .int .i64 0)] (σ++[Obj.box p.cs, .box (Ty.mk k n s l ls tail).cs])=
   some (match ls.find? (fun a=>bK p.aA a.s != 0) with|some a=>(.ret,[(6, .int .i64 (bK p.aA a.s))],σ++[Obj.box p.cs, .box (Ty.mk k n s l ls tail).cs]) |none=>(.exit 0,[(1,pd),(3, .ptr σ.length 0),(5, .ptr (σ.length+1) 0),(8, .int .i64 ls.length),(48, .bool false)],σ++[Obj.box p.cs, .box (Ty.mk k n s l ls tail).cs])):=by
   generalize σ++[Obj.box p.cs, .box (Ty.mk k n s l ls tail).cs]=σ1 at*
   have hee:bC p.cs p.cs=true:=aG _ p.plain.1
   have:=cK (f:=aD CI XB GI 84 false qN) (σ:=σ1) ls (fun i=>[(1,pd),(3, .ptr σ.length 0),(5, .ptr (σ.length+1) 0),(8, .int .i64 (i:Nat))]) (fun a=>bK p.aA a.s != 0) (fun i=>(.ret,[(6, .int .i64 (bK p.aA (ls.getD i ⟨[],0⟩).s))],σ1)) (.exit 0,[(1,pd),(3, .ptr σ.length 0),(5, .ptr (σ.length+1) 0),(8, .int .i64 ls.length),(48, .bool false)],σ1) (by simp) (by simp)
    (fun i hi=>by
      have hw:=aI (n:=i) (by unfold aQ at hl2;omega)
      have bq: (ls.map Lab.d)[i]? =some (Lab.d ls[i]):=by simp [hi]
      have hgd:ls.getD i ⟨[],0⟩=ls[i]:=by simp [List.getD,hi]
      rw [hgd]
      generalize ls.map Lab.d=ld at*
      have h2:i<ld.length:=by omega
      have h3:ld[i]=Lab.d ls[i]:=by rw [List.getElem?_eq_getElem h2] at bq;exact Option.some.inj bq
      have h35:=h35 ls[i].s
      generalize ls[i]=x at*
      rcases x with ⟨xs,xn⟩
      simp only [Lab.d] at*
      generalize p.cs=pc at*
      generalize aT l=td at*
      generalize gU p.aA xs=fi at*
      generalize bK p.aA xs=fe at*
      cases hb:fe != 0
      ·have h0:fe=0:=by simpa using hb
       subst h0
       simp [qN,hq1,hq2,hi,hw,hlsl,h2,h3,hpl,hpt,h35,q35,x35,Nat.testBit_eq_decide_div_mod_eq]
      ·have h0: ¬fe=0:=by simpa using hb
       simp [qN,hq1,hq2,hi,hw,hlsl,h2,h3,hpl,hpt,h35,q35,x35,hb,h0,Nat.testBit_eq_decide_div_mod_eq])
    (by generalize ls.map Lab.d=ld at*;generalize aT l=td at*;simp [qN,hq2,hlsl])
   rw [Int.natCast_zero] at this
   rw [this]
   cases hf:ls.findIdx? (fun a=>bK p.aA a.s != 0) with
   |none=>
    rw [List.findIdx?_eq_none_iff] at hf
    rw [List.find?_eq_none.2 fun x hx=>by simpa using hf x hx]
   |some i=>
    obtain ⟨h1,h2,h3⟩:=List.findIdx?_eq_some_iff_getElem.1 hf
    have:ls.find? (fun a=>bK p.aA a.s != 0)=some ls[i]:=by
     rw [List.find?_eq_some_iff_getElem]
     exact ⟨h2,i,h1,rfl,fun j hj=>by simpa using h3 j hj⟩
    rw [this]
    simp [List.getD,h1]
  have it1:aU (aD CI XB GI 84 false qO) [(1,pd),(3, .ptr σ.length 0),(5, .ptr (σ.length+1) 0),(11, .int .i64 0)] (σ++[Obj.box p.cs, .box (Ty.mk k n s l ls tail).cs])=
   some (if iB p params l=0 then (.exit 2,[(1,pd),(3, .ptr σ.length 0),(5, .ptr (σ.length+1) 0),(11, .int .i64 l.length),(70, .bool false)],σ++[Obj.box p.cs, .box (Ty.mk k n s l ls tail).cs]) else (.ret,[(6, .int .i64 (iB p params l))],σ++[Obj.box p.cs, .box (Ty.mk k n s l ls tail).cs])):=by
   have ih:=fun i (hi:i<l.length) σ=>c73 p hdl hel params hpar pd hpd l[i] (dX hl3 (List.getElem_mem hi)) σ
   generalize σ++[Obj.box p.cs, .box (Ty.mk k n s l ls tail).cs]=σ1 at*
   have:=cK (f:=aD CI XB GI 84 false qO) (σ:=σ1) l (fun i=>[(1,pd),(3, .ptr σ.length 0),(5, .ptr (σ.length+1) 0),(11, .int .i64 (i:Nat))]) (fun a=>a.oX p params != 0) (fun i=>(.ret,[(6, .int .i64 ((l.getD i tyI).oX p params))],σ1)) (.exit 2,[(1,pd),(3, .ptr σ.length 0),(5, .ptr (σ.length+1) 0),(11, .int .i64 l.length),(70, .bool false)],σ1) (by simp) (by simp)
    (fun i hi=>by
      have hw:=aI (n:=i) (by unfold aQ at hl1;omega)
      have bq: (aT l)[i]? =some (.agg l[i].cs):=by rw [bS];simp [Ty.d,hi]
      have hgd:l.getD i tyI=l[i]:=by simp [List.getD,hi]
      rw [hgd]
      have ih:=ih i hi
      generalize aT l=ld at*
      have h2:i<ld.length:=by omega
      have h3:ld[i]= .agg l[i].cs:=by rw [List.getElem?_eq_getElem h2] at bq;exact Option.some.inj bq
      have y1:=l[i].aL
      have y2:=l[i].aM
      generalize l[i]=x at*
      generalize x.cs=xc at*
      generalize p.cs=pc at*
      generalize ls.map Lab.d=lsd at*
      generalize x.oX p params=fe at*
      cases hb:fe != 0
      ·have h0:fe=0:=by simpa using hb
       subst h0
       simp [qO,hq1,hq2,hi,hw,hlen,h2,h3,hpl,hpt,y1,y2,ih,q73,x73,Nat.testBit_eq_decide_div_mod_eq]
      ·have h0: ¬fe=0:=by simpa using hb
       simp [qO,hq1,hq2,hi,hw,hlen,h2,h3,hpl,hpt,y1,y2,ih,q73,x73,hb,h0,Nat.testBit_eq_decide_div_mod_eq])
    (by generalize ls.map Lab.d=ld at*;generalize aT l=td at*;simp [qO,hq2,hlen])
   rw [Int.natCast_zero] at this
   rw [this,ni,cS]
   cases hf:l.findIdx? (fun a=>a.oX p params != 0) with
   |none=>
    rw [List.findIdx?_eq_none_iff] at hf
    rw [List.find?_eq_none.2 fun x hx=>by simpa using hf x hx]
    rfl
   |some i=>
    obtain ⟨h1,h2,h3⟩:=List.findIdx?_eq_some_iff_getElem.1 hf
    have:l.find? (fun a=>a.oX p params != 0)=some l[i]:=by
     rw [List.find?_eq_some_iff_getElem]
     exact ⟨h2,i,h1,rfl,fun j hj=>by simpa using h3 j hj⟩
    rw [this]
    have hne: ¬(l[i].oX p params=0):=by simpa using h2
    simp [List.getD,h1,hne]
  have dO:=fun σ=>OO hpd hpar s σ
  have h123:=fun σ=>Ev p hdl s σ
  have hh:p.cs.head?=some (.slice (p.data.map Dat.d)):=by rw [p.dw];rfl
  have hdlen: (p.data.map Dat.d).length=p.data.length:=by simp
  have hcs: (Ty.mk k n s l ls tail).cs=[.int .i64 k, .int .i64 n, .str s, .slice (aT l), .slice (ls.map Lab.d), .int .i64 tail]:=rfl
  have hτ:ah CI XB GI lG [.agg p.cs,pd, .agg (Ty.mk k n s l ls tail).cs] σ=some (.ret (.int .i64 ((Ty.mk k n s l ls tail).oX p params)),σ++[Obj.box p.cs, .box (Ty.mk k n s l ls tail).cs]):=by
   simp only [Ty.oX]
   rw [hcs] at it0 it1 hq1 ⊢
   generalize iB p params l=te at*
   have fin: ∀ (hA: ¬(k=1/\cV params s=false)) (hB:k=6-> ∃i,∃h:i<p.data.length,idxOf (fun x:Dat=>x.name==s) p.data=(i:Nat)/\p.data[i].params.length=l.length),
    ah CI XB GI lG [.agg p.cs,pd, .agg [.int .i64 k, .int .i64 n, .str s, .slice (aT l), .slice (ls.map Lab.d), .int .i64 tail]] σ=some (.ret (.int .i64 (match ls.find? (fun a=>bK p.aA a.s != 0) with|some a=>bK p.aA a.s|none=>te)),σ++[Obj.box p.cs, .box [.int .i64 k, .int .i64 n, .str s, .slice (aT l), .slice (ls.map Lab.d), .int .i64 tail]]):=by
    intro hA hB
    have hk1: (k==1)=false\/((k==1)=true/\cV params s=true):=by
     cases hk:k==1
     ·exact .inl rfl
     ·right
      refine ⟨rfl, ?_⟩
      cases hs:cV params s
      ·exact absurd ⟨by simpa using hk,hs⟩ hA
      ·rfl
    by_cases hk6:k=6
    ·obtain ⟨i,hi,hidx,hpn⟩:=hB hk6
     subst hk6
     rw [hidx] at h123
     have bq: (p.data.map Dat.d)[i]? =some (Dat.d p.data[i]):=by simp [hi]
     generalize p.data.map Dat.d=dd at*
     have h2:i<dd.length:=by omega
     have h3:dd[i]=Dat.d p.data[i]:=by rw [List.getElem?_eq_getElem h2] at bq;exact Option.some.inj bq
     generalize p.data[i]=d at*
     rcases d with ⟨dn,dp,dc⟩
     simp only [Dat.d,Dat.cs,slD] at*
     have hpl2: (dp.map D.str).length=dp.length:=by simp
     generalize dp.map D.str=pdd at*
     generalize dc.map Con.d=cd at*
     have hni: ¬(i:Int) <0:=by omega
     generalize aT l=ld at*
     generalize ls.map Lab.d=lsd at*
     generalize p.cs=pc at*
     cases hf:ls.find? (fun a=>bK p.aA a.s != 0) with
     |some a=>
      rw [hf] at it0
      simp [ah,lG,az,aS,hpa,hpl,hpt,hh,h123,hni,h2,h3,hlen,hpl2,hpn,it0]
     |none=>
      rw [hf] at it0
      by_cases hz:te=0
      ·rw [if_pos hz] at it1
       simp [ah,lG,az,aS,hpa,hpl,hpt,hh,h123,hni,h2,h3,hlen,hpl2,hpn,it0,it1,hz]
      ·rw [if_neg hz] at it1
       simp [ah,lG,az,aS,hpa,hpl,hpt,hh,h123,hni,h2,h3,hlen,hpl2,hpn,it0,it1]
    ·have hk6': (k==6)=false:=by simpa using hk6
     generalize aT l=ld at*
     generalize ls.map Lab.d=lsd at*
     generalize p.cs=pc at*
     cases hf:ls.find? (fun a=>bK p.aA a.s != 0) with
     |some a=>
      rw [hf] at it0
      rcases hk1 with hk1| ⟨hk1,hs1⟩
      ·simp [ah,lG,az,aS,hpa,hpl,hpt,hk1,hk6',it0]
      ·rw [hs1] at dO
       simp [ah,lG,az,aS,hpa,hpl,hpt,hk1,hk6',dO,it0]
     |none=>
      rw [hf] at it0
      by_cases hz:te=0
      ·rw [if_pos hz] at it1
       rcases hk1 with hk1| ⟨hk1,hs1⟩
       ·simp [ah,lG,az,aS,hpa,hpl,hpt,hk1,hk6',it0,it1,hz]
       ·rw [hs1] at dO
        simp [ah,lG,az,aS,hpa,hpl,hpt,hk1,hk6',dO,it0,it1,hz]
      ·rw [if_neg hz] at it1
       rcases hk1 with hk1| ⟨hk1,hs1⟩
       ·simp [ah,lG,az,aS,hpa,hpl,hpt,hk1,hk6',it0,it1]
       ·rw [hs1] at dO
        simp [ah,lG,az,aS,hpa,hpl,hpt,hk1,hk6',dO,it0,it1]
   by_cases hA:k=1/\cV params s=false
   ·have hN:jC p params k s l.length ls=6:=if_pos hA
    have h6: ¬(6:Int)=0:=by decide
    rw [hN,if_neg h6]
    obtain ⟨rfl,hs1⟩:=hA
    rw [hs1] at dO
    generalize aT l=ld at*
    generalize ls.map Lab.d=lsd at*
    generalize p.cs=pc at*
    simp [ah,lG,az,aS,hpa,hpl,hpt,dO]
   ·have hlast: ∀v:Int,v=bn (ls.map fun x=>bK p.aA x.s)->(match ls.find? (fun a=>bK p.aA a.s != 0) with|some a=>bK p.aA a.s|none=>te)=if v=0 then te else v:=by
     rintro v rfl
     rw [cS]
     cases hf:ls.find? (fun a=>bK p.aA a.s != 0) with
     |none=>exact (if_pos rfl).symm
     |some a=>
      have:=List.find?_some hf
      have hne: ¬bK p.aA a.s=0:=by simpa using this
      exact (if_neg hne).symm
    by_cases h6:k=6
    ·subst h6
     rcases fk (fun x:Dat=>x.name==s) p.data with ⟨hneg,hn⟩ | ⟨i,hidx,hi,hn, -⟩
     ·have hdE:j7 p s l.length=6:=by unfold j7;rw [hn]
      have h6: ¬(6:Int)=0:=by decide
      have hN:jC p params 6 s l.length ls=6:=by
       unfold jC
       rw [if_neg hA,hdE]
       exact if_pos ⟨rfl,h6⟩
      rw [hN,if_neg h6]
      generalize idxOf (fun x:Dat=>x.name==s) p.data=ix at*
      generalize aT l=ld at*
      generalize ls.map Lab.d=lsd at*
      generalize p.cs=pc at*
      simp [ah,lG,az,aS,hpa,hpl,hpt,h123,hneg]
     ·by_cases hpn:p.data[i].params.length=l.length
      ·have hdE:j7 p s l.length=0:=by unfold j7;rw [hn];exact if_pos hpn
       have:=fin hA (fun _=>⟨i,hi,hidx,hpn⟩)
       rw [this,hlast (jC p params 6 s l.length ls)]
       unfold jC
       rw [if_neg hA,hdE]
       exact if_neg fun h=>h.2 rfl
      ·have hdE:j7 p s l.length=7:=by unfold j7;rw [hn];exact if_neg hpn
       have h7: ¬(7:Int)=0:=by decide
       have hN:jC p params 6 s l.length ls=7:=by
        unfold jC
        rw [if_neg hA,hdE]
        exact if_pos ⟨rfl,h7⟩
       rw [hN,if_neg h7]
       rw [hidx] at h123
       have bq: (p.data.map Dat.d)[i]? =some (Dat.d p.data[i]):=by simp [hi]
       generalize p.data.map Dat.d=dd at*
       have h2:i<dd.length:=by omega
       have h3:dd[i]=Dat.d p.data[i]:=by rw [List.getElem?_eq_getElem h2] at bq;exact Option.some.inj bq
       generalize p.data[i]=d at*
       rcases d with ⟨dn,dp,dc⟩
       simp only [Dat.d,Dat.cs,slD] at*
       have hpl2: (dp.map D.str).length=dp.length:=by simp
       generalize dp.map D.str=pdd at*
       generalize dc.map Con.d=cd at*
       have hni: ¬(i:Int) <0:=by omega
       have hpn': ((l.length:Int) != (dp.length:Int))=true:=by
        simp only [bne_iff_ne,ne_eq]
        intro h
        exact hpn (by omega)
       generalize aT l=ld at*
       generalize ls.map Lab.d=lsd at*
       generalize p.cs=pc at*
       simp [ah,lG,az,aS,hpa,hpl,hpt,hh,h123,hni,h2,h3,hlen,hpl2,hpn']
    ·have:=fin hA (fun h=>absurd h h6)
     rw [this,hlast (jC p params k s l.length ls)]
     unfold jC
     rw [if_neg hA]
     exact if_neg fun h=>h6 h.1
  exact aR OP hτ rfl rfl
termination_by t=>SizeOf.sizeOf t
decreasing_by
 have:=List.sizeOf_lt_of_mem (List.getElem_mem hi)
 simp only [Ty.mk.sizeOf_spec]
 omega
theorem Rp (ls:List Lab) (tail:Int) (σ:St) (hl:ls.length<=aQ):CI (.fn 169) [.agg [.slice (ls.map Lab.d), .int .i64 tail]] σ=some (.ret (.int .i64 (qP ls tail)),σ):=by
 have hτ:ah CI XB GI rT [.agg [.slice (ls.map Lab.d), .int .i64 tail]] σ=some (.ret (.int .i64 (qP ls tail)),σ++[.box [.slice (ls.map Lab.d), .int .i64 tail]]):=by
  have hq: (σ++[Obj.box [.slice (ls.map Lab.d), .int .i64 tail]])[σ.length]? =some (.box [.slice (ls.map Lab.d), .int .i64 tail]):=az
  have hlsl: (ls.map Lab.d).length=ls.length:=by simp
  have hit:=cK (f:=aD CI XB GI 31 false mE) (σ:=σ++[.box [.slice (ls.map Lab.d), .int .i64 tail]]) ls (fun i=>[(1, .ptr σ.length 0),(3, .int .i64 (i:Nat))]) (fun a=>k9 a != 0) (fun i=>(.ret,[(2, .int .i64 (k9 (ls.getD i ⟨[],0⟩)))],σ++[.box [.slice (ls.map Lab.d), .int .i64 tail]]))
   (.exit 0,[(1, .ptr σ.length 0),(3, .int .i64 ls.length),(8, .bool false)],σ++[.box [.slice (ls.map Lab.d), .int .i64 tail]]) (by simp) (by simp)
   (fun i hi=>by
     have hw:=aI (n:=i) (by unfold aQ at hl;omega)
     have bq: (ls.map Lab.d)[i]? =some (Lab.d ls[i]):=by simp [hi]
     have hgd:ls.getD i ⟨[],0⟩=ls[i]:=by simp [List.getD,hi]
     rw [hgd]
     generalize σ++[.box [.slice (ls.map Lab.d), .int .i64 tail]]=σ1 at*
     generalize ls.map Lab.d=ld at*
     have h2:i<ld.length:=by omega
     have h3:ld[i]=Lab.d ls[i]:=by rw [List.getElem?_eq_getElem h2] at bq;exact Option.some.inj bq
     generalize ls[i]=x at*
     rcases x with ⟨s,n⟩
     simp only [Lab.d] at h3
     unfold k9
     cases h1:upW s
     ·simp [mE,hq,hi,hw,hlsl,h2,h3,qQ,h1]
     ·cases h4:inR n 0 999999999
      ·simp [mE,hq,hi,hw,hlsl,h2,h3,qQ,h1,gz,h4]
      ·simp [mE,hq,hi,hw,hlsl,h2,h3,qQ,h1,gz,h4])
   (by generalize σ++[.box [.slice (ls.map Lab.d), .int .i64 tail]]=σ1 at*;generalize ls.map Lab.d=ld at*;simp [mE,hq,hlsl])
  rw [Int.natCast_zero] at hit
  unfold qP
  rw [nJ,cS]
  have hfi:ls.find? (fun a=>k9 a != 0)=(ls.findIdx? (fun a=>k9 a != 0)).map fun i=>ls.getD i ⟨[],0⟩:=by
   cases hf:ls.findIdx? (fun a=>k9 a != 0) with
   |none=>
    rw [List.findIdx?_eq_none_iff] at hf
    rw [List.find?_eq_none.2 fun x hx=>by simpa using hf x hx]
    rfl
   |some i=>
    obtain ⟨h1,h2,h3⟩:=List.findIdx?_eq_some_iff_getElem.1 hf
    have:ls.find? (fun a=>k9 a != 0)=some ls[i]:=by
     rw [List.find?_eq_some_iff_getElem]
     exact ⟨h2,i,h1,rfl,fun j hj=>by simpa using h3 j hj⟩
    rw [this]
    simp [List.getD,h1]
  cases hf:ls.findIdx? (fun a=>k9 a != 0) with
  |some i=>
   rw [hf] at hit hfi
   rw [hfi]
   have:k9 (ls.getD i ⟨[],0⟩)≠0:=by have:=List.find?_some hfi;simpa using this
   clear hfi
   dsimp only at hit
   show ah CI XB GI rT [.agg [.slice (ls.map Lab.d), .int .i64 tail]] σ=some (.ret (.int .i64 (if k9 (ls.getD i ⟨[],0⟩)=0 then _ else k9 (ls.getD i ⟨[],0⟩))),_)
   generalize ls.getD i ⟨[],0⟩=x at*
   generalize k9 x=le at*
   simp [ah,rT,az,hit,this]
  |none=>
   rw [hf] at hit hfi
   rw [hfi]
   simp only [Option.map_none]
   generalize ls.map Lab.d=ld at*
   unfold bn
   cases h4:inR tail (-1) 999999999
   ·simp [ah,rT,az,hit,gz,h4,bn]
   ·simp [ah,rT,az,hit,gz,h4,bn]
 exact aR J0 hτ rfl rfl
theorem I9 (σ:St): ∀ (r pre:List Bs),(pre++r).length<=aQ-> ∀m,m=pre.length->
 aU (aD CI XB GI 24 false mF) [(0,slD (pre++r)),(3, .int .i64 (m:Nat))] σ=
  some (if dZ pre r 1=0 then (.exit 0,[(0,slD (pre++r)),(3, .int .i64 (pre++r).length),(7, .bool false)],σ) else (.ret,[(2, .int .i64 (dZ pre r 1))],σ))
 | [],pre,hl,m,hm=>by
  have:m=(pre++([]:List Bs)).length:=by rw [hm];simp
  refine aH ?_ (by simp [dZ])
  generalize pre++([]:List Bs)=q at*
  simp [mF,this,dZ]
 |s::r,pre,hl,m,hm=>by
  have hmt:m< (pre++s::r).length:=by simp;omega
  have bq: (pre++s::r)[m]? =some s:=by rw [hm];simp
  have htk: ((pre++s::r).map D.str).take m=pre.map D.str:=by rw [hm];simp
  have hw:=aI (n:=m) (by unfold aQ at hl;simp at hl;omega)
  have dO:=dO pre s σ (by unfold aQ at*;simp at hl;omega)
  have hp:pre++[s]++r=pre++s::r:=by simp
  have ih:=I9 σ r (pre++[s]) (by rw [hp];exact hl) (m+1) (by simp [hm])
  rw [hp] at ih
  simp only [dZ]
  simp only [slD] at dO
  generalize hq:pre++s::r=q at*
  have h3:q[m]=s:=by rw [List.getElem?_eq_getElem hmt] at bq;exact Option.some.inj bq
  have hm': (m:Int)<=q.length:=by omega
  have hv:isC s 1=m8 s:=rfl
  have q122:qI 122=false:=rfl
  have x122:XB 122=false:=rfl
  by_cases hc:m8 s=true
  ·by_cases hh:cV pre s=true
   ·simp only [hv,hc,hh,if_true]
    refine aH ?_ (by simp)
    rw [hh] at dO
    simp [mF,hmt,h3,zC,hc,bound,hm',htk,dO,q122,x122,Nat.testBit_eq_decide_div_mod_eq]
   ·simp only [hv,hc,if_true,if_neg hh]
    rw [<-ih]
    refine aO ?_
    rw [Bool.not_eq_true] at hh
    rw [hh] at dO
    simp [mF,hmt,h3,zC,hc,hw,bound,hm',htk,dO,q122,x122,Nat.testBit_eq_decide_div_mod_eq]
  ·simp only [hv,if_neg hc]
   refine aH ?_ (by simp)
   rw [Bool.not_eq_true] at hc
   simp [mF,hmt,h3,zC,hc]
theorem OQ (l:List Bs) (σ:St) (hl:l.length<=aQ):CI (.fn 177) [slD l] σ=some (.ret (.int .i64 (fU l 1)),σ):=by
 refine br J1 (d:= .int .i64 (fU l 1)) ?_ rfl rfl
 have hit:=I9 σ l [] hl 0 rfl
 rw [Int.natCast_zero,List.nil_append] at hit
 unfold fU
 by_cases h:dZ [] l 1=0
 ·rw [if_pos h] at hit
  simp [ah,zD,hit,h]
 ·rw [if_neg h] at hit
  simp [ah,zD,hit]
theorem qR {α:Type} (l:List α) (Q:α->Bool) (h:l.findIdx? (fun a=> !Q a)=none):l.all Q=true:=by
 rw [List.findIdx?_eq_none_iff] at h
 exact List.all_eq_true.2 fun x hx=>by simpa using h x hx
theorem qS {α:Type} (l:List α) (Q:α->Bool) (i:Nat) (h:l.findIdx? (fun a=> !Q a)=some i):l.all Q=false:=by
 obtain ⟨h1,h2, -⟩:=List.findIdx?_eq_some_iff_getElem.1 h
 rw [List.all_eq_false]
 exact ⟨l[i],List.getElem_mem h1,by simpa using h2⟩
theorem zE {α:Type} {f:Env->St->Option (bx × Env × St)} {σ:St} (l:List α) (E:Nat->Env) (Q:α->Bool) (X Y:bx × Env × St) (hX:X.1≠ .normal) (hY:Y.1≠ .normal)
 (h: ∀i (hi:i<l.length),f (E i) σ=if Q l[i] then some (.normal,E (i+1),σ) else some X) (hf:f (E l.length) σ=some Y):
 aU f (E 0) σ=some (if l.all Q then Y else X):=by
 have:=cK (f:=f) (σ:=σ) l E (fun a=> !Q a) (fun _=>X) Y (fun _=>hX) hY (fun i hi=>by rw [h i hi];cases Q l[i]<;>rfl) hf
 rw [this]
 cases hf:l.findIdx? (fun a=> !Q a) with
 |none=>rw [qR l Q hf];rfl
 |some i=>rw [qS l Q i hf];rfl
theorem jD {α:Type} {f:Env->St->Option (bx × Env × St)} {σ:St} (l:List α) (E:Nat->Env) (e:α->Int) (X:Int->bx × Env × St) (Y:bx × Env × St) (hX: ∀n,(X n).1≠ .normal) (hY:Y.1≠ .normal)
 (h: ∀i (hi:i<l.length),f (E i) σ=if e l[i]=0 then some (.normal,E (i+1),σ) else some (X (e l[i]))) (hf:f (E l.length) σ=some Y):
 aU f (E 0) σ=some (if bn (l.map e)=0 then Y else X (bn (l.map e))):=by
 have from_: ∀ (m j:Nat),j+m=l.length->aU f (E j) σ=some (if bn ((l.drop j).map e)=0 then Y else X (bn ((l.drop j).map e))):=by
  intro m
  induction m with
  |zero=>
   intro j hj
   obtain rfl:j=l.length:=by omega
   rw [List.drop_length]
   exact aH hf hY
  |succ m ih=>
   intro j hj
   have hlt:j<l.length:=by omega
   have hb:=h j hlt
   rw [List.drop_eq_getElem_cons hlt]
   simp only [List.map_cons,bn]
   by_cases hq:e l[j]=0
   ·rw [if_pos hq] at hb ⊢
    rw [aO hb]
    exact ih (j+1) (by omega)
   ·simp only [if_neg hq] at hb ⊢
    exact aH hb (hX _)
 have:=from_ l.length 0 (by omega)
 rw [List.drop_zero] at this
 exact this
theorem OR: ∀ (t:Ty),t.ok-> ∀ (σ:St),CI (.fn 204) [.agg t.cs] σ=some (.ret (.bool (t.cl dF)),σ)
 | .mk k n s l ls tail,hok,σ=>by
  obtain ⟨hl1,hl2,hl3⟩:=hok
  have hq1: (σ++[Obj.box (Ty.mk k n s l ls tail).cs])[σ.length]? =some (.box [.int .i64 k, .int .i64 n, .str s, .slice (aT l), .slice (ls.map Lab.d), .int .i64 tail]):=az
  have hlen:=cN l
  have hlsl: (ls.map Lab.d).length=ls.length:=by simp
  have it0:aU (aD CI XB GI 49 false oY) [(1, .ptr σ.length 0),(3, .int .i64 0)] (σ++[Obj.box (Ty.mk k n s l ls tail).cs])=
   some (if ls.all (fun x=>x.n==0) then (.exit 0,[(1, .ptr σ.length 0),(3, .int .i64 ls.length),(24, .bool false)],σ++[Obj.box (Ty.mk k n s l ls tail).cs]) else (.ret,[(2, .bool false)],σ++[Obj.box (Ty.mk k n s l ls tail).cs])):=by
   generalize σ++[Obj.box (Ty.mk k n s l ls tail).cs]=σ1 at*
   refine zE ls (fun i=>[(1, .ptr σ.length 0),(3, .int .i64 (i:Nat))]) _ _ _ (by simp) (by simp) (fun i hi=> ?_) ?_
   ·have hw:=aI (n:=i) (by unfold aQ at hl2;omega)
    have bq: (ls.map Lab.d)[i]? =some (Lab.d ls[i]):=by simp [hi]
    generalize ls.map Lab.d=ld at*
    have h2:i<ld.length:=by omega
    have h3:ld[i]=Lab.d ls[i]:=by rw [List.getElem?_eq_getElem h2] at bq;exact Option.some.inj bq
    generalize ls[i]=x at*
    rcases x with ⟨xs,xn⟩
    simp only [Lab.d] at h3
    generalize aT l=td at*
    cases h4:xn==0
    ·have h5: (xn != 0)=true:=by simpa using h4
     have h6: ¬xn=0:=by simpa using h4
     simp [oY,hq1,hi,hw,hlsl,h2,h3,h5,h6]
    ·have h5:xn=0:=by simpa using h4
     simp [oY,hq1,hi,hw,hlsl,h2,h3,h5]
   ·generalize ls.map Lab.d=ld at*
    generalize aT l=td at*
    simp [oY,hq1,hlsl]
  have it1:aU (aD CI XB GI 49 false oZ) [(1, .ptr σ.length 0),(4, .int .i64 0)] (σ++[Obj.box (Ty.mk k n s l ls tail).cs])=
   some (if l.all (fun t=>t.cl dF) then (.exit 2,[(1, .ptr σ.length 0),(4, .int .i64 l.length),(39, .bool false)],σ++[Obj.box (Ty.mk k n s l ls tail).cs]) else (.ret,[(2, .bool false)],σ++[Obj.box (Ty.mk k n s l ls tail).cs])):=by
   have ih:=fun i (hi:i<l.length) σ=>OR l[i] (dX hl3 (List.getElem_mem hi)) σ
   generalize σ++[Obj.box (Ty.mk k n s l ls tail).cs]=σ1 at*
   refine zE l (fun i=>[(1, .ptr σ.length 0),(4, .int .i64 (i:Nat))]) _ _ _ (by simp) (by simp) (fun i hi=> ?_) ?_
   ·have hw:=aI (n:=i) (by unfold aQ at hl1;omega)
    have bq: (aT l)[i]? =some (.agg l[i].cs):=by rw [bS];simp [Ty.d,hi]
    have ih:=ih i hi
    generalize aT l=ld at*
    have h2:i<ld.length:=by omega
    have h3:ld[i]= .agg l[i].cs:=by rw [List.getElem?_eq_getElem h2] at bq;exact Option.some.inj bq
    have y1:=l[i].aL
    have y2:=l[i].aM
    generalize l[i]=x at*
    generalize x.cs=xc at*
    generalize ls.map Lab.d=lsd at*
    cases hb:x.cl dF
    ·rw [hb] at ih
     simp [oZ,hq1,hi,hw,hlen,h2,h3,y1,y2,ih]
    ·rw [hb] at ih
     simp [oZ,hq1,hi,hw,hlen,h2,h3,y1,y2,ih]
   ·generalize ls.map Lab.d=ld at*
    generalize aT l=td at*
    simp [oZ,hq1,hlen]
  have hτ:ah CI XB GI lH [.agg (Ty.mk k n s l ls tail).cs] σ=some (.ret (.bool ((Ty.mk k n s l ls tail).cl dF)),σ++[.box (Ty.mk k n s l ls tail).cs]):=by
   simp only [Ty.cl,mG]
   simp only [Ty.cs] at it0 it1 ⊢
   unfold dF at*
   generalize ls.map Lab.d=lsd at*
   generalize aT l=ld at*
   generalize (ls.all fun x=>x.n==0)=lb at*
   generalize (l.all fun t=>t.cl fun n=>n != -1)=tb at*
   have rest: ∀ (b:Bool),b=(lb&&tb)->(k==0)=false->((k==5)&&(tail != -1))=false->ah CI XB GI lH [.agg [.int .i64 k, .int .i64 n, .str s, .slice ld, .slice lsd, .int .i64 tail]] σ=some (.ret (.bool b),σ++[.box [.int .i64 k, .int .i64 n, .str s, .slice ld, .slice lsd, .int .i64 tail]]):=by
    rintro b rfl hk hk5
    cases h5:k==5
    ·cases lb
     ·simp [ah,lH,az,hk,h5,it0]
     ·cases tb<;>simp [ah,lH,az,hk,h5,it0,it1]
    ·rw [h5] at hk5
     have ht: (tail != -1)=false:=by simpa using hk5
     cases lb
     ·simp [ah,lH,az,hk,h5,ht,it0]
     ·cases tb<;>simp [ah,lH,az,hk,h5,ht,it0,it1]
   cases hk:k==0
   ·cases hk5: (k==5)&&(tail != -1)
    ·rw [rest (lb&&tb) rfl hk hk5]
     simp
    ·obtain ⟨h5,ht⟩:=Bool.and_eq_true_iff.1 hk5
     simp [ah,lH,az,hk,h5,ht]
   ·simp [ah,lH,az,hk]
  exact aR J2 hτ rfl rfl
termination_by t=>SizeOf.sizeOf t
decreasing_by
 have:=List.sizeOf_lt_of_mem (List.getElem_mem hi)
 simp only [Ty.mk.sizeOf_spec]
 omega
mutual
def Ty.left:Ty->Int->Int->Int
 | .mk _ _ _ l ls _,left,d=>if d<1\/24<ls.length then -1 else cU l (left - 1) (d - 1)
def cU:List Ty->Int->Int->Int
 | [],left,_=>left
 |t::r,left,d=>if 0<=left then cU r (t.left left d) d else left
end
mutual
theorem Ty.o4: ∀ (t:Ty) (left d:Int),0<=left-> -1<=t.left left d/\t.left left d<=left
 | .mk _ _ _ l ls _,left,d,h=>by
  simp only [Ty.left]
  split
  ·exact ⟨by omega,by omega⟩
  ·have:=ue l (left - 1) (d - 1) (by omega)
   exact ⟨this.1,by omega⟩
theorem ue: ∀ (l:List Ty) (left d:Int), -1<=left-> -1<=cU l left d/\cU l left d<=left
 | [],left,d,h=>by simp only [cU];exact ⟨h,by omega⟩
 |t::r,left,d,h=>by
  simp only [cU]
  split
  ·rename_i h0
   obtain ⟨h1,h2⟩:=t.o4 left d h0
   have:=ue r (t.left left d) d h1
   exact ⟨this.1,by omega⟩
  ·exact ⟨h,by omega⟩
end
mutual
theorem OS: ∀ (t:Ty),t.ok-> ∀ (left d:Int) (σ:St),0<=left->left<=1000000->0<=d->d<=1000->
 CI (.fn 120) [.agg t.cs, .int .i64 left, .int .i64 d] σ=some (.ret (.int .i64 (t.left left d)),σ)
 | .mk k n s l ls tail,hok,left,d,σ,h0,h1,hd0,hd1=>by
  obtain ⟨hl1,hl2,hl3⟩:=hok
  have hw:IntKind.i64.wrap (left - 1)=left - 1:=wrap_i64 (by omega) (by omega)
  have hlsl: (ls.map Lab.d).length=ls.length:=by simp
  have hτ:ah CI XB GI uf [.agg (Ty.mk k n s l ls tail).cs, .int .i64 left, .int .i64 d] σ=some (.ret (.int .i64 ((Ty.mk k n s l ls tail).left left d)),σ++[.box (Ty.mk k n s l ls tail).cs]):=by
   simp only [Ty.left]
   by_cases hdd:d<1
   ·rw [if_pos (.inl hdd)]
    simp only [Ty.cs]
    generalize ls.map Lab.d=lsd at*
    generalize aT l=ld at*
    simp [ah,uf,az,hw,hdd]
   ·by_cases h24:24<ls.length
    ·rw [if_pos (.inr h24)]
     simp only [Ty.cs]
     generalize ls.map Lab.d=lsd at*
     generalize aT l=ld at*
     have h24': (24:Int) < (lsd.length:Int):=by omega
     have h24'':24<lsd.length:=by omega
     simp [ah,uf,az,hw,hdd,h24,h24',h24'']
    ·rw [if_neg (fun h=>h.elim hdd h24)]
     obtain ⟨j,hit⟩:=Ja l [] (left - 1) d (σ++[.box (Ty.mk k n s l ls tail).cs]) σ.length ⟨k,n,s, .slice (ls.map Lab.d),tail,by rw [az];rfl⟩ hl1 hl3 (by omega) (by omega) (by omega) (by omega) 0 rfl
     rw [Int.natCast_zero] at hit
     simp only [Ty.cs] at hit ⊢
     generalize ls.map Lab.d=lsd at*
     generalize aT l=ld at*
     have h24': ¬(24:Int) < (lsd.length:Int):=by omega
     have h24'': ¬24<lsd.length:=by omega
     simp [ah,uf,az,hw,hdd,h24,h24',h24'',hit]
  exact aR J3 hτ rfl rfl
theorem Ja: ∀ (r pre:List Ty) (left d:Int) (σ:St) (p:Nat),(∃k n s ls tail,σ[p]? =some (.box [.int .i64 k, .int .i64 n, .str s, .slice (aT (pre++r)),ls, .int .i64 tail]))->(pre++r).length<=aQ->kQ r-> -1<=left->left<=1000000->1<=d->d<=1000-> ∀ (m:Nat),m=pre.length->
 ∃j:Int,aU (aD CI XB GI 40 false o5) [(1, .int .i64 left),(2, .int .i64 d),(3, .ptr p 0),(7, .int .i64 (m:Nat))] σ=
  some (.exit 0,[(1, .int .i64 (cU r left (d - 1))),(2, .int .i64 d),(3, .ptr p 0),(7, .int .i64 j),(27, .bool false)],σ)
 | [],pre,left,d,σ,p,hσ,hl,hok,h0,h1,hd0,hd1,m,hm=>by
  obtain ⟨k,n,s,ls,tail,hσ⟩:=hσ
  rw [List.append_nil] at hσ
  refine ⟨(m:Int),aH ?_ (by simp)⟩
  have hlen:=cN pre
  generalize aT pre=ld at*
  simp [o5,hσ,hm,hlen,cU]
 |t::r,pre,left,d,σ,p,hσ,hl,hok,h0,h1,hd0,hd1,m,hm=>by
  obtain ⟨k,n,s,ls,tail,hσ'⟩:=hσ
  have hlen:=cN (pre++t::r)
  have hmt:m< (pre++t::r).length:=by simp;omega
  have bq: (aT (pre++t::r))[m]? =some (.agg t.cs):=by rw [bS,hm];simp [Ty.d]
  have hw:=aI (n:=m) (by unfold aQ at hl;omega)
  have hwd:IntKind.i64.wrap (d - 1)=d - 1:=wrap_i64 (by omega) (by omega)
  have hp:pre++[t]++r=pre++t::r:=by simp
  by_cases hlt:0<=left
  ·have ht:=t.o4 left (d - 1) hlt
   obtain ⟨j,ih⟩:=Ja r (pre++[t]) (t.left left (d - 1)) d σ p ⟨k,n,s,ls,tail,by rw [hp];exact hσ'⟩ (by rw [hp];exact hl) hok.2 ht.1 (by omega) hd0 hd1 (m+1) (by simp [hm])
   refine ⟨j, ?_⟩
   have h120:=OS t hok.1 left (d - 1) σ hlt h1 (by omega) (by omega)
   simp only [cU,if_pos hlt]
   rw [<-ih]
   refine aO ?_
   generalize aT (pre++t::r)=ld at*
   generalize (pre++t::r).length=len at*
   have h2:m<ld.length:=by omega
   have h3:ld[m]= .agg t.cs:=by rw [List.getElem?_eq_getElem h2] at bq;exact Option.some.inj bq
   have y1:=t.aL
   have y2:=t.aM
   generalize t.cs=xc at*
   generalize t.left left (d - 1)=tl at*
   simp [o5,hσ',hmt,hlen,h2,h3,y1,y2,hw,hwd,hlt,h120]
  ·refine ⟨(m:Int),aH ?_ (by simp)⟩
   simp only [cU,if_neg hlt]
   generalize aT (pre++t::r)=ld at*
   generalize (pre++t::r).length=len at*
   simp [o5,hσ',hmt,hlen,hlt]
end
theorem CH {s:Bs} (h:isB s=true):s ∈ builtins:=by
 unfold isB cV at h
 simpa using h
theorem Ey {s:Bs} (h:isC s 0=true):isB s=false:=by
 cases hb:isB s
 ·rfl
 ·have: ∀x ∈ builtins,isC x 0=false:=by decide
  rw [this s (CH hb)] at h
  cases h
theorem J4 {s:Bs} (h:isC s 1=true):isB s=false:=by
 cases hb:isB s
 ·rfl
 ·have: ∀x ∈ builtins,isC x 1=false:=by decide
  rw [this s (CH hb)] at h
  cases h
theorem ug: ∀ (l:List Ty),j8 l=bn (l.map Ty.e)
 | []=>rfl
 |t::r=>by simp only [j8,List.map_cons,bn,ug r]
set_option maxHeartbeats 4000000 in
theorem OT: ∀ (t:Ty),t.ok-> ∀ (σ:St),CI (.fn 121) [.agg t.cs] σ=some (.ret (.int .i64 t.e),σ)
 | .mk k n s l ls tail,hok,σ=>by
  obtain ⟨hl1,hl2,hl3⟩:=hok
  have hq1: (σ++[Obj.box (Ty.mk k n s l ls tail).cs])[σ.length]? =some (.box [.int .i64 k, .int .i64 n, .str s, .slice (aT l), .slice (ls.map Lab.d), .int .i64 tail]):=az
  have hlen:=cN l
  have hlsl: (ls.map Lab.d).length=ls.length:=by simp
  have it0:aU (aD CI XB GI 125 false o6) [(1, .ptr σ.length 0),(5, .int .i64 0)] (σ++[Obj.box (Ty.mk k n s l ls tail).cs])=
   some (if j8 l=0 then (.exit 0,[(1, .ptr σ.length 0),(5, .int .i64 l.length),(113, .bool false)],σ++[Obj.box (Ty.mk k n s l ls tail).cs]) else (.ret,[(2, .int .i64 (j8 l))],σ++[Obj.box (Ty.mk k n s l ls tail).cs])):=by
   have ih:=fun i (hi:i<l.length) σ=>OT l[i] (dX hl3 (List.getElem_mem hi)) σ
   generalize σ++[Obj.box (Ty.mk k n s l ls tail).cs]=σ1 at*
   rw [ug]
   refine jD l (fun i=>[(1, .ptr σ.length 0),(5, .int .i64 (i:Nat))]) Ty.e (fun v=>(.ret,[(2, .int .i64 v)],σ1)) _ (by simp) (by simp) (fun i hi=> ?_) ?_
   ·have hw:=aI (n:=i) (by unfold aQ at hl1;omega)
    have bq: (aT l)[i]? =some (.agg l[i].cs):=by rw [bS];simp [Ty.d,hi]
    have ih:=ih i hi
    generalize aT l=ld at*
    have h2:i<ld.length:=by omega
    have h3:ld[i]= .agg l[i].cs:=by rw [List.getElem?_eq_getElem h2] at bq;exact Option.some.inj bq
    have y1:=l[i].aL
    have y2:=l[i].aM
    generalize l[i]=x at*
    generalize x.cs=xc at*
    generalize ls.map Lab.d=lsd at*
    generalize x.e=xe at*
    by_cases hb:xe=0
    ·simp [o6,hq1,hi,hw,hlen,h2,h3,y1,y2,ih,hb]
    ·have hb': (xe != 0)=true:=by simpa using hb
     simp [o6,hq1,hi,hw,hlen,h2,h3,y1,y2,ih,hb,hb']
   ·generalize ls.map Lab.d=ld at*
    generalize aT l=td at*
    simp [o6,hq1,hlen]
  have hτ:ah CI XB GI dP [.agg (Ty.mk k n s l ls tail).cs] σ=some (.ret (.int .i64 (Ty.mk k n s l ls tail).e),σ++[.box (Ty.mk k n s l ls tail).cs]):=by
   have h169:=fun σ=>Rp ls tail σ hl2
   simp only [Ty.e]
   simp only [Ty.cs] at it0 ⊢
   generalize ls.map Lab.d=lsd at*
   generalize aT l=ld at*
   generalize j8 l=te at*
   have cut: ∀v,bR k n s l.length ls tail=v->v≠0->ah CI XB GI dP [.agg [.int .i64 k, .int .i64 n, .str s, .slice ld, .slice lsd, .int .i64 tail]] σ=some (.ret (.int .i64 v),σ++[.box [.int .i64 k, .int .i64 n, .str s, .slice ld, .slice lsd, .int .i64 tail]])->
    ah CI XB GI dP [.agg [.int .i64 k, .int .i64 n, .str s, .slice ld, .slice lsd, .int .i64 tail]] σ=some (.ret (.int .i64 (if bR k n s l.length ls tail=0 then te else bR k n s l.length ls tail)),σ++[.box [.int .i64 k, .int .i64 n, .str s, .slice ld, .slice lsd, .int .i64 tail]]):=by
    intro v hv hne hb
    rw [hv,if_neg hne]
    exact hb
   have fin:bR k n s l.length ls tail=0->ah CI XB GI dP [.agg [.int .i64 k, .int .i64 n, .str s, .slice ld, .slice lsd, .int .i64 tail]] σ=some (.ret (.int .i64 te),σ++[.box [.int .i64 k, .int .i64 n, .str s, .slice ld, .slice lsd, .int .i64 tail]])->
    ah CI XB GI dP [.agg [.int .i64 k, .int .i64 n, .str s, .slice ld, .slice lsd, .int .i64 tail]] σ=some (.ret (.int .i64 (if bR k n s l.length ls tail=0 then te else bR k n s l.length ls tail)),σ++[.box [.int .i64 k, .int .i64 n, .str s, .slice ld, .slice lsd, .int .i64 tail]]):=by
    intro hv hb
    rw [if_pos hv]
    exact hb
   cases hk:inR k 0 6
   ·exact cut 1 (by simp [bR,hk]) (by decide) (by simp [ah,dP,az,gz,hk])
   cases hn:inR n 0 999999999
   ·exact cut 1 (by simp [bR,hk,hn]) (by decide) (by simp [ah,dP,az,gz,hk,hn])
   have hn0:0<=n:=by unfold inR at hn;simp at hn;omega
   have hkk:0<=k/\k<=6:=by unfold inR at hk;simp at hk;omega
   by_cases hkn:k≠0/\n≠0
   ·obtain ⟨h1,h2⟩:=hkn
    have h3:0<n:=by omega
    have h1': (k != 0)=true:=by simpa using h1
    have h2': (n != 0)=true:=by simpa using h2
    exact cut 1 (by simp [bR,hk,hn,h1,h3]) (by decide) (by simp [ah,dP,az,gz,hk,hn,h1',h2'])
   have hg: ((k != 0)&&(n != 0))=false:=by
    cases h: (k != 0)&&(n != 0)
    ·rfl
    ·exact absurd (by simpa using h) hkn
   have hg2: ((k != 0)&&decide (0<n))=false:=by
    cases h: (k != 0)&&decide (0<n)
    ·rfl
    ·obtain ⟨h1,h2⟩:=Bool.and_eq_true_iff.1 h
     exact absurd ⟨by simpa using h1,by have:=of_decide_eq_true h2;omega⟩ hkn
   have h0: (k != 0)=false\/((k != 0)=true/\(n != 0)=false):=by
    cases h:k != 0
    ·exact .inl rfl
    ·rw [h] at hg
     exact .inr ⟨rfl,by simpa using hg⟩
   have k167:=fun s k σ=>OU s k σ
   by_cases hk1:k=1
   ·subst hk1
    have hcl:cI 1=1:=rfl
    have hnn: ¬0<n:=by simpa using hg2
    have hn0: (n != 0)=false:=by simpa using hg
    cases hc:isC s 1
    ·exact cut 4 (by simp [bR,hk,hn,hnn,hcl,hc]) (by decide) (by simp [ah,dP,az,gz,k167,jE,hk,hn,hn0,hc])
    have hb:=J4 hc
    by_cases hl:l.length=0
    rotate_left
    ·have hr:inR l.length (cz 1) (dG 1)=false:=by
      have e1:cz 1=0:=by simp [cz]
      have e2:dG 1=0:=by simp [dG]
      rw [e1,e2]
      unfold inR
      rw [decide_eq_false (p:=(l.length:Int)<=0) (by omega),Bool.and_false]
     have hl':0<l.length:=by omega
     exact cut 7 (by simp [bR,hk,hn,hnn,hcl,hc,hb,hr]) (by decide) (by simp [ah,dP,az,gz,k167,jE,hk,hn,hn0,hc,hb,hlen,hl',hl])
    have hr:inR l.length (cz 1) (dG 1)=true:=by simp [inR,cz,dG,hl]
    have hl': ¬0<l.length:=by omega
    by_cases hlp:0<ls.length
    ·have hlp': (0:Int) < (lsd.length:Int):=by omega
     have hlp'':0<lsd.length:=by omega
     exact cut 1 (by simp [bR,hk,hn,hnn,hcl,hc,hb,hr,hlp]) (by decide) (by simp [ah,dP,az,gz,k167,jE,hk,hn,hn0,hc,hb,hlen,hl',hl,hlp,hlp',hlp''])
    have hlp': ¬(0:Int) < (lsd.length:Int):=by omega
    have hlp'': ¬0<lsd.length:=by omega
    cases ht0:tail != 0
    ·refine fin (by simp [bR,hk,hn,hnn,hcl,hc,hb,hr,hlp,ht0]) ?_
     by_cases ht:te=0<;>simp [ah,dP,az,gz,k167,jE,hk,hn,hn0,hc,hb,hlen,hl',hl,hlp,hlp',hlp'',ht0,it0,ht]
    ·exact cut 1 (by simp [bR,hk,hn,hnn,hcl,hc,hb,hr,hlp,ht0]) (by decide) (by simp [ah,dP,az,gz,k167,jE,hk,hn,hn0,hc,hb,hlen,hl',hl,hlp,hlp',hlp'',ht0])
   by_cases hk5:k=5
   ·subst hk5
    have hcl:cI 5=0:=rfl
    have hnn: ¬0<n:=by simpa using hg2
    have hn0: (n != 0)=false:=by simpa using hg
    cases hc:isC s 0
    ·exact cut 4 (by simp [bR,hk,hn,hnn,hcl,hc]) (by decide) (by simp [ah,dP,az,gz,k167,jE,hk,hn,hn0,hc])
    have hb:=Ey hc
    by_cases hl:l.length=2
    rotate_left
    ·have hr:inR l.length (cz 5) (dG 5)=false:=by
      show (decide ((2:Int)<=l.length)&&decide ((l.length:Int)<=2))=false
      by_cases h2: (l.length:Int)<=2
      ·rw [decide_eq_false (p:=(2:Int)<=l.length) (by omega),Bool.false_and]
      ·rw [decide_eq_false h2,Bool.and_false]
     have hl': ((l.length:Int) != 2)=true:=by simp only [bne_iff_ne,ne_eq];omega
     exact cut 7 (by simp [bR,hk,hn,hnn,hcl,hc,hb,hr]) (by decide) (by simp [ah,dP,az,gz,k167,jE,hk,hn,hn0,hc,hb,hlen,hl',hl])
    have hr:inR l.length (cz 5) (dG 5)=true:=by simp [inR,cz,dG,hl]
    have hl': ((l.length:Int) != 2)=false:=by simp [hl]
    have hN:bR 5 n s l.length ls tail=qP ls tail:=by simp [bR,hk,hn,hnn,hcl,hc,hb,hr]
    by_cases hz:qP ls tail=0
    ·refine fin (by rw [hN,hz]) ?_
     by_cases ht:te=0<;>simp [ah,dP,az,gz,k167,jE,hk,hn,hn0,hc,hb,hlen,hl',hl,h169,hz,it0,ht]
    ·have hz': (qP ls tail != 0)=true:=by simpa using hz
     exact cut _ hN hz (by simp [ah,dP,az,gz,k167,jE,hk,hn,hn0,hc,hb,hlen,hl',hl,h169,hz,hz'])
   by_cases hk6:k=6
   ·subst hk6
    have hcl:cI 6=2:=rfl
    have hnn: ¬0<n:=by simpa using hg2
    have hn0: (n != 0)=false:=by simpa using hg
    cases hc:isC s 2
    ·exact cut 4 (by simp [bR,hk,hn,hnn,hcl,hc]) (by decide) (by simp [ah,dP,az,gz,k167,jE,hk,hn,hn0,hc])
    cases hb:isB s
    rotate_left
    ·exact cut 4 (by simp [bR,hk,hn,hnn,hcl,hc,hb]) (by decide) (by simp [ah,dP,az,gz,k167,jE,hk,hn,hn0,hc,hb])
    by_cases hl:l.length<=4
    rotate_left
    ·have hr:inR l.length (cz 6) (dG 6)=false:=by
      show (decide ((0:Int)<=l.length)&&decide ((l.length:Int)<=4))=false
      rw [decide_eq_false (p:=(l.length:Int)<=4) (by omega),Bool.and_false]
     have hl': (4:Int) < (l.length:Int):=by omega
     exact cut 7 (by simp [bR,hk,hn,hnn,hcl,hc,hb,hr]) (by decide) (by simp [ah,dP,az,gz,k167,jE,hk,hn,hn0,hc,hb,hlen,hl',hl])
    have hr:inR l.length (cz 6) (dG 6)=true:=by simp [inR,cz,dG];omega
    have hl': ¬(4:Int) < (l.length:Int):=by omega
    by_cases hlp:0<ls.length
    ·have hlp': (0:Int) < (lsd.length:Int):=by omega
     have hlp'':0<lsd.length:=by omega
     exact cut 1 (by simp [bR,hk,hn,hnn,hcl,hc,hb,hr,hlp]) (by decide) (by simp [ah,dP,az,gz,k167,jE,hk,hn,hn0,hc,hb,hlen,hl',hl,hlp,hlp',hlp''])
    have hlp': ¬(0:Int) < (lsd.length:Int):=by omega
    have hlp'': ¬0<lsd.length:=by omega
    cases ht0:tail != 0
    ·refine fin (by simp [bR,hk,hn,hnn,hcl,hc,hb,hr,hlp,ht0]) ?_
     by_cases ht:te=0<;>simp [ah,dP,az,gz,k167,jE,hk,hn,hn0,hc,hb,hlen,hl',hl,hlp,hlp',hlp'',ht0,it0,ht]
    ·exact cut 1 (by simp [bR,hk,hn,hnn,hcl,hc,hb,hr,hlp,ht0]) (by decide) (by simp [ah,dP,az,gz,k167,jE,hk,hn,hn0,hc,hb,hlen,hl',hl,hlp,hlp',hlp'',ht0])
   ·have hcl:cI k=0:=by simp [cI,hk1,hk6]
    have e1: (k==1)=false:=by simpa using hk1
    have e5: (k==5)=false:=by simpa using hk5
    have e6: (k==6)=false:=by simpa using hk6
    have n5: (k != 5)=true:=by simpa using hk5
    have n6: (k != 6)=true:=by simpa using hk6
    cases hc:isC s 0
    ·exact cut 4 (by simp [bR,hk,hn,hg2,hcl,e1,e5,e6,n5,n6,hk5,hc]) (by decide) (by rcases h0 with h0|h0<;>simp [ah,dP,az,gz,k167,jE,hk,hn,h0,e1,e5,e6,n5,n6,hk5,hc])
    have hb:=Ey hc
    by_cases hl:l.length=0
    rotate_left
    ·have hr:inR l.length (cz k) (dG k)=false:=by
      have e1:cz k=0:=by simp [cz,hk5,hk6]
      have e2:dG k=0:=by simp [dG,hk5,hk6]
      rw [e1,e2]
      unfold inR
      rw [decide_eq_false (p:=(l.length:Int)<=0) (by omega),Bool.and_false]
     have hl':0<l.length:=by omega
     exact cut 7 (by simp [bR,hk,hn,hg2,hcl,e1,e5,e6,n5,n6,hk5,hc,hb,hr]) (by decide) (by rcases h0 with h0|h0<;>simp [ah,dP,az,gz,k167,jE,hk,hn,h0,e1,e5,e6,n5,n6,hk5,hc,hb,hlen,hl',hl])
    have hr:inR l.length (cz k) (dG k)=true:=by simp [inR,cz,dG,hl,hk5,hk6]
    have hl': ¬0<l.length:=by omega
    by_cases hlp:0<ls.length
    ·have hlp': (0:Int) < (lsd.length:Int):=by omega
     have hlp'':0<lsd.length:=by omega
     exact cut 1 (by simp [bR,hk,hn,hg2,hcl,e1,e5,e6,n5,n6,hk5,hc,hb,hr,hlp]) (by decide) (by rcases h0 with h0|h0<;>simp [ah,dP,az,gz,k167,jE,hk,hn,h0,e1,e5,e6,n5,n6,hk5,hc,hb,hlen,hl',hl,hlp,hlp',hlp''])
    have hlp': ¬(0:Int) < (lsd.length:Int):=by omega
    have hlp'': ¬0<lsd.length:=by omega
    cases ht0:tail != 0
    ·refine fin (by simp [bR,hk,hn,hg2,hcl,e1,e5,e6,n5,n6,hk5,hc,hb,hr,hlp,ht0]) ?_
     rcases h0 with h0|h0<;>by_cases ht:te=0<;>simp [ah,dP,az,gz,k167,jE,hk,hn,h0,e1,e5,e6,n5,n6,hk5,hc,hb,hlen,hl',hl,hlp,hlp',hlp'',ht0,it0,ht]
    ·exact cut 1 (by simp [bR,hk,hn,hg2,hcl,e1,e5,e6,n5,n6,hk5,hc,hb,hr,hlp,ht0]) (by decide) (by rcases h0 with h0|h0<;>simp [ah,dP,az,gz,k167,jE,hk,hn,h0,e1,e5,e6,n5,n6,hk5,hc,hb,hlen,hl',hl,hlp,hlp',hlp'',ht0])
  exact aR J5 hτ rfl rfl
termination_by t=>SizeOf.sizeOf t
decreasing_by
 have:=List.sizeOf_lt_of_mem (List.getElem_mem hi)
 simp only [Ty.mk.sizeOf_spec]
 omega
theorem fV: ∀ (l:List Ty) (x d:Int),x<0->cU l x d=x
 | [],_,_,_=>rfl
 |_::_,x,d,h=>by
  simp only [cU]
  rw [if_neg (by omega)]
mutual
theorem Ty.yb: ∀ (t:Ty) (left d:Int),0<=left->((t.take left d).1=true↔0<=t.left left (201 - d))/\((t.take left d).1=true->(t.take left d).2=t.left left (201 - d))
 | .mk _ _ _ l ls _,left,d,h=>by
  simp only [Ty.take,Ty.left]
  by_cases h1:200<d
  ·rw [if_pos (.inr (.inl h1)),if_pos (.inl (by omega))]
   exact ⟨⟨fun h=>(by cases h),fun h=>(by omega)⟩,fun h=>(by cases h)⟩
  by_cases h2:24<ls.length
  ·rw [if_pos (.inr (.inr h2)),if_pos (.inr h2)]
   exact ⟨⟨fun h=>(by cases h),fun h=>(by omega)⟩,fun h=>(by cases h)⟩
  rw [if_neg (c:=201 - d<1\/24<ls.length) (fun h=>h.elim (by omega) h2)]
  by_cases h3:left - 1<0
  ·rw [if_pos (.inl h3),fV l _ _ h3]
   exact ⟨⟨fun h=>(by cases h),fun h=>(by omega)⟩,fun h=>(by cases h)⟩
  rw [if_neg (fun h=>h.elim h3 (fun h=>h.elim h1 h2))]
  have:=uh l (left - 1) (d+1) (by omega)
  have e:201 - d - 1=201 - (d+1):=by omega
  rw [e]
  exact this
theorem uh: ∀ (l:List Ty) (left d:Int),0<=left->((bZ l left d).1=true↔0<=cU l left (201 - d))/\((bZ l left d).1=true->(bZ l left d).2=cU l left (201 - d))
 | [],left,d,h=>by
  simp only [bZ,cU]
  exact ⟨⟨fun _=>h,fun _=>trivial⟩,fun _=>trivial⟩
 |t::r,left,d,h=>by
  obtain ⟨h1,h2⟩:=t.yb left d h
  simp only [bZ,cU]
  rw [if_pos h]
  by_cases ht: (t.take left d).1=true
  ·rw [if_pos ht,h2 ht]
   exact uh r _ d (h1.1 ht)
  ·rw [if_neg ht,fV r _ _ (by have:=mt h1.2 ht;omega)]
   have hn:=mt h1.2 ht
   exact ⟨⟨fun h=>(by cases h),fun h=>absurd h hn⟩,fun h=>(by cases h)⟩
end
theorem Ty.uj (t:Ty):t.chk=if t.left 3000 200<0 then 3 else t.e:=by
 obtain ⟨h1, -⟩:=t.yb 3000 1 (by omega)
 have e: (201:Int) - 1=200:=rfl
 rw [e] at h1
 unfold Ty.chk
 by_cases h: (t.take 3000 1).1=true
 ·rw [if_pos h,if_neg (by have:=h1.1 h;omega)]
 ·rw [if_neg h,if_pos (by have:=mt h1.2 h;omega)]
theorem Ez {k n:Int} {s:Bs} {len:Nat} {ls:List Lab} {tail:Int} (h:bR k n s len ls tail=0) (hk:k=5):je tail=dF tail:=by
 unfold bR at h
 subst hk
 split at h
 ·cases h
 split at h
 ·cases h
 split at h
 ·cases h
 rw [if_pos rfl] at h
 unfold qP at h
 rw [nJ] at h
 have hr:inR tail (-1) 999999999=true:=by
  cases hr:inR tail (-1) 999999999
  ·rw [hr] at h
   split at h
   ·simp [bn] at h
   ·rename_i h1;exact absurd h h1
  ·rfl
 unfold inR at hr
 unfold je dF
 simp at hr
 cases hb:tail != -1
 ·have:tail= -1:=by simpa using hb
  subst this
  rfl
 ·have: ¬tail= -1:=by simpa using hb
  exact decide_eq_true (by omega)
mutual
theorem Ty.Jb: ∀ (t:Ty),t.e=0->t.cl dF=t.cl je
 | .mk k n s l ls tail,h=>by
  simp only [Ty.e] at h
  split at h
  ·rename_i h1
   simp only [Ty.cl]
   rw [zF l h]
   cases hk:k==5
   ·simp
   ·rw [Ez h1 (by simpa using hk)]
  ·rename_i h1;exact absurd h h1
theorem zF: ∀ (l:List Ty),j8 l=0->o7 dF l=o7 je l
 | [],_=>rfl
 |t::r,h=>by
  simp only [j8] at h
  split at h
  ·rename_i h1
   simp only [o7]
   rw [t.Jb h1,zF r h]
  ·rename_i h1;exact absurd h h1
end
theorem c71 (t:Ty) (hok:t.ok) (σ:St):CI (.fn 71) [.agg t.cs] σ=some (.ret (.int .i64 t.chk),σ):=by
 have hτ:ah CI XB GI DK [.agg t.cs] σ=some (.ret (.int .i64 t.chk),σ++[.box t.cs]):=by
  have h120:=fun σ=>OS t hok 3000 200 σ (by omega) (by omega) (by omega) (by omega)
  have h121:=fun σ=>OT t hok σ
  have hall:t.cs.all D.one=true:=by cases t;rfl
  have y1:=t.aL
  have y2:=t.aM
  rw [t.uj]
  generalize t.left 3000 200=x at*
  generalize t.e=y at*
  generalize t.cs=xc at*
  by_cases hx:x<0
  ·simp [ah,DK,az,hall,y1,y2,h120,hx]
  ·simp [ah,DK,az,hall,y1,y2,h120,h121,hx]
 exact aR OV hτ rfl rfl
theorem Ty.rU {t:Ty} (h:t.chk=0):t.e=0:=by
 unfold Ty.chk at h
 split at h
 ·exact h
 ·cases h
theorem J6 (t:Ty) (hok:t.ok) (σ:St):CI (.fn 178) [.agg t.cs] σ=some (.ret (.int .i64 (eF t)),σ):=by
 have hτ:ah CI XB GI uk [.agg t.cs] σ=some (.ret (.int .i64 (eF t)),σ++[.box t.cs]):=by
  have h71:=fun σ=>c71 t hok σ
  have h204:=fun σ=>OR t hok σ
  have hall:t.cs.all D.one=true:=by cases t;rfl
  have y1:=t.aL
  have y2:=t.aM
  unfold eF
  by_cases hx:t.chk=0
  ·rw [t.Jb (Ty.rU hx)] at h204
   rw [if_pos hx]
   rw [hx] at h71
   generalize t.cs=xc at*
   cases hc:t.cl je
   ·rw [hc] at h204
    simp [ah,uk,az,hall,y1,y2,h71,h204]
   ·rw [hc] at h204
    simp [ah,uk,az,hall,y1,y2,h71,h204]
  ·have hx': (t.chk != 0)=true:=by simpa using hx
   rw [if_neg hx]
   generalize t.chk=x at*
   generalize t.cs=xc at*
   simp [ah,uk,az,hall,y1,y2,h71,hx,hx']
 exact aR J7 hτ rfl rfl
theorem yd {k n:Int} {s:Bs} {len:Nat} {ls:List Lab} {tail:Int} (h:bR k n s len ls tail=0) (hk: ¬k=5):ls=[]:=by
 cases ls with
 |nil=>rfl
 |cons a r=>
  exfalso
  unfold bR at h
  rw [if_neg hk] at h
  have: (decide (0< (a::r).length) || (tail != 0))=true:=by simp
  rw [if_pos this] at h
  split at h
  ·cases h
  split at h
  ·cases h
  split at h
  ·cases h
  ·cases h
theorem EA (p:Prg) (params:List Bs) {k n:Int} {s:Bs} {len:Nat} {ls:List Lab} {tail:Int} (h:bR k n s len ls tail=0):jC p params k s len ls=iY p params k s len ls:=by
 unfold jC iY j7
 by_cases h5:k=5
 ·subst h5
  simp
 ·rw [yd h h5]
  by_cases h1:k=1
  ·subst h1
   cases cV params s<;>simp [bn]
  ·by_cases h6:k=6
   ·subst h6
    simp only [List.map_nil,bn]
    cases hf:p.data.find? (fun x:Dat=>x.name==s) with
    |none=>simp
    |some d=>by_cases hp:d.params.length=len<;>simp [hp]
   ·simp [h1,h5,h6,bn]
mutual
theorem Ty.o8 (p:Prg) (params:List Bs): ∀ (t:Ty),t.e=0->t.oX p params=t.ord p params
 | .mk k n s l ls tail,h=>by
  simp only [Ty.e] at h
  split at h
  ·rename_i h1
   simp only [Ty.oX,Ty.ord]
   rw [um p params l h,EA p params h1]
  ·rename_i h1;exact absurd h h1
theorem um (p:Prg) (params:List Bs): ∀ (l:List Ty),j8 l=0->iB p params l=fG p params l
 | [],_=>rfl
 |t::r,h=>by
  simp only [j8] at h
  split at h
  ·rename_i h1
   simp only [iB,fG]
   rw [t.o8 p params h1,um p params r h]
  ·rename_i h1;exact absurd h h1
end
theorem Rr (e:Eff) (hok:e.ok) (σ:St):CI (.fn 134) [e.d] σ=some (.ret (.int .i64 (iZ e)),σ):=by
 rcases e with ⟨name,ops⟩
 obtain ⟨hol,ho⟩:=hok
 simp only at hol ho
 have hτ:ah CI XB GI rV [Eff.d ⟨name,ops⟩] σ=some (.ret (.int .i64 (iZ ⟨name,ops⟩)),σ++[.box [.str name, .slice (ops.map Opn.d)]]):=by
  have hlen: (ops.map Opn.d).length=ops.length:=by simp
  have hq: (σ++[Obj.box [.str name, .slice (ops.map Opn.d)]])[σ.length]? =some (.box [.str name, .slice (ops.map Opn.d)]):=az
  have hit:aU (aD CI XB GI 49 false j9) [(1, .ptr σ.length 0),(3, .int .i64 0)] (σ++[Obj.box [.str name, .slice (ops.map Opn.d)]])=
   some (if bn (ops.map qT)=0 then (.exit 0,[(1, .ptr σ.length 0),(3, .int .i64 ops.length),(18, .bool false)],σ++[Obj.box [.str name, .slice (ops.map Opn.d)]]) else (.ret,[(2, .int .i64 (bn (ops.map qT)))],σ++[Obj.box [.str name, .slice (ops.map Opn.d)]])):=by
   generalize σ++[Obj.box [.str name, .slice (ops.map Opn.d)]]=σ1 at*
   refine jD ops (fun i=>[(1, .ptr σ.length 0),(3, .int .i64 (i:Nat))]) qT (fun v=>(.ret,[(2, .int .i64 v)],σ1)) _ (by simp) (by simp) (fun i hi=> ?_) ?_
   ·have hw:=aI (n:=i) (by unfold aQ at hol;omega)
    have hx:=ho _ (List.getElem_mem hi)
    have bq: (ops.map Opn.d)[i]? =some (Opn.d ops[i]):=by simp [hi]
    generalize ops.map Opn.d=ld at*
    have h2:i<ld.length:=by omega
    have h3:ld[i]=Opn.d ops[i]:=by rw [List.getElem?_eq_getElem h2] at bq;exact Option.some.inj bq
    generalize ops[i]=x at*
    rcases x with ⟨on,arg,res,once⟩
    obtain ⟨ha,hb⟩:=hx
    simp only at ha hb
    have k1:=fun σ=>J6 arg ha σ
    have k2:=fun σ=>J6 res hb σ
    have hE:qT ⟨on,arg,res,once⟩=if m8 on then (if eF arg=0 then eF res else eF arg) else 4:=by
     simp only [qT,gA,List.map_cons,List.map_nil,bn]
     by_cases h:eF res=0<;>simp [h]
    rw [hE]
    simp only [Opn.d,Opn.cs] at*
    generalize eF arg=e1 at*
    generalize eF res=e2 at*
    rcases arg with ⟨k1',n1,s1,l1,ls1,t1⟩
    rcases res with ⟨k2',n2,s2,l2,ls2,t2⟩
    simp only [Ty.cs,List.cons_append,List.nil_append] at*
    generalize aT l1=ld1 at*
    generalize aT l2=ld2 at*
    generalize ls1.map Lab.d=lsd1 at*
    generalize ls2.map Lab.d=lsd2 at*
    cases hu:m8 on
    ·simp [j9,hq,hlen,hi,hw,h2,h3,zC,hu]
    ·by_cases h1:e1=0
     ·by_cases h4:e2=0
      ·simp [j9,hq,hlen,hi,hw,h2,h3,zC,hu,k1,k2,h1,h4]
      ·have h4': (e2 != 0)=true:=by simpa using h4
       simp [j9,hq,hlen,hi,hw,h2,h3,zC,hu,k1,k2,h1,h4,h4']
     ·have h1': (e1 != 0)=true:=by simpa using h1
      simp [j9,hq,hlen,hi,hw,h2,h3,zC,hu,k1,h1,h1']
   ·generalize ops.map Opn.d=ld at*
    simp [j9,hq,hlen]
  unfold iZ
  simp only [Eff.d,Eff.cs] at*
  generalize ops.map Opn.d=ld at*
  generalize bn (ops.map qT)=fe at*
  by_cases h8:8<ops.length
  ·have h8': (8:Int) <ops.length:=by omega
   have h8'':8<ld.length:=by omega
   simp [ah,rV,az,h8,h8',h8'',hlen]
  have h8': ¬(8:Int) <ops.length:=by omega
  have h8'': ¬8<ld.length:=by omega
  cases hu:upW name
  ·simp [ah,rV,az,h8,h8',h8'',hlen,qQ,hu]
  by_cases hf:fe=0
  ·simp [ah,rV,az,h8,h8',h8'',hlen,qQ,hu,hit,hf]
  ·simp [ah,rV,az,h8,h8',h8'',hlen,qQ,hu,hit,hf]
 exact aR J8 hτ rfl rfl
theorem OW (l:List Ty) (hl:l.length<=aQ) (hok:kQ l) (p:D) (i:Int) (nm:Bs) (q:Nat) (σ:St) (hq:σ[q]? =some (.box [.str nm, .slice (aT l)])):
 aU (aD CI XB GI 64 false o9) [(1,p),(4, .int .i64 i),(5, .ptr q 0),(6, .int .i64 0)] σ=
  some (if gA l=0 then (.exit 2,[(1,p),(4, .int .i64 i),(5, .ptr q 0),(6, .int .i64 l.length),(52, .bool false)],σ) else (.ret,[(2, .int .i64 (gA l))],σ)):=by
 have hlen:=cN l
 unfold gA
 refine jD l (fun j=>[(1,p),(4, .int .i64 i),(5, .ptr q 0),(6, .int .i64 (j:Nat))]) eF (fun v=>(.ret,[(2, .int .i64 v)],σ)) _ (by simp) (by simp) (fun j hj=> ?_) ?_
 ·have hw:=aI (n:=j) (by unfold aQ at hl;omega)
  have bq: (aT l)[j]? =some (.agg l[j].cs):=by rw [bS];simp [Ty.d,hj]
  have ih:=J6 l[j] (dX hok (List.getElem_mem hj)) σ
  generalize aT l=ld at*
  have h2:j<ld.length:=by omega
  have h3:ld[j]= .agg l[j].cs:=by rw [List.getElem?_eq_getElem h2] at bq;exact Option.some.inj bq
  have y1:=l[j].aL
  have y2:=l[j].aM
  generalize l[j]=x at*
  generalize x.cs=xc at*
  generalize eF x=xe at*
  by_cases hb:xe=0
  ·simp [o9,hq,hj,hw,hlen,h2,h3,y1,y2,ih,hb]
  ·have hb': (xe != 0)=true:=by simpa using hb
   simp [o9,hq,hj,hw,hlen,h2,h3,y1,y2,ih,hb,hb']
 ·generalize aT l=ld at*
  simp [o9,hq,hlen]
theorem Rt (d:Dat) (hok:d.ok) (σ:St):CI (.fn 133) [d.d] σ=some (.ret (.int .i64 (ja d)),σ):=by
 rcases d with ⟨name,params,cons⟩
 obtain ⟨hpl,hcl,hco⟩:=hok
 simp only at hpl hcl hco
 obtain ⟨τ,hτ⟩: ∃τ,ah CI XB GI pg [Dat.d ⟨name,params,cons⟩] σ=some (.ret (.int .i64 (ja ⟨name,params,cons⟩)),σ++τ):=by
  obtain ⟨τ,hit⟩:=eT (f:=aD CI XB GI 64 false ke) (σ:=σ++[.box [.str name, .slice (params.map D.str), .slice (cons.map Con.d)]]) cons (fun i=>[(1, .ptr σ.length 0),(4, .int .i64 (i:Nat))]) (fun a=>qU a != 0) (fun a=>(.ret,[(2, .int .i64 (qU a))]))
   (.exit 0,[(1, .ptr σ.length 0),(4, .int .i64 cons.length),(32, .bool false)]) (by simp) (by simp)
   (fun i hi τ=>by
     have hw:=aI (n:=i) (by unfold aQ at hcl;omega)
     have hx:=hco _ (List.getElem_mem hi)
     have hlen: (cons.map Con.d).length=cons.length:=by simp
     have bq: (cons.map Con.d)[i]? =some (Con.d cons[i]):=by simp [hi]
     have hq: (σ++[Obj.box [.str name, .slice (params.map D.str), .slice (cons.map Con.d)]]++τ)[σ.length]? =some (.box [.str name, .slice (params.map D.str), .slice (cons.map Con.d)]):=by rw [List.append_assoc];exact az
     generalize hσ1:σ++[Obj.box [.str name, .slice (params.map D.str), .slice (cons.map Con.d)]]++τ=σ1 at*
     rcases hxx:cons[i] with ⟨cn,args⟩
     rw [hxx] at hx bq
     obtain ⟨ha,hb⟩:=hx
     simp only at ha hb
     have hal:=cN args
     have hit2:=OW args ha hb (.ptr σ.length 0) i cn σ1.length (σ1++[.box [.str cn, .slice (aT args)]]) az
     have hq2: ∀x,(σ1++[x])[σ.length]? =some (.box [.str name, .slice (params.map D.str), .slice (cons.map Con.d)]):=fun x=>by
      have:=b8 hq
      rw [List.getElem?_append_left this]
      exact hq
     refine ⟨τ++[.box [.str cn, .slice (aT args)]], ?_⟩
     rw [<-List.append_assoc]
     rw [hσ1]
     clear hσ1
     unfold qU
     simp only [Con.d,Con.cs] at*
     generalize cons.map Con.d=ld at*
     have h2:i<ld.length:=by omega
     have h3:ld[i]= .agg [.str cn, .slice (aT args)]:=by rw [List.getElem?_eq_getElem h2] at bq;exact Option.some.inj bq
     generalize aT args=ad at*
     by_cases h4:4<args.length
     ·have h4': (4:Int) <args.length:=by omega
      have h4'':4<ad.length:=by omega
      simp [ke,bQ,aE,hq,hlen,hi,hw,h2,h3,az,aN,h4,h4',h4'',hal]
     ·have h4': ¬(4:Int) <args.length:=by omega
      have h4'': ¬4<ad.length:=by omega
      cases hu:upW cn
      ·simp [ke,bQ,aE,hq,hlen,hi,hw,h2,h3,az,aN,h4,h4',h4'',hal,qQ,hu]
      ·by_cases hd:gA args=0
       ·simp [ke,bQ,aE,hq,hq2,hlen,hi,hw,h2,h3,az,aN,h4,h4',h4'',hal,qQ,hu,hit2,hd]
       ·have hd': (gA args != 0)=true:=by simpa using hd
        simp [ke,bQ,aE,hq,hq2,hlen,hi,hw,h2,h3,az,aN,h4,h4',h4'',hal,qQ,hu,hit2,hd,hd'])
   (fun τ=>⟨τ,by
     have hq: (σ++[Obj.box [.str name, .slice (params.map D.str), .slice (cons.map Con.d)]]++τ)[σ.length]? =some (.box [.str name, .slice (params.map D.str), .slice (cons.map Con.d)]):=by rw [List.append_assoc];exact az
     have hlen: (cons.map Con.d).length=cons.length:=by simp
     generalize σ++[Obj.box [.str name, .slice (params.map D.str), .slice (cons.map Con.d)]]++τ=σ1 at*
     generalize cons.map Con.d=ld at*
     simp [ke,hq,hlen]⟩) []
  rw [Int.natCast_zero,List.append_nil] at hit
  have hlen: (cons.map Con.d).length=cons.length:=by simp
  have h177:=fun σ=>OQ params σ hpl
  unfold ja
  simp only [Dat.d,Dat.cs] at*
  rw [cS]
  simp only [slD] at*
  have hppl: (params.map D.str).length=params.length:=by simp
  generalize cons.map Con.d=ld at*
  generalize params.map D.str=pd at*
  by_cases h4:4<params.length
  ·have h4': (4:Int) <params.length:=by omega
   have h4'':4<pd.length:=by omega
   refine ⟨[.box [.str name, .slice pd, .slice ld]], ?_⟩
   simp [ah,pg,az,h4,h4',h4'',hppl]
  have h4': ¬(4:Int) <params.length:=by omega
  have h4'': ¬4<pd.length:=by omega
  by_cases h8:8<cons.length
  ·have h8': (8:Int) <cons.length:=by omega
   have h8'':8<ld.length:=by omega
   refine ⟨[.box [.str name, .slice pd, .slice ld]], ?_⟩
   simp [ah,pg,az,h4,h4',h4'',hppl,h8,h8',h8'',hlen]
  have h8': ¬(8:Int) <cons.length:=by omega
  have h8'': ¬8<ld.length:=by omega
  cases hu:upW name
  ·refine ⟨[.box [.str name, .slice pd, .slice ld]], ?_⟩
   simp [ah,pg,az,h4,h4',h4'',hppl,h8,h8',h8'',hlen,qQ,hu]
  by_cases hd:fU params 1=0
  ·refine ⟨[.box [.str name, .slice pd, .slice ld]]++τ, ?_⟩
   rw [<-List.append_assoc]
   rw [hd] at h177
   cases hf:cons.find? (fun a=>qU a != 0)<;>(rw [hf] at hit;simp [ah,pg,az,h4,h4',h4'',hppl,h8,h8',h8'',hlen,qQ,hu,h177,hd,hit])
  ·have hd': (fU params 1 != 0)=true:=by simpa using hd
   refine ⟨[.box [.str name, .slice pd, .slice ld]], ?_⟩
   simp [ah,pg,az,h4,h4',h4'',hppl,h8,h8',h8'',hlen,qQ,hu,h177,hd,hd']
 exact aR J9 hτ rfl rfl
mutual
def Ex.left:Ex->Int->Int->Int
 | .mk _ _ _ _ _ l aV,left,d=>if d<1 then -1 else jF aV (kf l (left - 1) (d - 1)) (d - 1)
def kf:List Ex->Int->Int->Int
 | [],left,_=>left
 |x::r,left,d=>if 0<=left then kf r (x.left left d) d else left
def jF:List Arm->Int->Int->Int
 | [],left,_=>left
 | .mk _ _ x::r,left,d=>if 0<=left then jF r (x.left left d) d else left
end
mutual
theorem Ex.o4: ∀ (t:Ex) (x d:Int),0<=x-> -1<=t.left x d/\t.left x d<=x
 | .mk _ _ _ _ _ l aV,x,d,h=>by
  simp only [Ex.left]
  split
  ·exact ⟨by omega,by omega⟩
  ·have h1:=uo l (x - 1) (d - 1) (by omega)
   have h2:=rW aV (kf l (x - 1) (d - 1)) (d - 1) h1.1
   exact ⟨h2.1,by omega⟩
theorem uo: ∀ (l:List Ex) (x d:Int), -1<=x-> -1<=kf l x d/\kf l x d<=x
 | [],x,d,h=>by simp only [kf];exact ⟨h,by omega⟩
 |t::r,x,d,h=>by
  simp only [kf]
  split
  ·rename_i h0
   obtain ⟨h1,h2⟩:=t.o4 x d h0
   have:=uo r (t.left x d) d h1
   exact ⟨this.1,by omega⟩
  ·exact ⟨h,by omega⟩
theorem rW: ∀ (l:List Arm) (x d:Int), -1<=x-> -1<=jF l x d/\jF l x d<=x
 | [],x,d,h=>by simp only [jF];exact ⟨h,by omega⟩
 | .mk _ _ t::r,x,d,h=>by
  simp only [jF]
  split
  ·rename_i h0
   obtain ⟨h1,h2⟩:=t.o4 x d h0
   have:=rW r (t.left x d) d h1
   exact ⟨this.1,by omega⟩
  ·exact ⟨h,by omega⟩
end
def Sh.r (x:Sh):List D:=[.int .i64 x.s, .int .i64 x.t, .int .i64 x.n, .int .i64 x.p, .bool x.a, .int .i64 x.lo, .int .i64 x.hi]
def jf:List D:=ta.map fun x=> .agg x.r
theorem Ru (σ:St):CI (.fn 205) [] σ=some (.ret (.slice jf),σ):=by
 refine br Ka (d:= .slice jf) ?_ rfl rfl
 simp [ah,CJ,jf,ta,Sh.r,bw,bQ,aE]
end Go.AI
namespace Go.AI
open Go Go.Proofs Go.Lx
end Go.AI
namespace Go.AI
open Go Go.Proofs Go.Lx
set_option maxRecDepth 100000
theorem k16 (σ:St):CI (.fn 16) [] σ=some (.ret (.bool true),σ):=by
 exact wV uq (g:=fun a=>g16 (dU a)) rfl rfl
theorem wW {α:Type} (l:List α):l.findIdx? (fun _=>false)=none:=by
 rw [List.findIdx?_eq_none_iff];intros;rfl
theorem lI (a b:List Ex):aX (a++b)=aX a++aX b:=by simp only [bI,List.map_append]
theorem ur: ∀ (l:List Arm) (i:Nat) (b:List Ex),bf (γ:=Unit) (fun _ (a:Arm) b=> .inl (b++[a.body])) l i b= .inl (b++l.map Arm.body)
 | [],i,b=>by simp [bf]
 |a::r,i,b=>by simp only [bf,ur r];simp
set_option maxHeartbeats 1000000 in
theorem c52 (k n:Int) (s t:Bs) (names:List Bs) (l:List Ex) (aV:List Arm) (hb:l.length+aV.length<=1000000) (σ:St):
 CI (.fn 52) [.agg (Ex.mk k n s t names l aV).cs] σ=some (.ret (.slice (aX (Ex.mk k n s t names l aV).parts)),σ):=by
 have hel:=cu l
 have hal:=wX aV
 obtain ⟨τ,hit⟩:=cA (γ:=Unit) (f:=aD CI XB GI 26 false qV) aV (fun j b=>[(1, .ptr σ.length 0),(3, .arr (σ.length+1) b.length 0 b.length),(4, .int .i64 (j:Nat))])
  (fun b=>σ++[.box (Ex.mk k n s t names l aV).cs, .row 7 (aX b) 0]) (fun j b=>b.length=l.length+j) (fun _ (a:Arm) b=> .inl (b++[a.body])) (fun _=>(.ret,[])) (fun _=>[]) (fun b=>(.exit 0,[(1, .ptr σ.length 0),(3, .arr (σ.length+1) b.length 0 b.length),(4, .int .i64 aV.length),(13, .bool false)]))
  (by simp) (by simp) (fun j hj b b' hb hs=>by cases hs;simp [hb];omega)
  (fun j hj b τ hbl=>by
    have hw:=aI (n:=j) (by omega)
    have bq: (dx aV)[j]? =some (.agg aV[j].cs):=by rw [jG];simp [Arm.d,hj]
    have hg0: (σ++[.box (Ex.mk k n s t names l aV).cs, .row 7 (aX b) 0]++τ)[σ.length]? =some (.box [.int .i64 k, .int .i64 n, .str s, .str t,slD names, .slice (aX l), .slice (dx aV)]):=by rw [List.append_assoc];exact az
    have hg1: (σ++[.box (Ex.mk k n s t names l aV).cs, .row 7 (aX b) 0]++τ)[σ.length+1]? =some (.row 7 (aX b) 0):=by rw [List.append_assoc];exact aS
    have hs1: (σ++[Obj.box (Ex.mk k n s t names l aV).cs,Obj.row 7 (aX b) 0]++τ).set (σ.length+1) (Obj.row 7 (aX b++[D.agg aV[j].body.cs]) 0)=σ++[.box (Ex.mk k n s t names l aV).cs, .row 7 (aX (b++[aV[j].body])) 0]++τ:=by
     rw [List.append_assoc,bP,lI];simp [aX]
    have hbl2:=cu b
    refine ⟨τ, ?_⟩
    rw [Arm.dw] at bq
    have hx1:=aV[j].body.bJ
    have hx2:=aV[j].body.aL
    have hx3:=aV[j].body.aM
    simp only
    rw [<-hs1]
    generalize σ++[.box (Ex.mk k n s t names l aV).cs, .row 7 (aX b) 0]++τ=σ1 at*
    generalize aX b=bd at*
    generalize dx aV=ad at*
    have h2:j<ad.length:=by omega
    have h3:ad[j]= .agg (.str aV[j].op::slD aV[j].names::aV[j].body.cs):=by rw [List.getElem?_eq_getElem h2] at bq;exact Option.some.inj bq
    unfold slD at*
    generalize aV[j].names.map D.str=nd at*
    generalize aV[j].op=aop at*
    generalize aV[j].body.cs=bc at*
    generalize names.map D.str=nmd at*
    generalize aX l=ld at*
    have hba: (b.length+1) *120<=140737488355328:=by omega
    simp [qV,hj,hw,hal,h2,h3,hg0,hg1,hbl2,hba,rowOf,bw,hx1,hx2,hx3])
  (fun b τ hb=>⟨τ,by
    have hg0: (σ++[.box (Ex.mk k n s t names l aV).cs, .row 7 (aX b) 0]++τ)[σ.length]? =some (.box [.int .i64 k, .int .i64 n, .str s, .str t,slD names, .slice (aX l), .slice (dx aV)]):=by rw [List.append_assoc];exact az
    generalize σ++[.box (Ex.mk k n s t names l aV).cs, .row 7 (aX b) 0]++τ=σ1 at*
    generalize dx aV=ad at*
    simp [qV,hg0,hal]⟩) l [] rfl
 rw [ur,List.append_nil,Int.natCast_zero] at hit
 have hparts: (Ex.mk k n s t names l aV).parts=l++aV.map Arm.body:=rfl
 rw [hparts]
 simp only at hit
 have hall: (aX l).all (fun e=>e.cells.length==7&&e.cells.all D.one)=true:=by
  rw [bI,List.all_map];simp [Ex.d,D.cells,Ex.bJ]
 have hτ:ah CI XB GI EB [.agg (Ex.mk k n s t names l aV).cs] σ=some (.ret (.arr (σ.length+1) (l++aV.map Arm.body).length 0 (l++aV.map Arm.body).length),σ++([.box (Ex.mk k n s t names l aV).cs, .row 7 (aX (l++aV.map Arm.body)) 0]++τ)):=by
  rw [<-List.append_assoc]
  generalize σ++[.box (Ex.mk k n s t names l aV).cs, .row 7 (aX (l++aV.map Arm.body)) 0]++τ=σ2 at*
  generalize (l++aV.map Arm.body).length=pl at*
  simp only [Ex.cs,slD] at*
  generalize names.map D.str=nmd at*
  generalize aX l=ld at*
  generalize dx aV=ad at*
  simp only [D.cells] at hall
  have hba:l.length*120<=140737488355328:=by omega
  simp [ah,EB,az,aS,bP,bw,rowOf,hall,hel,hba,hit, -List.all_eq_true]
 refine dj OX hτ ?_
 have hl: (l++aV.map Arm.body).length=(aX (l++aV.map Arm.body)).length:=(cu _).symm
 rw [hl,jH (sz:=7) (since:=0) (by rw [aS];rfl) (by omega) (by omega) (bu _).1]
 rw [(bu _).2]
theorem Kb (p:Prg) (hok:p.ok) (q:Nat) (σ:St) (hq:σ[q]? =some (.box p.cs)):
 aU (aD CI XB GI 121 false qW) [(1, .ptr q 0),(3, .int .i64 0)] σ=
  some (if bn (p.data.map ja)=0 then (.exit 0,[(1, .ptr q 0),(3, .int .i64 p.data.length),(33, .bool false)],σ) else (.ret,[(2, .int .i64 (bn (p.data.map ja)))],σ)):=by
 obtain ⟨dd,hdd,hdl,hdg⟩:=opq Dat.d p.data
 have hh:p.cs.head?=some (.slice dd):=by rw [p.dw,hdd];rfl
 have hml:=hok.dl
 have:=jD (f:=aD CI XB GI 121 false qW) (σ:=σ) p.data (fun i=>[(1, .ptr q 0),(3, .int .i64 (i:Nat))]) ja (fun z=>(.ret,[(2, .int .i64 z)],σ)) (.exit 0,[(1, .ptr q 0),(3, .int .i64 p.data.length),(33, .bool false)],σ) (by simp) (by simp)
  (fun i hi=>by
    have hw:=aI (n:=i) (by unfold aQ at hml;omega)
    obtain ⟨h2,h3⟩:=hdg i hi
    have hc:=fun σ=>Rt p.data[i] (hok.d _ (List.getElem_mem hi)) σ
    have hdlen:p.data[i].cs.length=3:=rfl
    have hdt:p.data[i].cs.take 3=p.data[i].cs:=rfl
    unfold Dat.d at*
    generalize ja p.data[i]=z at*
    generalize p.data[i].cs=zc at*
    generalize p.cs=pc at*
    by_cases h0:z=0
    ·simp [qW,hq,hh,hi,hw,hdl,h2,h3,hdlen,hdt,hc,h0]
    ·have h0': (z != 0)=true:=by simpa using h0
     simp [qW,hq,hh,hi,hw,hdl,h2,h3,hdlen,hdt,hc,h0,h0']) (by
    generalize p.cs=pc at*
    simp [qW,hq,hh,hdl])
 rw [Int.natCast_zero] at this
 exact this
theorem Kc (p:Prg) (hok:p.ok) (q:Nat) (σ:St) (hq:σ[q]? =some (.box p.cs)):
 aU (aD CI XB GI 121 false qX) [(1, .ptr q 0),(5, .int .i64 0)] σ=
  some (if bn (p.aA.map iZ)=0 then (.exit 2,[(1, .ptr q 0),(5, .int .i64 p.aA.length),(49, .bool false)],σ) else (.ret,[(2, .int .i64 (bn (p.aA.map iZ)))],σ)):=by
 obtain ⟨dd,hdd,hdl,hdg⟩:=opq Eff.d p.aA
 have hh:p.cs[1]? =some (.slice dd):=by rw [p.dw,hdd];rfl
 have hh2: ∀h:1<p.cs.length,p.cs[1]= .slice dd:=fun h=>by rw [List.getElem?_eq_getElem h] at hh;exact Option.some.inj hh
 have hpl:=p.aL
 have hml:=hok.el
 have:=jD (f:=aD CI XB GI 121 false qX) (σ:=σ) p.aA (fun i=>[(1, .ptr q 0),(5, .int .i64 (i:Nat))]) iZ (fun z=>(.ret,[(2, .int .i64 z)],σ)) (.exit 2,[(1, .ptr q 0),(5, .int .i64 p.aA.length),(49, .bool false)],σ) (by simp) (by simp)
  (fun i hi=>by
    have hw:=aI (n:=i) (by unfold aQ at hml;omega)
    obtain ⟨h2,h3⟩:=hdg i hi
    have hc:=fun σ=>Rr p.aA[i] (hok.e _ (List.getElem_mem hi)) σ
    have hdlen:p.aA[i].cs.length=2:=rfl
    have hdt:p.aA[i].cs.take 2=p.aA[i].cs:=rfl
    unfold Eff.d at*
    generalize iZ p.aA[i]=z at*
    generalize p.aA[i].cs=zc at*
    generalize p.cs=pc at*
    by_cases h0:z=0
    ·simp [qX,hq,hh2,hpl,hi,hw,hdl,h2,h3,hdlen,hdt,hc,h0]
    ·have h0': (z != 0)=true:=by simpa using h0
     simp [qX,hq,hh2,hpl,hi,hw,hdl,h2,h3,hdlen,hdt,hc,h0,h0']) (by
    generalize p.cs=pc at*
    simp [qX,hq,hh2,hpl,hdl])
 rw [Int.natCast_zero] at this
 exact this
theorem Kd (p:Prg) (hok:p.ok) (params:List Bs) (hpar:params.length<=aQ) (dn:Bs) (cons:List Con) (k:Nat) (hk:k<cons.length) (hc:cons[k].ok) (he: ∀t ∈ cons[k].args,t.e=0) (q dq:Nat) (d3 d4 d5:D) (σ:St) (hq:σ[q]? =some (.box p.cs)) (hd:σ[dq]? =some (.box [.str dn,slD params, .slice (cons.map Con.d)])):
 aU (aD CI XB GI 87 false qY) [(1, .ptr q 0),(3,d3),(4,d4),(5,d5),(6, .ptr dq 0),(7, .int .i64 (k:Nat)),(8, .int .i64 0)] σ=
  some (if bn (cons[k].args.map fun t=>t.ord p params)=0 then (.exit 4,[(1, .ptr q 0),(3,d3),(4,d4),(5,d5),(6, .ptr dq 0),(7, .int .i64 (k:Nat)),(8, .int .i64 cons[k].args.length),(68, .bool false)],σ) else (.ret,[(2, .int .i64 (bn (cons[k].args.map fun t=>t.ord p params)))],σ)):=by
 obtain ⟨cd,hcd,hcl,hcg⟩:=opq Con.d cons
 obtain ⟨h2,h3⟩:=hcg k hk
 rw [hcd] at hd
 have hpl:=p.aL
 have hpt:=p.aM
 have q73:qI 73=false:=rfl
 have x73:XB 73=false:=rfl
 generalize cons[k]=c at*
 rcases c with ⟨cn,args⟩
 obtain ⟨hal,hao⟩:=hc
 simp only at hal hao he ⊢
 obtain ⟨ad,had,hadl,hag⟩:=opq Ty.d args
 simp only [Con.d,Con.cs,bS] at h3
 rw [had] at h3
 have h73:=fun t (ht:t ∈ args) σ=>c73 p hok.dl hok.el params hpar (slD params) (.inl rfl) t (dX hao ht) σ
 have:=jD (f:=aD CI XB GI 87 false qY) (σ:=σ) args (fun i=>[(1, .ptr q 0),(3,d3),(4,d4),(5,d5),(6, .ptr dq 0),(7, .int .i64 (k:Nat)),(8, .int .i64 (i:Nat))]) (fun t=>t.ord p params) (fun z=>(.ret,[(2, .int .i64 z)],σ)) (.exit 4,[(1, .ptr q 0),(3,d3),(4,d4),(5,d5),(6, .ptr dq 0),(7, .int .i64 (k:Nat)),(8, .int .i64 args.length),(68, .bool false)],σ) (by simp) (by simp)
  (fun i hi=>by
    have hw:=aI (n:=i) (by unfold aQ at hal;omega)
    obtain ⟨h4,h5⟩:=hag i hi
    have h73:=h73 args[i] (List.getElem_mem hi)
    rw [Ty.o8 p params _ (he _ (List.getElem_mem hi))] at h73
    have y1:=args[i].aL
    have y2:=args[i].aM
    simp only [Ty.d,slD] at*
    generalize args[i].ord p params=z at*
    generalize args[i].cs=tc at*
    generalize params.map D.str=pd at*
    generalize p.cs=pc at*
    by_cases h0:z=0
    ·simp [qY,hq,hd,hpl,hpt,hcl,hk,h2,h3,hi,hw,hadl,h4,h5,y1,y2,h73,q73,x73,h0,Nat.testBit_eq_decide_div_mod_eq]
    ·have h0': (z != 0)=true:=by simpa using h0
     simp [qY,hq,hd,hpl,hpt,hcl,hk,h2,h3,hi,hw,hadl,h4,h5,y1,y2,h73,q73,x73,h0,h0',Nat.testBit_eq_decide_div_mod_eq]) (by
    simp only [slD] at*
    generalize params.map D.str=pd at*
    generalize p.cs=pc at*
    simp [qY,hq,hd,hcl,hk,h2,h3,hadl])
 rw [Int.natCast_zero] at this
 exact this
theorem zG (l:List Bs) (s:Bs) (r:Nat) (σ:St) (hr:σ[r]? =some (aJ l)) (hl:l.length<=aQ):CI (.fn 122) [.arr r l.length 0 l.length, .str s] σ=some (.ret (.bool (cV l s)),σ):=by
 have h152:CI (.fn 152) [.arr r l.length 0 l.length, .str s] σ=some (.ret (.int .i64 (cT l s)),σ):=by
  unfold aQ at hl
  unfold aJ at hr
  refine br BH (d:= .int .i64 (cT l s)) ?_ rfl rfl
  have hit:=cK (f:=aD CI XB GI 19 false iA) (σ:=σ) l (fun i=>[(0, .arr r l.length 0 l.length),(1, .str s),(5, .int .i64 (i:Nat))]) (· ==s) (fun i=>(.ret,[(4, .int .i64 (i:Nat))],σ)) (.exit 0,[(0, .arr r l.length 0 l.length),(1, .str s),(5, .int .i64 l.length),(9, .bool false)],σ) (by simp) (by simp)
   (fun i hi=>by
     have hw:=aI (n:=i) (by omega)
     cases hb:l[i] ==s<;>simp [iA,hi,hw,hb,hr]) (by
     simp [iA])
  rw [Int.natCast_zero] at hit
  unfold cT
  cases hf:l.findIdx? (· ==s)<;>(rw [hf] at hit;simp [ah,wT,hit])
 refine br BI (d:= .bool (cV l s)) ?_ rfl rfl
 unfold cV
 rw [<-jI]
 simp [ah,wU,h152]
set_option maxHeartbeats 1000000 in
theorem Ke (p:Prg) (hok:p.ok) (params:List Bs) (hpar:params.length<=aQ) (dn:Bs) (cons:List Con) (hcl:cons.length<=aQ) (hc: ∀c ∈ cons,c.ok/\ ∀t ∈ c.args,t.e=0) (q dq:Nat) (σ0 τ0:St) (hq:σ0[q]? =some (.box p.cs)) (a:List Bs) (hd: ∀b,(σ0++[aJ a,aJ b]++τ0)[dq]? =some (.box [.str dn,slD params, .slice (cons.map Con.d)])) (d3 d5:D) (b0:List Bs) (hb0:b0.length+cons.length<=1000000):
 ∃τ',aU (aD CI XB GI 87 false nK) [(1, .ptr q 0),(3,d3),(4, .arr (σ0.length+1) b0.length 0 b0.length),(5,d5),(6, .ptr dq 0),(7, .int .i64 0)] (σ0++[aJ a,aJ b0]++τ0)=
  some (match bf (cx p params) cons 0 b0 with
   | .inl b'=>(.exit 2,[(1, .ptr q 0),(3,d3),(4, .arr (σ0.length+1) b'.length 0 b'.length),(5,d5),(6, .ptr dq 0),(7, .int .i64 cons.length),(40, .bool false)],σ0++[aJ a,aJ b']++τ0++τ')
   | .inr e=>(.ret,[(2, .int .i64 e)],σ0++τ')):=by
 have:=cA (f:=aD CI XB GI 87 false nK) cons (fun k b=>[(1, .ptr q 0),(3,d3),(4, .arr (σ0.length+1) b.length 0 b.length),(5,d5),(6, .ptr dq 0),(7, .int .i64 (k:Nat))]) (fun b=>σ0++[aJ a,aJ b]++τ0) (fun k b=>b.length=b0.length+k) (cx p params) (fun e=>(.ret,[(2, .int .i64 e)])) (fun _=>σ0) (fun b=>(.exit 2,[(1, .ptr q 0),(3,d3),(4, .arr (σ0.length+1) b.length 0 b.length),(5,d5),(6, .ptr dq 0),(7, .int .i64 cons.length),(40, .bool false)])) (by simp) (by simp)
  (fun k hk b b' hb hs=>by rw [kg hs];simp;omega)
  (fun k hk b τ hb=>by
    have hw:=aI (n:=k) (by unfold aQ at hcl;omega)
    have hck:=hc _ (List.getElem_mem hk)
    have hqq: ∀b,(σ0++[aJ a,aJ b]++τ0++τ)[q]? =some (.box p.cs):=fun b=>bD (bD (bD hq))
    have hdd: ∀b,(σ0++[aJ a,aJ b]++τ0++τ)[dq]? =_:=fun b=>bD (hd b)
    have h0:=Kd p hok params hpar dn cons k hk hck.1 hck.2 q dq d3 (.arr (σ0.length+1) (b.length+1) 0 (b.length+1)) d5 (σ0++[aJ a,aJ (b++[cons[k].name])]++τ0++τ) (hqq _) (hdd _)
    have hg: (σ0++[aJ a,aJ b]++τ0++τ)[σ0.length+1]? =some (aJ b):=by simp only [List.append_assoc];exact aS
    have dO:=zG b cons[k].name (σ0.length+1) _ hg (by unfold aQ at*;omega)
    have hs: ∀n,(σ0++[aJ a,aJ b]++τ0++τ).set (σ0.length+1) (.row 1 (b.map .str++[.str n]) 0)=σ0++[aJ a,aJ (b++[n])]++τ0++τ:=fun n=>by
     simp only [List.append_assoc];rw [bP];simp [aJ]
    have e1: ∀b,∃τ',σ0++[aJ a,aJ b]++τ0++τ=σ0++τ':=fun b=>⟨_,by simp only [List.append_assoc];rfl⟩
    have hd1:=hdd b
    obtain ⟨cd,hcd,hcl2,hcg⟩:=opq Con.d cons
    obtain ⟨h2,h3⟩:=hcg k hk
    rw [hcd] at hd1
    have hbl: (b.map D.str).length=b.length:=by simp
    have hba: (b.length+1) *16<=140737488355328:=by omega
    have hfn: ∃z,bn (cons[k].args.map fun t=>t.ord p params)=z:=⟨_,rfl⟩
    obtain ⟨z,hz⟩:=hfn
    rw [hz] at h0
    unfold cx
    rw [hz]
    generalize cons[k]=c at*
    rcases c with ⟨cn,args⟩
    simp only [Con.d,Con.cs] at*
    have hg: (σ0++[aJ a,aJ b]++τ0++τ)[σ0.length+1]? =some (.row 1 (b.map .str) 0):=hg
    cases hh:cV b cn
    ·rw [hh] at dO
     have hs:=hs cn
     obtain ⟨τ',hτ'⟩:=e1 (b++[cn])
     by_cases hz0:z=0
     ·refine ⟨τ, ?_⟩
      subst hz0
      simp only [Bool.false_eq_true,if_false,if_true] at h0 ⊢
      rw [<-hs] at h0 ⊢
      clear hqq hdd hd e1 hτ'
      generalize σ0++[aJ a,aJ b]++τ0++τ=σ1 at*
      generalize b.map D.str=bd at*
      simp [nK,hk,hw,hd1,hcl2,h2,h3,dO,hg,rowOf,bw,hbl,hba,h0]
     ·refine ⟨τ', ?_⟩
      rw [<-hτ']
      simp only [Bool.false_eq_true,if_false,if_neg hz0] at h0 ⊢
      rw [<-hs] at h0 ⊢
      clear hqq hdd hd e1 hτ'
      generalize σ0++[aJ a,aJ b]++τ0++τ=σ1 at*
      generalize b.map D.str=bd at*
      simp [nK,hk,hw,hd1,hcl2,h2,h3,dO,hg,rowOf,bw,hbl,hba,h0]
    ·rw [hh] at dO
     obtain ⟨τ',hτ'⟩:=e1 b
     refine ⟨τ', ?_⟩
     rw [<-hτ']
     simp only [if_true]
     clear hqq hdd hd e1 hτ' hs h0
     generalize σ0++[aJ a,aJ b]++τ0++τ=σ1 at*
     simp [nK,hk,hw,hd1,hcl2,h2,h3,dO])
  (fun b τ hb=>⟨τ,by
    have hd1: (σ0++[aJ a,aJ b]++τ0++τ)[dq]? =_:=bD (hd b)
    obtain ⟨cd,hcd,hcl2,hcg⟩:=opq Con.d cons
    rw [hcd] at hd1
    generalize σ0++[aJ a,aJ b]++τ0++τ=σ1 at*
    simp [nK,hd1,hcl2]⟩) b0 [] (by simp)
 rw [List.append_nil,Int.natCast_zero] at this
 obtain ⟨τ',h⟩:=this
 refine ⟨τ', ?_⟩
 rw [h]
 cases bf (cx p params) cons 0 b0<;>rfl
theorem F5 (a b:List Bs) (s:Bs):cV (a++b) s=(cV a s||cV b s):=by
 unfold cV
 rw [Bool.eq_iff_iff]
 simp
theorem CK {p:Prg} {i:Nat} {d:Dat} {x x':List Bs × List Bs} (h:b7 p i d x= .inl x'):x'.1=x.1++[d.name]/\x'.2.length=x.2.length+d.cons.length:=by
 unfold b7 at h
 split at h
 ·cases h
 ·split at h
  ·rename_i b hb
   cases h
   exact ⟨rfl,iN hb⟩
  ·cases h
set_option maxHeartbeats 1000000 in
theorem Kf (p:Prg) (hok:p.ok) (hdl:p.data.length<=12) (hd: ∀d ∈ p.data,d.cons.length<=8/\ ∀c ∈ d.cons,∀t ∈ c.args,t.e=0) (σ:St):
 ∃τ',aU (aD CI XB GI 87 false lJ) [(1, .ptr σ.length 0),(3, .arr (σ.length+1) 0 0 0),(4, .arr (σ.length+2) 0 0 0),(5, .int .i64 0)] (σ++[.box p.cs,aJ [],aJ []])=
  some (match bf (b7 p) p.data 0 (builtins,[]) with
   | .inl x=>(.exit 0,[(1, .ptr σ.length 0),(3, .arr (σ.length+1) (x.1.drop 3).length 0 (x.1.drop 3).length),(4, .arr (σ.length+2) x.2.length 0 x.2.length),(5, .int .i64 p.data.length),(14, .bool false)],σ++τ')
   | .inr e=>(.ret,[(2, .int .i64 e)],σ++τ')):=by
 obtain ⟨dd,hdd,hddl,hdg⟩:=opq Dat.d p.data
 have hh:p.cs.head?=some (.slice dd):=by rw [p.dw,hdd];rfl
 have hlen0: (σ++[Obj.box p.cs]).length=σ.length+1:=by simp
 have:=cA (f:=aD CI XB GI 87 false lJ) p.data (fun i x=>[(1, .ptr σ.length 0),(3, .arr (σ.length+1) (x.1.drop 3).length 0 (x.1.drop 3).length),(4, .arr (σ.length+2) x.2.length 0 x.2.length),(5, .int .i64 (i:Nat))])
  (fun x=>σ++[.box p.cs]++[aJ (x.1.drop 3),aJ x.2]) (fun i x=>x.1=builtins++x.1.drop 3/\(x.1.drop 3).length=i/\x.2.length<=8*i) (b7 p) (fun e=>(.ret,[(2, .int .i64 e)])) (fun _=>σ++[.box p.cs])
  (fun x=>(.exit 0,[(1, .ptr σ.length 0),(3, .arr (σ.length+1) (x.1.drop 3).length 0 (x.1.drop 3).length),(4, .arr (σ.length+2) x.2.length 0 x.2.length),(5, .int .i64 p.data.length),(14, .bool false)])) (by simp) (by simp)
  (fun i hi x x' hI hs=>by
    obtain ⟨h1,h2⟩:=CK hs
    obtain ⟨i1,i2,i3⟩:=hI
    have hc:=(hd _ (List.getElem_mem hi)).1
    have hx3:x.1.length=3+i:=by rw [i1,List.length_append,i2];rfl
    have e: (x.1++[p.data[i].name]).drop 3=x.1.drop 3++[p.data[i].name]:=List.drop_append_of_le_length (by omega)
    refine ⟨?_, ?_,by omega⟩
    ·rw [h1,e,<-List.append_assoc,<-i1]
    ·rw [h1,e,List.length_append,i2];rfl)
  (fun i hi x τ hI=>by
    obtain ⟨i1,i2,i3⟩:=hI
    have hw:=aI (n:=i) (by omega)
    have hdi:=hd _ (List.getElem_mem hi)
    have hdo:=hok.d _ (List.getElem_mem hi)
    obtain ⟨h2,h3⟩:=hdg i hi
    have hx3:x.1.length=3+i:=by rw [i1,List.length_append,i2];rfl
    have hdrop: (x.1++[p.data[i].name]).drop 3=x.1.drop 3++[p.data[i].name]:=List.drop_append_of_le_length (by omega)
    have hhas:cV x.1 p.data[i].name=(isB p.data[i].name||cV (x.1.drop 3) p.data[i].name):=by
     have e0:=F5 builtins (x.1.drop 3) p.data[i].name
     rw [<-i1] at e0;exact e0
    have hdop: ∀b,b7 p i p.data[i] x= .inl b->b.1.drop 3=x.1.drop 3++[p.data[i].name]:=fun b hb=>by rw [(CK hb).1,hdrop]
    unfold b7 at*
    rw [hhas]
    generalize hnm:x.1.drop 3=nm at*
    generalize x.2=cn at*
    generalize p.data[i]=d at*
    rcases d with ⟨dn,params,cons⟩
    obtain ⟨o1,o2,o3⟩:=hdo
    obtain ⟨hc8,hce⟩:=hdi
    simp only at o1 o2 o3 hc8 hce hhas hdop ⊢
    obtain ⟨τ1,h85⟩:=Ke p hok params o1 dn cons o2 (fun c hc=>⟨o3 c hc,hce c hc⟩) σ.length (σ++[Obj.box p.cs]++[aJ (nm++[dn]),aJ cn]++τ).length (σ++[Obj.box p.cs]) (τ++[.box (Dat.cs ⟨dn,params,cons⟩)]) az (nm++[dn])
     (fun b=>by
       have: (σ++[Obj.box p.cs]++[aJ (nm++[dn]),aJ cn]++τ).length=(σ++[Obj.box p.cs]++[aJ (nm++[dn]),aJ b]++τ).length:=by simp only [List.length_append,List.length_cons,List.length_nil]
       rw [this,<-List.append_assoc];exact az)
     (.arr (σ.length+1) (nm.length+1) 0 (nm.length+1)) (.int .i64 (i:Nat)) cn (by omega)
    rw [hlen0,<-List.append_assoc] at h85
    have hlr: (σ++[Obj.box p.cs]++[aJ (nm++[dn]),aJ cn]++τ).length=(σ++[Obj.box p.cs]++[aJ nm,aJ cn]++τ).length:=by simp only [List.length_append,List.length_cons,List.length_nil]
    rw [hlr] at h85
    have hq1: ∀y,(σ++[Obj.box p.cs]++[aJ nm,aJ cn]++τ++y)[σ.length]? =some (.box p.cs):=fun y=>by simp only [List.append_assoc];exact az
    have hq2: ∀y,(σ++[Obj.box p.cs]++[aJ nm,aJ cn]++τ++y)[σ.length+1]? =some (.row 1 (nm.map .str) 0):=fun y=>by simp only [List.append_assoc];exact aS
    have hq0:=hq1 []
    rw [List.append_nil] at hq0
    have dO:=fun y=>zG nm dn (σ.length+1) _ (hq2 y) (by unfold aQ;omega)
    have hs: ∀y,(σ++[Obj.box p.cs]++[aJ nm,aJ cn]++τ++y).set (σ.length+1) (.row 1 (nm.map .str++[.str dn]) 0)=σ++[Obj.box p.cs]++[aJ (nm++[dn]),aJ cn]++τ++y:=fun y=>by
     simp only [List.append_assoc];rw [bP];simp [aJ]
    have e1: ∀y,∃τ',σ++[Obj.box p.cs]++[aJ nm,aJ cn]++τ++y=σ++[.box p.cs]++τ':=fun y=>⟨_,by simp only [List.append_assoc];rfl⟩
    have hnl: (nm.map D.str).length=nm.length:=by simp
    have hba: (nm.length+1) *16<=140737488355328:=by omega
    rw [<-hs] at h85
    simp only [Dat.d,Dat.cs] at*
    cases hb:isB dn
    ·cases hh2:cV nm dn
     ·rw [hh2] at dO
      cases hf:bf (cx p params) cons 0 cn with
      |inl b=>
       rw [hf] at h85
       have hdop:=hdop (x.1++[dn],b) (by rw [hhas,hb,hh2,hf];rfl)
       simp only at hdop
       refine ⟨τ++[.box [.str dn,slD params, .slice (cons.map Con.d)]]++τ1, ?_⟩
       simp only [Bool.or_self,Bool.false_eq_true,if_false]
       rw [hdop,<-List.append_assoc,<-List.append_assoc]
       simp only [slD] at*
       rw [<-List.append_assoc] at h85
       generalize σ++[Obj.box p.cs]++[aJ nm,aJ cn]++τ=σ1 at*
       generalize σ++[Obj.box p.cs]++[aJ (nm++[dn]),aJ b]++τ++[.box [.str dn, .slice (params.map D.str), .slice (cons.map Con.d)]]++τ1=σ2 at*
       generalize params.map D.str=pd at*
       generalize cons.map Con.d=cd at*
       generalize nm.map D.str=nd at*
       generalize p.cs=pc at*
       simp [lJ,hq0,hq1,hh,hddl,hi,h2,h3,hw,F6,hb,hq2,dO,az,aN,rowOf,bw,hnl,hba,h85]
      |inr e=>
       rw [hf] at h85
       refine ⟨τ1, ?_⟩
       simp only [Bool.or_self,Bool.false_eq_true,if_false]
       simp only [slD] at*
       generalize hs1:σ++[Obj.box p.cs]++[aJ nm,aJ cn]++τ=σ1 at*
       generalize hs2:σ++[Obj.box p.cs]++τ1=σ2 at*
       generalize params.map D.str=pd at*
       generalize cons.map Con.d=cd at*
       generalize nm.map D.str=nd at*
       generalize p.cs=pc at*
       simp [lJ,hq0,hq1,hh,hddl,hi,h2,h3,hw,F6,hb,hq2,dO,az,aN,rowOf,bw,hnl,hba,h85]
     ·rw [hh2] at dO
      obtain ⟨τ',hτ'⟩:=e1 [.box [.str dn,slD params, .slice (cons.map Con.d)]]
      refine ⟨τ', ?_⟩
      simp only [Bool.false_or,if_true]
      rw [<-hτ']
      simp only [slD] at*
      clear h85 hs e1 hτ'
      generalize σ++[Obj.box p.cs]++[aJ nm,aJ cn]++τ=σ1 at*
      generalize params.map D.str=pd at*
      generalize cons.map Con.d=cd at*
      generalize p.cs=pc at*
      simp [lJ,hq0,hq1,hh,hddl,hi,h2,h3,hw,F6,hb,dO,az,aN]
    ·obtain ⟨τ',hτ'⟩:=e1 [.box [.str dn,slD params, .slice (cons.map Con.d)]]
     refine ⟨τ', ?_⟩
     simp only [Bool.true_or,if_true]
     rw [<-hτ']
     simp only [slD] at*
     clear h85 hs e1 hτ'
     generalize σ++[Obj.box p.cs]++[aJ nm,aJ cn]++τ=σ1 at*
     generalize params.map D.str=pd at*
     generalize cons.map Con.d=cd at*
     generalize p.cs=pc at*
     simp [lJ,hq0,hq1,hh,hddl,hi,h2,h3,hw,F6,hb,az,aN])
  (fun x τ hI=>⟨τ,by
    have hq0: (σ++[Obj.box p.cs]++[aJ (x.1.drop 3),aJ x.2]++τ)[σ.length]? =some (.box p.cs):=by simp only [List.append_assoc];exact az
    generalize σ++[Obj.box p.cs]++[aJ (x.1.drop 3),aJ x.2]++τ=σ1 at*
    generalize p.cs=pc at*
    simp [lJ,hq0,hh,hddl]⟩) (builtins,[]) [] ⟨rfl,rfl,by simp⟩
 obtain ⟨τ',h⟩:=this
 rw [List.append_nil,Int.natCast_zero,List.append_assoc] at h
 have e0: ([Obj.box p.cs]++[aJ (List.drop 3 builtins),aJ []]:St)=[.box p.cs,aJ [],aJ []]:=rfl
 have e1: (builtins.drop 3).length=0:=rfl
 simp only at h
 rw [e0,e1] at h
 cases hf:bf (b7 p) p.data 0 (builtins,[]) with
 |inl x=>
  rw [hf] at h
  exact ⟨[.box p.cs]++[aJ (x.1.drop 3),aJ x.2]++τ',by rw [<-List.append_assoc,<-List.append_assoc];exact h⟩
 |inr e=>
  rw [hf] at h
  exact ⟨[.box p.cs]++τ',by rw [<-List.append_assoc];exact h⟩
set_option maxHeartbeats 2000000 in
theorem Kg (p:Prg) (hok:p.ok) (xn:Bs) (ops:List Opn) (hcl:ops.length<=aQ) (ho: ∀o ∈ ops,o.ok/\o.arg.e=0/\o.res.e=0) (q dq:Nat) (σ0 τ0:St) (hq:σ0[q]? =some (.box p.cs)) (a:List Bs) (hd: ∀b,(σ0++[aJ a,aJ b]++τ0)[dq]? =some (.box [.str xn, .slice (ops.map Opn.d)])) (d3 d5:D) (b0:List Bs) (hb0:b0.length+ops.length<=1000000):
 ∃τ',aU (aD CI XB GI 67 false lK) [(1, .ptr q 0),(3,d3),(4, .arr (σ0.length+1) b0.length 0 b0.length),(5,d5),(6, .ptr dq 0),(7, .int .i64 0)] (σ0++[aJ a,aJ b0]++τ0)=
  some (match bf (dy p) ops 0 b0 with
   | .inl b'=>(.exit 2,[(1, .ptr q 0),(3,d3),(4, .arr (σ0.length+1) b'.length 0 b'.length),(5,d5),(6, .ptr dq 0),(7, .int .i64 ops.length),(37, .bool false)],σ0++[aJ a,aJ b']++τ0++τ')
   | .inr e=>(.ret,[(2, .int .i64 e)],σ0++τ')):=by
 have:=cA (f:=aD CI XB GI 67 false lK) ops (fun k b=>[(1, .ptr q 0),(3,d3),(4, .arr (σ0.length+1) b.length 0 b.length),(5,d5),(6, .ptr dq 0),(7, .int .i64 (k:Nat))]) (fun b=>σ0++[aJ a,aJ b]++τ0) (fun k b=>b.length=b0.length+k) (dy p) (fun e=>(.ret,[(2, .int .i64 e)])) (fun _=>σ0) (fun b=>(.exit 2,[(1, .ptr q 0),(3,d3),(4, .arr (σ0.length+1) b.length 0 b.length),(5,d5),(6, .ptr dq 0),(7, .int .i64 ops.length),(37, .bool false)])) (by simp) (by simp)
  (fun k hk b b' hb hs=>by rw [lM hs];simp;omega)
  (fun k hk b τ hb=>by
    have hw:=aI (n:=k) (by unfold aQ at hcl;omega)
    have hok1:=ho _ (List.getElem_mem hk)
    have hqq: ∀b y,(σ0++[aJ a,aJ b]++τ0++τ++y)[q]? =some (.box p.cs):=fun b y=>bD (bD (bD (bD hq)))
    have hd1: (σ0++[aJ a,aJ b]++τ0++τ)[dq]? =_:=bD (hd b)
    have hg: ∀y,(σ0++[aJ a,aJ b]++τ0++τ++y)[σ0.length+1]? =some (.row 1 (b.map .str) 0):=fun y=>by simp only [List.append_assoc];exact aS
    have dO:=fun y=>zG b ops[k].name (σ0.length+1) _ (hg y) (by unfold aQ at*;omega)
    have hs: ∀n y,(σ0++[aJ a,aJ b]++τ0++τ++y).set (σ0.length+1) (.row 1 (b.map .str++[.str n]) 0)=σ0++[aJ a,aJ (b++[n])]++τ0++τ++y:=fun n y=>by
     simp only [List.append_assoc];rw [bP];simp [aJ]
    have e1: ∀b y,∃τ',σ0++[aJ a,aJ b]++τ0++τ++y=σ0++τ':=fun b y=>⟨_,by simp only [List.append_assoc];rfl⟩
    have hn1: ∀n y,(σ0++[aJ a,aJ (b++[n])]++τ0++τ++[y])[(σ0++[aJ a,aJ b]++τ0++τ).length]? =some y:=fun n y=>by
     have: (σ0++[aJ a,aJ b]++τ0++τ).length=(σ0++[aJ a,aJ (b++[n])]++τ0++τ).length:=by simp only [List.length_append,List.length_cons,List.length_nil]
     rw [this];exact az
    obtain ⟨cd,hcd,hcl2,hcg⟩:=opq Opn.d ops
    obtain ⟨h2,h3⟩:=hcg k hk
    rw [hcd] at hd1
    have hpl:=p.aL
    have hpt:=p.aM
    have hbl: (b.map D.str).length=b.length:=by simp
    have hba: (b.length+1) *16<=140737488355328:=by omega
    generalize ops[k]=o at*
    rcases o with ⟨on,arg,res,once⟩
    obtain ⟨⟨hoa,hor⟩,hae,hre⟩:=hok1
    simp only at hoa hor hae hre
    have hca:=fun σ=>c73 p hok.dl hok.el [] (by unfold aQ;simp) .empty (.inr ⟨rfl,rfl⟩) arg hoa σ
    have hcr:=fun σ=>c73 p hok.dl hok.el [] (by unfold aQ;simp) .empty (.inr ⟨rfl,rfl⟩) res hor σ
    rw [Ty.o8 p [] _ hae] at hca
    rw [Ty.o8 p [] _ hre] at hcr
    simp only [Opn.d,Opn.cs,dy,uu] at*
    generalize arg.ord p []=ea at*
    generalize res.ord p []=er at*
    rcases arg with ⟨k1,n1,s1,l1,ls1,t1⟩
    rcases res with ⟨k2,n2,s2,l2,ls2,t2⟩
    simp only [Ty.cs,List.cons_append,List.nil_append] at*
    generalize aT l1=ld1 at*
    generalize aT l2=ld2 at*
    generalize ls1.map Lab.d=lsd1 at*
    generalize ls2.map Lab.d=lsd2 at*
    generalize hoc: [D.str on,D.int .i64 k1,D.int .i64 n1,D.str s1,D.slice ld1,D.slice lsd1,D.int .i64 t1,D.int .i64 k2,D.int .i64 n2,D.str s2,D.slice ld2,D.slice lsd2,D.int .i64 t2,D.bool once]=oc at*
    have hn1:=hn1 on (.box oc)
    have hs:=hs on [.box oc]
    have hqn:=hqq (b++[on]) [.box oc]
    cases hh:cV b on
    ·rw [hh] at dO
     simp only [Bool.false_eq_true,if_false]
     obtain ⟨τ',hτ'⟩:=e1 (b++[on]) [.box oc]
     by_cases hz1:ea=0
     ·subst hz1
      simp only [if_true]
      by_cases hz2:er=0
      ·subst hz2
       simp only [if_true]
       refine ⟨τ++[.box oc], ?_⟩
       simp only [<-List.append_assoc]
       clear hqq hd e1 hτ'
       generalize σ0++[aJ a,aJ (b++[on])]++τ0++τ++[Obj.box oc]=σ3 at*
       generalize σ0++[aJ a,aJ b]++τ0++τ=σ1 at*
       generalize b.map D.str=bd at*
       generalize p.cs=pc at*
       subst hoc
       simp [lK,hk,hw,hd1,hcl2,h2,h3,az,aN,dO,hg,rowOf,bw,hbl,hba,hs,hn1,hqn,hpl,hpt,hca,hcr]
      ·have hz2': (er != 0)=true:=by simpa using hz2
       simp only [if_neg hz2]
       refine ⟨τ', ?_⟩
       rw [<-hτ']
       clear hqq hd e1 hτ'
       generalize σ0++[aJ a,aJ (b++[on])]++τ0++τ++[Obj.box oc]=σ3 at*
       generalize σ0++[aJ a,aJ b]++τ0++τ=σ1 at*
       generalize b.map D.str=bd at*
       generalize p.cs=pc at*
       subst hoc
       simp [lK,hk,hw,hd1,hcl2,h2,h3,az,aN,dO,hg,rowOf,bw,hbl,hba,hs,hn1,hqn,hpl,hpt,hca,hcr,hz2']
     ·have hz1': (ea != 0)=true:=by simpa using hz1
      have hz1'': (ea==0)=false:=by simpa using hz1
      simp only [if_neg hz1]
      refine ⟨τ', ?_⟩
      rw [<-hτ']
      clear hqq hd e1 hτ'
      generalize σ0++[aJ a,aJ (b++[on])]++τ0++τ++[Obj.box oc]=σ3 at*
      generalize σ0++[aJ a,aJ b]++τ0++τ=σ1 at*
      generalize b.map D.str=bd at*
      generalize p.cs=pc at*
      subst hoc
      simp [lK,hk,hw,hd1,hcl2,h2,h3,az,aN,dO,hg,rowOf,bw,hbl,hba,hs,hn1,hqn,hpl,hpt,hca,hz1',hz1'']
    ·rw [hh] at dO
     obtain ⟨τ',hτ'⟩:=e1 b [.box oc]
     refine ⟨τ', ?_⟩
     rw [<-hτ']
     simp only [if_true]
     clear hqq hd e1 hτ' hs hn1 hqn
     generalize σ0++[aJ a,aJ b]++τ0++τ=σ1 at*
     subst hoc
     simp [lK,hk,hw,hd1,hcl2,h2,h3,az,aN,dO])
  (fun b τ hb=>⟨τ,by
    have hd1: (σ0++[aJ a,aJ b]++τ0++τ)[dq]? =_:=bD (hd b)
    obtain ⟨cd,hcd,hcl2,hcg⟩:=opq Opn.d ops
    rw [hcd] at hd1
    generalize σ0++[aJ a,aJ b]++τ0++τ=σ1 at*
    simp [lK,hd1,hcl2]⟩) b0 [] (by simp)
 rw [List.append_nil,Int.natCast_zero] at this
 obtain ⟨τ',h⟩:=this
 refine ⟨τ', ?_⟩
 rw [h]
 cases bf (dy p) ops 0 b0<;>rfl
theorem F7 {p:Prg} {i:Nat} {d:Eff} {x x':List Bs × List Bs} (h:cF p i d x= .inl x'):x'.1=x.1++[d.name]/\x'.2.length=x.2.length+d.ops.length:=by
 unfold cF at h
 split at h
 ·cases h
 ·split at h
  ·rename_i b hb
   cases h
   exact ⟨rfl,jv hb⟩
  ·cases h
set_option maxHeartbeats 1000000 in
theorem Kh (p:Prg) (hok:p.ok) (hel:p.aA.length<=12) (he: ∀e ∈ p.aA,e.ops.length<=8/\ ∀o ∈ e.ops,o.arg.e=0/\o.res.e=0) (σ:St) (x0:List Bs × List Bs) (h01:x0.1.length<=10) (h02:x0.2.length<=10):
 ∃τ',aU (aD CI XB GI 67 false nL) [(1, .ptr σ.length 0),(3, .arr (σ.length+1) x0.1.length 0 x0.1.length),(4, .arr (σ.length+2) x0.2.length 0 x0.2.length),(5, .int .i64 0)] (σ++[.box p.cs,aJ x0.1,aJ x0.2])=
  some (match bf (cF p) p.aA 0 x0 with
   | .inl x=>(.exit 0,[(1, .ptr σ.length 0),(3, .arr (σ.length+1) x.1.length 0 x.1.length),(4, .arr (σ.length+2) x.2.length 0 x.2.length),(5, .int .i64 p.aA.length),(16, .bool false)],σ++τ')
   | .inr e=>(.ret,[(2, .int .i64 e)],σ++τ')):=by
 obtain ⟨dd,hdd,hddl,hdg⟩:=opq Eff.d p.aA
 have hh:p.cs[1]? =some (.slice dd):=by rw [p.dw,hdd];rfl
 have hpl:=p.aL
 have hh1: ∀h:1<p.cs.length,p.cs[1]= .slice dd:=fun h=>by rw [List.getElem?_eq_getElem h] at hh;exact Option.some.inj hh
 have hlen0: (σ++[Obj.box p.cs]).length=σ.length+1:=by simp
 have:=cA (f:=aD CI XB GI 67 false nL) p.aA (fun i x=>[(1, .ptr σ.length 0),(3, .arr (σ.length+1) x.1.length 0 x.1.length),(4, .arr (σ.length+2) x.2.length 0 x.2.length),(5, .int .i64 (i:Nat))])
  (fun x=>σ++[.box p.cs]++[aJ x.1,aJ x.2]) (fun i x=>x.1.length<=10+i/\x.2.length<=10+8*i) (cF p) (fun e=>(.ret,[(2, .int .i64 e)])) (fun _=>σ++[.box p.cs])
  (fun x=>(.exit 0,[(1, .ptr σ.length 0),(3, .arr (σ.length+1) x.1.length 0 x.1.length),(4, .arr (σ.length+2) x.2.length 0 x.2.length),(5, .int .i64 p.aA.length),(16, .bool false)])) (by simp) (by simp)
  (fun i hi x x' hI hs=>by
    obtain ⟨h1,h2⟩:=F7 hs
    have hc:=(he _ (List.getElem_mem hi)).1
    rw [h1,List.length_append]
    simp only [List.length_cons,List.length_nil]
    omega)
  (fun i hi x τ hI=>by
    obtain ⟨i1,i2⟩:=hI
    have hw:=aI (n:=i) (by omega)
    have hei:=he _ (List.getElem_mem hi)
    have heo:=hok.e _ (List.getElem_mem hi)
    obtain ⟨h2,h3⟩:=hdg i hi
    unfold cF
    rcases x with ⟨nm,cn⟩
    simp only at i1 i2 ⊢
    generalize p.aA[i]=d at*
    rcases d with ⟨dn,ops⟩
    obtain ⟨o1,o2⟩:=heo
    obtain ⟨hc8,hce⟩:=hei
    simp only at o1 o2 hc8 hce ⊢
    obtain ⟨τ1,h86⟩:=Kg p hok dn ops o1 (fun o h=>⟨o2 o h,hce o h⟩) σ.length (σ++[Obj.box p.cs]++[aJ (nm++[dn]),aJ cn]++τ).length (σ++[Obj.box p.cs]) (τ++[.box (Eff.cs ⟨dn,ops⟩)]) az (nm++[dn])
     (fun b=>by
       have: (σ++[Obj.box p.cs]++[aJ (nm++[dn]),aJ cn]++τ).length=(σ++[Obj.box p.cs]++[aJ (nm++[dn]),aJ b]++τ).length:=by simp only [List.length_append,List.length_cons,List.length_nil]
       rw [this,<-List.append_assoc];exact az)
     (.arr (σ.length+1) (nm.length+1) 0 (nm.length+1)) (.int .i64 (i:Nat)) cn (by omega)
    rw [hlen0,<-List.append_assoc] at h86
    have hlr: (σ++[Obj.box p.cs]++[aJ (nm++[dn]),aJ cn]++τ).length=(σ++[Obj.box p.cs]++[aJ nm,aJ cn]++τ).length:=by simp only [List.length_append,List.length_cons,List.length_nil]
    rw [hlr] at h86
    have hq1: ∀y,(σ++[Obj.box p.cs]++[aJ nm,aJ cn]++τ++y)[σ.length]? =some (.box p.cs):=fun y=>by simp only [List.append_assoc];exact az
    have hq2: ∀y,(σ++[Obj.box p.cs]++[aJ nm,aJ cn]++τ++y)[σ.length+1]? =some (.row 1 (nm.map .str) 0):=fun y=>by simp only [List.append_assoc];exact aS
    have hq0:=hq1 []
    rw [List.append_nil] at hq0
    have dO:=fun y=>zG nm dn (σ.length+1) _ (hq2 y) (by unfold aQ;omega)
    have hs: ∀y,(σ++[Obj.box p.cs]++[aJ nm,aJ cn]++τ++y).set (σ.length+1) (.row 1 (nm.map .str++[.str dn]) 0)=σ++[Obj.box p.cs]++[aJ (nm++[dn]),aJ cn]++τ++y:=fun y=>by
     simp only [List.append_assoc];rw [bP];simp [aJ]
    have e1: ∀y,∃τ',σ++[Obj.box p.cs]++[aJ nm,aJ cn]++τ++y=σ++[.box p.cs]++τ':=fun y=>⟨_,by simp only [List.append_assoc];rfl⟩
    have hnl: (nm.map D.str).length=nm.length:=by simp
    have hba: (nm.length+1) *16<=140737488355328:=by omega
    rw [<-hs] at h86
    simp only [Eff.d,Eff.cs] at*
    cases hh2:cV nm dn
    ·rw [hh2] at dO
     simp only [Bool.false_eq_true,if_false]
     cases hf:bf (dy p) ops 0 cn with
     |inl b=>
      rw [hf] at h86
      refine ⟨τ++[.box [.str dn, .slice (ops.map Opn.d)]]++τ1, ?_⟩
      simp only [<-List.append_assoc] at h86 ⊢
      have hnl2: (nm++[dn]).length=nm.length+1:=by simp
      generalize σ++[Obj.box p.cs]++[aJ (nm++[dn]),aJ b]++τ++[.box [.str dn, .slice (ops.map Opn.d)]]++τ1=σ2 at*
      generalize σ++[Obj.box p.cs]++[aJ nm,aJ cn]++τ=σ1 at*
      generalize ops.map Opn.d=cd at*
      generalize nm.map D.str=nd at*
      generalize p.cs=pc at*
      simp [nL,hq0,hq1,hh1,hpl,hddl,hi,h2,h3,hw,hq2,dO,az,aN,rowOf,bw,hnl,hnl2,hba,h86]
     |inr e=>
      rw [hf] at h86
      refine ⟨τ1, ?_⟩
      generalize hs2:σ++[Obj.box p.cs]++τ1=σ2 at*
      generalize hs1:σ++[Obj.box p.cs]++[aJ nm,aJ cn]++τ=σ1 at*
      generalize ops.map Opn.d=cd at*
      generalize nm.map D.str=nd at*
      generalize p.cs=pc at*
      simp [nL,hq0,hq1,hh1,hpl,hddl,hi,h2,h3,hw,hq2,dO,az,aN,rowOf,bw,hnl,hba,h86]
    ·rw [hh2] at dO
     obtain ⟨τ',hτ'⟩:=e1 [.box [.str dn, .slice (ops.map Opn.d)]]
     refine ⟨τ', ?_⟩
     simp only [if_true]
     rw [<-hτ']
     clear h86 hs e1 hτ'
     generalize σ++[Obj.box p.cs]++[aJ nm,aJ cn]++τ=σ1 at*
     generalize ops.map Opn.d=cd at*
     generalize p.cs=pc at*
     simp [nL,hq0,hq1,hh1,hpl,hddl,hi,h2,h3,hw,dO,az,aN])
  (fun x τ hI=>⟨τ,by
    have hq0: (σ++[Obj.box p.cs]++[aJ x.1,aJ x.2]++τ)[σ.length]? =some (.box p.cs):=by simp only [List.append_assoc];exact az
    generalize σ++[Obj.box p.cs]++[aJ x.1,aJ x.2]++τ=σ1 at*
    generalize p.cs=pc at*
    simp [nL,hq0,hh1,hpl,hddl]⟩) x0 [] ⟨by omega,by omega⟩
 obtain ⟨τ',h⟩:=this
 rw [List.append_nil,Int.natCast_zero,List.append_assoc] at h
 have e0: ([Obj.box p.cs]++[aJ x0.1,aJ x0.2]:St)=[.box p.cs,aJ x0.1,aJ x0.2]:=rfl
 simp only at h
 rw [e0] at h
 cases hf:bf (cF p) p.aA 0 x0 with
 |inl x=>
  rw [hf] at h
  exact ⟨[.box p.cs]++[aJ x.1,aJ x.2]++τ',by rw [<-List.append_assoc,<-List.append_assoc];exact h⟩
 |inr e=>
  rw [hf] at h
  exact ⟨[.box p.cs]++τ',by rw [<-List.append_assoc];exact h⟩
theorem Rv (p:Prg) (hok:p.ok) (h136: ∀σ,CI (.fn 136) [.agg p.main.cs] σ=some (.ret (.int .i64 p.main.e),σ)) (ht: ((pn p.defs p.main).take 1 (3000,0)).1=true) (hdf:p.defs=[])
 (hi2: ∀σ q,σ[q]? =some (.box p.cs)-> ∃τ' n,aU (aD CI XB GI 121 false uv) [(1, .ptr q 0),(7, .int .i64 3000),(8, .int .i64 0)] σ=some (.exit 4,[(1, .ptr q 0),(7, .int .i64 n),(8, .int .i64 1),(65, .bool false)],σ++τ'))
 (hi3: ∀σ q,σ[q]? =some (.box p.cs)->aU (aD CI XB GI 121 false BJ) [(1, .ptr q 0),(11, .int .i64 0)] σ=some (.exit 6,[(1, .ptr q 0),(11, .int .i64 0),(97, .bool false)],σ)) (σ:St):CI (.fn 84) [.agg p.cs] σ=some (.ret (.int .i64 p.syn),σ):=by
 have hq: (σ++[Obj.box p.cs])[σ.length]? =some (.box p.cs):=az
 have hi0:=Kb p hok σ.length _ hq
 have hi1:=Kc p hok σ.length _ hq
 have hall:=p.bJ
 have hpl:=p.aL
 have hd3: (p.cs.drop 3).take 7=p.main.cs:=by rw [p.dw];simp
 have hd3':p.cs.drop 3=p.main.cs:=by rw [p.dw];simp
 have hm1:=p.main.aL
 have hm2:=p.main.aM
 obtain ⟨dd,hdd,hdl,_⟩:=opq Dat.d p.data
 obtain ⟨ed,hed,hel,_⟩:=opq Eff.d p.aA
 obtain ⟨fd,hfd,hfl,_⟩:=opq Dfn.d p.defs
 have hg0:p.cs.head?=some (.slice dd):=by rw [p.dw,hdd];rfl
 have hg1:p.cs[1]? =some (.slice ed):=by rw [p.dw,hed];rfl
 have hg2:p.cs[2]? =some (.slice fd):=by rw [p.dw,hfd];rfl
 have hh1: ∀h:1<p.cs.length,p.cs[1]= .slice ed:=fun h=>by rw [List.getElem?_eq_getElem h] at hg1;exact Option.some.inj hg1
 have hh2: ∀h:2<p.cs.length,p.cs[2]= .slice fd:=fun h=>by rw [List.getElem?_eq_getElem h] at hg2;exact Option.some.inj hg2
 have fin: ∀z,(∃τ,ah CI XB GI wq [.agg p.cs] σ=some (.ret (.int .i64 z),σ++τ))->CI (.fn 84) [.agg p.cs] σ=some (.ret (.int .i64 z),σ):=fun z ⟨τ,h⟩=>aR OY h rfl rfl
 apply fin
 clear fin
 unfold Prg.syn
 by_cases hn:12<p.data.length\/12<p.aA.length\/60<p.defs.length
 ·rw [if_pos hn]
  refine ⟨[.box p.cs], ?_⟩
  clear hi0 hi1 h136 hq hd3 hd3'
  generalize p.cs=pc at*
  by_cases h1:12<p.data.length
  ·have h1': (12:Int) <p.data.length:=by omega
   simp [ah,wq,az,hall,hpl,hg0,hdl,h1,h1']
  ·have h1': ¬(12:Int) <p.data.length:=by omega
   by_cases h2:12<p.aA.length
   ·have h2': (12:Int) <p.aA.length:=by omega
    simp [ah,wq,az,hall,hpl,hg0,hh1,hdl,hel,h1,h1',h2,h2']
   ·have h2': ¬(12:Int) <p.aA.length:=by omega
    have h3:60<p.defs.length:=by omega
    have h3': (60:Int) <p.defs.length:=by omega
    simp [ah,wq,az,hall,hpl,hg0,hh1,hh2,hdl,hel,hfl,h1,h1',h2,h2',h3,h3']
 rw [if_neg hn]
 have h1: ¬12<p.data.length:=by omega
 have h2: ¬12<p.aA.length:=by omega
 have h3: ¬60<p.defs.length:=by omega
 have h1': ¬(12:Int) <p.data.length:=by omega
 have h2': ¬(12:Int) <p.aA.length:=by omega
 have h3': ¬(60:Int) <p.defs.length:=by omega
 unfold orE
 by_cases hz0:bn (p.data.map ja)=0
 rotate_left
 ·rw [if_neg hz0] at hi0 ⊢
  refine ⟨[.box p.cs], ?_⟩
  clear hi1 h136 hq hd3 hd3'
  generalize p.cs=pc at*
  simp [ah,wq,az,hall,hpl,hg0,hh1,hh2,hdl,hel,hfl,h1,h1',h2,h2',h3,h3',hi0]
 rw [if_pos hz0] at hi0 ⊢
 by_cases hz1:bn (p.aA.map iZ)=0
 rotate_left
 ·rw [if_neg hz1] at hi1 ⊢
  refine ⟨[.box p.cs], ?_⟩
  clear h136 hq hd3 hd3'
  generalize p.cs=pc at*
  simp [ah,wq,az,hall,hpl,hg0,hh1,hh2,hdl,hel,hfl,h1,h1',h2,h2',h3,h3',hi0,hi1]
 rw [if_pos hz1] at hi1 ⊢
 obtain ⟨τ',n,hi2⟩:=hi2 _ _ hq
 rw [if_pos ht]
 have hq2: (σ++[Obj.box p.cs]++τ')[σ.length]? =some (.box p.cs):=bD hq
 have hi3:=hi3 _ _ hq2
 have hz3:bn (p.defs.map zH)=0:=by rw [hdf];rfl
 rw [if_pos hz3]
 refine ⟨[.box p.cs]++τ', ?_⟩
 rw [<-List.append_assoc]
 clear hq ht
 generalize p.main.cs=mc at*
 generalize p.main.e=me at*
 generalize p.cs=pc at*
 generalize hs2:σ++[Obj.box pc]++τ'=σ2 at*
 simp [ah,wq,az,hall,hpl,hg0,hh1,hh2,hdl,hel,hfl,h1,h1',h2,h2',h3,h3',hi0,hi1,hi2,hi3,hq2,hd3,hd3',hm1,hm2,h136]
set_option maxHeartbeats 2000000 in
theorem OZ (σ:St):CI (.fn 181) [.agg uE.cs] σ=some (.ret (.int .i64 0),σ):=by
 have h205:=fun σ=>Ru σ
 have hrl: (jf.length:Int)=20:=rfl
 have hrn:jf.length=20:=rfl
 have hw19:IntKind.i64.wrap (20 - 1)=19:=rfl
 have hw19':IntKind.i64.wrap 19=19:=rfl
 have hrow: ∀h:3<jf.length,jf[3]= .agg [.int .i64 0, .int .i64 0, .int .i64 0, .int .i64 0, .bool false, .int .i64 0, .int .i64 0]:=fun _=>rfl
 have hc:isC [] 0=true:=rfl
 have hr: ∀a b c,inR a b c=(decide (b<=a)&&decide (a<=c)):=fun _ _ _=>rfl
 have h206: ∀σ,CI (.fn 206) [.agg uE.cs] σ=some (.ret (.int .i64 0),σ):=fun σ=>by
  have h177:=fun σ=>OQ [] σ (by simp [aQ])
  have hd:fU [] 1=0:=rfl
  have hn:slD []= .slice []:=rfl
  rw [hd,hn] at h177
  rw [nj]
  have hτ:ah CI XB GI zI [.agg [.int .i64 3, .int .i64 0, .str [], .str [], .slice [], .slice [], .slice []]] σ=some (.ret (.int .i64 0),σ++[.box [.int .i64 3, .int .i64 0, .str [], .str [], .slice [], .slice [], .slice []]]):=by
   simp [ah,zI,az,h177]
  exact aR Ki hτ rfl rfl
 rw [nj] at*
 have hτ:ah CI XB GI zJ [.agg [.int .i64 3, .int .i64 0, .str [], .str [], .slice [], .slice [], .slice []]] σ=some (.ret (.int .i64 0),σ++[.box [.int .i64 3, .int .i64 0, .str [], .str [], .slice [], .slice [], .slice []], .box [.int .i64 0, .int .i64 0, .int .i64 0, .int .i64 0, .bool false, .int .i64 0, .int .i64 0]]):=by
  generalize jf=sr at*
  simp [ah,zJ,az,aS,aN,bP,h205,hrl,hrn,hw19,hw19',hrow,gz,OU,hc,hr,h206,bQ,aE]
 exact aR Kj hτ rfl rfl
theorem Rw (σ:St):CI (.fn 52) [.agg uE.cs] σ=some (.ret (.slice []),σ):=by
 have h1: ∀S:St,aU (aD CI XB GI 26 false qV) [(1, .ptr σ.length 0),(3, .arr (σ.length+1) 0 0 0),(4, .int .i64 0)] S=aU (aD CI XB GI 26 false qV) [(1, .ptr σ.length 0),(3, .arr (σ.length+1) 0 0 0),(4, .int .i64 0)] S:=fun _=>rfl
 have:=c52 3 0 [] [] [] [] [] (by simp) σ
 exact this
theorem O0 (σ:St):CI (.fn 136) [.agg uE.cs] σ=some (.ret (.int .i64 0),σ):=by
 have h181:=fun σ=>OZ σ
 have h52:=fun σ=>Rw σ
 have h1: ∀S:St,aU (aD CI XB GI 28 false ye) [(4, .slice []),(5, .int .i64 0)] S=some (.exit 0,[(4, .slice []),(5, .int .i64 0),(17, .bool false)],S):=fun S=>by
  refine aH ?_ (by simp)
  simp [ye]
 rw [nj] at*
 have hτ:ah CI XB GI zK [.agg [.int .i64 3, .int .i64 0, .str [], .str [], .slice [], .slice [], .slice []]] σ=some (.ret (.int .i64 0),σ++[.box [.int .i64 3, .int .i64 0, .str [], .str [], .slice [], .slice [], .slice []]]):=by
  simp [ah,zK,az,aS,h181,h52,h1]
 exact aR Kk hτ rfl rfl
theorem O1 (σ:St):CI (.fn 132) [.agg uE.cs, .int .i64 3000, .int .i64 200] σ=some (.ret (.int .i64 2999),σ):=by
 have w1:IntKind.i64.wrap (3000 - 1)=2999:=wrap_i64 (by omega) (by omega)
 have w2:IntKind.i64.wrap 2999=2999:=wrap_i64 (by omega) (by omega)
 have w0:IntKind.i64.wrap 0=0:=wrap_i64 (by omega) (by omega)
 have h1: ∀S:St,aU (aD CI XB GI 58 false yf) [(1, .int .i64 2999),(2, .int .i64 200),(3, .ptr σ.length 0),(7, .int .i64 0),(8, .int .i64 0)] S=some (.exit 0,[(1, .int .i64 2999),(2, .int .i64 200),(3, .ptr σ.length 0),(7, .int .i64 0),(8, .int .i64 0),(26, .bool false)],S):=fun S=>by
  refine aH ?_ (by simp)
  simp [yf]
 rw [nj]
 have hτ:ah CI XB GI zL [.agg [.int .i64 3, .int .i64 0, .str [], .str [], .slice [], .slice [], .slice []], .int .i64 3000, .int .i64 200] σ=some (.ret (.int .i64 2999),σ++[.box [.int .i64 3, .int .i64 0, .str [], .str [], .slice [], .slice [], .slice []]]):=by
  simp [ah,zL,az,aS,w0,w1,w2,h1]
 exact aR Kl hτ rfl rfl
theorem Rx (data:List Dat) (aA:List Eff) (hok: (Prg.mk data aA [] uE).ok) (σ:St):CI (.fn 84) [.agg (Prg.mk data aA [] uE).cs] σ=some (.ret (.int .i64 (Prg.mk data aA [] uE).syn),σ):=by
 have hcs: (Prg.mk data aA [] uE).cs=[.slice (data.map Dat.d), .slice (aA.map Eff.d), .slice [], .int .i64 3, .int .i64 0, .str [], .str [], .slice [], .slice [], .slice []]:=rfl
 have h132:=fun σ=>O1 σ
 rw [nj] at h132
 refine Rv _ hok (fun σ=> ?_) ?_ rfl (fun σ q hq=> ?_) (fun σ q hq=> ?_) σ
 ·show CI (.fn 136) [.agg uE.cs] σ=some (.ret (.int .i64 uE.e),σ)
  rw [O2];exact O0 σ
 ·show (uE.take 1 (3000,0)).1=true
  rw [CL]
 ·rw [hcs] at hq
  generalize data.map Dat.d=dd at*
  generalize aA.map Eff.d=ed at*
  have w2:IntKind.i64.wrap (200 - 0)=200:=wrap_i64 (by omega) (by omega)
  have w3:IntKind.i64.wrap 200=200:=wrap_i64 (by omega) (by omega)
  have w4:IntKind.i64.wrap (0+1)=1:=wrap_i64 (by omega) (by omega)
  have w5:IntKind.i64.wrap 1=1:=wrap_i64 (by omega) (by omega)
  refine ⟨[.box [.int .i64 3, .int .i64 0, .str [], .str [], .slice [], .slice [], .slice []]],2999, ?_⟩
  have hqq:=bD (τ:=[Obj.box [.int .i64 3, .int .i64 0, .str [], .str [], .slice [], .slice [], .slice []]]) hq
  have hend:aU (aD CI XB GI 121 false uv) [(1, .ptr q 0),(7, .int .i64 2999),(8, .int .i64 1)] (σ++[Obj.box [.int .i64 3, .int .i64 0, .str [], .str [], .slice [], .slice [], .slice []]])=some (.exit 4,[(1, .ptr q 0),(7, .int .i64 2999),(8, .int .i64 1),(65, .bool false)],σ++[Obj.box [.int .i64 3, .int .i64 0, .str [], .str [], .slice [], .slice [], .slice []]]):=by
   refine aH ?_ (by simp)
   simp [uv,hqq]
  rw [<-hend]
  refine aO ?_
  simp [uv,hq,bD hq,az,aS,aN,bP,w2,w3,w4,w5,h132,bQ,aE]
 ·rw [hcs] at hq
  generalize data.map Dat.d=dd at*
  generalize aA.map Eff.d=ed at*
  refine aH ?_ (by simp)
  simp [BJ,hq]
theorem zM {t:Ty} (h:eF t=0):t.e=0:=by
 unfold eF at h
 split at h
 ·rename_i h1;exact Ty.rU h1
 ·rename_i h1;exact absurd h h1
theorem qZ: ∀ {l:List Ty} {t:Ty},gA l=0->t ∈ l->t.e=0:=by
 intro l t h ht
 unfold gA at h
 rw [dK] at h
 exact zM (h _ (List.mem_map_of_mem ht))
theorem c85 (p:Prg) (hok:p.ok) (hdl:p.data.length<=12) (hd: ∀d ∈ p.data,d.cons.length<=8/\ ∀c ∈ d.cons,∀t ∈ c.args,t.e=0) (σ:St):
 CI (.fn 85) [.agg p.cs] σ=some (.ret (.int .i64 (match bf (b7 p) p.data 0 (builtins,[]) with| .inl _=>0| .inr e=>e)),σ):=by
 obtain ⟨τ,hit⟩:=Kf p hok hdl hd σ
 have hall:=p.bJ
 have hτ:ah CI XB GI DL [.agg p.cs] σ=some (.ret (.int .i64 (match bf (b7 p) p.data 0 (builtins,[]) with| .inl _=>0| .inr e=>e)),σ++τ):=by
  cases hf:bf (b7 p) p.data 0 (builtins,[]) with
  |inl x=>
   rw [hf] at hit
   have e0: ∀x,([x,aJ [],aJ []]:St)=[x, .row 1 [] 0, .row 1 [] 0]:=fun _=>rfl
   rw [e0] at hit
   generalize p.cs=pc at*
   simp [ah,DL,hall,hit]
  |inr e=>
   rw [hf] at hit
   have e0: ∀x,([x,aJ [],aJ []]:St)=[x, .row 1 [] 0, .row 1 [] 0]:=fun _=>rfl
   rw [e0] at hit
   generalize p.cs=pc at*
   simp [ah,DL,hall,hit]
 exact aR O3 hτ rfl rfl
theorem c86 (p:Prg) (hok:p.ok) (hel:p.aA.length<=12) (he: ∀e ∈ p.aA,e.ops.length<=8/\ ∀o ∈ e.ops,o.arg.e=0/\o.res.e=0) (σ:St):
 CI (.fn 86) [.agg p.cs] σ=some (.ret (.int .i64 (match bf (cF p) p.aA 0 ([nIO],[ig,kR]) with| .inl _=>0| .inr e=>e)),σ):=by
 obtain ⟨τ,hit⟩:=Kh p hok hel he σ ([nIO],[ig,kR]) (by decide) (by decide)
 have hall:=p.bJ
 have hτ:ah CI XB GI DM [.agg p.cs] σ=some (.ret (.int .i64 (match bf (cF p) p.aA 0 ([nIO],[ig,kR]) with| .inl _=>0| .inr e=>e)),σ++τ):=by
  simp only [aJ,nIO,ig,kR,List.map_cons,List.map_nil,List.length_cons,List.length_nil] at hit ⊢
  cases hf:bf (cF p) p.aA 0 ([[73,79]],[[112,114,105,110,116],[114,101,97,100]]) with
  |inl x=>
   rw [hf] at hit
   generalize p.cs=pc at*
   simp [ah,DM,hall,bw,bQ,aE,hit]
  |inr e=>
   rw [hf] at hit
   generalize p.cs=pc at*
   simp [ah,DM,hall,bw,bQ,aE,hit]
 exact aR O4 hτ rfl rfl
theorem c29 (p:Prg) (hok:p.ok) (σ:St):CI (.fn 29) [.agg p.cs] σ=some (.ret (.int .i64 p.decls),σ):=by
 have h84: ∀σ,CI (.fn 84) [.agg p.bare.cs] σ=some (.ret (.int .i64 p.bare.syn),σ):=fun σ=>Rx p.data p.aA (Prg.CM hok) σ
 have hcs:p.bare.cs=[.slice (p.data.map Dat.d), .slice (p.aA.map Eff.d), .slice [], .int .i64 3, .int .i64 0, .str [], .str [], .slice [], .slice [], .slice []]:=rfl
 rw [hcs] at h84
 have hall:=p.bJ
 have hpl:=p.aL
 have hpt:=p.aM
 have hg0:p.cs.head?=some (.slice (p.data.map Dat.d)):=by rw [p.dw];rfl
 have hg1:p.cs[1]? =some (.slice (p.aA.map Eff.d)):=by rw [p.dw];rfl
 have hh1: ∀h:1<p.cs.length,p.cs[1]= .slice (p.aA.map Eff.d):=fun h=>by rw [List.getElem?_eq_getElem h] at hg1;exact Option.some.inj hg1
 have hτ:ah CI XB GI zN [.agg p.cs] σ=some (.ret (.int .i64 p.decls),σ++[.box p.cs]):=by
  unfold Prg.decls orE
  by_cases hs:p.bare.syn=0
  ·obtain ⟨hs1,hs2,_,hs3,hs4,_⟩:=Prg.iO hs
   have hd: ∀d ∈ p.data,d.cons.length<=8/\ ∀c ∈ d.cons,∀t ∈ c.args,t.e=0:=fun d hdm=>by
    obtain ⟨_,a2,_,_,a5⟩:=gE (hs3 d hdm)
    refine ⟨a2,fun c hc t ht=> ?_⟩
    have:=a5 c hc
    unfold qU at this
    split at this
    ·cases this
    ·split at this
     ·exact qZ this ht
     ·cases this
   have he: ∀e ∈ p.aA,e.ops.length<=8/\ ∀o ∈ e.ops,o.arg.e=0/\o.res.e=0:=fun e hem=>by
    obtain ⟨a1,_,a3⟩:=zO (hs4 e hem)
    refine ⟨a1,fun o ho=> ?_⟩
    have:=a3 o ho
    unfold qT at this
    split at this
    ·exact ⟨qZ this (by simp),qZ this (by simp)⟩
    ·cases this
   have h85:=fun σ=>c85 p hok hs1 hd σ
   have h86:=fun σ=>c86 p hok hs2 he σ
   rw [hs] at h84
   rw [if_pos hs]
   unfold Prg.zP
   generalize p.data.map Dat.d=dd at*
   generalize p.aA.map Eff.d=ed at*
   cases hf1:bf (b7 p) p.data 0 (builtins,[]) with
   |inr e=>
    have hne:e≠0:=fW (P:=fun e=>e≠0) _ (fun _ _ _ _ _ h=>nM h) _ _ _ hf1
    have hne': (e==0)=false:=by simpa using hne
    rw [hf1] at h85
    generalize p.cs=pc at*
    simp [ah,zN,az,hall,hpl,hpt,hg0,hh1,bQ,aE,h84,h85,hne']
   |inl x=>
    rw [hf1] at h85
    simp only at h85 ⊢
    cases hf2:bf (cF p) p.aA 0 ([nIO],[ig,kR]) with
    |inr e=>
     rw [hf2] at h86
     generalize p.cs=pc at*
     simp [ah,zN,az,hall,hpl,hpt,hg0,hh1,bQ,aE,h84,h85,h86]
    |inl y=>
     rw [hf2] at h86
     generalize p.cs=pc at*
     simp [ah,zN,az,hall,hpl,hpt,hg0,hh1,bQ,aE,h84,h85,h86]
  ·rw [if_neg hs]
   have hs': (p.bare.syn==0)=false:=by simpa using hs
   generalize p.bare.syn=z at*
   generalize p.data.map Dat.d=dd at*
   generalize p.aA.map Eff.d=ed at*
   generalize p.cs=pc at*
   simp [ah,zN,az,hall,hpl,hpt,hg0,hh1,bQ,aE,h84,hs']
 exact aR O5 hτ rfl rfl
end Go.AI
