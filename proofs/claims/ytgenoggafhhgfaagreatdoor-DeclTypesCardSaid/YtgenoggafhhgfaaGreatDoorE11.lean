/- Texts of the proof: what functions of the program compute, step by step. No conditions of its own. -/
import Derived.Test.YtgenoggafhhgfaaGreatDoorE10
set_option linter.unusedVariables false
set_option linter.unusedSimpArgs false
namespace Go.AI
open Go Go.Proofs Go.Lx
set_option maxRecDepth 100000
theorem onceS_len (σ:St) (a b:List Bs): (onceS σ a b).length=σ.length+4:=by simp [onceS]
def consStep (p:Prg) (params:List Bs) (_:Nat) (c:Con) (b:List Bs):List Bs ⊕ Int:=
 if hasS b c.name then .inr 5 else if firstE (c.args.map fun t=>t.ord p params)=0 then .inl (b++[c.name]) else .inr (firstE (c.args.map fun t=>t.ord p params))
theorem consStep_len {p:Prg} {params:List Bs} {i:Nat} {c:Con} {b b':List Bs} (h:consStep p params i c b= .inl b'):b'=b++[c.name]:=by
 unfold consStep at h
 split at h
 ·cases h
 ·split at h
  ·cases h;rfl
  ·cases h
theorem foldS_cons_len {p:Prg} {params:List Bs} : ∀ {l:List Con} {i:Nat} {b b':List Bs},foldS (consStep p params) l i b= .inl b'→b'.length=b.length+l.length
 | [],i,b,b',h=>by cases h;rfl
 |c::r,i,b,b',h=>by
  simp only [foldS] at h
  cases hs:consStep p params i c b with
  |inl b1=>
   rw [hs] at h
   have h1:=consStep_len hs
   have h2:=foldS_cons_len h
   rw [h2,h1]
   simp only [List.length_append,List.length_cons,List.length_nil]
   omega
  |inr e=>rw [hs] at h;cases h
set_option maxHeartbeats 1000000 in
theorem it56_1 (p:Prg) (m:CMap) (hdl:p.data.length≤maxL) (hel:p.effects.length≤maxL) (params:List Bs) (hpar:params.length≤maxL) (dn:Bs) (cons:List Con) (q tb:Nat) (σ τ0:St) (a:List Bs) (hT:IsT σ tb p m)
 (hq: ∀b,(onceS σ a b++τ0)[q]? =some (.box [.str dn,slD params, .slice (cons.map Con.d)])) (hcl:cons.length≤maxL) (hok: ∀c ∈ cons,c.ok) (b0:List Bs) (hb0:b0.length+cons.length≤1000000) (d37 d38 d39:D):
 ∃τ' ev,iterI (evalI CI XB GI 110 false lp56_1) [(0, .ptr tb 0),(2, .ptr (σ.length+2) 0),(3, .ptr (σ.length+3) 0),(4, .func 110 [] []),(6, .ptr q 0),(37,d37),(38,d38),(39,d39),(48, .slice (cons.map Con.d)),(49, .int .i64 cons.length),(50, .int .i64 0)] (onceS σ a b0++τ0)=
  some (match foldS (consStep p params) cons 0 b0 with| .inl b'=>(.exit 2,[(0, .ptr tb 0),(2, .ptr (σ.length+2) 0),(3, .ptr (σ.length+3) 0),(4, .func 110 [] []),(6, .ptr q 0),(37,d37),(38,d38),(39,d39),(48, .slice (cons.map Con.d)),(49, .int .i64 cons.length),(50, .int .i64 cons.length),(51, .bool false)],onceS σ a b'++τ0++τ') | .inr e=>(.panic (refD e),ev,σ++τ')):=by
 have:=loop_foldP (f:=evalI CI XB GI 110 false lp56_1) cons (fun k _=>[(0, .ptr tb 0),(2, .ptr (σ.length+2) 0),(3, .ptr (σ.length+3) 0),(4, .func 110 [] []),(6, .ptr q 0),(37,d37),(38,d38),(39,d39),(48, .slice (cons.map Con.d)),(49, .int .i64 cons.length),(50, .int .i64 (k:Nat))]) (fun b=>onceS σ a b++τ0) (fun k b=>b.length=b0.length+k) (consStep p params) (fun e=> .panic (refD e)) σ (fun _=>(.exit 2,[(0, .ptr tb 0),(2, .ptr (σ.length+2) 0),(3, .ptr (σ.length+3) 0),(4, .func 110 [] []),(6, .ptr q 0),(37,d37),(38,d38),(39,d39),(48, .slice (cons.map Con.d)),(49, .int .i64 cons.length),(50, .int .i64 cons.length),(51, .bool false)])) (by simp) (by simp)
  (fun k hk b b' hb hs=>by rw [consStep_len hs];simp;omega)
  (fun k hk b τ hb=>by
    have hw:=wrap_nat (n:=k) (by unfold maxL at hcl;omega)
    have hcok:=hok _ (List.getElem_mem hk)
    have hget: (cons.map Con.d)[k]? =some (Con.d cons[k]):=by simp [hk]
    have hlen: (cons.map Con.d).length=cons.length:=by simp
    have hTT: ∀b x,IsT (onceS σ a b++τ0++τ++[x]) tb p m:=fun b x=>by rw [onceS_app,List.append_assoc,List.append_assoc];exact hT.app
    have hqq: ∀b x,(onceS σ a b++τ0++τ++[x])[q]? =some (.box [.str dn,slD params, .slice (cons.map Con.d)]):=fun b x=>by rw [List.append_assoc];exact getO (hq b)
    generalize cons.map Con.d=cd at*
    have h2:k<cd.length:=by omega
    have h3:cd[k]=Con.d cons[k]:=by rw [List.getElem?_eq_getElem h2] at hget;exact Option.some.inj hget
    generalize cons[k]=c at*
    rcases c with ⟨cn,args⟩
    have hal:=tysD_len args
    simp only [Con.d,Con.cs] at*
    have h110:=c110 b cn (σ.length+3) (σ.length+1) (onceS σ a b++τ0++τ++[Obj.box [.str cn, .slice (tysD args)]]) (by simp only [List.append_assoc];exact onceS_b1 ..) (by simp only [List.append_assoc];exact onceS_r1 ..) (by omega) (by omega)
    have hset: ((onceS σ a b++τ0++τ++[Obj.box [.str cn, .slice (tysD args)]]).set (σ.length+1) (rowS (b++[cn]))).set (σ.length+3) (refS (σ.length+1) (b++[cn]))=onceS σ a (b++[cn])++τ0++τ++[Obj.box [.str cn, .slice (tysD args)]]:=by
     simp only [List.append_assoc];exact onceS_set1 ..
    rw [hset] at h110
    have hqc: ∃qc,(onceS σ a b++τ0++τ).length=qc:=⟨_,rfl⟩
    obtain ⟨qc,hqc⟩:=hqc
    have hgc: (onceS σ a (b++[cn])++τ0++τ++[Obj.box [.str cn, .slice (tysD args)]])[qc]? =some (.box [.str cn, .slice (tysD args)]):=by
     have:qc=(onceS σ a (b++[cn])++τ0++τ).length:=by rw [←hqc];simp only [List.length_append,onceS_len]
     rw [this];exact getA0
    obtain ⟨τ1,ev1,hit⟩:=it56_0 p m hdl hel params hpar dn (.slice cd) q tb σ (onceS σ a (b++[cn])++τ0++τ++[Obj.box [.str cn, .slice (tysD args)]]) (hTT _ _) (hqq _ _) args hcok.1 hcok.2 d37 d38 d39 (.slice cd) (.int .i64 cons.length) (.int .i64 k)
    unfold consStep
    cases hh:hasS b cn
    ·rw [hh] at h110
     simp only [Bool.false_eq_true,if_false] at h110 ⊢
     have e1: ∀x,onceS σ a b++τ0++τ++[x]=σ++([rowS a,rowS b,refS σ.length a,refS (σ.length+1) b]++τ0++τ++[x]):=fun x=>by simp [onceS]
     by_cases hz:firstE (args.map fun t=>t.ord p params)=0
     ·rw [if_pos hz] at hit
      simp only [hz,if_true]
      refine ⟨τ++[Obj.box [.str cn, .slice (tysD args)]]++τ1,[], ?_⟩
      simp only [←List.append_assoc]
      generalize onceS σ a (b++[cn])++τ0++τ++[Obj.box [.str cn, .slice (tysD args)]]=σ3 at*
      generalize onceS σ a b++τ0++τ=σ2 at*
      subst hqc
      generalize tysD args=ad at*
      simp [lp56_1,hk,hw,h2,h3,getA0,setA0,h110,hgc,hal,hit]
     ·rw [if_neg hz] at hit
      simp only [if_neg hz]
      refine ⟨[rowS a,rowS (b++[cn]),refS σ.length a,refS (σ.length+1) (b++[cn])]++τ0++τ++[Obj.box [.str cn, .slice (tysD args)]]++τ1,ev1, ?_⟩
      have e2:σ++([rowS a,rowS (b++[cn]),refS σ.length a,refS (σ.length+1) (b++[cn])]++τ0++τ++[Obj.box [.str cn, .slice (tysD args)]]++τ1)=onceS σ a (b++[cn])++τ0++τ++[Obj.box [.str cn, .slice (tysD args)]]++τ1:=by simp [onceS]
      rw [e2]
      generalize onceS σ a (b++[cn])++τ0++τ++[Obj.box [.str cn, .slice (tysD args)]]=σ3 at*
      generalize onceS σ a b++τ0++τ=σ2 at*
      subst hqc
      generalize tysD args=ad at*
      simp [lp56_1,hk,hw,h2,h3,getA0,setA0,h110,hgc,hal,hit]
    ·rw [hh] at h110
     simp only [if_true] at h110 ⊢
     refine ⟨[rowS a,rowS b,refS σ.length a,refS (σ.length+1) b]++τ0++τ++[Obj.box [.str cn, .slice (tysD args)]],[(0, .ptr tb 0),(2, .ptr (σ.length+2) 0),(3, .ptr (σ.length+3) 0),(4, .func 110 [] []),(6, .ptr q 0),(8, .ptr qc 0),(37,d37),(38,d38),(39,d39),(48, .slice (cd)),(49, .int .i64 cons.length),(50, .int .i64 (k:Nat)),(55, .ptr qc 0),(56, .str cn)], ?_⟩
     have e2:σ++([rowS a,rowS b,refS σ.length a,refS (σ.length+1) b]++τ0++τ++[Obj.box [.str cn, .slice (tysD args)]])=onceS σ a b++τ0++τ++[Obj.box [.str cn, .slice (tysD args)]]:=by simp [onceS]
     rw [e2]
     clear hit hgc
     generalize onceS σ a b++τ0++τ=σ2 at*
     subst hqc
     generalize tysD args=ad at*
     simp [lp56_1,hk,hw,h2,h3,getA0,setA0,h110])
  (fun b τ _=>⟨τ,by
    generalize cons.map Con.d=cd
    simp [lp56_1]⟩) b0 [] (by simp)
 simp only [List.append_nil,Int.natCast_zero] at this
 obtain ⟨τ',ev,h⟩:=this
 refine ⟨τ',ev, ?_⟩
 rw [h]
 cases foldS (consStep p params) cons 0 b0<;>rfl
def datStep (p:Prg) (_:Nat) (d:Dat) (x:List Bs × List Bs): (List Bs × List Bs) ⊕ Int:=
 if hasS x.1 d.name then .inr 5 else match foldS (consStep p d.params) d.cons 0 x.2 with
  | .inl b=> .inl (x.1++[d.name],b)
  | .inr e=> .inr e
set_option maxHeartbeats 1000000 in
theorem it56_2 (p:Prg) (m:CMap) (hdl:p.data.length≤12) (hel:p.effects.length≤maxL) (hok: ∀d ∈ p.data,d.ok∧d.cons.length≤8) (tb:Nat) (σ:St) (hT:IsT σ tb p m) (a0 b0:List Bs) (ha0:a0.length≤10) (hb0:b0.length≤10):
 ∃τ' ev,iterI (evalI CI XB GI 110 false lp56_2) [(0, .ptr tb 0),(2, .ptr (σ.length+2) 0),(3, .ptr (σ.length+3) 0),(4, .func 110 [] []),(37, .slice (p.data.map Dat.d)),(38, .int .i64 p.data.length),(39, .int .i64 0)] (onceS σ a0 b0)=
  some (match foldS (datStep p) p.data 0 (a0,b0) with| .inl x=>(.exit 0,[(0, .ptr tb 0),(2, .ptr (σ.length+2) 0),(3, .ptr (σ.length+3) 0),(4, .func 110 [] []),(37, .slice (p.data.map Dat.d)),(38, .int .i64 p.data.length),(39, .int .i64 p.data.length),(40, .bool false)],onceS σ x.1 x.2++τ') | .inr e=>(.panic (refD e),ev,σ++τ')):=by
 have:=loop_foldP (f:=evalI CI XB GI 110 false lp56_2) p.data (fun i _=>[(0, .ptr tb 0),(2, .ptr (σ.length+2) 0),(3, .ptr (σ.length+3) 0),(4, .func 110 [] []),(37, .slice (p.data.map Dat.d)),(38, .int .i64 p.data.length),(39, .int .i64 (i:Nat))]) (fun x=>onceS σ x.1 x.2) (fun i x=>x.1.length≤10+i∧x.2.length≤10+8*i) (datStep p) (fun e=> .panic (refD e)) σ (fun _=>(.exit 0,[(0, .ptr tb 0),(2, .ptr (σ.length+2) 0),(3, .ptr (σ.length+3) 0),(4, .func 110 [] []),(37, .slice (p.data.map Dat.d)),(38, .int .i64 p.data.length),(39, .int .i64 p.data.length),(40, .bool false)])) (by simp) (by simp)
  (fun i hi x x' hx hs=>by
    have h8:=(hok _ (List.getElem_mem hi)).2
    unfold datStep at hs
    split at hs
    ·cases hs
    ·split at hs
     ·rename_i b hb
      cases hs
      have:=foldS_cons_len hb
      constructor
      ·simp;omega
      ·simp only;omega
     ·cases hs)
  (fun i hi x τ hx=>by
    have hw:=wrap_nat (n:=i) (by omega)
    obtain ⟨hdok,h8⟩:=hok _ (List.getElem_mem hi)
    have hget: (p.data.map Dat.d)[i]? =some (Dat.d p.data[i]):=by simp [hi]
    have hlen: (p.data.map Dat.d).length=p.data.length:=by simp
    have hdl':p.data.length≤maxL:=by unfold maxL;omega
    generalize p.data.map Dat.d=dd at*
    have h2:i<dd.length:=by omega
    have h3:dd[i]=Dat.d p.data[i]:=by rw [List.getElem?_eq_getElem h2] at hget;exact Option.some.inj hget
    generalize p.data[i]=d at*
    rcases d with ⟨dn,params,cons⟩
    rcases x with ⟨a,b⟩
    obtain ⟨hpar,hcl,hcok⟩:=hdok
    simp only [Dat.d,Dat.cs] at*
    have hxl: (cons.map Con.d).length=cons.length:=by simp
    have h110:=c110 a dn (σ.length+2) σ.length (onceS σ a b++τ++[Obj.box [.str dn,slD params, .slice (cons.map Con.d)]]) (by simp only [List.append_assoc];exact onceS_b ..) (by simp only [List.append_assoc];exact onceS_r ..) (by omega) (by omega)
    have hset: ((onceS σ a b++τ++[Obj.box [.str dn,slD params, .slice (cons.map Con.d)]]).set σ.length (rowS (a++[dn]))).set (σ.length+2) (refS σ.length (a++[dn]))=onceS σ (a++[dn]) b++τ++[Obj.box [.str dn,slD params, .slice (cons.map Con.d)]]:=by
     simp only [List.append_assoc];exact onceS_set ..
    rw [hset] at h110
    obtain ⟨qd,hqd⟩: ∃qd,(onceS σ a b++τ).length=qd:=⟨_,rfl⟩
    have hgd: ∀b,(onceS σ (a++[dn]) b++(τ++[Obj.box [.str dn,slD params, .slice (cons.map Con.d)]]))[qd]? =some (.box [.str dn,slD params, .slice (cons.map Con.d)]):=fun b'=>by
     have:qd=(onceS σ (a++[dn]) b'++τ).length:=by rw [←hqd];simp only [List.length_append,onceS_len]
     rw [this,←List.append_assoc];exact getA0
    obtain ⟨τ1,ev1,hit⟩:=it56_1 p m hdl' hel params hpar dn cons qd tb σ (τ++[Obj.box [.str dn,slD params, .slice (cons.map Con.d)]]) (a++[dn]) hT hgd hcl hcok b (by omega) (.slice dd) (.int .i64 p.data.length) (.int .i64 i)
    unfold datStep
    cases hh:hasS a dn
    ·rw [hh] at h110
     have hgd:=hgd b
     simp only [←List.append_assoc] at hit hgd
     simp only [Bool.false_eq_true,if_false] at h110 ⊢
     generalize cons.map Con.d=cd at*
     unfold slD at*
     generalize params.map D.str=pd at*
     generalize hσ3:onceS σ (a++[dn]) b++τ++[Obj.box [.str dn, .slice pd, .slice cd]]=σ3 at*
     cases hz:foldS (consStep p params) cons 0 b with
     |inl b'=>
      rw [hz] at hit
      refine ⟨τ++[Obj.box [.str dn, .slice pd, .slice cd]]++τ1,[], ?_⟩
      simp only [←List.append_assoc] at hit ⊢
      generalize onceS σ a b++τ=σ2 at*
      generalize onceS σ (a++[dn]) b'++τ++[Obj.box [.str dn, .slice pd, .slice cd]]++τ1=σ4 at*
      subst hqd
      simp [lp56_2,hi,hw,h2,h3,getA0,setA0,h110,hgd,hxl,hit]
     |inr e=>
      rw [hz] at hit
      refine ⟨τ1,ev1, ?_⟩
      generalize onceS σ a b++τ=σ2 at*
      subst hqd
      simp [lp56_2,hi,hw,h2,h3,getA0,setA0,h110,hgd,hxl,hit]
    ·rw [hh] at h110
     simp only [if_true] at h110 ⊢
     refine ⟨[rowS a,rowS b,refS σ.length a,refS (σ.length+1) b]++τ++[Obj.box [.str dn,slD params, .slice (cons.map Con.d)]],[(0, .ptr tb 0),(2, .ptr (σ.length+2) 0),(3, .ptr (σ.length+3) 0),(4, .func 110 [] []),(6, .ptr qd 0),(37, .slice (dd)),(38, .int .i64 p.data.length),(39, .int .i64 (i:Nat)),(44, .ptr qd 0),(45, .str dn)], ?_⟩
     have e2:σ++([rowS a,rowS b,refS σ.length a,refS (σ.length+1) b]++τ++[Obj.box [.str dn,slD params, .slice (cons.map Con.d)]])=onceS σ a b++τ++[Obj.box [.str dn,slD params, .slice (cons.map Con.d)]]:=by simp [onceS]
     rw [e2]
     clear hit hgd
     generalize cons.map Con.d=cd at*
     unfold slD at*
     generalize params.map D.str=pd at*
     generalize onceS σ a b++τ=σ2 at*
     subst hqd
     simp [lp56_2,hi,hw,h2,h3,getA0,setA0,h110])
  (fun x τ _=>⟨τ,by
    generalize p.data.map Dat.d=dd
    simp [lp56_2]⟩) (a0,b0) [] (by simp;omega)
 simp only [List.append_nil,Int.natCast_zero] at this
 obtain ⟨τ',ev,h⟩:=this
 refine ⟨τ',ev, ?_⟩
 rw [h]
 cases foldS (datStep p) p.data 0 (a0,b0)<;>rfl
def opnErr (p:Prg) (o:Opn):Int:=if o.arg.ord p []=0 then o.res.ord p [] else o.arg.ord p []
def opnStep (p:Prg) (_:Nat) (o:Opn) (b:List Bs):List Bs ⊕ Int:=
 if hasS b o.name then .inr 5 else if opnErr p o=0 then .inl (b++[o.name]) else .inr (opnErr p o)
theorem opnStep_len {p:Prg} {i:Nat} {c:Opn} {b b':List Bs} (h:opnStep p i c b= .inl b'):b'=b++[c.name]:=by
 unfold opnStep at h
 split at h
 ·cases h
 ·split at h
  ·cases h;rfl
  ·cases h
theorem foldS_opn_len {p:Prg} : ∀ {l:List Opn} {i:Nat} {b b':List Bs},foldS (opnStep p) l i b= .inl b'→b'.length=b.length+l.length
 | [],i,b,b',h=>by cases h;rfl
 |c::r,i,b,b',h=>by
  simp only [foldS] at h
  cases hs:opnStep p i c b with
  |inl b1=>
   rw [hs] at h
   have h1:=opnStep_len hs
   have h2:=foldS_opn_len h
   rw [h2,h1]
   simp only [List.length_append,List.length_cons,List.length_nil]
   omega
  |inr e=>rw [hs] at h;cases h
set_option maxHeartbeats 1000000 in
theorem it56_3 (p:Prg) (m:CMap) (hdl:p.data.length≤maxL) (hel:p.effects.length≤maxL) (ops:List Opn) (tb:Nat) (σ τ0:St) (a:List Bs) (hT:IsT σ tb p m)
 (hcl:ops.length≤maxL) (hok: ∀o ∈ ops,o.ok) (b0:List Bs) (hb0:b0.length+ops.length≤1000000) (d79 d80 d81:D):
 ∃τ' ev,iterI (evalI CI XB GI 110 false lp56_3) [(0, .ptr tb 0),(4, .func 110 [] []),(11, .ptr (σ.length+2) 0),(12, .ptr (σ.length+3) 0),(79,d79),(80,d80),(81,d81),(90, .slice (ops.map Opn.d)),(91, .int .i64 ops.length),(92, .int .i64 0)] (onceS σ a b0++τ0)=
  some (match foldS (opnStep p) ops 0 b0 with| .inl b'=>(.exit 8,[(0, .ptr tb 0),(4, .func 110 [] []),(11, .ptr (σ.length+2) 0),(12, .ptr (σ.length+3) 0),(79,d79),(80,d80),(81,d81),(90, .slice (ops.map Opn.d)),(91, .int .i64 ops.length),(92, .int .i64 ops.length),(93, .bool false)],onceS σ a b'++τ0++τ') | .inr e=>(.panic (refD e),ev,σ++τ')):=by
 have:=loop_foldP (f:=evalI CI XB GI 110 false lp56_3) ops (fun k _=>[(0, .ptr tb 0),(4, .func 110 [] []),(11, .ptr (σ.length+2) 0),(12, .ptr (σ.length+3) 0),(79,d79),(80,d80),(81,d81),(90, .slice (ops.map Opn.d)),(91, .int .i64 ops.length),(92, .int .i64 (k:Nat))]) (fun b=>onceS σ a b++τ0) (fun k b=>b.length=b0.length+k) (opnStep p) (fun e=> .panic (refD e)) σ (fun _=>(.exit 8,[(0, .ptr tb 0),(4, .func 110 [] []),(11, .ptr (σ.length+2) 0),(12, .ptr (σ.length+3) 0),(79,d79),(80,d80),(81,d81),(90, .slice (ops.map Opn.d)),(91, .int .i64 ops.length),(92, .int .i64 ops.length),(93, .bool false)])) (by simp) (by simp)
  (fun k hk b b' hb hs=>by rw [opnStep_len hs];simp;omega)
  (fun k hk b τ hb=>by
    have hw:=wrap_nat (n:=k) (by unfold maxL at hcl;omega)
    have hcok:=hok _ (List.getElem_mem hk)
    have hget: (ops.map Opn.d)[k]? =some (Opn.d ops[k]):=by simp [hk]
    have hlen: (ops.map Opn.d).length=ops.length:=by simp
    have hTT: ∀b x,IsT (onceS σ a b++τ0++τ++[x]) tb p m:=fun b x=>by rw [onceS_app,List.append_assoc,List.append_assoc];exact hT.app
    generalize ops.map Opn.d=od at*
    have h2:k<od.length:=by omega
    have h3:od[k]=Opn.d ops[k]:=by rw [List.getElem?_eq_getElem h2] at hget;exact Option.some.inj hget
    generalize ops[k]=o at*
    rcases o with ⟨on,arg,res,once⟩
    obtain ⟨hoa,hor⟩:=hcok
    simp only at hoa hor
    simp only [Opn.d,Opn.cs] at*
    have hca:=c112 p m hdl hel [] (by unfold maxL;simp) .empty (.inr ⟨rfl,rfl⟩) tb arg hoa _ (hTT (b++[on]) (.box (.str on::(arg.cs++res.cs++[.bool once]))))
    have hcr:=c112 p m hdl hel [] (by unfold maxL;simp) .empty (.inr ⟨rfl,rfl⟩) tb res hor _ (hTT (b++[on]) (.box (.str on::(arg.cs++res.cs++[.bool once]))))
    simp only [opnStep,opnErr]
    generalize arg.ord p []=ea at*
    generalize res.ord p []=er at*
    rcases arg with ⟨k1,n1,s1,l1,ls1,t1⟩
    rcases res with ⟨k2,n2,s2,l2,ls2,t2⟩
    simp only [Ty.cs,List.cons_append,List.nil_append] at*
    generalize tysD l1=ld1 at*
    generalize tysD l2=ld2 at*
    generalize ls1.map Lab.d=lsd1 at*
    generalize ls2.map Lab.d=lsd2 at*
    generalize hoc: [D.str on,D.int .i64 k1,D.int .i64 n1,D.str s1,D.slice ld1,D.slice lsd1,D.int .i64 t1,D.int .i64 k2,D.int .i64 n2,D.str s2,D.slice ld2,D.slice lsd2,D.int .i64 t2,D.bool once]=oc at*
    have h110:=c110 b on (σ.length+3) (σ.length+1) (onceS σ a b++τ0++τ++[Obj.box oc]) (by simp only [List.append_assoc];exact onceS_b1 ..) (by simp only [List.append_assoc];exact onceS_r1 ..) (by omega) (by omega)
    have hset: ((onceS σ a b++τ0++τ++[Obj.box oc]).set (σ.length+1) (rowS (b++[on]))).set (σ.length+3) (refS (σ.length+1) (b++[on]))=onceS σ a (b++[on])++τ0++τ++[Obj.box oc]:=by
     simp only [List.append_assoc];exact onceS_set1 ..
    rw [hset] at h110
    obtain ⟨qo,hqo⟩: ∃qo,(onceS σ a b++τ0++τ).length=qo:=⟨_,rfl⟩
    have hgc: (onceS σ a (b++[on])++τ0++τ++[Obj.box oc])[qo]? =some (.box oc):=by
     have:qo=(onceS σ a (b++[on])++τ0++τ).length:=by rw [←hqo];simp only [List.length_append,onceS_len]
     rw [this];exact getA0
    cases hh:hasS b on
    ·rw [hh] at h110
     simp only [Bool.false_eq_true,if_false] at h110 ⊢
     have e2:σ++([rowS a,rowS (b++[on]),refS σ.length a,refS (σ.length+1) (b++[on])]++τ0++τ++[Obj.box oc])=onceS σ a (b++[on])++τ0++τ++[Obj.box oc]:=by simp [onceS]
     by_cases hz1:ea=0
     ·subst hz1
      simp only [if_true]
      rw [outR_zero] at hca
      by_cases hz2:er=0
      ·subst hz2
       simp only [if_true]
       rw [outR_zero] at hcr
       refine ⟨τ++[Obj.box oc],[], ?_⟩
       simp only [←List.append_assoc]
       generalize onceS σ a (b++[on])++τ0++τ++[Obj.box oc]=σ3 at*
       generalize onceS σ a b++τ0++τ=σ2 at*
       subst hqo hoc
       simp [lp56_3,hk,hw,h2,h3,getA0,setA0,h110,hgc,hca,hcr]
      ·simp only [if_neg hz2]
       rw [outR_ne hz2] at hcr
       refine ⟨[rowS a,rowS (b++[on]),refS σ.length a,refS (σ.length+1) (b++[on])]++τ0++τ++[Obj.box oc],[(0, .ptr tb 0),(4, .func 110 [] []),(11, .ptr (σ.length+2) 0),(12, .ptr (σ.length+3) 0),(16, .ptr qo 0),(79,d79),(80,d80),(81,d81),(90, .slice (od)),(91, .int .i64 ops.length),(92, .int .i64 (k:Nat)),(105, .ptr qo 7),(106, .agg [.int .i64 k2, .int .i64 n2, .str s2, .slice ld2, .slice lsd2, .int .i64 t2])], ?_⟩
       rw [e2]
       generalize onceS σ a (b++[on])++τ0++τ++[Obj.box oc]=σ3 at*
       generalize onceS σ a b++τ0++τ=σ2 at*
       subst hqo hoc
       simp [lp56_3,hk,hw,h2,h3,getA0,setA0,h110,hgc,hca,hcr]
     ·simp only [if_neg hz1]
      rw [outR_ne hz1] at hca
      refine ⟨[rowS a,rowS (b++[on]),refS σ.length a,refS (σ.length+1) (b++[on])]++τ0++τ++[Obj.box oc],[(0, .ptr tb 0),(4, .func 110 [] []),(11, .ptr (σ.length+2) 0),(12, .ptr (σ.length+3) 0),(16, .ptr qo 0),(79,d79),(80,d80),(81,d81),(90, .slice (od)),(91, .int .i64 ops.length),(92, .int .i64 (k:Nat)),(101, .ptr qo 1),(102, .agg [.int .i64 k1, .int .i64 n1, .str s1, .slice ld1, .slice lsd1, .int .i64 t1])], ?_⟩
      rw [e2]
      generalize onceS σ a (b++[on])++τ0++τ++[Obj.box oc]=σ3 at*
      generalize onceS σ a b++τ0++τ=σ2 at*
      subst hqo hoc
      simp [lp56_3,hk,hw,h2,h3,getA0,setA0,h110,hgc,hca]
    ·rw [hh] at h110
     simp only [if_true] at h110 ⊢
     refine ⟨[rowS a,rowS b,refS σ.length a,refS (σ.length+1) b]++τ0++τ++[Obj.box oc],[(0, .ptr tb 0),(4, .func 110 [] []),(11, .ptr (σ.length+2) 0),(12, .ptr (σ.length+3) 0),(16, .ptr qo 0),(79,d79),(80,d80),(81,d81),(90, .slice (od)),(91, .int .i64 ops.length),(92, .int .i64 (k:Nat)),(97, .ptr qo 0),(98, .str on)], ?_⟩
     have e2:σ++([rowS a,rowS b,refS σ.length a,refS (σ.length+1) b]++τ0++τ++[Obj.box oc])=onceS σ a b++τ0++τ++[Obj.box oc]:=by simp [onceS]
     rw [e2]
     clear hgc
     generalize onceS σ a b++τ0++τ=σ2 at*
     subst hqo hoc
     simp [lp56_3,hk,hw,h2,h3,getA0,setA0,h110])
  (fun b τ _=>⟨τ,by
    generalize ops.map Opn.d=cd
    simp [lp56_3]⟩) b0 [] (by simp)
 simp only [List.append_nil,Int.natCast_zero] at this
 obtain ⟨τ',ev,h⟩:=this
 refine ⟨τ',ev, ?_⟩
 rw [h]
 cases foldS (opnStep p) ops 0 b0<;>rfl
def effStep (p:Prg) (_:Nat) (d:Eff) (x:List Bs × List Bs): (List Bs × List Bs) ⊕ Int:=
 if hasS x.1 d.name then .inr 5 else match foldS (opnStep p) d.ops 0 x.2 with
  | .inl b=> .inl (x.1++[d.name],b)
  | .inr e=> .inr e
set_option maxHeartbeats 1000000 in
theorem it56_4 (p:Prg) (m:CMap) (hdl:p.data.length≤maxL) (hel:p.effects.length≤12) (hok: ∀d ∈ p.effects,d.ok∧d.ops.length≤8) (tb:Nat) (σ:St) (hT:IsT σ tb p m) (a0 b0:List Bs) (ha0:a0.length≤10) (hb0:b0.length≤10):
 ∃τ' ev,iterI (evalI CI XB GI 110 false lp56_4) [(0, .ptr tb 0),(4, .func 110 [] []),(11, .ptr (σ.length+2) 0),(12, .ptr (σ.length+3) 0),(79, .slice (p.effects.map Eff.d)),(80, .int .i64 p.effects.length),(81, .int .i64 0)] (onceS σ a0 b0)=
  some (match foldS (effStep p) p.effects 0 (a0,b0) with| .inl x=>(.exit 6,[(0, .ptr tb 0),(4, .func 110 [] []),(11, .ptr (σ.length+2) 0),(12, .ptr (σ.length+3) 0),(79, .slice (p.effects.map Eff.d)),(80, .int .i64 p.effects.length),(81, .int .i64 p.effects.length),(82, .bool false)],onceS σ x.1 x.2++τ') | .inr e=>(.panic (refD e),ev,σ++τ')):=by
 have:=loop_foldP (f:=evalI CI XB GI 110 false lp56_4) p.effects (fun i _=>[(0, .ptr tb 0),(4, .func 110 [] []),(11, .ptr (σ.length+2) 0),(12, .ptr (σ.length+3) 0),(79, .slice (p.effects.map Eff.d)),(80, .int .i64 p.effects.length),(81, .int .i64 (i:Nat))]) (fun x=>onceS σ x.1 x.2) (fun i x=>x.1.length≤10+i∧x.2.length≤10+8*i) (effStep p) (fun e=> .panic (refD e)) σ (fun _=>(.exit 6,[(0, .ptr tb 0),(4, .func 110 [] []),(11, .ptr (σ.length+2) 0),(12, .ptr (σ.length+3) 0),(79, .slice (p.effects.map Eff.d)),(80, .int .i64 p.effects.length),(81, .int .i64 p.effects.length),(82, .bool false)])) (by simp) (by simp)
  (fun i hi x x' hx hs=>by
    have h8:=(hok _ (List.getElem_mem hi)).2
    unfold effStep at hs
    split at hs
    ·cases hs
    ·split at hs
     ·rename_i b hb
      cases hs
      have:=foldS_opn_len hb
      constructor
      ·simp;omega
      ·simp only;omega
     ·cases hs)
  (fun i hi x τ hx=>by
    have hw:=wrap_nat (n:=i) (by omega)
    obtain ⟨hdok,h8⟩:=hok _ (List.getElem_mem hi)
    have hget: (p.effects.map Eff.d)[i]? =some (Eff.d p.effects[i]):=by simp [hi]
    have hlen: (p.effects.map Eff.d).length=p.effects.length:=by simp
    have hel':p.effects.length≤maxL:=by unfold maxL;omega
    generalize p.effects.map Eff.d=dd at*
    have h2:i<dd.length:=by omega
    have h3:dd[i]=Eff.d p.effects[i]:=by rw [List.getElem?_eq_getElem h2] at hget;exact Option.some.inj hget
    generalize p.effects[i]=d at*
    rcases d with ⟨en,ops⟩
    rcases x with ⟨a,b⟩
    obtain ⟨hcl,hcok⟩:=hdok
    simp only [Eff.d,Eff.cs] at*
    have hxl: (ops.map Opn.d).length=ops.length:=by simp
    have h110:=c110 a en (σ.length+2) σ.length (onceS σ a b++τ++[Obj.box [.str en, .slice (ops.map Opn.d)]]) (by simp only [List.append_assoc];exact onceS_b ..) (by simp only [List.append_assoc];exact onceS_r ..) (by omega) (by omega)
    have hset: ((onceS σ a b++τ++[Obj.box [.str en, .slice (ops.map Opn.d)]]).set σ.length (rowS (a++[en]))).set (σ.length+2) (refS σ.length (a++[en]))=onceS σ (a++[en]) b++τ++[Obj.box [.str en, .slice (ops.map Opn.d)]]:=by
     simp only [List.append_assoc];exact onceS_set ..
    rw [hset] at h110
    obtain ⟨qd,hqd⟩: ∃qd,(onceS σ a b++τ).length=qd:=⟨_,rfl⟩
    have hgd: ∀b,(onceS σ (a++[en]) b++(τ++[Obj.box [.str en, .slice (ops.map Opn.d)]]))[qd]? =some (.box [.str en, .slice (ops.map Opn.d)]):=fun b'=>by
     have:qd=(onceS σ (a++[en]) b'++τ).length:=by rw [←hqd];simp only [List.length_append,onceS_len]
     rw [this,←List.append_assoc];exact getA0
    obtain ⟨τ1,ev1,hit⟩:=it56_3 p m hdl hel' ops tb σ (τ++[Obj.box [.str en, .slice (ops.map Opn.d)]]) (a++[en]) hT hcl hcok b (by omega) (.slice dd) (.int .i64 p.effects.length) (.int .i64 i)
    unfold effStep
    cases hh:hasS a en
    ·rw [hh] at h110
     have hgd:=hgd b
     simp only [←List.append_assoc] at hit hgd
     simp only [Bool.false_eq_true,if_false] at h110 ⊢
     generalize ops.map Opn.d=cd at*
     generalize hσ3:onceS σ (a++[en]) b++τ++[Obj.box [.str en, .slice cd]]=σ3 at*
     cases hz:foldS (opnStep p) ops 0 b with
     |inl b'=>
      rw [hz] at hit
      refine ⟨τ++[Obj.box [.str en, .slice cd]]++τ1,[], ?_⟩
      simp only [←List.append_assoc] at hit ⊢
      generalize onceS σ a b++τ=σ2 at*
      generalize onceS σ (a++[en]) b'++τ++[Obj.box [.str en, .slice cd]]++τ1=σ4 at*
      subst hqd
      simp [lp56_4,hi,hw,h2,h3,getA0,setA0,h110,hgd,hxl,hit]
     |inr e=>
      rw [hz] at hit
      refine ⟨τ1,ev1, ?_⟩
      generalize onceS σ a b++τ=σ2 at*
      subst hqd
      simp [lp56_4,hi,hw,h2,h3,getA0,setA0,h110,hgd,hxl,hit]
    ·rw [hh] at h110
     simp only [if_true] at h110 ⊢
     refine ⟨[rowS a,rowS b,refS σ.length a,refS (σ.length+1) b]++τ++[Obj.box [.str en, .slice (ops.map Opn.d)]],[(0, .ptr tb 0),(4, .func 110 [] []),(11, .ptr (σ.length+2) 0),(12, .ptr (σ.length+3) 0),(14, .ptr qd 0),(79, .slice (dd)),(80, .int .i64 p.effects.length),(81, .int .i64 (i:Nat)),(86, .ptr qd 0),(87, .str en)], ?_⟩
     have e2:σ++([rowS a,rowS b,refS σ.length a,refS (σ.length+1) b]++τ++[Obj.box [.str en, .slice (ops.map Opn.d)]])=onceS σ a b++τ++[Obj.box [.str en, .slice (ops.map Opn.d)]]:=by simp [onceS]
     rw [e2]
     clear hit hgd
     generalize ops.map Opn.d=cd at*
     generalize onceS σ a b++τ=σ2 at*
     subst hqd
     simp [lp56_4,hi,hw,h2,h3,getA0,setA0,h110])
  (fun x τ _=>⟨τ,by
    generalize p.effects.map Eff.d=dd
    simp [lp56_4]⟩) (a0,b0) [] (by simp;omega)
 simp only [List.append_nil,Int.natCast_zero] at this
 obtain ⟨τ',ev,h⟩:=this
 refine ⟨τ',ev, ?_⟩
 rw [h]
 cases foldS (effStep p) p.effects 0 (a0,b0)<;>rfl
def unitE:Ex:= .mk 3 0 [] [] [] [] []
def Prg.bare (p:Prg):Prg:=⟨p.data,p.effects,[],unitE⟩
def nPrint:Bs:=[112,114,105,110,116]
def nRead:Bs:=[114,101,97,100]
def Prg.ordE (p:Prg):Int:=match foldS (datStep p) p.data 0 (builtins,[]) with
 | .inr e=>e
 | .inl _=>match foldS (effStep p) p.effects 0 ([nIO],[nPrint,nRead]) with
  | .inr e=>e
  | .inl _=>0
def Prg.decls (p:Prg):Int:=orE p.bare.syn p.ordE
theorem Prg.bare_ok {p:Prg} (h:p.ok):p.bare.ok:=⟨h.dl,h.d,h.el,h.e,by unfold maxL;simp [Prg.bare],by simp [Prg.bare],by show unitE.ok;exact ⟨by simp [maxL],by simp [maxL],by simp [maxL],trivial,trivial⟩⟩
theorem firstE_zero {l:List Int} :firstE l=0↔ ∀x ∈ l,x=0:=by
 induction l with
 |nil=>simp [firstE]
 |cons a r ih=>
  simp only [firstE,List.forall_mem_cons]
  by_cases h:a=0
  ·simp [h,ih]
  ·simp [h]
theorem orE_zero {a b:Int} :orE a b=0↔a=0∧b=0:=by
 unfold orE
 by_cases h:a=0<;>simp [h]
theorem Prg.syn_data {p:Prg} (h:p.syn=0):p.data.length≤12∧p.effects.length≤12∧p.defs.length≤60∧(∀d ∈ p.data,datE d=0)∧(∀e ∈ p.effects,effE e=0)∧((nestE p.defs p.main).take 1 (3000,0)).1=true∧(∀d ∈ p.defs,dfnE d=0)∧p.main.e=0:=by
 unfold Prg.syn at h
 split at h
 ·cases h
 ·rename_i hn
  simp only [orE_zero,firstE_zero,List.forall_mem_map] at h
  obtain ⟨h1,h2,h3⟩:=h
  split at h3
  ·rename_i ht
   simp only [orE_zero,firstE_zero,List.forall_mem_map] at h3
   exact ⟨by omega,by omega,by omega,h1,h2,ht,h3.1,h3.2⟩
  ·cases h3
theorem datE_cons {d:Dat} (h:datE d=0):d.params.length≤4∧d.cons.length≤8∧upW d.name=true∧distE d.params 1=0∧ ∀c ∈ d.cons,conE c=0:=by
 unfold datE at h
 split at h
 ·cases h
 ·split at h
  ·split at h
   ·rename_i h1 h2 h3
    simp only [firstE_zero,List.forall_mem_map] at h
    exact ⟨by omega,by omega,h2,h3,h⟩
   ·rename_i h1 h2 h3
    exact absurd h h3
  ·cases h
theorem effE_ops {e:Eff} (h:effE e=0):e.ops.length≤8∧upW e.name=true∧ ∀o ∈ e.ops,opnE o=0:=by
 unfold effE at h
 split at h
 ·cases h
 ·split at h
  ·rename_i h1 h2
   simp only [firstE_zero,List.forall_mem_map] at h
   exact ⟨by omega,h2,h⟩
  ·cases h
theorem foldS_inr {α β γ:Type} {step:Nat→α→β→β ⊕ γ} {P:γ→Prop} : ∀ (l:List α) (_: ∀a ∈ l,∀i b c,step i a b= .inr c→P c) (i:Nat) (b:β) (c:γ),foldS step l i b= .inr c→P c
 | [],h,i,b,c,hc=>by cases hc
 |a::r,h,i,b,c,hc=>by
  simp only [foldS] at hc
  cases hs:step i a b with
  |inl b1=>rw [hs] at hc;exact foldS_inr r (fun x hx=>h x (List.mem_cons_of_mem _ hx)) _ _ _ hc
  |inr c1=>rw [hs] at hc;cases hc;exact h a List.mem_cons_self _ _ _ hs
theorem consStep_ne {p:Prg} {params:List Bs} {i:Nat} {c:Con} {b:List Bs} {e:Int} (h:consStep p params i c b= .inr e):e≠0:=by
 unfold consStep at h
 split at h
 ·cases h;omega
 ·split at h
  ·cases h
  ·rename_i hz;cases h;exact hz
theorem datStep_ne {p:Prg} {i:Nat} {d:Dat} {b:List Bs × List Bs} {e:Int} (h:datStep p i d b= .inr e):e≠0:=by
 unfold datStep at h
 split at h
 ·cases h;omega
 ·split at h
  ·cases h
  ·rename_i e' he
   cases h
   exact foldS_inr (P:=fun e=>e≠0) _ (fun _ _ _ _ _ h=>consStep_ne h) _ _ _ he
theorem opnStep_ne {p:Prg} {i:Nat} {c:Opn} {b:List Bs} {e:Int} (h:opnStep p i c b= .inr e):e≠0:=by
 unfold opnStep at h
 split at h
 ·cases h;omega
 ·split at h
  ·cases h
  ·rename_i hz;cases h;exact hz
theorem effStep_ne {p:Prg} {i:Nat} {d:Eff} {b:List Bs × List Bs} {e:Int} (h:effStep p i d b= .inr e):e≠0:=by
 unfold effStep at h
 split at h
 ·cases h;omega
 ·split at h
  ·cases h
  ·rename_i e' he
   cases h
   exact foldS_inr (P:=fun e=>e≠0) _ (fun _ _ _ _ _ h=>opnStep_ne h) _ _ _ he
set_option maxHeartbeats 2000000 in
theorem c56 (p:Prg) (m:CMap) (hok:p.ok) (tb:Nat) (σ:St) (hT:IsT σ tb p m):CI (.fn 56) [.ptr tb 0] σ=some (outR p.decls,σ):=by
 have h95:=fun σ=>c95 p.bare (Prg.bare_ok hok) σ
 have q95:qI 95=false:=rfl
 have x95:XB 95=false:=rfl
 have q59:qI 59=false:=rfl
 have x59:XB 59=false:=rfl
 obtain ⟨τ,hτ⟩: ∃τ,bodyI CI XB GI af56 [.ptr tb 0] σ=some (outR p.decls,σ++τ):=by
  obtain ⟨j,hj,hm⟩:=id hT
  have hcs:p.bare.cs=[.slice (p.data.map Dat.d), .slice (p.effects.map Eff.d), .slice [], .int .i64 3, .int .i64 0, .str [], .str [], .slice [], .slice [], .slice []]:=rfl
  rw [hcs] at h95
  rw [p.cs_eq] at hj
  unfold Prg.decls
  by_cases hs:p.bare.syn=0
  ·obtain ⟨hs1,hs2,_,hs3,hs4,_⟩:=Prg.syn_data hs
   rw [hs] at h95 ⊢
   obtain ⟨τ1,ev1,hit1⟩:=it56_2 p m hs1 hok.el (fun d hd=>⟨hok.d d hd,(datE_cons (hs3 d hd)).2.1⟩) tb σ hT builtins [] (by decide) (by decide)
   have hdL: (p.data.map Dat.d).length=p.data.length:=by simp
   have heL: (p.effects.map Eff.d).length=p.effects.length:=by simp
   have ho:orE 0 p.ordE=p.ordE:=rfl
   rw [ho]
   unfold Prg.ordE
   simp only [onceS,rowS,refS,builtins,nInt,nBool,nUnit,List.map_cons,List.map_nil,List.length_cons,List.length_nil] at hit1
   cases hz1:foldS (datStep p) p.data 0 ([[73,110,116],[66,111,111,108],[85,110,105,116]],[]) with
   |inr e=>
    have hne:e≠0:=foldS_inr (P:=fun e=>e≠0) _ (fun _ _ _ _ _ h=>datStep_ne h) _ _ _ hz1
    rw [hz1] at hit1
    have hz1':foldS (datStep p) p.data 0 (builtins,[])= .inr e:=hz1
    rw [hz1']
    simp only [outR_ne hne]
    refine ⟨τ1, ?_⟩
    generalize p.data.map Dat.d=dd at*
    generalize p.effects.map Eff.d=ed at*
    generalize p.defs.map Dfn.d=fd at*
    generalize p.main.cs=mc at*
    simp [bodyI,af56,hj,getO hj,fillD,fillRow,putCells,h95,c59,outR_zero,q95,x95,q59,x59,Nat.testBit_eq_decide_div_mod_eq,getA0,getA,setA,setA0,hdL,hit1]
   |inl x=>
    rw [hz1] at hit1
    have hz1':foldS (datStep p) p.data 0 (builtins,[])= .inl x:=hz1
    rw [hz1']
    simp only at hit1 ⊢
    have e1: ∀τ,∃τ',σ++[.row 1 (x.1.map .str) 0, .row 1 (x.2.map .str) 0, .box [.arr σ.length x.1.length 0 x.1.length], .box [.arr (σ.length+1) x.2.length 0 x.2.length]]++τ1++τ=σ++τ':=fun τ=>⟨_,by rw [List.append_assoc,List.append_assoc]⟩
    have hT2:IsT (σ++[.row 1 (x.1.map .str) 0, .row 1 (x.2.map .str) 0, .box [.arr σ.length x.1.length 0 x.1.length], .box [.arr (σ.length+1) x.2.length 0 x.2.length]]++τ1) tb p m:=hT.app.app
    have hj2: (σ++[.row 1 (x.1.map .str) 0, .row 1 (x.2.map .str) 0, .box [.arr σ.length x.1.length 0 x.1.length], .box [.arr (σ.length+1) x.2.length 0 x.2.length]]++τ1)[tb]? =_:=getO (getO hj)
    generalize hσ2:σ++[.row 1 (x.1.map .str) 0, .row 1 (x.2.map .str) 0, .box [.arr σ.length x.1.length 0 x.1.length], .box [.arr (σ.length+1) x.2.length 0 x.2.length]]++τ1=σ2 at*
    obtain ⟨τ2,ev2,hit2⟩:=it56_4 p m hok.dl hs2 (fun d hd=>⟨hok.e d hd,(effE_ops (hs4 d hd)).1⟩) tb σ2 hT2 [nIO] [nPrint,nRead] (by decide) (by decide)
    simp only [onceS,rowS,refS,nIO,nPrint,nRead,List.map_cons,List.map_nil,List.length_cons,List.length_nil] at hit2
    cases hz2:foldS (effStep p) p.effects 0 ([[73,79]],[[112,114,105,110,116],[114,101,97,100]]) with
    |inr e=>
     have hne:e≠0:=foldS_inr (P:=fun e=>e≠0) _ (fun _ _ _ _ _ h=>effStep_ne h) _ _ _ hz2
     rw [hz2] at hit2
     have hz2':foldS (effStep p) p.effects 0 ([nIO],[nPrint,nRead])= .inr e:=hz2
     rw [hz2']
     simp only [outR_ne hne] at hit2 ⊢
     obtain ⟨τ',hτ'⟩:=e1 τ2
     refine ⟨τ', ?_⟩
     rw [←hτ']
     generalize p.data.map Dat.d=dd at*
     generalize p.effects.map Eff.d=ed at*
     generalize p.defs.map Dfn.d=fd at*
     generalize p.main.cs=mc at*
     simp [bodyI,af56,hj,getO hj,fillD,fillRow,putCells,h95,c59,outR_zero,q95,x95,q59,x59,Nat.testBit_eq_decide_div_mod_eq,getA0,getA,setA,setA0,hdL,heL,hit1,hj2,getO hj2,hit2]
    |inl y=>
     rw [hz2] at hit2
     have hz2':foldS (effStep p) p.effects 0 ([nIO],[nPrint,nRead])= .inl y:=hz2
     rw [hz2']
     simp only [outR_zero] at hit2 ⊢
     obtain ⟨τ',hτ'⟩:=e1 ([.row 1 (y.1.map .str) 0, .row 1 (y.2.map .str) 0, .box [.arr σ2.length y.1.length 0 y.1.length], .box [.arr (σ2.length+1) y.2.length 0 y.2.length]]++τ2)
     refine ⟨τ', ?_⟩
     rw [←hτ',←List.append_assoc]
     generalize p.data.map Dat.d=dd at*
     generalize p.effects.map Eff.d=ed at*
     generalize p.defs.map Dfn.d=fd at*
     generalize p.main.cs=mc at*
     simp [bodyI,af56,hj,getO hj,fillD,fillRow,putCells,h95,c59,outR_zero,q95,x95,q59,x59,Nat.testBit_eq_decide_div_mod_eq,getA0,getA,setA,setA0,hdL,heL,hit1,hj2,getO hj2,hit2]
  ·refine ⟨[], ?_⟩
   have ho:orE p.bare.syn p.ordE=p.bare.syn:=by unfold orE;rw [if_neg hs]
   rw [ho,outR_ne hs]
   generalize p.bare.syn=e at*
   generalize p.data.map Dat.d=dd at*
   generalize p.effects.map Eff.d=ed at*
   generalize p.defs.map Dfn.d=fd at*
   generalize p.main.cs=mc at*
   simp [bodyI,af56,hj,fillD,putCells,h95,c59,outR_ne hs,q95,x95,q59,x59,Nat.testBit_eq_decide_div_mod_eq]
 exact CI_out tab56 hτ
theorem c54 (g:Nat) (first captured:List D) (e:Int) (σ:St) (h:CI (.fn g) (first++captured) (σ++[.box [.int .i64 0]])=some (outR e,σ++[.box [.int .i64 0]])):
 CI (.fn 54) [.func g first captured] σ=some (.ret (.int .i64 e),σ):=by
 have hev:evalCatch CI 154 [.func g first captured] σ=some (.ret (.int .i64 e),σ++[.box [.int .i64 e]]):=by
  unfold evalCatch
  simp only [h]
  by_cases he:e=0
  ·subst he
   rw [outR_zero]
   simp [getA0,setA0]
  ·rw [outR_ne he]
   simp [refD,getA0,setA0]
 exact callI_catch (ty:=154) postN ext_none rfl rfl hev (postI_tree rfl)
def findConL (s:Bs):List Dat→Nat→Option (Nat × Nat)
 | [],_=>none
 |d::r,i=>match d.cons.findIdx? (fun c=>c.name==s) with
  |some k=>some (i,k)
  |none=>findConL s r (i+1)
def conD:Option (Nat × Nat)→D
 |some (i,k)=> .tuple [.int .i64 i, .int .i64 k, .int .i64 0]
 |none=> .tuple [.int .i64 0, .int .i64 0, .int .i64 6]
theorem seekM_con (s:Bs): ∀ (l:List Dat) (i:Nat),seekM (fun i (d:Dat)=>(d.cons.findIdx? (fun c=>c.name==s)).map fun k=>(i,k)) l i=findConL s l i
 | [],i=>rfl
 |d::r,i=>by
  simp only [seekM,findConL]
  cases d.cons.findIdx? (fun c=>c.name==s) with
  |some k=>rfl
  |none=>exact seekM_con s r (i+1)
theorem strip_one (n:Nat) (σ:St) (d:D) (h:d.tree=true):strip n σ d=some d:=by cases n<;>simp [strip,h]
theorem leads_one (n:Nat) (σ:St) (d:D) (h:d.tree=true):leads n σ d=[]:=by cases n<;>simp [leads,h]
theorem strip_list (n:Nat) (σ:St): ∀ (es:List D),treeL es=true→es.mapM (strip n σ)=some es
 | [],_=>rfl
 |d::r,h=>by
  simp only [treeL,Bool.and_eq_true] at h
  rw [List.mapM_cons,strip_one n σ d h.1,strip_list n σ r h.2]
  rfl
theorem leads_list (n:Nat) (σ:St): ∀ (es:List D),treeL es=true→es.flatMap (leads n σ)=[]
 | [],_=>rfl
 |d::r,h=>by
  simp only [treeL,Bool.and_eq_true] at h
  rw [List.flatMap_cons,leads_one n σ d h.1,leads_list n σ r h.2]
  rfl
theorem strip_row {σ:St} {r sz since:Nat} {es:List D} (hr:σ[r]? =some (.row sz es since)) (hs:since≤es.length) (h:treeL es=true) (n:Nat):
 strip (n+1) σ (.arr r es.length 0 es.length)=some (.slice es)∧leads (n+1) σ (.arr r es.length 0 es.length)=[r]:=by
 have hrow:rowOf σ (.arr r es.length 0 es.length)=some es:=by simp [rowOf,hr,hs]
 constructor
 ·unfold strip
  simp only [D.tree,Bool.false_eq_true,if_false,hrow,strip_list _ _ es h]
  rfl
 ·unfold leads
  simp only [D.tree,Bool.false_eq_true,if_false,hrow,leads_list _ _ es h]
theorem postI_row {q:FuncId→Bool} {f:FuncId} {σ τ:St} {r sz:Nat} {es:List D} {since:Nat} (hr: (σ++τ)[r]? =some (.row sz es since)) (hn:σ.length≤r) (hs:since≤es.length) (h:treeL es=true):
 postI q f σ (some (.ret (.arr r es.length 0 es.length),σ++τ))=some (.ret (.slice (weakL es)),σ):=by
 obtain ⟨hst,hle⟩:=strip_row hr hs h 15
 rw [postI_rows hst (by rw [hle];simpa using hn)]
 rfl
def opNames (p:Prg) (i:Int):List Bs:=if i<0 then [nPrint,nRead] else match p.effects[i.toNat]? with|some e=>e.ops.map Opn.name|none=>[]
def findOpL (s:Bs):List Eff→Nat→Option (Nat × Nat)
 | [],_=>none
 |e::r,i=>match (e.ops.map Opn.name).findIdx? (· ==s) with
  |some k=>some (i,k)
  |none=>findOpL s r (i+1)
end Go.AI
namespace Go.AI
open Go Go.Proofs Go.Lx
end Go.AI
namespace Go.AI
open Go Go.Proofs Go.Lx
set_option maxRecDepth 100000
def lookC (m:CMap) (s:Bs):Option (Nat × Nat):=(m.find? (fun x=>x.1==s)).map (·.2)
theorem lookC_addC (i k:Nat) (c:Con) (m:CMap) (s:Bs):lookC (addC i k c m) s=(lookC m s).or (if c.name==s then some (i,k) else none):=by
 unfold addC lookC
 cases h:m.find? (fun x=>x.1==c.name) with
 |some v=>
  simp only
  by_cases hs:c.name=s
  ·subst hs
   rw [h];rfl
  ·have: (c.name==s)=false:=by simpa using hs
   rw [this]
   simp
 |none=>
  simp only [List.find?_append,List.find?_cons,List.find?_nil]
  cases h2:m.find? (fun x=>x.1==s) with
  |some v=>simp
  |none=>cases hc:c.name==s<;>simp
theorem lookC_addCs (i:Nat) (s:Bs): ∀ (l:List Con) (k:Nat) (m:CMap),lookC (addCs i l k m) s=(lookC m s).or ((l.findIdx? (fun c=>c.name==s)).map fun q=>(i,k+q))
 | [],k,m=>by simp [addCs]
 |c::r,k,m=>by
  rw [addCs,lookC_addCs i s r (k+1),lookC_addC,List.findIdx?_cons]
  cases hc:c.name==s
  ·simp only [Bool.false_eq_true,if_false,Option.or_none]
   congr 1
   rw [Option.map_map]
   congr 1
   funext q
   simp only [Function.comp]
   congr 1;omega
  ·cases lookC m s<;>simp
theorem lookC_addDs (s:Bs): ∀ (l:List Dat) (i:Nat) (m:CMap),lookC (addDs l i m) s=(lookC m s).or (findConL s l i)
 | [],i,m=>by simp [addDs,findConL]
 |d::r,i,m=>by
  rw [addDs,lookC_addDs s r (i+1),lookC_addCs,findConL]
  cases d.cons.findIdx? (fun c=>c.name==s) with
  |some q=>cases lookC m s<;>simp
  |none=>simp
theorem lookC_cm (p:Prg) (s:Bs):lookC p.cm s=findConL s p.data 0:=by
 unfold Prg.cm
 rw [lookC_addDs]
 simp [lookC]
theorem cm_find (p:Prg) (s:Bs): (p.cm.find? (fun x=>x.1==s)).map (fun x=>plD x.2)=(findConL s p.data 0).map plD:=by
 rw [←lookC_cm];unfold lookC;rw [Option.map_map];rfl
theorem findConL_some (s:Bs): ∀ (l:List Dat) (off i k:Nat),findConL s l off=some (i,k)→ ∃j,i=off+j∧ ∃d,l[j]? =some d∧ ∃c,d.cons[k]? =some c∧c.name=s
 | [],off,i,k,h=>by cases h
 |d::r,off,i,k,h=>by
  rw [findConL] at h
  cases hf:d.cons.findIdx? (fun c=>c.name==s) with
  |some q=>
   rw [hf] at h
   cases h
   obtain ⟨h1,h2,_⟩:=List.findIdx?_eq_some_iff_getElem.1 hf
   exact ⟨0,rfl,d,rfl,_,List.getElem?_eq_getElem h1,by simpa using h2⟩
  |none=>
   rw [hf] at h
   obtain ⟨j,hj,d',hd,hc⟩:=findConL_some s r (off+1) i k h
   exact ⟨j+1,by omega,d',by simpa using hd,hc⟩
def Prg.conOf (p:Prg) (s:Bs):Option (Dat × Con):=match findConL s p.data 0 with
 |some (i,k)=>(p.data[i]?).bind fun d=>(d.cons[k]?).map fun c=>(d,c)
 |none=>none
theorem conOf_some {p:Prg} {s:Bs} {i k:Nat} (h:findConL s p.data 0=some (i,k)): ∃ (hi:i<p.data.length) (hk:k<p.data[i].cons.length),p.conOf s=some (p.data[i],p.data[i].cons[k])∧p.data[i].cons[k].name=s:=by
 obtain ⟨j,hj,d,hd,c,hc,hn⟩:=findConL_some s p.data 0 i k h
 have:j=i:=by omega
 subst this
 obtain ⟨hi,rfl⟩:=List.getElem?_eq_some_iff.1 hd
 obtain ⟨hk,rfl⟩:=List.getElem?_eq_some_iff.1 hc
 exact ⟨hi,hk,by unfold Prg.conOf;rw [h];simp [hi,hk],hn⟩
theorem conOf_none {p:Prg} {s:Bs} (h:findConL s p.data 0=none):p.conOf s=none:=by unfold Prg.conOf;rw [h]
def conErr (p:Prg) (s:Bs) (n:Nat):Int:=match p.conOf s with
 |none=>6
 |some (_,c)=>if c.args.length=n then 0 else 7
mutual
theorem D.eqb_tree: ∀ (d:D),d.tree=true→d.eqb d=true
 | .bool b,_=>by simp [D.eqb]
 | .int k n,_=>by simp [D.eqb]
 | .str s,_=>by simp [D.eqb]
 | .nilptr,_| .empty,_| .nilmap,_| .nilfunc,_| .niliface,_=>rfl
 | .slice es,h| .agg es,h| .tuple es,h=>by simp only [D.tree,D.eqb] at*;exact eqbL_tree es h
 | .func f a b,h=>by
  simp only [D.tree,Bool.and_eq_true] at h
  simp only [D.eqb,Bool.and_eq_true]
  exact ⟨⟨by simp,eqbL_tree a h.1⟩,eqbL_tree b h.2⟩
 | .iface t v,h=>by
  simp only [D.tree] at h
  simp only [D.eqb,Bool.and_eq_true]
  exact ⟨by simp,D.eqb_tree v h⟩
 | .ptr _ _,h| .rptr _ _ _ _,h| .tptr _,h| .arr _ _ _ _,h| .map _,h| .yield _,h| .undef,h| .any,h=>by simp [D.tree] at h
theorem eqbL_tree: ∀ (l:List D),treeL l=true→eqbL l l=true
 | [],_=>rfl
 |d::r,h=>by
  simp only [treeL,Bool.and_eq_true] at h
  simp only [eqbL,Bool.and_eq_true]
  exact ⟨D.eqb_tree d h.1,eqbL_tree r h.2⟩
end
def all2 {α β:Type} (P:α→β→Bool):List α→List β→Bool
 | [],[]=>true
 |a::r,b::s=>P a b&&all2 P r s
 |_,_=>false
def matchErr (p:Prg) (arms:List Arm):Int:=match arms with
 | []=>9
 |a::_=>match p.conOf a.op with
  |none=>6
  |some (d,_)=>if all2 (fun (c:Con) (a:Arm)=>c.name==a.op) d.cons arms then (if all2 (fun (c:Con) (a:Arm)=>decide (c.args.length=a.names.length)) d.cons arms then 0 else 7) else 9
theorem q34:qI 34=false:=rfl
theorem x34:XB 34=false:=rfl
def opErr (p:Prg) (s:Bs):Int:=match findOpL s p.effects 0 with
 |some _=>0
 |none=>if hasS [nPrint,nRead] s then 0 else 6
def useE (p:Prg) (s:Bs):Int:=if s==nIO then 5 else findEffE p.effects s
def usingErr (p:Prg) (names:List Bs):Int:=firstE (names.tail.map (useE p))
def handlerErr (p:Prg) (s:Bs) (arms:List Arm):Int:=
 if findEffE p.effects s=0 then (if all2 (fun (o:Bs) (a:Arm)=>o==a.op) (opNames p (findEffI p.effects s)) arms.tail then 0 else 9) else findEffE p.effects s
section
variable {β:Type} (step:Ex→β→β ⊕ Int)
mutual
def Ex.walk:Ex→β→β ⊕ Int
 | .mk k n s t names l arms,b=>match step (.mk k n s t names l arms) b with
  | .inr e=> .inr e
  | .inl b1=>match exsWalk l b1 with
   | .inr e=> .inr e
   | .inl b2=>armsWalk arms b2
def exsWalk:List Ex→β→β ⊕ Int
 | [],b=> .inl b
 |x::r,b=>match x.walk b with
  | .inr e=> .inr e
  | .inl b1=>exsWalk r b1
def armsWalk:List Arm→β→β ⊕ Int
 | [],b=> .inl b
 | .mk _ _ x::r,b=>match x.walk b with
  | .inr e=> .inr e
  | .inl b1=>armsWalk r b1
end
end
theorem postI_same {q:FuncId→Bool} {f:FuncId} {A A' τ1:St} {d:D} (hl:A'.length=A.length) (hk: ∀j,j<A.length→A'[j]? =A[j]? ∨ ∃o,A'[j]? =some o∧o.under A.length) (hd:d.tree=true) (hq:q f=false):
 postI q f A (some (.ret d,A'++τ1))=some (.ret d.weak,A'):=by
 have hK:Keeps A (A'++τ1):=fun j hj=>by
  rw [List.getElem?_append_left (by omega)];exact hk j hj
 rw [postI_ret hK (trimV_tree hd) (by simp [hq]),←hl,List.take_left]
theorem postI_same_panic {q:FuncId→Bool} {f:FuncId} {A A' τ1:St} {d:D} (hl:A'.length=A.length) (hk: ∀j,j<A.length→A'[j]? =A[j]? ∨ ∃o,A'[j]? =some o∧o.under A.length) (hd:d.tree=true):
 postI q f A (some (.panic d,A'++τ1))=some (.panic d,A'):=by
 have hK:Keeps A (A'++τ1):=fun j hj=>by
  rw [List.getElem?_append_left (by omega)];exact hk j hj
 rw [postI_pan hK hd,←hl,List.take_left]
section
variable {β:Type} (i2 y s i:Nat) (o:β→Obj) (I:β→Prop) (step:Ex→β→β ⊕ Int) (σ SP:St)
end
def Ex.ordErr (p:Prg):Ex→Int
 | .mk k _ s t names l arms=>if k=10 then conErr p s l.length else if k=11 then matchErr p arms else if k=12 then opErr p s else if k=13 then opErr p t
  else if k=14 then handlerErr p s arms else if k=15 then handlerErr p s arms else if k=16 then findEffE p.effects s else if k=17 then usingErr p names else 0
def loop96 (qm:Nat) (fd:D) (st:LoopState):Obj:= .loop 40 [(4, .ptr qm 0),(27,fd),(28, .any)] [28] as96_0 bd96_1 st none
theorem IsT.set {σ:St} {t:Nat} {p:Prg} {m:CMap} {i qm:Nat} {fd:D} {st:LoopState} {o:Obj} (h:IsT σ t p m) (hi:σ[i]? =some (loop96 qm fd st)):IsT (σ.set i o) t p m:=by
 obtain ⟨j,h1,h2⟩:=h
 have n1:i≠t:=fun he=>by rw [he,h1] at hi;unfold loop96 at hi;cases hi
 have n2:i≠j:=fun he=>by rw [he,h2] at hi;unfold loop96 at hi;cases hi
 exact ⟨j,by rw [List.getElem?_set_ne n1];exact h1,by rw [List.getElem?_set_ne n2];exact h2⟩
def ordStep (p:Prg) (x:Ex) (_:Unit):Unit ⊕ Int:=if x.ordErr p=0 then .inl () else .inr (x.ordErr p)
def Ex.ordE (p:Prg) (e:Ex):Int:=match e.walk (ordStep p) () with| .inl _=>0| .inr err=>err
section
variable {β:Type} {step:Ex→β→β ⊕ Int}
end
def Ex.chk (e:Ex):Int:=if (e.take 1 (3000,0)).1 then e.e else 3
theorem Ex.chk_e {e:Ex} (h:e.chk=0):e.e=0∧(e.take 1 (3000,0)).1=true:=by
 unfold Ex.chk at h
 split at h
 ·rename_i ht;exact ⟨h,ht⟩
 ·cases h
def Prg.chk (p:Prg):Int:=orE p.syn (orE p.decls (orE (firstE (p.defs.map fun d=>d.body.ordE p)) (p.main.ordE p)))
theorem c123 (p:Prg) (hdl:p.data.length≤maxL) (s:Bs) (σ:St):CI (.fn 123) [.agg p.cs, .str s] σ=some (.ret (.int .i64 (idxOf (fun x:Dat=>x.name==s) p.data)),σ):=by
 have hall:=p.cs_all
 have hh:p.cs.head?=some (.slice (p.data.map Dat.d)):=by rw [p.cs_eq];rfl
 have hlen: (p.data.map Dat.d).length=p.data.length:=by simp
 have hq: (σ++[Obj.box p.cs])[σ.length]? =some (.box p.cs):=getA0
 have hit:=loop_find (f:=evalI CI XB GI 22 false lp123_0) (σ:=σ++[.box p.cs]) p.data (fun i=>[(1, .str s),(2, .ptr σ.length 0),(5, .int .i64 (i:Nat))]) (fun x:Dat=>x.name==s) (fun i=>(.ret,[(4, .int .i64 (i:Nat))],σ++[.box p.cs])) (.exit 0,[(1, .str s),(2, .ptr σ.length 0),(5, .int .i64 p.data.length),(10, .bool false)],σ++[.box p.cs]) (by simp) (by simp)
  (fun i hi=>by
    have hw:=wrap_nat (n:=i) (by unfold maxL at hdl;omega)
    have hget: (p.data.map Dat.d)[i]? =some (Dat.d p.data[i]):=by simp [hi]
    generalize σ++[.box p.cs]=σ1 at*
    generalize p.data.map Dat.d=dd at*
    have h2:i<dd.length:=by omega
    have h3:dd[i]=Dat.d p.data[i]:=by rw [List.getElem?_eq_getElem h2] at hget;exact Option.some.inj hget
    generalize p.data[i]=d at*
    rcases d with ⟨dn,dp,dc⟩
    simp only [Dat.d,Dat.cs,slD] at*
    generalize dp.map D.str=pd at*
    generalize dc.map Con.d=cd at*
    generalize p.cs=pc at*
    cases hb:dn==s<;>simp [lp123_0,hq,hh,hi,hw,hlen,h2,h3,hb]) (by
    generalize σ++[.box p.cs]=σ1 at*
    generalize p.data.map Dat.d=dd at*
    generalize p.cs=pc at*
    simp [lp123_0,hq,hh,hlen])
 rw [Int.natCast_zero] at hit
 refine CI_tree tab123 (d:= .int .i64 (idxOf (fun x:Dat=>x.name==s) p.data)) (τ:=[.box p.cs]) ?_ rfl rfl
 unfold idxOf
 have hb: ∀x,bodyI CI XB GI af123 [.agg p.cs, .str s] σ=x→bodyI CI XB GI af123 [.agg p.cs, .str s] σ=x:=fun _ h=>h
 generalize p.cs=pc at*
 cases hf:p.data.findIdx? (fun x:Dat=>x.name==s)<;>(rw [hf] at hit;simp [bodyI,af123,hall,hit])
theorem c35 (p:Prg) (hel:p.effects.length≤maxL) (s:Bs) (σ:St):CI (.fn 35) [.agg p.cs, .str s] σ=some (.ret (.tuple [.int .i64 (findEffI p.effects s), .int .i64 (findEffE p.effects s)]),σ):=by
 have hall:=p.cs_all
 have hpl:=p.cs_len
 have hh:p.cs[1]? =some (.slice (p.effects.map Eff.d)):=by rw [p.cs_eq];rfl
 have hlen: (p.effects.map Eff.d).length=p.effects.length:=by simp
 have hq: (σ++[Obj.box p.cs])[σ.length]? =some (.box p.cs):=getA0
 have hit:=loop_find (f:=evalI CI XB GI 25 false lp35_0) (σ:=σ++[.box p.cs]) p.effects (fun i=>[(1, .str s),(2, .ptr σ.length 0),(6, .int .i64 (i:Nat))]) (fun x:Eff=>x.name==s) (fun i=>(.ret,[(4, .int .i64 (i:Nat)),(5, .int .i64 0)],σ++[.box p.cs])) (.exit 0,[(1, .str s),(2, .ptr σ.length 0),(6, .int .i64 p.effects.length),(11, .bool false)],σ++[.box p.cs]) (by simp) (by simp)
  (fun i hi=>by
    have hw:=wrap_nat (n:=i) (by unfold maxL at hel;omega)
    have hget: (p.effects.map Eff.d)[i]? =some (Eff.d p.effects[i]):=by simp [hi]
    generalize σ++[.box p.cs]=σ1 at*
    generalize p.effects.map Eff.d=dd at*
    have h2:i<dd.length:=by omega
    have h3:dd[i]=Eff.d p.effects[i]:=by rw [List.getElem?_eq_getElem h2] at hget;exact Option.some.inj hget
    generalize p.effects[i]=d at*
    rcases d with ⟨dn,ops⟩
    simp only [Eff.d,Eff.cs] at*
    generalize ops.map Opn.d=cd at*
    generalize p.cs=pc at*
    have hh2: ∀h:1<pc.length,pc[1]= .slice dd:=fun h=>by rw [List.getElem?_eq_getElem h] at hh;exact Option.some.inj hh
    cases hb:dn==s<;>simp [lp35_0,hq,hpl,hh2,hi,hw,hlen,h2,h3,hb]) (by
    generalize σ++[.box p.cs]=σ1 at*
    generalize p.effects.map Eff.d=dd at*
    generalize p.cs=pc at*
    have hh2: ∀h:1<pc.length,pc[1]= .slice dd:=fun h=>by rw [List.getElem?_eq_getElem h] at hh;exact Option.some.inj hh
    simp [lp35_0,hq,hpl,hh2,hlen])
 rw [Int.natCast_zero] at hit
 refine CI_tree tab35 (d:= .tuple [.int .i64 (findEffI p.effects s), .int .i64 (findEffE p.effects s)]) (τ:=[.box p.cs]) ?_ rfl rfl
 unfold findEffI findEffE idxOf nIO
 generalize p.cs=pc at*
 cases hf:p.effects.findIdx? (fun x:Eff=>x.name==s) with
 |some k=>
  rw [hf] at hit
  have: (0:Int)≤(k:Int):=by omega
  simp [bodyI,af35,hall,hit]
 |none=>
  rw [hf] at hit
  cases hs:s==[73,79]<;>simp [bodyI,af35,hall,hit,hs]
theorem it31_0 (p:Prg) (hok:p.ok) (s:Bs) (i:Nat) (hi:i<p.data.length) (q:Nat) (σ:St) (hq:σ[q]? =some (.box p.cs)):
 iterI (evalI CI XB GI 41 false lp31_0) [(1, .str s),(2, .ptr q 0),(7, .int .i64 i),(8, .int .i64 0)] σ=
  some (match p.data[i].cons.findIdx? (fun c=>c.name==s) with|some k=>(.ret,[(4, .int .i64 i),(5, .int .i64 (k:Nat)),(6, .int .i64 0)],σ) |none=>(.exit 2,[(1, .str s),(2, .ptr q 0),(7, .int .i64 i),(8, .int .i64 p.data[i].cons.length),(24, .bool false)],σ)):=by
 have hx:=hok.d _ (List.getElem_mem hi)
 have hh:p.cs.head?=some (.slice (p.data.map Dat.d)):=by rw [p.cs_eq];rfl
 have hget: (p.data.map Dat.d)[i]? =some (Dat.d p.data[i]):=by simp [hi]
 have hlen: (p.data.map Dat.d).length=p.data.length:=by simp
 generalize p.data.map Dat.d=dd at*
 have h2:i<dd.length:=by omega
 have h3:dd[i]=Dat.d p.data[i]:=by rw [List.getElem?_eq_getElem h2] at hget;exact Option.some.inj hget
 generalize p.data[i]=d at*
 rcases d with ⟨dn,params,cons⟩
 obtain ⟨_,hcl,_⟩:=hx
 simp only [Dat.d,Dat.cs,slD] at*
 have hcdl: (cons.map Con.d).length=cons.length:=by simp
 have hcg: ∀k (hk:k<cons.length),(cons.map Con.d)[k]? =some (Con.d cons[k]):=fun k hk=>by simp [hk]
 generalize cons.map Con.d=cd at*
 generalize params.map D.str=pd at*
 generalize p.cs=pc at*
 have:=loop_find (f:=evalI CI XB GI 41 false lp31_0) (σ:=σ) cons (fun k=>[(1, .str s),(2, .ptr q 0),(7, .int .i64 i),(8, .int .i64 (k:Nat))]) (fun c=>c.name==s) (fun k=>(.ret,[(4, .int .i64 i),(5, .int .i64 (k:Nat)),(6, .int .i64 0)],σ)) (.exit 2,[(1, .str s),(2, .ptr q 0),(7, .int .i64 i),(8, .int .i64 cons.length),(24, .bool false)],σ) (by simp) (by simp)
  (fun k hk=>by
    have hw:=wrap_nat (n:=k) (by unfold maxL at hcl;omega)
    have hcg:=hcg k hk
    have h4:k<cd.length:=by omega
    have h5:cd[k]=Con.d cons[k]:=by rw [List.getElem?_eq_getElem h4] at hcg;exact Option.some.inj hcg
    generalize cons[k]=c at*
    rcases c with ⟨cn,args⟩
    simp only [Con.d,Con.cs] at*
    generalize tysD args=ad at*
    cases hb:cn==s<;>simp [lp31_0,hq,hh,h2,h3,h4,h5,hk,hw,hcdl,hb])
  (by simp [lp31_0,hq,hh,h2,h3,hcdl])
 rw [Int.natCast_zero] at this
 exact this
theorem c31 (p:Prg) (hok:p.ok) (s:Bs) (σ:St):CI (.fn 31) [.agg p.cs, .str s] σ=some (.ret (conD (findConL s p.data 0)),σ):=by
 obtain ⟨τ,hτ⟩: ∃τ,bodyI CI XB GI af31 [.agg p.cs, .str s] σ=some (.ret (conD (findConL s p.data 0)),σ++τ):=by
  have hdl:=hok.dl
  have hall:=p.cs_all
  have hh:p.cs.head?=some (.slice (p.data.map Dat.d)):=by rw [p.cs_eq];rfl
  have hlen: (p.data.map Dat.d).length=p.data.length:=by simp
  obtain ⟨τ,hit⟩:=loop_seekM (f:=evalI CI XB GI 41 false lp31_1) (σ:=σ++[.box p.cs]) p.data (fun i=>[(1, .str s),(2, .ptr σ.length 0),(7, .int .i64 (i:Nat))])
   (fun i (d:Dat)=>(d.cons.findIdx? (fun c=>c.name==s)).map fun k=>(i,k)) (fun x=>(.ret,[(4, .int .i64 x.1),(5, .int .i64 x.2),(6, .int .i64 0)])) (.exit 0,[(1, .str s),(2, .ptr σ.length 0),(7, .int .i64 p.data.length),(13, .bool false)]) (by simp) (by simp)
   (fun i hi τ=>by
     have hw:=wrap_nat (n:=i) (by unfold maxL at hdl;omega)
     have hq: (σ++[Obj.box p.cs]++τ)[σ.length]? =some (.box p.cs):=by rw [List.append_assoc];exact getA0
     have h0:=it31_0 p hok s i hi σ.length _ hq
     refine ⟨τ, ?_⟩
     generalize σ++[.box p.cs]++τ=σ1 at*
     generalize p.data.map Dat.d=dd at*
     generalize p.cs=pc at*
     cases hf:p.data[i].cons.findIdx? (fun c=>c.name==s) with
     |some k=>
      rw [hf] at h0
      simp [lp31_1,hq,hh,hi,hw,hlen,h0]
     |none=>
      rw [hf] at h0
      simp [lp31_1,hq,hh,hi,hw,hlen,h0]) (fun τ=>⟨τ,by
     have hq: (σ++[Obj.box p.cs]++τ)[σ.length]? =some (.box p.cs):=by rw [List.append_assoc];exact getA0
     generalize σ++[.box p.cs]++τ=σ1 at*
     generalize p.data.map Dat.d=dd at*
     generalize p.cs=pc at*
     simp [lp31_1,hq,hh,hlen]⟩) []
  rw [seekM_con,List.append_nil,Int.natCast_zero] at hit
  refine ⟨[.box p.cs]++τ, ?_⟩
  rw [←List.append_assoc]
  generalize hσ1:σ++[.box p.cs]++τ=σ1 at*
  generalize p.cs=pc at*
  cases hf:findConL s p.data 0 with
  |some x=>
   rw [hf] at hit
   simp [bodyI,af31,hall,hit,conD]
  |none=>
   rw [hf] at hit
   simp [bodyI,af31,hall,hit,conD]
 exact CI_tree tab31 hτ (by unfold conD;split<;>rfl) (by unfold conD;split<;>rfl)
def tyI:Ty:= .mk 2 0 [] [] [] 0
theorem c122e (s:Bs) (σ:St):CI (.fn 122) [.empty, .str s] σ=some (.ret (.bool false),σ):=by
 have h:iterI (evalI CI XB GI 19 false lp152_0) [(0, .empty),(1, .str s),(5, .int .i64 0)] σ=some (.exit 0,[(0, .empty),(1, .str s),(5, .int .i64 0),(9, .bool false)],σ):=iterI_end (by simp [lp152_0]) (by simp)
 have h152:CI (.fn 152) [.empty, .str s] σ=some (.ret (.int .i64 (-1)),σ):=by
  refine CI_tree0 tab152 (d:= .int .i64 (-1)) ?_ rfl rfl
  simp [bodyI,af152,h]
 refine CI_tree0 tab122 (d:= .bool false) ?_ rfl rfl
 simp [bodyI,af122,h152]
theorem k122e {pd:D} {l:List Bs} (h:StrsD pd l) (hl:l.length≤maxL) (s:Bs) (σ:St):CI (.fn 122) [pd, .str s] σ=some (.ret (.bool (hasS l s)),σ):=by
 rcases h with rfl| ⟨rfl,rfl⟩
 ·exact h122 l s σ hl
 ·exact c122e s σ
def datErr (p:Prg) (s:Bs) (n:Nat):Int:=match p.data.find? (fun x:Dat=>x.name==s) with|none=>6|some d=>if d.params.length=n then 0 else 7
def ordRN (p:Prg) (params:List Bs) (k:Int) (s:Bs) (n:Nat) (ls:List Lab):Int:=
 if k=1∧hasS params s=false then 6 else if k=6∧datErr p s n≠0 then datErr p s n else firstE (ls.map fun x=>findEffE p.effects x.s)
mutual
def Ty.ordR (p:Prg) (params:List Bs):Ty→Int
 | .mk k _ s l ls _=>if ordRN p params k s l.length ls=0 then tysOrdR p params l else ordRN p params k s l.length ls
def tysOrdR (p:Prg) (params:List Bs):List Ty→Int
 | []=>0
 |t::r=>if t.ordR p params=0 then tysOrdR p params r else t.ordR p params
end
theorem tysOrdR_first (p:Prg) (params:List Bs): ∀ (l:List Ty),tysOrdR p params l=firstE (l.map fun t=>t.ordR p params)
 | []=>rfl
 |t::r=>by simp only [tysOrdR,List.map_cons,firstE,tysOrdR_first p params r]
set_option maxHeartbeats 2000000 in
theorem c73 (p:Prg) (hdl:p.data.length≤maxL) (hel:p.effects.length≤maxL) (params:List Bs) (hpar:params.length≤maxL) (pd:D) (hpd:StrsD pd params):
 ∀ (t:Ty),t.ok→ ∀ (σ:St),CI (.fn 73) [.agg p.cs,pd, .agg t.cs] σ=some (.ret (.int .i64 (t.ordR p params)),σ)
 | .mk k n s l ls tail,hok,σ=>by
  obtain ⟨hl1,hl2,hl3⟩:=hok
  have hpl:=p.cs_len
  have hpt:=p.cs_take
  have hpa:=p.cs_all
  have q35:qI 35=false:=rfl
  have x35:XB 35=false:=rfl
  have q73:qI 73=false:=rfl
  have x73:XB 73=false:=rfl
  have hq1: (σ++[Obj.box p.cs, .box (Ty.mk k n s l ls tail).cs])[σ.length]? =some (.box p.cs):=getA0
  have hq2: (σ++[Obj.box p.cs, .box (Ty.mk k n s l ls tail).cs])[σ.length+1]? =some (.box [.int .i64 k, .int .i64 n, .str s, .slice (tysD l), .slice (ls.map Lab.d), .int .i64 tail]):=getA
  have hlen:=tysD_len l
  have hlsl: (ls.map Lab.d).length=ls.length:=by simp
  have h35:=fun s σ=>c35 p hel s σ
  have it0:iterI (evalI CI XB GI 84 false lp73_0) [(1,pd),(3, .ptr σ.length 0),(5, .ptr (σ.length+1) 0),(8, .int .i64 0)] (σ++[Obj.box p.cs, .box (Ty.mk k n s l ls tail).cs])=
   some (match ls.find? (fun a=>findEffE p.effects a.s != 0) with|some a=>(.ret,[(6, .int .i64 (findEffE p.effects a.s))],σ++[Obj.box p.cs, .box (Ty.mk k n s l ls tail).cs]) |none=>(.exit 0,[(1,pd),(3, .ptr σ.length 0),(5, .ptr (σ.length+1) 0),(8, .int .i64 ls.length),(48, .bool false)],σ++[Obj.box p.cs, .box (Ty.mk k n s l ls tail).cs])):=by
   generalize σ++[Obj.box p.cs, .box (Ty.mk k n s l ls tail).cs]=σ1 at*
   have hee:eqbL p.cs p.cs=true:=eqbL_tree _ p.plain.1
   have:=loop_find (f:=evalI CI XB GI 84 false lp73_0) (σ:=σ1) ls (fun i=>[(1,pd),(3, .ptr σ.length 0),(5, .ptr (σ.length+1) 0),(8, .int .i64 (i:Nat))]) (fun a=>findEffE p.effects a.s != 0) (fun i=>(.ret,[(6, .int .i64 (findEffE p.effects (ls.getD i ⟨[],0⟩).s))],σ1)) (.exit 0,[(1,pd),(3, .ptr σ.length 0),(5, .ptr (σ.length+1) 0),(8, .int .i64 ls.length),(48, .bool false)],σ1) (by simp) (by simp)
    (fun i hi=>by
      have hw:=wrap_nat (n:=i) (by unfold maxL at hl2;omega)
      have hget: (ls.map Lab.d)[i]? =some (Lab.d ls[i]):=by simp [hi]
      have hgd:ls.getD i ⟨[],0⟩=ls[i]:=by simp [List.getD,hi]
      rw [hgd]
      generalize ls.map Lab.d=ld at*
      have h2:i<ld.length:=by omega
      have h3:ld[i]=Lab.d ls[i]:=by rw [List.getElem?_eq_getElem h2] at hget;exact Option.some.inj hget
      have h35:=h35 ls[i].s
      generalize ls[i]=x at*
      rcases x with ⟨xs,xn⟩
      simp only [Lab.d] at*
      generalize p.cs=pc at*
      generalize tysD l=td at*
      generalize findEffI p.effects xs=fi at*
      generalize findEffE p.effects xs=fe at*
      cases hb:fe != 0
      ·have h0:fe=0:=by simpa using hb
       subst h0
       simp [lp73_0,hq1,hq2,hi,hw,hlsl,h2,h3,hpl,hpt,h35,q35,x35,Nat.testBit_eq_decide_div_mod_eq]
      ·have h0: ¬fe=0:=by simpa using hb
       simp [lp73_0,hq1,hq2,hi,hw,hlsl,h2,h3,hpl,hpt,h35,q35,x35,hb,h0,Nat.testBit_eq_decide_div_mod_eq])
    (by generalize ls.map Lab.d=ld at*;generalize tysD l=td at*;simp [lp73_0,hq2,hlsl])
   rw [Int.natCast_zero] at this
   rw [this]
   cases hf:ls.findIdx? (fun a=>findEffE p.effects a.s != 0) with
   |none=>
    rw [List.findIdx?_eq_none_iff] at hf
    rw [List.find?_eq_none.2 fun x hx=>by simpa using hf x hx]
   |some i=>
    obtain ⟨h1,h2,h3⟩:=List.findIdx?_eq_some_iff_getElem.1 hf
    have:ls.find? (fun a=>findEffE p.effects a.s != 0)=some ls[i]:=by
     rw [List.find?_eq_some_iff_getElem]
     exact ⟨h2,i,h1,rfl,fun j hj=>by simpa using h3 j hj⟩
    rw [this]
    simp [List.getD,h1]
  have it1:iterI (evalI CI XB GI 84 false lp73_1) [(1,pd),(3, .ptr σ.length 0),(5, .ptr (σ.length+1) 0),(11, .int .i64 0)] (σ++[Obj.box p.cs, .box (Ty.mk k n s l ls tail).cs])=
   some (if tysOrdR p params l=0 then (.exit 2,[(1,pd),(3, .ptr σ.length 0),(5, .ptr (σ.length+1) 0),(11, .int .i64 l.length),(70, .bool false)],σ++[Obj.box p.cs, .box (Ty.mk k n s l ls tail).cs]) else (.ret,[(6, .int .i64 (tysOrdR p params l))],σ++[Obj.box p.cs, .box (Ty.mk k n s l ls tail).cs])):=by
   have ih:=fun i (hi:i<l.length) σ=>c73 p hdl hel params hpar pd hpd l[i] (tysOk_mem hl3 (List.getElem_mem hi)) σ
   generalize σ++[Obj.box p.cs, .box (Ty.mk k n s l ls tail).cs]=σ1 at*
   have:=loop_find (f:=evalI CI XB GI 84 false lp73_1) (σ:=σ1) l (fun i=>[(1,pd),(3, .ptr σ.length 0),(5, .ptr (σ.length+1) 0),(11, .int .i64 (i:Nat))]) (fun a=>a.ordR p params != 0) (fun i=>(.ret,[(6, .int .i64 ((l.getD i tyI).ordR p params))],σ1)) (.exit 2,[(1,pd),(3, .ptr σ.length 0),(5, .ptr (σ.length+1) 0),(11, .int .i64 l.length),(70, .bool false)],σ1) (by simp) (by simp)
    (fun i hi=>by
      have hw:=wrap_nat (n:=i) (by unfold maxL at hl1;omega)
      have hget: (tysD l)[i]? =some (.agg l[i].cs):=by rw [tysD_map];simp [Ty.d,hi]
      have hgd:l.getD i tyI=l[i]:=by simp [List.getD,hi]
      rw [hgd]
      have ih:=ih i hi
      generalize tysD l=ld at*
      have h2:i<ld.length:=by omega
      have h3:ld[i]= .agg l[i].cs:=by rw [List.getElem?_eq_getElem h2] at hget;exact Option.some.inj hget
      have y1:=l[i].cs_len
      have y2:=l[i].cs_take
      generalize l[i]=x at*
      generalize x.cs=xc at*
      generalize p.cs=pc at*
      generalize ls.map Lab.d=lsd at*
      generalize x.ordR p params=fe at*
      cases hb:fe != 0
      ·have h0:fe=0:=by simpa using hb
       subst h0
       simp [lp73_1,hq1,hq2,hi,hw,hlen,h2,h3,hpl,hpt,y1,y2,ih,q73,x73,Nat.testBit_eq_decide_div_mod_eq]
      ·have h0: ¬fe=0:=by simpa using hb
       simp [lp73_1,hq1,hq2,hi,hw,hlen,h2,h3,hpl,hpt,y1,y2,ih,q73,x73,hb,h0,Nat.testBit_eq_decide_div_mod_eq])
    (by generalize ls.map Lab.d=ld at*;generalize tysD l=td at*;simp [lp73_1,hq2,hlen])
   rw [Int.natCast_zero] at this
   rw [this,tysOrdR_first,firstE_find]
   cases hf:l.findIdx? (fun a=>a.ordR p params != 0) with
   |none=>
    rw [List.findIdx?_eq_none_iff] at hf
    rw [List.find?_eq_none.2 fun x hx=>by simpa using hf x hx]
    rfl
   |some i=>
    obtain ⟨h1,h2,h3⟩:=List.findIdx?_eq_some_iff_getElem.1 hf
    have:l.find? (fun a=>a.ordR p params != 0)=some l[i]:=by
     rw [List.find?_eq_some_iff_getElem]
     exact ⟨h2,i,h1,rfl,fun j hj=>by simpa using h3 j hj⟩
    rw [this]
    have hne: ¬(l[i].ordR p params=0):=by simpa using h2
    simp [List.getD,h1,hne]
  have h122:=fun σ=>k122e hpd hpar s σ
  have h123:=fun σ=>c123 p hdl s σ
  have hh:p.cs.head?=some (.slice (p.data.map Dat.d)):=by rw [p.cs_eq];rfl
  have hdlen: (p.data.map Dat.d).length=p.data.length:=by simp
  have hcs: (Ty.mk k n s l ls tail).cs=[.int .i64 k, .int .i64 n, .str s, .slice (tysD l), .slice (ls.map Lab.d), .int .i64 tail]:=rfl
  have hτ:bodyI CI XB GI af73 [.agg p.cs,pd, .agg (Ty.mk k n s l ls tail).cs] σ=some (.ret (.int .i64 ((Ty.mk k n s l ls tail).ordR p params)),σ++[Obj.box p.cs, .box (Ty.mk k n s l ls tail).cs]):=by
   simp only [Ty.ordR]
   rw [hcs] at it0 it1 hq1 ⊢
   generalize tysOrdR p params l=te at*
   have fin: ∀ (hA: ¬(k=1∧hasS params s=false)) (hB:k=6→ ∃i,∃h:i<p.data.length,idxOf (fun x:Dat=>x.name==s) p.data=(i:Nat)∧p.data[i].params.length=l.length),
    bodyI CI XB GI af73 [.agg p.cs,pd, .agg [.int .i64 k, .int .i64 n, .str s, .slice (tysD l), .slice (ls.map Lab.d), .int .i64 tail]] σ=some (.ret (.int .i64 (match ls.find? (fun a=>findEffE p.effects a.s != 0) with|some a=>findEffE p.effects a.s|none=>te)),σ++[Obj.box p.cs, .box [.int .i64 k, .int .i64 n, .str s, .slice (tysD l), .slice (ls.map Lab.d), .int .i64 tail]]):=by
    intro hA hB
    have hk1: (k==1)=false∨((k==1)=true∧hasS params s=true):=by
     cases hk:k==1
     ·exact .inl rfl
     ·right
      refine ⟨rfl, ?_⟩
      cases hs:hasS params s
      ·exact absurd ⟨by simpa using hk,hs⟩ hA
      ·rfl
    by_cases hk6:k=6
    ·obtain ⟨i,hi,hidx,hpn⟩:=hB hk6
     subst hk6
     rw [hidx] at h123
     have hget: (p.data.map Dat.d)[i]? =some (Dat.d p.data[i]):=by simp [hi]
     generalize p.data.map Dat.d=dd at*
     have h2:i<dd.length:=by omega
     have h3:dd[i]=Dat.d p.data[i]:=by rw [List.getElem?_eq_getElem h2] at hget;exact Option.some.inj hget
     generalize p.data[i]=d at*
     rcases d with ⟨dn,dp,dc⟩
     simp only [Dat.d,Dat.cs,slD] at*
     have hpl2: (dp.map D.str).length=dp.length:=by simp
     generalize dp.map D.str=pdd at*
     generalize dc.map Con.d=cd at*
     have hni: ¬(i:Int) <0:=by omega
     generalize tysD l=ld at*
     generalize ls.map Lab.d=lsd at*
     generalize p.cs=pc at*
     cases hf:ls.find? (fun a=>findEffE p.effects a.s != 0) with
     |some a=>
      rw [hf] at it0
      simp [bodyI,af73,getA0,getA,hpa,hpl,hpt,hh,h123,hni,h2,h3,hlen,hpl2,hpn,it0]
     |none=>
      rw [hf] at it0
      by_cases hz:te=0
      ·rw [if_pos hz] at it1
       simp [bodyI,af73,getA0,getA,hpa,hpl,hpt,hh,h123,hni,h2,h3,hlen,hpl2,hpn,it0,it1,hz]
      ·rw [if_neg hz] at it1
       simp [bodyI,af73,getA0,getA,hpa,hpl,hpt,hh,h123,hni,h2,h3,hlen,hpl2,hpn,it0,it1]
    ·have hk6': (k==6)=false:=by simpa using hk6
     generalize tysD l=ld at*
     generalize ls.map Lab.d=lsd at*
     generalize p.cs=pc at*
     cases hf:ls.find? (fun a=>findEffE p.effects a.s != 0) with
     |some a=>
      rw [hf] at it0
      rcases hk1 with hk1| ⟨hk1,hs1⟩
      ·simp [bodyI,af73,getA0,getA,hpa,hpl,hpt,hk1,hk6',it0]
      ·rw [hs1] at h122
       simp [bodyI,af73,getA0,getA,hpa,hpl,hpt,hk1,hk6',h122,it0]
     |none=>
      rw [hf] at it0
      by_cases hz:te=0
      ·rw [if_pos hz] at it1
       rcases hk1 with hk1| ⟨hk1,hs1⟩
       ·simp [bodyI,af73,getA0,getA,hpa,hpl,hpt,hk1,hk6',it0,it1,hz]
       ·rw [hs1] at h122
        simp [bodyI,af73,getA0,getA,hpa,hpl,hpt,hk1,hk6',h122,it0,it1,hz]
      ·rw [if_neg hz] at it1
       rcases hk1 with hk1| ⟨hk1,hs1⟩
       ·simp [bodyI,af73,getA0,getA,hpa,hpl,hpt,hk1,hk6',it0,it1]
       ·rw [hs1] at h122
        simp [bodyI,af73,getA0,getA,hpa,hpl,hpt,hk1,hk6',h122,it0,it1]
   by_cases hA:k=1∧hasS params s=false
   ·have hN:ordRN p params k s l.length ls=6:=if_pos hA
    have h6: ¬(6:Int)=0:=by decide
    rw [hN,if_neg h6]
    obtain ⟨rfl,hs1⟩:=hA
    rw [hs1] at h122
    generalize tysD l=ld at*
    generalize ls.map Lab.d=lsd at*
    generalize p.cs=pc at*
    simp [bodyI,af73,getA0,getA,hpa,hpl,hpt,h122]
   ·have hlast: ∀v:Int,v=firstE (ls.map fun x=>findEffE p.effects x.s)→(match ls.find? (fun a=>findEffE p.effects a.s != 0) with|some a=>findEffE p.effects a.s|none=>te)=if v=0 then te else v:=by
     rintro v rfl
     rw [firstE_find]
     cases hf:ls.find? (fun a=>findEffE p.effects a.s != 0) with
     |none=>exact (if_pos rfl).symm
     |some a=>
      have:=List.find?_some hf
      have hne: ¬findEffE p.effects a.s=0:=by simpa using this
      exact (if_neg hne).symm
    by_cases h6:k=6
    ·subst h6
     rcases idxOf_find (fun x:Dat=>x.name==s) p.data with ⟨hneg,hn⟩ | ⟨i,hidx,hi,hn, -⟩
     ·have hdE:datErr p s l.length=6:=by unfold datErr;rw [hn]
      have h6: ¬(6:Int)=0:=by decide
      have hN:ordRN p params 6 s l.length ls=6:=by
       unfold ordRN
       rw [if_neg hA,hdE]
       exact if_pos ⟨rfl,h6⟩
      rw [hN,if_neg h6]
      generalize idxOf (fun x:Dat=>x.name==s) p.data=ix at*
      generalize tysD l=ld at*
      generalize ls.map Lab.d=lsd at*
      generalize p.cs=pc at*
      simp [bodyI,af73,getA0,getA,hpa,hpl,hpt,h123,hneg]
     ·by_cases hpn:p.data[i].params.length=l.length
      ·have hdE:datErr p s l.length=0:=by unfold datErr;rw [hn];exact if_pos hpn
       have:=fin hA (fun _=>⟨i,hi,hidx,hpn⟩)
       rw [this,hlast (ordRN p params 6 s l.length ls)]
       unfold ordRN
       rw [if_neg hA,hdE]
       exact if_neg fun h=>h.2 rfl
      ·have hdE:datErr p s l.length=7:=by unfold datErr;rw [hn];exact if_neg hpn
       have h7: ¬(7:Int)=0:=by decide
       have hN:ordRN p params 6 s l.length ls=7:=by
        unfold ordRN
        rw [if_neg hA,hdE]
        exact if_pos ⟨rfl,h7⟩
       rw [hN,if_neg h7]
       rw [hidx] at h123
       have hget: (p.data.map Dat.d)[i]? =some (Dat.d p.data[i]):=by simp [hi]
       generalize p.data.map Dat.d=dd at*
       have h2:i<dd.length:=by omega
       have h3:dd[i]=Dat.d p.data[i]:=by rw [List.getElem?_eq_getElem h2] at hget;exact Option.some.inj hget
       generalize p.data[i]=d at*
       rcases d with ⟨dn,dp,dc⟩
       simp only [Dat.d,Dat.cs,slD] at*
       have hpl2: (dp.map D.str).length=dp.length:=by simp
       generalize dp.map D.str=pdd at*
       generalize dc.map Con.d=cd at*
       have hni: ¬(i:Int) <0:=by omega
       have hpn': ((l.length:Int) != (dp.length:Int))=true:=by
        simp only [bne_iff_ne,ne_eq]
        intro h
        exact hpn (by omega)
       generalize tysD l=ld at*
       generalize ls.map Lab.d=lsd at*
       generalize p.cs=pc at*
       simp [bodyI,af73,getA0,getA,hpa,hpl,hpt,hh,h123,hni,h2,h3,hlen,hpl2,hpn']
    ·have:=fin hA (fun h=>absurd h h6)
     rw [this,hlast (ordRN p params k s l.length ls)]
     unfold ordRN
     rw [if_neg hA]
     exact if_neg fun h=>h6 h.1
  exact CI_tree tab73 hτ rfl rfl
termination_by t=>SizeOf.sizeOf t
decreasing_by
 have:=List.sizeOf_lt_of_mem (List.getElem_mem hi)
 simp only [Ty.mk.sizeOf_spec]
 omega
theorem c169 (ls:List Lab) (tail:Int) (σ:St) (hl:ls.length≤maxL):CI (.fn 169) [.agg [.slice (ls.map Lab.d), .int .i64 tail]] σ=some (.ret (.int .i64 (rowE ls tail)),σ):=by
 have hτ:bodyI CI XB GI af169 [.agg [.slice (ls.map Lab.d), .int .i64 tail]] σ=some (.ret (.int .i64 (rowE ls tail)),σ++[.box [.slice (ls.map Lab.d), .int .i64 tail]]):=by
  have hq: (σ++[Obj.box [.slice (ls.map Lab.d), .int .i64 tail]])[σ.length]? =some (.box [.slice (ls.map Lab.d), .int .i64 tail]):=getA0
  have hlsl: (ls.map Lab.d).length=ls.length:=by simp
  have hit:=loop_find (f:=evalI CI XB GI 31 false lp169_0) (σ:=σ++[.box [.slice (ls.map Lab.d), .int .i64 tail]]) ls (fun i=>[(1, .ptr σ.length 0),(3, .int .i64 (i:Nat))]) (fun a=>labE a != 0) (fun i=>(.ret,[(2, .int .i64 (labE (ls.getD i ⟨[],0⟩)))],σ++[.box [.slice (ls.map Lab.d), .int .i64 tail]]))
   (.exit 0,[(1, .ptr σ.length 0),(3, .int .i64 ls.length),(8, .bool false)],σ++[.box [.slice (ls.map Lab.d), .int .i64 tail]]) (by simp) (by simp)
   (fun i hi=>by
     have hw:=wrap_nat (n:=i) (by unfold maxL at hl;omega)
     have hget: (ls.map Lab.d)[i]? =some (Lab.d ls[i]):=by simp [hi]
     have hgd:ls.getD i ⟨[],0⟩=ls[i]:=by simp [List.getD,hi]
     rw [hgd]
     generalize σ++[.box [.slice (ls.map Lab.d), .int .i64 tail]]=σ1 at*
     generalize ls.map Lab.d=ld at*
     have h2:i<ld.length:=by omega
     have h3:ld[i]=Lab.d ls[i]:=by rw [List.getElem?_eq_getElem h2] at hget;exact Option.some.inj hget
     generalize ls[i]=x at*
     rcases x with ⟨s,n⟩
     simp only [Lab.d] at h3
     unfold labE
     cases h1:upW s
     ·simp [lp169_0,hq,hi,hw,hlsl,h2,h3,c176,h1]
     ·cases h4:inR n 0 999999999
      ·simp [lp169_0,hq,hi,hw,hlsl,h2,h3,c176,h1,k157,h4]
      ·simp [lp169_0,hq,hi,hw,hlsl,h2,h3,c176,h1,k157,h4])
   (by generalize σ++[.box [.slice (ls.map Lab.d), .int .i64 tail]]=σ1 at*;generalize ls.map Lab.d=ld at*;simp [lp169_0,hq,hlsl])
  rw [Int.natCast_zero] at hit
  unfold rowE
  rw [firstE_app,firstE_find]
  have hfi:ls.find? (fun a=>labE a != 0)=(ls.findIdx? (fun a=>labE a != 0)).map fun i=>ls.getD i ⟨[],0⟩:=by
   cases hf:ls.findIdx? (fun a=>labE a != 0) with
   |none=>
    rw [List.findIdx?_eq_none_iff] at hf
    rw [List.find?_eq_none.2 fun x hx=>by simpa using hf x hx]
    rfl
   |some i=>
    obtain ⟨h1,h2,h3⟩:=List.findIdx?_eq_some_iff_getElem.1 hf
    have:ls.find? (fun a=>labE a != 0)=some ls[i]:=by
     rw [List.find?_eq_some_iff_getElem]
     exact ⟨h2,i,h1,rfl,fun j hj=>by simpa using h3 j hj⟩
    rw [this]
    simp [List.getD,h1]
  cases hf:ls.findIdx? (fun a=>labE a != 0) with
  |some i=>
   rw [hf] at hit hfi
   rw [hfi]
   have:labE (ls.getD i ⟨[],0⟩)≠0:=by have:=List.find?_some hfi;simpa using this
   clear hfi
   dsimp only at hit
   show bodyI CI XB GI af169 [.agg [.slice (ls.map Lab.d), .int .i64 tail]] σ=some (.ret (.int .i64 (if labE (ls.getD i ⟨[],0⟩)=0 then _ else labE (ls.getD i ⟨[],0⟩))),_)
   generalize ls.getD i ⟨[],0⟩=x at*
   generalize labE x=le at*
   simp [bodyI,af169,getA0,hit,this]
  |none=>
   rw [hf] at hit hfi
   rw [hfi]
   simp only [Option.map_none]
   generalize ls.map Lab.d=ld at*
   unfold firstE
   cases h4:inR tail (-1) 999999999
   ·simp [bodyI,af169,getA0,hit,k157,h4,firstE]
   ·simp [bodyI,af169,getA0,hit,k157,h4,firstE]
 exact CI_tree tab169 hτ rfl rfl
theorem it177 (σ:St): ∀ (r pre:List Bs),(pre++r).length≤maxL→ ∀m,m=pre.length→
 iterI (evalI CI XB GI 24 false lp177_0) [(0,slD (pre++r)),(3, .int .i64 (m:Nat))] σ=
  some (if distFrom pre r 1=0 then (.exit 0,[(0,slD (pre++r)),(3, .int .i64 (pre++r).length),(7, .bool false)],σ) else (.ret,[(2, .int .i64 (distFrom pre r 1))],σ))
 | [],pre,hl,m,hm=>by
  have:m=(pre++([]:List Bs)).length:=by rw [hm];simp
  refine iterI_end ?_ (by simp [distFrom])
  generalize pre++([]:List Bs)=q at*
  simp [lp177_0,this,distFrom]
 |s::r,pre,hl,m,hm=>by
  have hmt:m< (pre++s::r).length:=by simp;omega
  have hget: (pre++s::r)[m]? =some s:=by rw [hm];simp
  have htk: ((pre++s::r).map D.str).take m=pre.map D.str:=by rw [hm];simp
  have hw:=wrap_nat (n:=m) (by unfold maxL at hl;simp at hl;omega)
  have h122:=h122 pre s σ (by unfold maxL at*;simp at hl;omega)
  have hp:pre++[s]++r=pre++s::r:=by simp
  have ih:=it177 σ r (pre++[s]) (by rw [hp];exact hl) (m+1) (by simp [hm])
  rw [hp] at ih
  simp only [distFrom]
  simp only [slD] at h122
  generalize hq:pre++s::r=q at*
  have h3:q[m]=s:=by rw [List.getElem?_eq_getElem hmt] at hget;exact Option.some.inj hget
  have hm': (m:Int)≤q.length:=by omega
  have hv:isC s 1=varW s:=rfl
  have q122:qI 122=false:=rfl
  have x122:XB 122=false:=rfl
  by_cases hc:varW s=true
  ·by_cases hh:hasS pre s=true
   ·simp only [hv,hc,hh,if_true]
    refine iterI_end ?_ (by simp)
    rw [hh] at h122
    simp [lp177_0,hmt,h3,c135,hc,bound,hm',htk,h122,q122,x122,Nat.testBit_eq_decide_div_mod_eq]
   ·simp only [hv,hc,if_true,if_neg hh]
    rw [←ih]
    refine iterI_next ?_
    rw [Bool.not_eq_true] at hh
    rw [hh] at h122
    simp [lp177_0,hmt,h3,c135,hc,hw,bound,hm',htk,h122,q122,x122,Nat.testBit_eq_decide_div_mod_eq]
  ·simp only [hv,if_neg hc]
   refine iterI_end ?_ (by simp)
   rw [Bool.not_eq_true] at hc
   simp [lp177_0,hmt,h3,c135,hc]
theorem c177 (l:List Bs) (σ:St) (hl:l.length≤maxL):CI (.fn 177) [slD l] σ=some (.ret (.int .i64 (distE l 1)),σ):=by
 refine CI_tree0 tab177 (d:= .int .i64 (distE l 1)) ?_ rfl rfl
 have hit:=it177 σ l [] hl 0 rfl
 rw [Int.natCast_zero,List.nil_append] at hit
 unfold distE
 by_cases h:distFrom [] l 1=0
 ·rw [if_pos h] at hit
  simp [bodyI,af177,hit,h]
 ·rw [if_neg h] at hit
  simp [bodyI,af177,hit]
theorem findIdx_none_all {α:Type} (l:List α) (Q:α→Bool) (h:l.findIdx? (fun a=> !Q a)=none):l.all Q=true:=by
 rw [List.findIdx?_eq_none_iff] at h
 exact List.all_eq_true.2 fun x hx=>by simpa using h x hx
theorem findIdx_some_all {α:Type} (l:List α) (Q:α→Bool) (i:Nat) (h:l.findIdx? (fun a=> !Q a)=some i):l.all Q=false:=by
 obtain ⟨h1,h2, -⟩:=List.findIdx?_eq_some_iff_getElem.1 h
 rw [List.all_eq_false]
 exact ⟨l[i],List.getElem_mem h1,by simpa using h2⟩
theorem loop_all {α:Type} {f:Env→St→Option (AExit × Env × St)} {σ:St} (l:List α) (E:Nat→Env) (Q:α→Bool) (X Y:AExit × Env × St) (hX:X.1≠ .normal) (hY:Y.1≠ .normal)
 (h: ∀i (hi:i<l.length),f (E i) σ=if Q l[i] then some (.normal,E (i+1),σ) else some X) (hf:f (E l.length) σ=some Y):
 iterI f (E 0) σ=some (if l.all Q then Y else X):=by
 have:=loop_find (f:=f) (σ:=σ) l E (fun a=> !Q a) (fun _=>X) Y (fun _=>hX) hY (fun i hi=>by rw [h i hi];cases Q l[i]<;>rfl) hf
 rw [this]
 cases hf:l.findIdx? (fun a=> !Q a) with
 |none=>rw [findIdx_none_all l Q hf];rfl
 |some i=>rw [findIdx_some_all l Q i hf];rfl
theorem loop_err {α:Type} {f:Env→St→Option (AExit × Env × St)} {σ:St} (l:List α) (E:Nat→Env) (e:α→Int) (X:Int→AExit × Env × St) (Y:AExit × Env × St) (hX: ∀n,(X n).1≠ .normal) (hY:Y.1≠ .normal)
 (h: ∀i (hi:i<l.length),f (E i) σ=if e l[i]=0 then some (.normal,E (i+1),σ) else some (X (e l[i]))) (hf:f (E l.length) σ=some Y):
 iterI f (E 0) σ=some (if firstE (l.map e)=0 then Y else X (firstE (l.map e))):=by
 have from_: ∀ (m j:Nat),j+m=l.length→iterI f (E j) σ=some (if firstE ((l.drop j).map e)=0 then Y else X (firstE ((l.drop j).map e))):=by
  intro m
  induction m with
  |zero=>
   intro j hj
   obtain rfl:j=l.length:=by omega
   rw [List.drop_length]
   exact iterI_end hf hY
  |succ m ih=>
   intro j hj
   have hlt:j<l.length:=by omega
   have hb:=h j hlt
   rw [List.drop_eq_getElem_cons hlt]
   simp only [List.map_cons,firstE]
   by_cases hq:e l[j]=0
   ·rw [if_pos hq] at hb ⊢
    rw [iterI_next hb]
    exact ih (j+1) (by omega)
   ·simp only [if_neg hq] at hb ⊢
    exact iterI_end hb (hX _)
 have:=from_ l.length 0 (by omega)
 rw [List.drop_zero] at this
 exact this
theorem c204: ∀ (t:Ty),t.ok→ ∀ (σ:St),CI (.fn 204) [.agg t.cs] σ=some (.ret (.bool (t.cl tailC)),σ)
 | .mk k n s l ls tail,hok,σ=>by
  obtain ⟨hl1,hl2,hl3⟩:=hok
  have hq1: (σ++[Obj.box (Ty.mk k n s l ls tail).cs])[σ.length]? =some (.box [.int .i64 k, .int .i64 n, .str s, .slice (tysD l), .slice (ls.map Lab.d), .int .i64 tail]):=getA0
  have hlen:=tysD_len l
  have hlsl: (ls.map Lab.d).length=ls.length:=by simp
  have it0:iterI (evalI CI XB GI 49 false lp204_0) [(1, .ptr σ.length 0),(3, .int .i64 0)] (σ++[Obj.box (Ty.mk k n s l ls tail).cs])=
   some (if ls.all (fun x=>x.n==0) then (.exit 0,[(1, .ptr σ.length 0),(3, .int .i64 ls.length),(24, .bool false)],σ++[Obj.box (Ty.mk k n s l ls tail).cs]) else (.ret,[(2, .bool false)],σ++[Obj.box (Ty.mk k n s l ls tail).cs])):=by
   generalize σ++[Obj.box (Ty.mk k n s l ls tail).cs]=σ1 at*
   refine loop_all ls (fun i=>[(1, .ptr σ.length 0),(3, .int .i64 (i:Nat))]) _ _ _ (by simp) (by simp) (fun i hi=> ?_) ?_
   ·have hw:=wrap_nat (n:=i) (by unfold maxL at hl2;omega)
    have hget: (ls.map Lab.d)[i]? =some (Lab.d ls[i]):=by simp [hi]
    generalize ls.map Lab.d=ld at*
    have h2:i<ld.length:=by omega
    have h3:ld[i]=Lab.d ls[i]:=by rw [List.getElem?_eq_getElem h2] at hget;exact Option.some.inj hget
    generalize ls[i]=x at*
    rcases x with ⟨xs,xn⟩
    simp only [Lab.d] at h3
    generalize tysD l=td at*
    cases h4:xn==0
    ·have h5: (xn != 0)=true:=by simpa using h4
     have h6: ¬xn=0:=by simpa using h4
     simp [lp204_0,hq1,hi,hw,hlsl,h2,h3,h5,h6]
    ·have h5:xn=0:=by simpa using h4
     simp [lp204_0,hq1,hi,hw,hlsl,h2,h3,h5]
   ·generalize ls.map Lab.d=ld at*
    generalize tysD l=td at*
    simp [lp204_0,hq1,hlsl]
  have it1:iterI (evalI CI XB GI 49 false lp204_1) [(1, .ptr σ.length 0),(4, .int .i64 0)] (σ++[Obj.box (Ty.mk k n s l ls tail).cs])=
   some (if l.all (fun t=>t.cl tailC) then (.exit 2,[(1, .ptr σ.length 0),(4, .int .i64 l.length),(39, .bool false)],σ++[Obj.box (Ty.mk k n s l ls tail).cs]) else (.ret,[(2, .bool false)],σ++[Obj.box (Ty.mk k n s l ls tail).cs])):=by
   have ih:=fun i (hi:i<l.length) σ=>c204 l[i] (tysOk_mem hl3 (List.getElem_mem hi)) σ
   generalize σ++[Obj.box (Ty.mk k n s l ls tail).cs]=σ1 at*
   refine loop_all l (fun i=>[(1, .ptr σ.length 0),(4, .int .i64 (i:Nat))]) _ _ _ (by simp) (by simp) (fun i hi=> ?_) ?_
   ·have hw:=wrap_nat (n:=i) (by unfold maxL at hl1;omega)
    have hget: (tysD l)[i]? =some (.agg l[i].cs):=by rw [tysD_map];simp [Ty.d,hi]
    have ih:=ih i hi
    generalize tysD l=ld at*
    have h2:i<ld.length:=by omega
    have h3:ld[i]= .agg l[i].cs:=by rw [List.getElem?_eq_getElem h2] at hget;exact Option.some.inj hget
    have y1:=l[i].cs_len
    have y2:=l[i].cs_take
    generalize l[i]=x at*
    generalize x.cs=xc at*
    generalize ls.map Lab.d=lsd at*
    cases hb:x.cl tailC
    ·rw [hb] at ih
     simp [lp204_1,hq1,hi,hw,hlen,h2,h3,y1,y2,ih]
    ·rw [hb] at ih
     simp [lp204_1,hq1,hi,hw,hlen,h2,h3,y1,y2,ih]
   ·generalize ls.map Lab.d=ld at*
    generalize tysD l=td at*
    simp [lp204_1,hq1,hlen]
  have hτ:bodyI CI XB GI af204 [.agg (Ty.mk k n s l ls tail).cs] σ=some (.ret (.bool ((Ty.mk k n s l ls tail).cl tailC)),σ++[.box (Ty.mk k n s l ls tail).cs]):=by
   simp only [Ty.cl,tysCl_all]
   simp only [Ty.cs] at it0 it1 ⊢
   unfold tailC at*
   generalize ls.map Lab.d=lsd at*
   generalize tysD l=ld at*
   generalize (ls.all fun x=>x.n==0)=lb at*
   generalize (l.all fun t=>t.cl fun n=>n != -1)=tb at*
   have rest: ∀ (b:Bool),b=(lb&&tb)→(k==0)=false→((k==5)&&(tail != -1))=false→bodyI CI XB GI af204 [.agg [.int .i64 k, .int .i64 n, .str s, .slice ld, .slice lsd, .int .i64 tail]] σ=some (.ret (.bool b),σ++[.box [.int .i64 k, .int .i64 n, .str s, .slice ld, .slice lsd, .int .i64 tail]]):=by
    rintro b rfl hk hk5
    cases h5:k==5
    ·cases lb
     ·simp [bodyI,af204,getA0,hk,h5,it0]
     ·cases tb<;>simp [bodyI,af204,getA0,hk,h5,it0,it1]
    ·rw [h5] at hk5
     have ht: (tail != -1)=false:=by simpa using hk5
     cases lb
     ·simp [bodyI,af204,getA0,hk,h5,ht,it0]
     ·cases tb<;>simp [bodyI,af204,getA0,hk,h5,ht,it0,it1]
   cases hk:k==0
   ·cases hk5: (k==5)&&(tail != -1)
    ·rw [rest (lb&&tb) rfl hk hk5]
     simp
    ·obtain ⟨h5,ht⟩:=Bool.and_eq_true_iff.1 hk5
     simp [bodyI,af204,getA0,hk,h5,ht]
   ·simp [bodyI,af204,getA0,hk]
  exact CI_tree tab204 hτ rfl rfl
termination_by t=>SizeOf.sizeOf t
decreasing_by
 have:=List.sizeOf_lt_of_mem (List.getElem_mem hi)
 simp only [Ty.mk.sizeOf_spec]
 omega
mutual
def Ty.left:Ty→Int→Int→Int
 | .mk _ _ _ l ls _,left,d=>if d<1∨24<ls.length then -1 else tysLeft l (left - 1) (d - 1)
def tysLeft:List Ty→Int→Int→Int
 | [],left,_=>left
 |t::r,left,d=>if 0≤left then tysLeft r (t.left left d) d else left
end
mutual
theorem Ty.left_le: ∀ (t:Ty) (left d:Int),0≤left→ -1≤t.left left d∧t.left left d≤left
 | .mk _ _ _ l ls _,left,d,h=>by
  simp only [Ty.left]
  split
  ·exact ⟨by omega,by omega⟩
  ·have:=tysLeft_le l (left - 1) (d - 1) (by omega)
   exact ⟨this.1,by omega⟩
theorem tysLeft_le: ∀ (l:List Ty) (left d:Int), -1≤left→ -1≤tysLeft l left d∧tysLeft l left d≤left
 | [],left,d,h=>by simp only [tysLeft];exact ⟨h,by omega⟩
 |t::r,left,d,h=>by
  simp only [tysLeft]
  split
  ·rename_i h0
   obtain ⟨h1,h2⟩:=t.left_le left d h0
   have:=tysLeft_le r (t.left left d) d h1
   exact ⟨this.1,by omega⟩
  ·exact ⟨h,by omega⟩
end
mutual
theorem c120: ∀ (t:Ty),t.ok→ ∀ (left d:Int) (σ:St),0≤left→left≤1000000→0≤d→d≤1000→
 CI (.fn 120) [.agg t.cs, .int .i64 left, .int .i64 d] σ=some (.ret (.int .i64 (t.left left d)),σ)
 | .mk k n s l ls tail,hok,left,d,σ,h0,h1,hd0,hd1=>by
  obtain ⟨hl1,hl2,hl3⟩:=hok
  have hw:IntKind.i64.wrap (left - 1)=left - 1:=wrap_i64 (by omega) (by omega)
  have hlsl: (ls.map Lab.d).length=ls.length:=by simp
  have hτ:bodyI CI XB GI af120 [.agg (Ty.mk k n s l ls tail).cs, .int .i64 left, .int .i64 d] σ=some (.ret (.int .i64 ((Ty.mk k n s l ls tail).left left d)),σ++[.box (Ty.mk k n s l ls tail).cs]):=by
   simp only [Ty.left]
   by_cases hdd:d<1
   ·rw [if_pos (.inl hdd)]
    simp only [Ty.cs]
    generalize ls.map Lab.d=lsd at*
    generalize tysD l=ld at*
    simp [bodyI,af120,getA0,hw,hdd]
   ·by_cases h24:24<ls.length
    ·rw [if_pos (.inr h24)]
     simp only [Ty.cs]
     generalize ls.map Lab.d=lsd at*
     generalize tysD l=ld at*
     have h24': (24:Int) < (lsd.length:Int):=by omega
     have h24'':24<lsd.length:=by omega
     simp [bodyI,af120,getA0,hw,hdd,h24,h24',h24'']
    ·rw [if_neg (fun h=>h.elim hdd h24)]
     obtain ⟨j,hit⟩:=it120 l [] (left - 1) d (σ++[.box (Ty.mk k n s l ls tail).cs]) σ.length ⟨k,n,s, .slice (ls.map Lab.d),tail,by rw [getA0];rfl⟩ hl1 hl3 (by omega) (by omega) (by omega) (by omega) 0 rfl
     rw [Int.natCast_zero] at hit
     simp only [Ty.cs] at hit ⊢
     generalize ls.map Lab.d=lsd at*
     generalize tysD l=ld at*
     have h24': ¬(24:Int) < (lsd.length:Int):=by omega
     have h24'': ¬24<lsd.length:=by omega
     simp [bodyI,af120,getA0,hw,hdd,h24,h24',h24'',hit]
  exact CI_tree tab120 hτ rfl rfl
theorem it120: ∀ (r pre:List Ty) (left d:Int) (σ:St) (p:Nat),(∃k n s ls tail,σ[p]? =some (.box [.int .i64 k, .int .i64 n, .str s, .slice (tysD (pre++r)),ls, .int .i64 tail]))→(pre++r).length≤maxL→tysOk r→ -1≤left→left≤1000000→1≤d→d≤1000→ ∀ (m:Nat),m=pre.length→
 ∃j:Int,iterI (evalI CI XB GI 40 false lp120_0) [(1, .int .i64 left),(2, .int .i64 d),(3, .ptr p 0),(7, .int .i64 (m:Nat))] σ=
  some (.exit 0,[(1, .int .i64 (tysLeft r left (d - 1))),(2, .int .i64 d),(3, .ptr p 0),(7, .int .i64 j),(27, .bool false)],σ)
 | [],pre,left,d,σ,p,hσ,hl,hok,h0,h1,hd0,hd1,m,hm=>by
  obtain ⟨k,n,s,ls,tail,hσ⟩:=hσ
  rw [List.append_nil] at hσ
  refine ⟨(m:Int),iterI_end ?_ (by simp)⟩
  have hlen:=tysD_len pre
  generalize tysD pre=ld at*
  simp [lp120_0,hσ,hm,hlen,tysLeft]
 |t::r,pre,left,d,σ,p,hσ,hl,hok,h0,h1,hd0,hd1,m,hm=>by
  obtain ⟨k,n,s,ls,tail,hσ'⟩:=hσ
  have hlen:=tysD_len (pre++t::r)
  have hmt:m< (pre++t::r).length:=by simp;omega
  have hget: (tysD (pre++t::r))[m]? =some (.agg t.cs):=by rw [tysD_map,hm];simp [Ty.d]
  have hw:=wrap_nat (n:=m) (by unfold maxL at hl;omega)
  have hwd:IntKind.i64.wrap (d - 1)=d - 1:=wrap_i64 (by omega) (by omega)
  have hp:pre++[t]++r=pre++t::r:=by simp
  by_cases hlt:0≤left
  ·have ht:=t.left_le left (d - 1) hlt
   obtain ⟨j,ih⟩:=it120 r (pre++[t]) (t.left left (d - 1)) d σ p ⟨k,n,s,ls,tail,by rw [hp];exact hσ'⟩ (by rw [hp];exact hl) hok.2 ht.1 (by omega) hd0 hd1 (m+1) (by simp [hm])
   refine ⟨j, ?_⟩
   have h120:=c120 t hok.1 left (d - 1) σ hlt h1 (by omega) (by omega)
   simp only [tysLeft,if_pos hlt]
   rw [←ih]
   refine iterI_next ?_
   generalize tysD (pre++t::r)=ld at*
   generalize (pre++t::r).length=len at*
   have h2:m<ld.length:=by omega
   have h3:ld[m]= .agg t.cs:=by rw [List.getElem?_eq_getElem h2] at hget;exact Option.some.inj hget
   have y1:=t.cs_len
   have y2:=t.cs_take
   generalize t.cs=xc at*
   generalize t.left left (d - 1)=tl at*
   simp [lp120_0,hσ',hmt,hlen,h2,h3,y1,y2,hw,hwd,hlt,h120]
  ·refine ⟨(m:Int),iterI_end ?_ (by simp)⟩
   simp only [tysLeft,if_neg hlt]
   generalize tysD (pre++t::r)=ld at*
   generalize (pre++t::r).length=len at*
   simp [lp120_0,hσ',hmt,hlen,hlt]
end
theorem isB_mem {s:Bs} (h:isB s=true):s ∈ builtins:=by
 unfold isB hasS at h
 simpa using h
theorem isB_C0 {s:Bs} (h:isC s 0=true):isB s=false:=by
 cases hb:isB s
 ·rfl
 ·have: ∀x ∈ builtins,isC x 0=false:=by decide
  rw [this s (isB_mem hb)] at h
  cases h
theorem isB_C1 {s:Bs} (h:isC s 1=true):isB s=false:=by
 cases hb:isB s
 ·rfl
 ·have: ∀x ∈ builtins,isC x 1=false:=by decide
  rw [this s (isB_mem hb)] at h
  cases h
theorem tysE_first: ∀ (l:List Ty),tysE l=firstE (l.map Ty.e)
 | []=>rfl
 |t::r=>by simp only [tysE,List.map_cons,firstE,tysE_first r]
set_option maxHeartbeats 4000000 in
theorem c121: ∀ (t:Ty),t.ok→ ∀ (σ:St),CI (.fn 121) [.agg t.cs] σ=some (.ret (.int .i64 t.e),σ)
 | .mk k n s l ls tail,hok,σ=>by
  obtain ⟨hl1,hl2,hl3⟩:=hok
  have hq1: (σ++[Obj.box (Ty.mk k n s l ls tail).cs])[σ.length]? =some (.box [.int .i64 k, .int .i64 n, .str s, .slice (tysD l), .slice (ls.map Lab.d), .int .i64 tail]):=getA0
  have hlen:=tysD_len l
  have hlsl: (ls.map Lab.d).length=ls.length:=by simp
  have it0:iterI (evalI CI XB GI 125 false lp121_0) [(1, .ptr σ.length 0),(5, .int .i64 0)] (σ++[Obj.box (Ty.mk k n s l ls tail).cs])=
   some (if tysE l=0 then (.exit 0,[(1, .ptr σ.length 0),(5, .int .i64 l.length),(113, .bool false)],σ++[Obj.box (Ty.mk k n s l ls tail).cs]) else (.ret,[(2, .int .i64 (tysE l))],σ++[Obj.box (Ty.mk k n s l ls tail).cs])):=by
   have ih:=fun i (hi:i<l.length) σ=>c121 l[i] (tysOk_mem hl3 (List.getElem_mem hi)) σ
   generalize σ++[Obj.box (Ty.mk k n s l ls tail).cs]=σ1 at*
   rw [tysE_first]
   refine loop_err l (fun i=>[(1, .ptr σ.length 0),(5, .int .i64 (i:Nat))]) Ty.e (fun v=>(.ret,[(2, .int .i64 v)],σ1)) _ (by simp) (by simp) (fun i hi=> ?_) ?_
   ·have hw:=wrap_nat (n:=i) (by unfold maxL at hl1;omega)
    have hget: (tysD l)[i]? =some (.agg l[i].cs):=by rw [tysD_map];simp [Ty.d,hi]
    have ih:=ih i hi
    generalize tysD l=ld at*
    have h2:i<ld.length:=by omega
    have h3:ld[i]= .agg l[i].cs:=by rw [List.getElem?_eq_getElem h2] at hget;exact Option.some.inj hget
    have y1:=l[i].cs_len
    have y2:=l[i].cs_take
    generalize l[i]=x at*
    generalize x.cs=xc at*
    generalize ls.map Lab.d=lsd at*
    generalize x.e=xe at*
    by_cases hb:xe=0
    ·simp [lp121_0,hq1,hi,hw,hlen,h2,h3,y1,y2,ih,hb]
    ·have hb': (xe != 0)=true:=by simpa using hb
     simp [lp121_0,hq1,hi,hw,hlen,h2,h3,y1,y2,ih,hb,hb']
   ·generalize ls.map Lab.d=ld at*
    generalize tysD l=td at*
    simp [lp121_0,hq1,hlen]
  have hτ:bodyI CI XB GI af121 [.agg (Ty.mk k n s l ls tail).cs] σ=some (.ret (.int .i64 (Ty.mk k n s l ls tail).e),σ++[.box (Ty.mk k n s l ls tail).cs]):=by
   have h169:=fun σ=>c169 ls tail σ hl2
   simp only [Ty.e]
   simp only [Ty.cs] at it0 ⊢
   generalize ls.map Lab.d=lsd at*
   generalize tysD l=ld at*
   generalize tysE l=te at*
   have cut: ∀v,tnodeE k n s l.length ls tail=v→v≠0→bodyI CI XB GI af121 [.agg [.int .i64 k, .int .i64 n, .str s, .slice ld, .slice lsd, .int .i64 tail]] σ=some (.ret (.int .i64 v),σ++[.box [.int .i64 k, .int .i64 n, .str s, .slice ld, .slice lsd, .int .i64 tail]])→
    bodyI CI XB GI af121 [.agg [.int .i64 k, .int .i64 n, .str s, .slice ld, .slice lsd, .int .i64 tail]] σ=some (.ret (.int .i64 (if tnodeE k n s l.length ls tail=0 then te else tnodeE k n s l.length ls tail)),σ++[.box [.int .i64 k, .int .i64 n, .str s, .slice ld, .slice lsd, .int .i64 tail]]):=by
    intro v hv hne hb
    rw [hv,if_neg hne]
    exact hb
   have fin:tnodeE k n s l.length ls tail=0→bodyI CI XB GI af121 [.agg [.int .i64 k, .int .i64 n, .str s, .slice ld, .slice lsd, .int .i64 tail]] σ=some (.ret (.int .i64 te),σ++[.box [.int .i64 k, .int .i64 n, .str s, .slice ld, .slice lsd, .int .i64 tail]])→
    bodyI CI XB GI af121 [.agg [.int .i64 k, .int .i64 n, .str s, .slice ld, .slice lsd, .int .i64 tail]] σ=some (.ret (.int .i64 (if tnodeE k n s l.length ls tail=0 then te else tnodeE k n s l.length ls tail)),σ++[.box [.int .i64 k, .int .i64 n, .str s, .slice ld, .slice lsd, .int .i64 tail]]):=by
    intro hv hb
    rw [if_pos hv]
    exact hb
   cases hk:inR k 0 6
   ·exact cut 1 (by simp [tnodeE,hk]) (by decide) (by simp [bodyI,af121,getA0,k157,hk])
   cases hn:inR n 0 999999999
   ·exact cut 1 (by simp [tnodeE,hk,hn]) (by decide) (by simp [bodyI,af121,getA0,k157,hk,hn])
   have hn0:0≤n:=by unfold inR at hn;simp at hn;omega
   have hkk:0≤k∧k≤6:=by unfold inR at hk;simp at hk;omega
   by_cases hkn:k≠0∧n≠0
   ·obtain ⟨h1,h2⟩:=hkn
    have h3:0<n:=by omega
    have h1': (k != 0)=true:=by simpa using h1
    have h2': (n != 0)=true:=by simpa using h2
    exact cut 1 (by simp [tnodeE,hk,hn,h1,h3]) (by decide) (by simp [bodyI,af121,getA0,k157,hk,hn,h1',h2'])
   have hg: ((k != 0)&&(n != 0))=false:=by
    cases h: (k != 0)&&(n != 0)
    ·rfl
    ·exact absurd (by simpa using h) hkn
   have hg2: ((k != 0)&&decide (0<n))=false:=by
    cases h: (k != 0)&&decide (0<n)
    ·rfl
    ·obtain ⟨h1,h2⟩:=Bool.and_eq_true_iff.1 h
     exact absurd ⟨by simpa using h1,by have:=of_decide_eq_true h2;omega⟩ hkn
   have h0: (k != 0)=false∨((k != 0)=true∧(n != 0)=false):=by
    cases h:k != 0
    ·exact .inl rfl
    ·rw [h] at hg
     exact .inr ⟨rfl,by simpa using hg⟩
   have k167:=fun s k σ=>c167 s k σ
   by_cases hk1:k=1
   ·subst hk1
    have hcl:classT 1=1:=rfl
    have hnn: ¬0<n:=by simpa using hg2
    have hn0: (n != 0)=false:=by simpa using hg
    cases hc:isC s 1
    ·exact cut 4 (by simp [tnodeE,hk,hn,hnn,hcl,hc]) (by decide) (by simp [bodyI,af121,getA0,k157,k167,k168,hk,hn,hn0,hc])
    have hb:=isB_C1 hc
    by_cases hl:l.length=0
    rotate_left
    ·have hr:inR l.length (leastT 1) (mostT 1)=false:=by
      have e1:leastT 1=0:=by simp [leastT]
      have e2:mostT 1=0:=by simp [mostT]
      rw [e1,e2]
      unfold inR
      rw [decide_eq_false (p:=(l.length:Int)≤0) (by omega),Bool.and_false]
     have hl':0<l.length:=by omega
     exact cut 7 (by simp [tnodeE,hk,hn,hnn,hcl,hc,hb,hr]) (by decide) (by simp [bodyI,af121,getA0,k157,k167,k168,hk,hn,hn0,hc,hb,hlen,hl',hl])
    have hr:inR l.length (leastT 1) (mostT 1)=true:=by simp [inR,leastT,mostT,hl]
    have hl': ¬0<l.length:=by omega
    by_cases hlp:0<ls.length
    ·have hlp': (0:Int) < (lsd.length:Int):=by omega
     have hlp'':0<lsd.length:=by omega
     exact cut 1 (by simp [tnodeE,hk,hn,hnn,hcl,hc,hb,hr,hlp]) (by decide) (by simp [bodyI,af121,getA0,k157,k167,k168,hk,hn,hn0,hc,hb,hlen,hl',hl,hlp,hlp',hlp''])
    have hlp': ¬(0:Int) < (lsd.length:Int):=by omega
    have hlp'': ¬0<lsd.length:=by omega
    cases ht0:tail != 0
    ·refine fin (by simp [tnodeE,hk,hn,hnn,hcl,hc,hb,hr,hlp,ht0]) ?_
     by_cases ht:te=0<;>simp [bodyI,af121,getA0,k157,k167,k168,hk,hn,hn0,hc,hb,hlen,hl',hl,hlp,hlp',hlp'',ht0,it0,ht]
    ·exact cut 1 (by simp [tnodeE,hk,hn,hnn,hcl,hc,hb,hr,hlp,ht0]) (by decide) (by simp [bodyI,af121,getA0,k157,k167,k168,hk,hn,hn0,hc,hb,hlen,hl',hl,hlp,hlp',hlp'',ht0])
   by_cases hk5:k=5
   ·subst hk5
    have hcl:classT 5=0:=rfl
    have hnn: ¬0<n:=by simpa using hg2
    have hn0: (n != 0)=false:=by simpa using hg
    cases hc:isC s 0
    ·exact cut 4 (by simp [tnodeE,hk,hn,hnn,hcl,hc]) (by decide) (by simp [bodyI,af121,getA0,k157,k167,k168,hk,hn,hn0,hc])
    have hb:=isB_C0 hc
    by_cases hl:l.length=2
    rotate_left
    ·have hr:inR l.length (leastT 5) (mostT 5)=false:=by
      show (decide ((2:Int)≤l.length)&&decide ((l.length:Int)≤2))=false
      by_cases h2: (l.length:Int)≤2
      ·rw [decide_eq_false (p:=(2:Int)≤l.length) (by omega),Bool.false_and]
      ·rw [decide_eq_false h2,Bool.and_false]
     have hl': ((l.length:Int) != 2)=true:=by simp only [bne_iff_ne,ne_eq];omega
     exact cut 7 (by simp [tnodeE,hk,hn,hnn,hcl,hc,hb,hr]) (by decide) (by simp [bodyI,af121,getA0,k157,k167,k168,hk,hn,hn0,hc,hb,hlen,hl',hl])
    have hr:inR l.length (leastT 5) (mostT 5)=true:=by simp [inR,leastT,mostT,hl]
    have hl': ((l.length:Int) != 2)=false:=by simp [hl]
    have hN:tnodeE 5 n s l.length ls tail=rowE ls tail:=by simp [tnodeE,hk,hn,hnn,hcl,hc,hb,hr]
    by_cases hz:rowE ls tail=0
    ·refine fin (by rw [hN,hz]) ?_
     by_cases ht:te=0<;>simp [bodyI,af121,getA0,k157,k167,k168,hk,hn,hn0,hc,hb,hlen,hl',hl,h169,hz,it0,ht]
    ·have hz': (rowE ls tail != 0)=true:=by simpa using hz
     exact cut _ hN hz (by simp [bodyI,af121,getA0,k157,k167,k168,hk,hn,hn0,hc,hb,hlen,hl',hl,h169,hz,hz'])
   by_cases hk6:k=6
   ·subst hk6
    have hcl:classT 6=2:=rfl
    have hnn: ¬0<n:=by simpa using hg2
    have hn0: (n != 0)=false:=by simpa using hg
    cases hc:isC s 2
    ·exact cut 4 (by simp [tnodeE,hk,hn,hnn,hcl,hc]) (by decide) (by simp [bodyI,af121,getA0,k157,k167,k168,hk,hn,hn0,hc])
    cases hb:isB s
    rotate_left
    ·exact cut 4 (by simp [tnodeE,hk,hn,hnn,hcl,hc,hb]) (by decide) (by simp [bodyI,af121,getA0,k157,k167,k168,hk,hn,hn0,hc,hb])
    by_cases hl:l.length≤4
    rotate_left
    ·have hr:inR l.length (leastT 6) (mostT 6)=false:=by
      show (decide ((0:Int)≤l.length)&&decide ((l.length:Int)≤4))=false
      rw [decide_eq_false (p:=(l.length:Int)≤4) (by omega),Bool.and_false]
     have hl': (4:Int) < (l.length:Int):=by omega
     exact cut 7 (by simp [tnodeE,hk,hn,hnn,hcl,hc,hb,hr]) (by decide) (by simp [bodyI,af121,getA0,k157,k167,k168,hk,hn,hn0,hc,hb,hlen,hl',hl])
    have hr:inR l.length (leastT 6) (mostT 6)=true:=by simp [inR,leastT,mostT];omega
    have hl': ¬(4:Int) < (l.length:Int):=by omega
    by_cases hlp:0<ls.length
    ·have hlp': (0:Int) < (lsd.length:Int):=by omega
     have hlp'':0<lsd.length:=by omega
     exact cut 1 (by simp [tnodeE,hk,hn,hnn,hcl,hc,hb,hr,hlp]) (by decide) (by simp [bodyI,af121,getA0,k157,k167,k168,hk,hn,hn0,hc,hb,hlen,hl',hl,hlp,hlp',hlp''])
    have hlp': ¬(0:Int) < (lsd.length:Int):=by omega
    have hlp'': ¬0<lsd.length:=by omega
    cases ht0:tail != 0
    ·refine fin (by simp [tnodeE,hk,hn,hnn,hcl,hc,hb,hr,hlp,ht0]) ?_
     by_cases ht:te=0<;>simp [bodyI,af121,getA0,k157,k167,k168,hk,hn,hn0,hc,hb,hlen,hl',hl,hlp,hlp',hlp'',ht0,it0,ht]
    ·exact cut 1 (by simp [tnodeE,hk,hn,hnn,hcl,hc,hb,hr,hlp,ht0]) (by decide) (by simp [bodyI,af121,getA0,k157,k167,k168,hk,hn,hn0,hc,hb,hlen,hl',hl,hlp,hlp',hlp'',ht0])
   ·have hcl:classT k=0:=by simp [classT,hk1,hk6]
    have e1: (k==1)=false:=by simpa using hk1
    have e5: (k==5)=false:=by simpa using hk5
    have e6: (k==6)=false:=by simpa using hk6
    have n5: (k != 5)=true:=by simpa using hk5
    have n6: (k != 6)=true:=by simpa using hk6
    cases hc:isC s 0
    ·exact cut 4 (by simp [tnodeE,hk,hn,hg2,hcl,e1,e5,e6,n5,n6,hk5,hc]) (by decide) (by rcases h0 with h0|h0<;>simp [bodyI,af121,getA0,k157,k167,k168,hk,hn,h0,e1,e5,e6,n5,n6,hk5,hc])
    have hb:=isB_C0 hc
    by_cases hl:l.length=0
    rotate_left
    ·have hr:inR l.length (leastT k) (mostT k)=false:=by
      have e1:leastT k=0:=by simp [leastT,hk5,hk6]
      have e2:mostT k=0:=by simp [mostT,hk5,hk6]
      rw [e1,e2]
      unfold inR
      rw [decide_eq_false (p:=(l.length:Int)≤0) (by omega),Bool.and_false]
     have hl':0<l.length:=by omega
     exact cut 7 (by simp [tnodeE,hk,hn,hg2,hcl,e1,e5,e6,n5,n6,hk5,hc,hb,hr]) (by decide) (by rcases h0 with h0|h0<;>simp [bodyI,af121,getA0,k157,k167,k168,hk,hn,h0,e1,e5,e6,n5,n6,hk5,hc,hb,hlen,hl',hl])
    have hr:inR l.length (leastT k) (mostT k)=true:=by simp [inR,leastT,mostT,hl,hk5,hk6]
    have hl': ¬0<l.length:=by omega
    by_cases hlp:0<ls.length
    ·have hlp': (0:Int) < (lsd.length:Int):=by omega
     have hlp'':0<lsd.length:=by omega
     exact cut 1 (by simp [tnodeE,hk,hn,hg2,hcl,e1,e5,e6,n5,n6,hk5,hc,hb,hr,hlp]) (by decide) (by rcases h0 with h0|h0<;>simp [bodyI,af121,getA0,k157,k167,k168,hk,hn,h0,e1,e5,e6,n5,n6,hk5,hc,hb,hlen,hl',hl,hlp,hlp',hlp''])
    have hlp': ¬(0:Int) < (lsd.length:Int):=by omega
    have hlp'': ¬0<lsd.length:=by omega
    cases ht0:tail != 0
    ·refine fin (by simp [tnodeE,hk,hn,hg2,hcl,e1,e5,e6,n5,n6,hk5,hc,hb,hr,hlp,ht0]) ?_
     rcases h0 with h0|h0<;>by_cases ht:te=0<;>simp [bodyI,af121,getA0,k157,k167,k168,hk,hn,h0,e1,e5,e6,n5,n6,hk5,hc,hb,hlen,hl',hl,hlp,hlp',hlp'',ht0,it0,ht]
    ·exact cut 1 (by simp [tnodeE,hk,hn,hg2,hcl,e1,e5,e6,n5,n6,hk5,hc,hb,hr,hlp,ht0]) (by decide) (by rcases h0 with h0|h0<;>simp [bodyI,af121,getA0,k157,k167,k168,hk,hn,h0,e1,e5,e6,n5,n6,hk5,hc,hb,hlen,hl',hl,hlp,hlp',hlp'',ht0])
  exact CI_tree tab121 hτ rfl rfl
termination_by t=>SizeOf.sizeOf t
decreasing_by
 have:=List.sizeOf_lt_of_mem (List.getElem_mem hi)
 simp only [Ty.mk.sizeOf_spec]
 omega
theorem tysLeft_neg: ∀ (l:List Ty) (x d:Int),x<0→tysLeft l x d=x
 | [],_,_,_=>rfl
 |_::_,x,d,h=>by
  simp only [tysLeft]
  rw [if_neg (by omega)]
mutual
theorem Ty.take_eq: ∀ (t:Ty) (left d:Int),0≤left→((t.take left d).1=true↔0≤t.left left (201 - d))∧((t.take left d).1=true→(t.take left d).2=t.left left (201 - d))
 | .mk _ _ _ l ls _,left,d,h=>by
  simp only [Ty.take,Ty.left]
  by_cases h1:200<d
  ·rw [if_pos (.inr (.inl h1)),if_pos (.inl (by omega))]
   exact ⟨⟨fun h=>(by cases h),fun h=>(by omega)⟩,fun h=>(by cases h)⟩
  by_cases h2:24<ls.length
  ·rw [if_pos (.inr (.inr h2)),if_pos (.inr h2)]
   exact ⟨⟨fun h=>(by cases h),fun h=>(by omega)⟩,fun h=>(by cases h)⟩
  rw [if_neg (c:=201 - d<1∨24<ls.length) (fun h=>h.elim (by omega) h2)]
  by_cases h3:left - 1<0
  ·rw [if_pos (.inl h3),tysLeft_neg l _ _ h3]
   exact ⟨⟨fun h=>(by cases h),fun h=>(by omega)⟩,fun h=>(by cases h)⟩
  rw [if_neg (fun h=>h.elim h3 (fun h=>h.elim h1 h2))]
  have:=tysTake_eq l (left - 1) (d+1) (by omega)
  have e:201 - d - 1=201 - (d+1):=by omega
  rw [e]
  exact this
theorem tysTake_eq: ∀ (l:List Ty) (left d:Int),0≤left→((tysTake l left d).1=true↔0≤tysLeft l left (201 - d))∧((tysTake l left d).1=true→(tysTake l left d).2=tysLeft l left (201 - d))
 | [],left,d,h=>by
  simp only [tysTake,tysLeft]
  exact ⟨⟨fun _=>h,fun _=>trivial⟩,fun _=>trivial⟩
 |t::r,left,d,h=>by
  obtain ⟨h1,h2⟩:=t.take_eq left d h
  simp only [tysTake,tysLeft]
  rw [if_pos h]
  by_cases ht: (t.take left d).1=true
  ·rw [if_pos ht,h2 ht]
   exact tysTake_eq r _ d (h1.1 ht)
  ·rw [if_neg ht,tysLeft_neg r _ _ (by have:=mt h1.2 ht;omega)]
   have hn:=mt h1.2 ht
   exact ⟨⟨fun h=>(by cases h),fun h=>absurd h hn⟩,fun h=>(by cases h)⟩
end
theorem Ty.chk_left (t:Ty):t.chk=if t.left 3000 200<0 then 3 else t.e:=by
 obtain ⟨h1, -⟩:=t.take_eq 3000 1 (by omega)
 have e: (201:Int) - 1=200:=rfl
 rw [e] at h1
 unfold Ty.chk
 by_cases h: (t.take 3000 1).1=true
 ·rw [if_pos h,if_neg (by have:=h1.1 h;omega)]
 ·rw [if_neg h,if_pos (by have:=mt h1.2 h;omega)]
theorem tcl_node {k n:Int} {s:Bs} {len:Nat} {ls:List Lab} {tail:Int} (h:tnodeE k n s len ls tail=0) (hk:k=5):tail0 tail=tailC tail:=by
 unfold tnodeE at h
 subst hk
 split at h
 ·cases h
 split at h
 ·cases h
 split at h
 ·cases h
 rw [if_pos rfl] at h
 unfold rowE at h
 rw [firstE_app] at h
 have hr:inR tail (-1) 999999999=true:=by
  cases hr:inR tail (-1) 999999999
  ·rw [hr] at h
   split at h
   ·simp [firstE] at h
   ·rename_i h1;exact absurd h h1
  ·rfl
 unfold inR at hr
 unfold tail0 tailC
 simp at hr
 cases hb:tail != -1
 ·have:tail= -1:=by simpa using hb
  subst this
  rfl
 ·have: ¬tail= -1:=by simpa using hb
  exact decide_eq_true (by omega)
mutual
theorem Ty.cl_eq: ∀ (t:Ty),t.e=0→t.cl tailC=t.cl tail0
 | .mk k n s l ls tail,h=>by
  simp only [Ty.e] at h
  split at h
  ·rename_i h1
   simp only [Ty.cl]
   rw [tysCl_eq l h]
   cases hk:k==5
   ·simp
   ·rw [tcl_node h1 (by simpa using hk)]
  ·rename_i h1;exact absurd h h1
theorem tysCl_eq: ∀ (l:List Ty),tysE l=0→tysCl tailC l=tysCl tail0 l
 | [],_=>rfl
 |t::r,h=>by
  simp only [tysE] at h
  split at h
  ·rename_i h1
   simp only [tysCl]
   rw [t.cl_eq h1,tysCl_eq r h]
  ·rename_i h1;exact absurd h h1
end
theorem c71 (t:Ty) (hok:t.ok) (σ:St):CI (.fn 71) [.agg t.cs] σ=some (.ret (.int .i64 t.chk),σ):=by
 have hτ:bodyI CI XB GI af71 [.agg t.cs] σ=some (.ret (.int .i64 t.chk),σ++[.box t.cs]):=by
  have h120:=fun σ=>c120 t hok 3000 200 σ (by omega) (by omega) (by omega) (by omega)
  have h121:=fun σ=>c121 t hok σ
  have hall:t.cs.all D.one=true:=by cases t;rfl
  have y1:=t.cs_len
  have y2:=t.cs_take
  rw [t.chk_left]
  generalize t.left 3000 200=x at*
  generalize t.e=y at*
  generalize t.cs=xc at*
  by_cases hx:x<0
  ·simp [bodyI,af71,getA0,hall,y1,y2,h120,hx]
  ·simp [bodyI,af71,getA0,hall,y1,y2,h120,h121,hx]
 exact CI_tree tab71 hτ rfl rfl
theorem Ty.chk_e {t:Ty} (h:t.chk=0):t.e=0:=by
 unfold Ty.chk at h
 split at h
 ·exact h
 ·cases h
theorem c178 (t:Ty) (hok:t.ok) (σ:St):CI (.fn 178) [.agg t.cs] σ=some (.ret (.int .i64 (declE1 t)),σ):=by
 have hτ:bodyI CI XB GI af178 [.agg t.cs] σ=some (.ret (.int .i64 (declE1 t)),σ++[.box t.cs]):=by
  have h71:=fun σ=>c71 t hok σ
  have h204:=fun σ=>c204 t hok σ
  have hall:t.cs.all D.one=true:=by cases t;rfl
  have y1:=t.cs_len
  have y2:=t.cs_take
  unfold declE1
  by_cases hx:t.chk=0
  ·rw [t.cl_eq (Ty.chk_e hx)] at h204
   rw [if_pos hx]
   rw [hx] at h71
   generalize t.cs=xc at*
   cases hc:t.cl tail0
   ·rw [hc] at h204
    simp [bodyI,af178,getA0,hall,y1,y2,h71,h204]
   ·rw [hc] at h204
    simp [bodyI,af178,getA0,hall,y1,y2,h71,h204]
  ·have hx': (t.chk != 0)=true:=by simpa using hx
   rw [if_neg hx]
   generalize t.chk=x at*
   generalize t.cs=xc at*
   simp [bodyI,af178,getA0,hall,y1,y2,h71,hx,hx']
 exact CI_tree tab178 hτ rfl rfl
theorem tnode_labels {k n:Int} {s:Bs} {len:Nat} {ls:List Lab} {tail:Int} (h:tnodeE k n s len ls tail=0) (hk: ¬k=5):ls=[]:=by
 cases ls with
 |nil=>rfl
 |cons a r=>
  exfalso
  unfold tnodeE at h
  rw [if_neg hk] at h
  have: (decide (0< (a::r).length) || (tail != 0))=true:=by simp
  rw [if_pos this] at h
  split at h
  ·cases h
  split at h
  ·cases h
  split at h
  ·cases h
  ·cases h
theorem ordRN_eq (p:Prg) (params:List Bs) {k n:Int} {s:Bs} {len:Nat} {ls:List Lab} {tail:Int} (h:tnodeE k n s len ls tail=0):ordRN p params k s len ls=ordN p params k s len ls:=by
 unfold ordRN ordN datErr
 by_cases h5:k=5
 ·subst h5
  simp
 ·rw [tnode_labels h h5]
  by_cases h1:k=1
  ·subst h1
   cases hasS params s<;>simp [firstE]
  ·by_cases h6:k=6
   ·subst h6
    simp only [List.map_nil,firstE]
    cases hf:p.data.find? (fun x:Dat=>x.name==s) with
    |none=>simp
    |some d=>by_cases hp:d.params.length=len<;>simp [hp]
   ·simp [h1,h5,h6,firstE]
mutual
theorem Ty.ordR_eq (p:Prg) (params:List Bs): ∀ (t:Ty),t.e=0→t.ordR p params=t.ord p params
 | .mk k n s l ls tail,h=>by
  simp only [Ty.e] at h
  split at h
  ·rename_i h1
   simp only [Ty.ordR,Ty.ord]
   rw [tysOrdR_eq p params l h,ordRN_eq p params h1]
  ·rename_i h1;exact absurd h h1
theorem tysOrdR_eq (p:Prg) (params:List Bs): ∀ (l:List Ty),tysE l=0→tysOrdR p params l=tysOrd p params l
 | [],_=>rfl
 |t::r,h=>by
  simp only [tysE] at h
  split at h
  ·rename_i h1
   simp only [tysOrdR,tysOrd]
   rw [t.ordR_eq p params h1,tysOrdR_eq p params r h]
  ·rename_i h1;exact absurd h h1
end
theorem c134 (e:Eff) (hok:e.ok) (σ:St):CI (.fn 134) [e.d] σ=some (.ret (.int .i64 (effE e)),σ):=by
 rcases e with ⟨name,ops⟩
 obtain ⟨hol,ho⟩:=hok
 simp only at hol ho
 have hτ:bodyI CI XB GI af134 [Eff.d ⟨name,ops⟩] σ=some (.ret (.int .i64 (effE ⟨name,ops⟩)),σ++[.box [.str name, .slice (ops.map Opn.d)]]):=by
  have hlen: (ops.map Opn.d).length=ops.length:=by simp
  have hq: (σ++[Obj.box [.str name, .slice (ops.map Opn.d)]])[σ.length]? =some (.box [.str name, .slice (ops.map Opn.d)]):=getA0
  have hit:iterI (evalI CI XB GI 49 false lp134_0) [(1, .ptr σ.length 0),(3, .int .i64 0)] (σ++[Obj.box [.str name, .slice (ops.map Opn.d)]])=
   some (if firstE (ops.map opnE)=0 then (.exit 0,[(1, .ptr σ.length 0),(3, .int .i64 ops.length),(18, .bool false)],σ++[Obj.box [.str name, .slice (ops.map Opn.d)]]) else (.ret,[(2, .int .i64 (firstE (ops.map opnE)))],σ++[Obj.box [.str name, .slice (ops.map Opn.d)]])):=by
   generalize σ++[Obj.box [.str name, .slice (ops.map Opn.d)]]=σ1 at*
   refine loop_err ops (fun i=>[(1, .ptr σ.length 0),(3, .int .i64 (i:Nat))]) opnE (fun v=>(.ret,[(2, .int .i64 v)],σ1)) _ (by simp) (by simp) (fun i hi=> ?_) ?_
   ·have hw:=wrap_nat (n:=i) (by unfold maxL at hol;omega)
    have hx:=ho _ (List.getElem_mem hi)
    have hget: (ops.map Opn.d)[i]? =some (Opn.d ops[i]):=by simp [hi]
    generalize ops.map Opn.d=ld at*
    have h2:i<ld.length:=by omega
    have h3:ld[i]=Opn.d ops[i]:=by rw [List.getElem?_eq_getElem h2] at hget;exact Option.some.inj hget
    generalize ops[i]=x at*
    rcases x with ⟨on,arg,res,once⟩
    obtain ⟨ha,hb⟩:=hx
    simp only at ha hb
    have k1:=fun σ=>c178 arg ha σ
    have k2:=fun σ=>c178 res hb σ
    have hE:opnE ⟨on,arg,res,once⟩=if varW on then (if declE1 arg=0 then declE1 res else declE1 arg) else 4:=by
     simp only [opnE,declE,List.map_cons,List.map_nil,firstE]
     by_cases h:declE1 res=0<;>simp [h]
    rw [hE]
    simp only [Opn.d,Opn.cs] at*
    generalize declE1 arg=e1 at*
    generalize declE1 res=e2 at*
    rcases arg with ⟨k1',n1,s1,l1,ls1,t1⟩
    rcases res with ⟨k2',n2,s2,l2,ls2,t2⟩
    simp only [Ty.cs,List.cons_append,List.nil_append] at*
    generalize tysD l1=ld1 at*
    generalize tysD l2=ld2 at*
    generalize ls1.map Lab.d=lsd1 at*
    generalize ls2.map Lab.d=lsd2 at*
    cases hu:varW on
    ·simp [lp134_0,hq,hlen,hi,hw,h2,h3,c135,hu]
    ·by_cases h1:e1=0
     ·by_cases h4:e2=0
      ·simp [lp134_0,hq,hlen,hi,hw,h2,h3,c135,hu,k1,k2,h1,h4]
      ·have h4': (e2 != 0)=true:=by simpa using h4
       simp [lp134_0,hq,hlen,hi,hw,h2,h3,c135,hu,k1,k2,h1,h4,h4']
     ·have h1': (e1 != 0)=true:=by simpa using h1
      simp [lp134_0,hq,hlen,hi,hw,h2,h3,c135,hu,k1,h1,h1']
   ·generalize ops.map Opn.d=ld at*
    simp [lp134_0,hq,hlen]
  unfold effE
  simp only [Eff.d,Eff.cs] at*
  generalize ops.map Opn.d=ld at*
  generalize firstE (ops.map opnE)=fe at*
  by_cases h8:8<ops.length
  ·have h8': (8:Int) <ops.length:=by omega
   have h8'':8<ld.length:=by omega
   simp [bodyI,af134,getA0,h8,h8',h8'',hlen]
  have h8': ¬(8:Int) <ops.length:=by omega
  have h8'': ¬8<ld.length:=by omega
  cases hu:upW name
  ·simp [bodyI,af134,getA0,h8,h8',h8'',hlen,c176,hu]
  by_cases hf:fe=0
  ·simp [bodyI,af134,getA0,h8,h8',h8'',hlen,c176,hu,hit,hf]
  ·simp [bodyI,af134,getA0,h8,h8',h8'',hlen,c176,hu,hit,hf]
 exact CI_tree tab134 hτ rfl rfl
theorem it133 (l:List Ty) (hl:l.length≤maxL) (hok:tysOk l) (p:D) (i:Int) (nm:Bs) (q:Nat) (σ:St) (hq:σ[q]? =some (.box [.str nm, .slice (tysD l)])):
 iterI (evalI CI XB GI 64 false lp133_0) [(1,p),(4, .int .i64 i),(5, .ptr q 0),(6, .int .i64 0)] σ=
  some (if declE l=0 then (.exit 2,[(1,p),(4, .int .i64 i),(5, .ptr q 0),(6, .int .i64 l.length),(52, .bool false)],σ) else (.ret,[(2, .int .i64 (declE l))],σ)):=by
 have hlen:=tysD_len l
 unfold declE
 refine loop_err l (fun j=>[(1,p),(4, .int .i64 i),(5, .ptr q 0),(6, .int .i64 (j:Nat))]) declE1 (fun v=>(.ret,[(2, .int .i64 v)],σ)) _ (by simp) (by simp) (fun j hj=> ?_) ?_
 ·have hw:=wrap_nat (n:=j) (by unfold maxL at hl;omega)
  have hget: (tysD l)[j]? =some (.agg l[j].cs):=by rw [tysD_map];simp [Ty.d,hj]
  have ih:=c178 l[j] (tysOk_mem hok (List.getElem_mem hj)) σ
  generalize tysD l=ld at*
  have h2:j<ld.length:=by omega
  have h3:ld[j]= .agg l[j].cs:=by rw [List.getElem?_eq_getElem h2] at hget;exact Option.some.inj hget
  have y1:=l[j].cs_len
  have y2:=l[j].cs_take
  generalize l[j]=x at*
  generalize x.cs=xc at*
  generalize declE1 x=xe at*
  by_cases hb:xe=0
  ·simp [lp133_0,hq,hj,hw,hlen,h2,h3,y1,y2,ih,hb]
  ·have hb': (xe != 0)=true:=by simpa using hb
   simp [lp133_0,hq,hj,hw,hlen,h2,h3,y1,y2,ih,hb,hb']
 ·generalize tysD l=ld at*
  simp [lp133_0,hq,hlen]
theorem c133 (d:Dat) (hok:d.ok) (σ:St):CI (.fn 133) [d.d] σ=some (.ret (.int .i64 (datE d)),σ):=by
 rcases d with ⟨name,params,cons⟩
 obtain ⟨hpl,hcl,hco⟩:=hok
 simp only at hpl hcl hco
 obtain ⟨τ,hτ⟩: ∃τ,bodyI CI XB GI af133 [Dat.d ⟨name,params,cons⟩] σ=some (.ret (.int .i64 (datE ⟨name,params,cons⟩)),σ++τ):=by
  obtain ⟨τ,hit⟩:=loop_seek (f:=evalI CI XB GI 64 false lp133_1) (σ:=σ++[.box [.str name, .slice (params.map D.str), .slice (cons.map Con.d)]]) cons (fun i=>[(1, .ptr σ.length 0),(4, .int .i64 (i:Nat))]) (fun a=>conE a != 0) (fun a=>(.ret,[(2, .int .i64 (conE a))]))
   (.exit 0,[(1, .ptr σ.length 0),(4, .int .i64 cons.length),(32, .bool false)]) (by simp) (by simp)
   (fun i hi τ=>by
     have hw:=wrap_nat (n:=i) (by unfold maxL at hcl;omega)
     have hx:=hco _ (List.getElem_mem hi)
     have hlen: (cons.map Con.d).length=cons.length:=by simp
     have hget: (cons.map Con.d)[i]? =some (Con.d cons[i]):=by simp [hi]
     have hq: (σ++[Obj.box [.str name, .slice (params.map D.str), .slice (cons.map Con.d)]]++τ)[σ.length]? =some (.box [.str name, .slice (params.map D.str), .slice (cons.map Con.d)]):=by rw [List.append_assoc];exact getA0
     generalize hσ1:σ++[Obj.box [.str name, .slice (params.map D.str), .slice (cons.map Con.d)]]++τ=σ1 at*
     rcases hxx:cons[i] with ⟨cn,args⟩
     rw [hxx] at hx hget
     obtain ⟨ha,hb⟩:=hx
     simp only at ha hb
     have hal:=tysD_len args
     have hit2:=it133 args ha hb (.ptr σ.length 0) i cn σ1.length (σ1++[.box [.str cn, .slice (tysD args)]]) getA0
     have hq2: ∀x,(σ1++[x])[σ.length]? =some (.box [.str name, .slice (params.map D.str), .slice (cons.map Con.d)]):=fun x=>by
      have:=lt_of_get hq
      rw [List.getElem?_append_left this]
      exact hq
     refine ⟨τ++[.box [.str cn, .slice (tysD args)]], ?_⟩
     rw [←List.append_assoc]
     rw [hσ1]
     clear hσ1
     unfold conE
     simp only [Con.d,Con.cs] at*
     generalize cons.map Con.d=ld at*
     have h2:i<ld.length:=by omega
     have h3:ld[i]= .agg [.str cn, .slice (tysD args)]:=by rw [List.getElem?_eq_getElem h2] at hget;exact Option.some.inj hget
     generalize tysD args=ad at*
     by_cases h4:4<args.length
     ·have h4': (4:Int) <args.length:=by omega
      have h4'':4<ad.length:=by omega
      simp [lp133_1,fillD,putCells,hq,hlen,hi,hw,h2,h3,getA0,setA0,h4,h4',h4'',hal]
     ·have h4': ¬(4:Int) <args.length:=by omega
      have h4'': ¬4<ad.length:=by omega
      cases hu:upW cn
      ·simp [lp133_1,fillD,putCells,hq,hlen,hi,hw,h2,h3,getA0,setA0,h4,h4',h4'',hal,c176,hu]
      ·by_cases hd:declE args=0
       ·simp [lp133_1,fillD,putCells,hq,hq2,hlen,hi,hw,h2,h3,getA0,setA0,h4,h4',h4'',hal,c176,hu,hit2,hd]
       ·have hd': (declE args != 0)=true:=by simpa using hd
        simp [lp133_1,fillD,putCells,hq,hq2,hlen,hi,hw,h2,h3,getA0,setA0,h4,h4',h4'',hal,c176,hu,hit2,hd,hd'])
   (fun τ=>⟨τ,by
     have hq: (σ++[Obj.box [.str name, .slice (params.map D.str), .slice (cons.map Con.d)]]++τ)[σ.length]? =some (.box [.str name, .slice (params.map D.str), .slice (cons.map Con.d)]):=by rw [List.append_assoc];exact getA0
     have hlen: (cons.map Con.d).length=cons.length:=by simp
     generalize σ++[Obj.box [.str name, .slice (params.map D.str), .slice (cons.map Con.d)]]++τ=σ1 at*
     generalize cons.map Con.d=ld at*
     simp [lp133_1,hq,hlen]⟩) []
  rw [Int.natCast_zero,List.append_nil] at hit
  have hlen: (cons.map Con.d).length=cons.length:=by simp
  have h177:=fun σ=>c177 params σ hpl
  unfold datE
  simp only [Dat.d,Dat.cs] at*
  rw [firstE_find]
  simp only [slD] at*
  have hppl: (params.map D.str).length=params.length:=by simp
  generalize cons.map Con.d=ld at*
  generalize params.map D.str=pd at*
  by_cases h4:4<params.length
  ·have h4': (4:Int) <params.length:=by omega
   have h4'':4<pd.length:=by omega
   refine ⟨[.box [.str name, .slice pd, .slice ld]], ?_⟩
   simp [bodyI,af133,getA0,h4,h4',h4'',hppl]
  have h4': ¬(4:Int) <params.length:=by omega
  have h4'': ¬4<pd.length:=by omega
  by_cases h8:8<cons.length
  ·have h8': (8:Int) <cons.length:=by omega
   have h8'':8<ld.length:=by omega
   refine ⟨[.box [.str name, .slice pd, .slice ld]], ?_⟩
   simp [bodyI,af133,getA0,h4,h4',h4'',hppl,h8,h8',h8'',hlen]
  have h8': ¬(8:Int) <cons.length:=by omega
  have h8'': ¬8<ld.length:=by omega
  cases hu:upW name
  ·refine ⟨[.box [.str name, .slice pd, .slice ld]], ?_⟩
   simp [bodyI,af133,getA0,h4,h4',h4'',hppl,h8,h8',h8'',hlen,c176,hu]
  by_cases hd:distE params 1=0
  ·refine ⟨[.box [.str name, .slice pd, .slice ld]]++τ, ?_⟩
   rw [←List.append_assoc]
   rw [hd] at h177
   cases hf:cons.find? (fun a=>conE a != 0)<;>(rw [hf] at hit;simp [bodyI,af133,getA0,h4,h4',h4'',hppl,h8,h8',h8'',hlen,c176,hu,h177,hd,hit])
  ·have hd': (distE params 1 != 0)=true:=by simpa using hd
   refine ⟨[.box [.str name, .slice pd, .slice ld]], ?_⟩
   simp [bodyI,af133,getA0,h4,h4',h4'',hppl,h8,h8',h8'',hlen,c176,hu,h177,hd,hd']
 exact CI_tree tab133 hτ rfl rfl
mutual
def Ex.left:Ex→Int→Int→Int
 | .mk _ _ _ _ _ l arms,left,d=>if d<1 then -1 else armsLeft arms (exsLeft l (left - 1) (d - 1)) (d - 1)
def exsLeft:List Ex→Int→Int→Int
 | [],left,_=>left
 |x::r,left,d=>if 0≤left then exsLeft r (x.left left d) d else left
def armsLeft:List Arm→Int→Int→Int
 | [],left,_=>left
 | .mk _ _ x::r,left,d=>if 0≤left then armsLeft r (x.left left d) d else left
end
theorem exsLeft_neg: ∀ (l:List Ex) (x d:Int),x<0→exsLeft l x d=x
 | [],_,_,_=>rfl
 |_::_,x,d,h=>by
  simp only [exsLeft]
  rw [if_neg (by omega)]
theorem armsLeft_neg: ∀ (l:List Arm) (x d:Int),x<0→armsLeft l x d=x
 | [],_,_,_=>rfl
 | .mk _ _ _::_,x,d,h=>by
  simp only [armsLeft]
  rw [if_neg (by omega)]
mutual
theorem Ex.take_left2: ∀ (t:Ex) (d:Int) (b:Int × Int),0≤b.1→((t.take d b).1=true↔0≤t.left b.1 (201 - d))∧((t.take d b).1=true→(t.take d b).2.1=t.left b.1 (201 - d))
 | .mk _ _ _ _ _ l arms,d,b,h=>by
  simp only [Ex.take,Ex.left]
  by_cases h1:200<d
  ·rw [if_pos (.inr h1),if_pos (c:=201 - d<1) (by omega)]
   exact ⟨⟨fun h=>(by cases h),fun h=>(by omega)⟩,fun h=>(by cases h)⟩
  rw [if_neg (c:=201 - d<1) (by omega)]
  have e:201 - d - 1=201 - (d+1):=by omega
  rw [e]
  by_cases h3:b.1 - 1<0
  ·rw [if_pos (.inl h3),exsLeft_neg l _ _ h3,armsLeft_neg arms _ _ h3]
   exact ⟨⟨fun h=>(by cases h),fun h=>(by omega)⟩,fun h=>(by cases h)⟩
  rw [if_neg (fun h=>h.elim h3 h1)]
  obtain ⟨a1,a2⟩:=exsTake_left2 l (d+1) (b.1 - 1,if d>b.2 then d else b.2) (by simp;omega)
  generalize exsTake l (d+1) (b.1 - 1,if d>b.2 then d else b.2)=q at*
  by_cases ht:q.1=true
  ·rw [if_pos ht]
   have a2:=a2 ht
   have a1:=a1.1 ht
   simp only at a1 a2
   rw [←a2] at a1 ⊢
   exact armsTake_left2 arms (d+1) q.2 a1
  ·rw [if_neg ht]
   have hn:=mt a1.2 ht
   simp only at hn
   rw [armsLeft_neg arms _ _ (by omega)]
   exact ⟨⟨fun h=>(by cases h),fun h=>absurd h hn⟩,fun h=>(by cases h)⟩
theorem exsTake_left2: ∀ (l:List Ex) (d:Int) (b:Int × Int),0≤b.1→((exsTake l d b).1=true↔0≤exsLeft l b.1 (201 - d))∧((exsTake l d b).1=true→(exsTake l d b).2.1=exsLeft l b.1 (201 - d))
 | [],d,b,h=>by
  simp only [exsTake,exsLeft]
  exact ⟨⟨fun _=>h,fun _=>trivial⟩,fun _=>trivial⟩
 |t::r,d,b,h=>by
  obtain ⟨h1,h2⟩:=t.take_left2 d b h
  simp only [exsTake,exsLeft]
  rw [if_pos h]
  by_cases ht: (t.take d b).1=true
  ·rw [if_pos ht,←h2 ht]
   exact exsTake_left2 r d _ (by rw [h2 ht];exact h1.1 ht)
  ·have hn:=mt h1.2 ht
   rw [if_neg ht,exsLeft_neg r _ _ (by omega)]
   exact ⟨⟨fun h=>(by cases h),fun h=>absurd h hn⟩,fun h=>(by cases h)⟩
theorem armsTake_left2: ∀ (l:List Arm) (d:Int) (b:Int × Int),0≤b.1→((armsTake l d b).1=true↔0≤armsLeft l b.1 (201 - d))∧((armsTake l d b).1=true→(armsTake l d b).2.1=armsLeft l b.1 (201 - d))
 | [],d,b,h=>by
  simp only [armsTake,armsLeft]
  exact ⟨⟨fun _=>h,fun _=>trivial⟩,fun _=>trivial⟩
 | .mk _ _ t::r,d,b,h=>by
  obtain ⟨h1,h2⟩:=t.take_left2 d b h
  simp only [armsTake,armsLeft]
  rw [if_pos h]
  by_cases ht: (t.take d b).1=true
  ·rw [if_pos ht,←h2 ht]
   exact armsTake_left2 r d _ (by rw [h2 ht];exact h1.1 ht)
  ·have hn:=mt h1.2 ht
   rw [if_neg ht,armsLeft_neg r _ _ (by omega)]
   exact ⟨⟨fun h=>(by cases h),fun h=>absurd h hn⟩,fun h=>(by cases h)⟩
end
theorem armsLeft_map: ∀ (l:List Arm) (x d:Int),armsLeft l x d=exsLeft (l.map Arm.body) x d
 | [],_,_=>rfl
 | .mk _ _ b::r,x,d=>by
  simp only [armsLeft,List.map_cons,exsLeft,Arm.body,armsLeft_map r]
theorem exsLeft_app: ∀ (a b:List Ex) (x d:Int),exsLeft (a++b) x d=exsLeft b (exsLeft a x d) d
 | [],_,_,_=>rfl
 |y::r,b,x,d=>by
  simp only [List.cons_append,exsLeft]
  split
  ·exact exsLeft_app r b _ d
  ·rename_i h
   rw [exsLeft_neg b _ _ (by omega)]
theorem Ex.left_parts (k n:Int) (s t:Bs) (names:List Bs) (l:List Ex) (arms:List Arm) (x d:Int): (Ex.mk k n s t names l arms).left x d=if d<1 then -1 else exsLeft (l++arms.map Arm.body) (x - 1) (d - 1):=by
 simp only [Ex.left]
 rw [armsLeft_map,exsLeft_app]
mutual
theorem Ex.left_le: ∀ (t:Ex) (x d:Int),0≤x→ -1≤t.left x d∧t.left x d≤x
 | .mk _ _ _ _ _ l arms,x,d,h=>by
  simp only [Ex.left]
  split
  ·exact ⟨by omega,by omega⟩
  ·have h1:=exsLeft_le l (x - 1) (d - 1) (by omega)
   have h2:=armsLeft_le arms (exsLeft l (x - 1) (d - 1)) (d - 1) h1.1
   exact ⟨h2.1,by omega⟩
theorem exsLeft_le: ∀ (l:List Ex) (x d:Int), -1≤x→ -1≤exsLeft l x d∧exsLeft l x d≤x
 | [],x,d,h=>by simp only [exsLeft];exact ⟨h,by omega⟩
 |t::r,x,d,h=>by
  simp only [exsLeft]
  split
  ·rename_i h0
   obtain ⟨h1,h2⟩:=t.left_le x d h0
   have:=exsLeft_le r (t.left x d) d h1
   exact ⟨this.1,by omega⟩
  ·exact ⟨h,by omega⟩
theorem armsLeft_le: ∀ (l:List Arm) (x d:Int), -1≤x→ -1≤armsLeft l x d∧armsLeft l x d≤x
 | [],x,d,h=>by simp only [armsLeft];exact ⟨h,by omega⟩
 | .mk _ _ t::r,x,d,h=>by
  simp only [armsLeft]
  split
  ·rename_i h0
   obtain ⟨h1,h2⟩:=t.left_le x d h0
   have:=armsLeft_le r (t.left x d) d h1
   exact ⟨this.1,by omega⟩
  ·exact ⟨h,by omega⟩
end
end Go.AI
