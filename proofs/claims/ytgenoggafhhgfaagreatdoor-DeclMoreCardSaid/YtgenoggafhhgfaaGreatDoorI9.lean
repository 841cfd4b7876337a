/- Texts of the proof: what functions of the program compute, step by step. No conditions of its own. -/
import Derived.Test.YtgenoggafhhgfaaGreatDoorI8
set_option linter.unusedVariables false
set_option linter.unusedSimpArgs false
namespace Go.AI
open Go Go.Proofs Go.Lx
set_option maxRecDepth 100000
theorem onceS_len (σ:St) (a b:List Bs): (onceS σ a b).length=σ.length+4:=by simp [onceS]
def consStep (p:Prg) (params:List Bs) (_:Nat) (c:Con) (b:List Bs):List Bs ⊕ Int:=
 if hasS b c.name then .inr 5 else if firstE (c.args.map fun t=>t.ord p params)=0 then .inl (b++[c.name]) else .inr (firstE (c.args.map fun t=>t.ord p params))
theorem consStep_len {p:Prg} {params:List Bs} {i:Nat} {c:Con} {b b':List Bs} (h:consStep p params i c b= .inl b'):b'=b++[c.name]:=by
 unfold consStep at h
 split at h
 ·cases h
 ·split at h
  ·cases h;rfl
  ·cases h
theorem foldS_cons_len {p:Prg} {params:List Bs} : ∀ {l:List Con} {i:Nat} {b b':List Bs},foldS (consStep p params) l i b= .inl b'→b'.length=b.length+l.length
 | [],i,b,b',h=>by cases h;rfl
 |c::r,i,b,b',h=>by
  simp only [foldS] at h
  cases hs:consStep p params i c b with
  |inl b1=>
   rw [hs] at h
   have h1:=consStep_len hs
   have h2:=foldS_cons_len h
   rw [h2,h1]
   simp only [List.length_append,List.length_cons,List.length_nil]
   omega
  |inr e=>rw [hs] at h;cases h
set_option maxHeartbeats 1000000 in
theorem it56_1 (p:Prg) (m:CMap) (hdl:p.data.length≤maxL) (hel:p.effects.length≤maxL) (params:List Bs) (hpar:params.length≤maxL) (dn:Bs) (cons:List Con) (q tb:Nat) (σ τ0:St) (a:List Bs) (hT:IsT σ tb p m)
 (hq: ∀b,(onceS σ a b++τ0)[q]? =some (.box [.str dn,slD params, .slice (cons.map Con.d)])) (hcl:cons.length≤maxL) (hok: ∀c ∈ cons,c.ok) (b0:List Bs) (hb0:b0.length+cons.length≤1000000) (d37 d38 d39:D):
 ∃τ' ev,iterI (evalI CI XB GI 110 false lp56_1) [(0, .ptr tb 0),(2, .ptr (σ.length+2) 0),(3, .ptr (σ.length+3) 0),(4, .func 110 [] []),(6, .ptr q 0),(37,d37),(38,d38),(39,d39),(48, .slice (cons.map Con.d)),(49, .int .i64 cons.length),(50, .int .i64 0)] (onceS σ a b0++τ0)=
  some (match foldS (consStep p params) cons 0 b0 with| .inl b'=>(.exit 2,[(0, .ptr tb 0),(2, .ptr (σ.length+2) 0),(3, .ptr (σ.length+3) 0),(4, .func 110 [] []),(6, .ptr q 0),(37,d37),(38,d38),(39,d39),(48, .slice (cons.map Con.d)),(49, .int .i64 cons.length),(50, .int .i64 cons.length),(51, .bool false)],onceS σ a b'++τ0++τ') | .inr e=>(.panic (refD e),ev,σ++τ')):=by
 have:=loop_foldP (f:=evalI CI XB GI 110 false lp56_1) cons (fun k _=>[(0, .ptr tb 0),(2, .ptr (σ.length+2) 0),(3, .ptr (σ.length+3) 0),(4, .func 110 [] []),(6, .ptr q 0),(37,d37),(38,d38),(39,d39),(48, .slice (cons.map Con.d)),(49, .int .i64 cons.length),(50, .int .i64 (k:Nat))]) (fun b=>onceS σ a b++τ0) (fun k b=>b.length=b0.length+k) (consStep p params) (fun e=> .panic (refD e)) σ (fun _=>(.exit 2,[(0, .ptr tb 0),(2, .ptr (σ.length+2) 0),(3, .ptr (σ.length+3) 0),(4, .func 110 [] []),(6, .ptr q 0),(37,d37),(38,d38),(39,d39),(48, .slice (cons.map Con.d)),(49, .int .i64 cons.length),(50, .int .i64 cons.length),(51, .bool false)])) (by simp) (by simp)
  (fun k hk b b' hb hs=>by rw [consStep_len hs];simp;omega)
  (fun k hk b τ hb=>by
    have hw:=wrap_nat (n:=k) (by unfold maxL at hcl;omega)
    have hcok:=hok _ (List.getElem_mem hk)
    have hget: (cons.map Con.d)[k]? =some (Con.d cons[k]):=by simp [hk]
    have hlen: (cons.map Con.d).length=cons.length:=by simp
    have hTT: ∀b x,IsT (onceS σ a b++τ0++τ++[x]) tb p m:=fun b x=>by rw [onceS_app,List.append_assoc,List.append_assoc];exact hT.app
    have hqq: ∀b x,(onceS σ a b++τ0++τ++[x])[q]? =some (.box [.str dn,slD params, .slice (cons.map Con.d)]):=fun b x=>by rw [List.append_assoc];exact getO (hq b)
    generalize cons.map Con.d=cd at*
    have h2:k<cd.length:=by omega
    have h3:cd[k]=Con.d cons[k]:=by rw [List.getElem?_eq_getElem h2] at hget;exact Option.some.inj hget
    generalize cons[k]=c at*
    rcases c with ⟨cn,args⟩
    have hal:=tysD_len args
    simp only [Con.d,Con.cs] at*
    have h110:=c110 b cn (σ.length+3) (σ.length+1) (onceS σ a b++τ0++τ++[Obj.box [.str cn, .slice (tysD args)]]) (by simp only [List.append_assoc];exact onceS_b1 ..) (by simp only [List.append_assoc];exact onceS_r1 ..) (by omega) (by omega)
    have hset: ((onceS σ a b++τ0++τ++[Obj.box [.str cn, .slice (tysD args)]]).set (σ.length+1) (rowS (b++[cn]))).set (σ.length+3) (refS (σ.length+1) (b++[cn]))=onceS σ a (b++[cn])++τ0++τ++[Obj.box [.str cn, .slice (tysD args)]]:=by
     simp only [List.append_assoc];exact onceS_set1 ..
    rw [hset] at h110
    have hqc: ∃qc,(onceS σ a b++τ0++τ).length=qc:=⟨_,rfl⟩
    obtain ⟨qc,hqc⟩:=hqc
    have hgc: (onceS σ a (b++[cn])++τ0++τ++[Obj.box [.str cn, .slice (tysD args)]])[qc]? =some (.box [.str cn, .slice (tysD args)]):=by
     have:qc=(onceS σ a (b++[cn])++τ0++τ).length:=by rw [←hqc];simp only [List.length_append,onceS_len]
     rw [this];exact getA0
    obtain ⟨τ1,ev1,hit⟩:=it56_0 p m hdl hel params hpar dn (.slice cd) q tb σ (onceS σ a (b++[cn])++τ0++τ++[Obj.box [.str cn, .slice (tysD args)]]) (hTT _ _) (hqq _ _) args hcok.1 hcok.2 d37 d38 d39 (.slice cd) (.int .i64 cons.length) (.int .i64 k)
    unfold consStep
    cases hh:hasS b cn
    ·rw [hh] at h110
     simp only [Bool.false_eq_true,if_false] at h110 ⊢
     have e1: ∀x,onceS σ a b++τ0++τ++[x]=σ++([rowS a,rowS b,refS σ.length a,refS (σ.length+1) b]++τ0++τ++[x]):=fun x=>by simp [onceS]
     by_cases hz:firstE (args.map fun t=>t.ord p params)=0
     ·rw [if_pos hz] at hit
      simp only [hz,if_true]
      refine ⟨τ++[Obj.box [.str cn, .slice (tysD args)]]++τ1,[], ?_⟩
      simp only [←List.append_assoc]
      generalize onceS σ a (b++[cn])++τ0++τ++[Obj.box [.str cn, .slice (tysD args)]]=σ3 at*
      generalize onceS σ a b++τ0++τ=σ2 at*
      subst hqc
      generalize tysD args=ad at*
      simp [lp56_1,hk,hw,h2,h3,getA0,setA0,h110,hgc,hal,hit]
     ·rw [if_neg hz] at hit
      simp only [if_neg hz]
      refine ⟨[rowS a,rowS (b++[cn]),refS σ.length a,refS (σ.length+1) (b++[cn])]++τ0++τ++[Obj.box [.str cn, .slice (tysD args)]]++τ1,ev1, ?_⟩
      have e2:σ++([rowS a,rowS (b++[cn]),refS σ.length a,refS (σ.length+1) (b++[cn])]++τ0++τ++[Obj.box [.str cn, .slice (tysD args)]]++τ1)=onceS σ a (b++[cn])++τ0++τ++[Obj.box [.str cn, .slice (tysD args)]]++τ1:=by simp [onceS]
      rw [e2]
      generalize onceS σ a (b++[cn])++τ0++τ++[Obj.box [.str cn, .slice (tysD args)]]=σ3 at*
      generalize onceS σ a b++τ0++τ=σ2 at*
      subst hqc
      generalize tysD args=ad at*
      simp [lp56_1,hk,hw,h2,h3,getA0,setA0,h110,hgc,hal,hit]
    ·rw [hh] at h110
     simp only [if_true] at h110 ⊢
     refine ⟨[rowS a,rowS b,refS σ.length a,refS (σ.length+1) b]++τ0++τ++[Obj.box [.str cn, .slice (tysD args)]],[(0, .ptr tb 0),(2, .ptr (σ.length+2) 0),(3, .ptr (σ.length+3) 0),(4, .func 110 [] []),(6, .ptr q 0),(8, .ptr qc 0),(37,d37),(38,d38),(39,d39),(48, .slice (cd)),(49, .int .i64 cons.length),(50, .int .i64 (k:Nat)),(55, .ptr qc 0),(56, .str cn)], ?_⟩
     have e2:σ++([rowS a,rowS b,refS σ.length a,refS (σ.length+1) b]++τ0++τ++[Obj.box [.str cn, .slice (tysD args)]])=onceS σ a b++τ0++τ++[Obj.box [.str cn, .slice (tysD args)]]:=by simp [onceS]
     rw [e2]
     clear hit hgc
     generalize onceS σ a b++τ0++τ=σ2 at*
     subst hqc
     generalize tysD args=ad at*
     simp [lp56_1,hk,hw,h2,h3,getA0,setA0,h110])
  (fun b τ _=>⟨τ,by
    generalize cons.map Con.d=cd
    simp [lp56_1]⟩) b0 [] (by simp)
 simp only [List.append_nil,Int.natCast_zero] at this
 obtain ⟨τ',ev,h⟩:=this
 refine ⟨τ',ev, ?_⟩
 rw [h]
 cases foldS (consStep p params) cons 0 b0<;>rfl
def datStep (p:Prg) (_:Nat) (d:Dat) (x:List Bs × List Bs): (List Bs × List Bs) ⊕ Int:=
 if hasS x.1 d.name then .inr 5 else match foldS (consStep p d.params) d.cons 0 x.2 with
  | .inl b=> .inl (x.1++[d.name],b)
  | .inr e=> .inr e
set_option maxHeartbeats 1000000 in
theorem it56_2 (p:Prg) (m:CMap) (hdl:p.data.length≤12) (hel:p.effects.length≤maxL) (hok: ∀d ∈ p.data,d.ok∧d.cons.length≤8) (tb:Nat) (σ:St) (hT:IsT σ tb p m) (a0 b0:List Bs) (ha0:a0.length≤10) (hb0:b0.length≤10):
 ∃τ' ev,iterI (evalI CI XB GI 110 false lp56_2) [(0, .ptr tb 0),(2, .ptr (σ.length+2) 0),(3, .ptr (σ.length+3) 0),(4, .func 110 [] []),(37, .slice (p.data.map Dat.d)),(38, .int .i64 p.data.length),(39, .int .i64 0)] (onceS σ a0 b0)=
  some (match foldS (datStep p) p.data 0 (a0,b0) with| .inl x=>(.exit 0,[(0, .ptr tb 0),(2, .ptr (σ.length+2) 0),(3, .ptr (σ.length+3) 0),(4, .func 110 [] []),(37, .slice (p.data.map Dat.d)),(38, .int .i64 p.data.length),(39, .int .i64 p.data.length),(40, .bool false)],onceS σ x.1 x.2++τ') | .inr e=>(.panic (refD e),ev,σ++τ')):=by
 have:=loop_foldP (f:=evalI CI XB GI 110 false lp56_2) p.data (fun i _=>[(0, .ptr tb 0),(2, .ptr (σ.length+2) 0),(3, .ptr (σ.length+3) 0),(4, .func 110 [] []),(37, .slice (p.data.map Dat.d)),(38, .int .i64 p.data.length),(39, .int .i64 (i:Nat))]) (fun x=>onceS σ x.1 x.2) (fun i x=>x.1.length≤10+i∧x.2.length≤10+8*i) (datStep p) (fun e=> .panic (refD e)) σ (fun _=>(.exit 0,[(0, .ptr tb 0),(2, .ptr (σ.length+2) 0),(3, .ptr (σ.length+3) 0),(4, .func 110 [] []),(37, .slice (p.data.map Dat.d)),(38, .int .i64 p.data.length),(39, .int .i64 p.data.length),(40, .bool false)])) (by simp) (by simp)
  (fun i hi x x' hx hs=>by
    have h8:=(hok _ (List.getElem_mem hi)).2
    unfold datStep at hs
    split at hs
    ·cases hs
    ·split at hs
     ·rename_i b hb
      cases hs
      have:=foldS_cons_len hb
      constructor
      ·simp;omega
      ·simp only;omega
     ·cases hs)
  (fun i hi x τ hx=>by
    have hw:=wrap_nat (n:=i) (by omega)
    obtain ⟨hdok,h8⟩:=hok _ (List.getElem_mem hi)
    have hget: (p.data.map Dat.d)[i]? =some (Dat.d p.data[i]):=by simp [hi]
    have hlen: (p.data.map Dat.d).length=p.data.length:=by simp
    have hdl':p.data.length≤maxL:=by unfold maxL;omega
    generalize p.data.map Dat.d=dd at*
    have h2:i<dd.length:=by omega
    have h3:dd[i]=Dat.d p.data[i]:=by rw [List.getElem?_eq_getElem h2] at hget;exact Option.some.inj hget
    generalize p.data[i]=d at*
    rcases d with ⟨dn,params,cons⟩
    rcases x with ⟨a,b⟩
    obtain ⟨hpar,hcl,hcok⟩:=hdok
    simp only [Dat.d,Dat.cs] at*
    have hxl: (cons.map Con.d).length=cons.length:=by simp
    have h110:=c110 a dn (σ.length+2) σ.length (onceS σ a b++τ++[Obj.box [.str dn,slD params, .slice (cons.map Con.d)]]) (by simp only [List.append_assoc];exact onceS_b ..) (by simp only [List.append_assoc];exact onceS_r ..) (by omega) (by omega)
    have hset: ((onceS σ a b++τ++[Obj.box [.str dn,slD params, .slice (cons.map Con.d)]]).set σ.length (rowS (a++[dn]))).set (σ.length+2) (refS σ.length (a++[dn]))=onceS σ (a++[dn]) b++τ++[Obj.box [.str dn,slD params, .slice (cons.map Con.d)]]:=by
     simp only [List.append_assoc];exact onceS_set ..
    rw [hset] at h110
    obtain ⟨qd,hqd⟩: ∃qd,(onceS σ a b++τ).length=qd:=⟨_,rfl⟩
    have hgd: ∀b,(onceS σ (a++[dn]) b++(τ++[Obj.box [.str dn,slD params, .slice (cons.map Con.d)]]))[qd]? =some (.box [.str dn,slD params, .slice (cons.map Con.d)]):=fun b'=>by
     have:qd=(onceS σ (a++[dn]) b'++τ).length:=by rw [←hqd];simp only [List.length_append,onceS_len]
     rw [this,←List.append_assoc];exact getA0
    obtain ⟨τ1,ev1,hit⟩:=it56_1 p m hdl' hel params hpar dn cons qd tb σ (τ++[Obj.box [.str dn,slD params, .slice (cons.map Con.d)]]) (a++[dn]) hT hgd hcl hcok b (by omega) (.slice dd) (.int .i64 p.data.length) (.int .i64 i)
    unfold datStep
    cases hh:hasS a dn
    ·rw [hh] at h110
     have hgd:=hgd b
     simp only [←List.append_assoc] at hit hgd
     simp only [Bool.false_eq_true,if_false] at h110 ⊢
     generalize cons.map Con.d=cd at*
     unfold slD at*
     generalize params.map D.str=pd at*
     generalize hσ3:onceS σ (a++[dn]) b++τ++[Obj.box [.str dn, .slice pd, .slice cd]]=σ3 at*
     cases hz:foldS (consStep p params) cons 0 b with
     |inl b'=>
      rw [hz] at hit
      refine ⟨τ++[Obj.box [.str dn, .slice pd, .slice cd]]++τ1,[], ?_⟩
      simp only [←List.append_assoc] at hit ⊢
      generalize onceS σ a b++τ=σ2 at*
      generalize onceS σ (a++[dn]) b'++τ++[Obj.box [.str dn, .slice pd, .slice cd]]++τ1=σ4 at*
      subst hqd
      simp [lp56_2,hi,hw,h2,h3,getA0,setA0,h110,hgd,hxl,hit]
     |inr e=>
      rw [hz] at hit
      refine ⟨τ1,ev1, ?_⟩
      generalize onceS σ a b++τ=σ2 at*
      subst hqd
      simp [lp56_2,hi,hw,h2,h3,getA0,setA0,h110,hgd,hxl,hit]
    ·rw [hh] at h110
     simp only [if_true] at h110 ⊢
     refine ⟨[rowS a,rowS b,refS σ.length a,refS (σ.length+1) b]++τ++[Obj.box [.str dn,slD params, .slice (cons.map Con.d)]],[(0, .ptr tb 0),(2, .ptr (σ.length+2) 0),(3, .ptr (σ.length+3) 0),(4, .func 110 [] []),(6, .ptr qd 0),(37, .slice (dd)),(38, .int .i64 p.data.length),(39, .int .i64 (i:Nat)),(44, .ptr qd 0),(45, .str dn)], ?_⟩
     have e2:σ++([rowS a,rowS b,refS σ.length a,refS (σ.length+1) b]++τ++[Obj.box [.str dn,slD params, .slice (cons.map Con.d)]])=onceS σ a b++τ++[Obj.box [.str dn,slD params, .slice (cons.map Con.d)]]:=by simp [onceS]
     rw [e2]
     clear hit hgd
     generalize cons.map Con.d=cd at*
     unfold slD at*
     generalize params.map D.str=pd at*
     generalize onceS σ a b++τ=σ2 at*
     subst hqd
     simp [lp56_2,hi,hw,h2,h3,getA0,setA0,h110])
  (fun x τ _=>⟨τ,by
    generalize p.data.map Dat.d=dd
    simp [lp56_2]⟩) (a0,b0) [] (by simp;omega)
 simp only [List.append_nil,Int.natCast_zero] at this
 obtain ⟨τ',ev,h⟩:=this
 refine ⟨τ',ev, ?_⟩
 rw [h]
 cases foldS (datStep p) p.data 0 (a0,b0)<;>rfl
def opnErr (p:Prg) (o:Opn):Int:=if o.arg.ord p []=0 then o.res.ord p [] else o.arg.ord p []
def opnStep (p:Prg) (_:Nat) (o:Opn) (b:List Bs):List Bs ⊕ Int:=
 if hasS b o.name then .inr 5 else if opnErr p o=0 then .inl (b++[o.name]) else .inr (opnErr p o)
theorem opnStep_len {p:Prg} {i:Nat} {c:Opn} {b b':List Bs} (h:opnStep p i c b= .inl b'):b'=b++[c.name]:=by
 unfold opnStep at h
 split at h
 ·cases h
 ·split at h
  ·cases h;rfl
  ·cases h
theorem foldS_opn_len {p:Prg} : ∀ {l:List Opn} {i:Nat} {b b':List Bs},foldS (opnStep p) l i b= .inl b'→b'.length=b.length+l.length
 | [],i,b,b',h=>by cases h;rfl
 |c::r,i,b,b',h=>by
  simp only [foldS] at h
  cases hs:opnStep p i c b with
  |inl b1=>
   rw [hs] at h
   have h1:=opnStep_len hs
   have h2:=foldS_opn_len h
   rw [h2,h1]
   simp only [List.length_append,List.length_cons,List.length_nil]
   omega
  |inr e=>rw [hs] at h;cases h
set_option maxHeartbeats 1000000 in
theorem it56_3 (p:Prg) (m:CMap) (hdl:p.data.length≤maxL) (hel:p.effects.length≤maxL) (ops:List Opn) (tb:Nat) (σ τ0:St) (a:List Bs) (hT:IsT σ tb p m)
 (hcl:ops.length≤maxL) (hok: ∀o ∈ ops,o.ok) (b0:List Bs) (hb0:b0.length+ops.length≤1000000) (d79 d80 d81:D):
 ∃τ' ev,iterI (evalI CI XB GI 110 false lp56_3) [(0, .ptr tb 0),(4, .func 110 [] []),(11, .ptr (σ.length+2) 0),(12, .ptr (σ.length+3) 0),(79,d79),(80,d80),(81,d81),(90, .slice (ops.map Opn.d)),(91, .int .i64 ops.length),(92, .int .i64 0)] (onceS σ a b0++τ0)=
  some (match foldS (opnStep p) ops 0 b0 with| .inl b'=>(.exit 8,[(0, .ptr tb 0),(4, .func 110 [] []),(11, .ptr (σ.length+2) 0),(12, .ptr (σ.length+3) 0),(79,d79),(80,d80),(81,d81),(90, .slice (ops.map Opn.d)),(91, .int .i64 ops.length),(92, .int .i64 ops.length),(93, .bool false)],onceS σ a b'++τ0++τ') | .inr e=>(.panic (refD e),ev,σ++τ')):=by
 have:=loop_foldP (f:=evalI CI XB GI 110 false lp56_3) ops (fun k _=>[(0, .ptr tb 0),(4, .func 110 [] []),(11, .ptr (σ.length+2) 0),(12, .ptr (σ.length+3) 0),(79,d79),(80,d80),(81,d81),(90, .slice (ops.map Opn.d)),(91, .int .i64 ops.length),(92, .int .i64 (k:Nat))]) (fun b=>onceS σ a b++τ0) (fun k b=>b.length=b0.length+k) (opnStep p) (fun e=> .panic (refD e)) σ (fun _=>(.exit 8,[(0, .ptr tb 0),(4, .func 110 [] []),(11, .ptr (σ.length+2) 0),(12, .ptr (σ.length+3) 0),(79,d79),(80,d80),(81,d81),(90, .slice (ops.map Opn.d)),(91, .int .i64 ops.length),(92, .int .i64 ops.length),(93, .bool false)])) (by simp) (by simp)
  (fun k hk b b' hb hs=>by rw [opnStep_len hs];simp;omega)
  (fun k hk b τ hb=>by
    have hw:=wrap_nat (n:=k) (by unfold maxL at hcl;omega)
    have hcok:=hok _ (List.getElem_mem hk)
    have hget: (ops.map Opn.d)[k]? =some (Opn.d ops[k]):=by simp [hk]
    have hlen: (ops.map Opn.d).length=ops.length:=by simp
    have hTT: ∀b x,IsT (onceS σ a b++τ0++τ++[x]) tb p m:=fun b x=>by rw [onceS_app,List.append_assoc,List.append_assoc];exact hT.app
    generalize ops.map Opn.d=od at*
    have h2:k<od.length:=by omega
    have h3:od[k]=Opn.d ops[k]:=by rw [List.getElem?_eq_getElem h2] at hget;exact Option.some.inj hget
    generalize ops[k]=o at*
    rcases o with ⟨on,arg,res,once⟩
    obtain ⟨hoa,hor⟩:=hcok
    simp only at hoa hor
    simp only [Opn.d,Opn.cs] at*
    have hca:=c112 p m hdl hel [] (by unfold maxL;simp) .empty (.inr ⟨rfl,rfl⟩) tb arg hoa _ (hTT (b++[on]) (.box (.str on::(arg.cs++res.cs++[.bool once]))))
    have hcr:=c112 p m hdl hel [] (by unfold maxL;simp) .empty (.inr ⟨rfl,rfl⟩) tb res hor _ (hTT (b++[on]) (.box (.str on::(arg.cs++res.cs++[.bool once]))))
    simp only [opnStep,opnErr]
    generalize arg.ord p []=ea at*
    generalize res.ord p []=er at*
    rcases arg with ⟨k1,n1,s1,l1,ls1,t1⟩
    rcases res with ⟨k2,n2,s2,l2,ls2,t2⟩
    simp only [Ty.cs,List.cons_append,List.nil_append] at*
    generalize tysD l1=ld1 at*
    generalize tysD l2=ld2 at*
    generalize ls1.map Lab.d=lsd1 at*
    generalize ls2.map Lab.d=lsd2 at*
    generalize hoc: [D.str on,D.int .i64 k1,D.int .i64 n1,D.str s1,D.slice ld1,D.slice lsd1,D.int .i64 t1,D.int .i64 k2,D.int .i64 n2,D.str s2,D.slice ld2,D.slice lsd2,D.int .i64 t2,D.bool once]=oc at*
    have h110:=c110 b on (σ.length+3) (σ.length+1) (onceS σ a b++τ0++τ++[Obj.box oc]) (by simp only [List.append_assoc];exact onceS_b1 ..) (by simp only [List.append_assoc];exact onceS_r1 ..) (by omega) (by omega)
    have hset: ((onceS σ a b++τ0++τ++[Obj.box oc]).set (σ.length+1) (rowS (b++[on]))).set (σ.length+3) (refS (σ.length+1) (b++[on]))=onceS σ a (b++[on])++τ0++τ++[Obj.box oc]:=by
     simp only [List.append_assoc];exact onceS_set1 ..
    rw [hset] at h110
    obtain ⟨qo,hqo⟩: ∃qo,(onceS σ a b++τ0++τ).length=qo:=⟨_,rfl⟩
    have hgc: (onceS σ a (b++[on])++τ0++τ++[Obj.box oc])[qo]? =some (.box oc):=by
     have:qo=(onceS σ a (b++[on])++τ0++τ).length:=by rw [←hqo];simp only [List.length_append,onceS_len]
     rw [this];exact getA0
    cases hh:hasS b on
    ·rw [hh] at h110
     simp only [Bool.false_eq_true,if_false] at h110 ⊢
     have e2:σ++([rowS a,rowS (b++[on]),refS σ.length a,refS (σ.length+1) (b++[on])]++τ0++τ++[Obj.box oc])=onceS σ a (b++[on])++τ0++τ++[Obj.box oc]:=by simp [onceS]
     by_cases hz1:ea=0
     ·subst hz1
      simp only [if_true]
      rw [outR_zero] at hca
      by_cases hz2:er=0
      ·subst hz2
       simp only [if_true]
       rw [outR_zero] at hcr
       refine ⟨τ++[Obj.box oc],[], ?_⟩
       simp only [←List.append_assoc]
       generalize onceS σ a (b++[on])++τ0++τ++[Obj.box oc]=σ3 at*
       generalize onceS σ a b++τ0++τ=σ2 at*
       subst hqo hoc
       simp [lp56_3,hk,hw,h2,h3,getA0,setA0,h110,hgc,hca,hcr]
      ·simp only [if_neg hz2]
       rw [outR_ne hz2] at hcr
       refine ⟨[rowS a,rowS (b++[on]),refS σ.length a,refS (σ.length+1) (b++[on])]++τ0++τ++[Obj.box oc],[(0, .ptr tb 0),(4, .func 110 [] []),(11, .ptr (σ.length+2) 0),(12, .ptr (σ.length+3) 0),(16, .ptr qo 0),(79,d79),(80,d80),(81,d81),(90, .slice (od)),(91, .int .i64 ops.length),(92, .int .i64 (k:Nat)),(105, .ptr qo 7),(106, .agg [.int .i64 k2, .int .i64 n2, .str s2, .slice ld2, .slice lsd2, .int .i64 t2])], ?_⟩
       rw [e2]
       generalize onceS σ a (b++[on])++τ0++τ++[Obj.box oc]=σ3 at*
       generalize onceS σ a b++τ0++τ=σ2 at*
       subst hqo hoc
       simp [lp56_3,hk,hw,h2,h3,getA0,setA0,h110,hgc,hca,hcr]
     ·simp only [if_neg hz1]
      rw [outR_ne hz1] at hca
      refine ⟨[rowS a,rowS (b++[on]),refS σ.length a,refS (σ.length+1) (b++[on])]++τ0++τ++[Obj.box oc],[(0, .ptr tb 0),(4, .func 110 [] []),(11, .ptr (σ.length+2) 0),(12, .ptr (σ.length+3) 0),(16, .ptr qo 0),(79,d79),(80,d80),(81,d81),(90, .slice (od)),(91, .int .i64 ops.length),(92, .int .i64 (k:Nat)),(101, .ptr qo 1),(102, .agg [.int .i64 k1, .int .i64 n1, .str s1, .slice ld1, .slice lsd1, .int .i64 t1])], ?_⟩
      rw [e2]
      generalize onceS σ a (b++[on])++τ0++τ++[Obj.box oc]=σ3 at*
      generalize onceS σ a b++τ0++τ=σ2 at*
      subst hqo hoc
      simp [lp56_3,hk,hw,h2,h3,getA0,setA0,h110,hgc,hca]
    ·rw [hh] at h110
     simp only [if_true] at h110 ⊢
     refine ⟨[rowS a,rowS b,refS σ.length a,refS (σ.length+1) b]++τ0++τ++[Obj.box oc],[(0, .ptr tb 0),(4, .func 110 [] []),(11, .ptr (σ.length+2) 0),(12, .ptr (σ.length+3) 0),(16, .ptr qo 0),(79,d79),(80,d80),(81,d81),(90, .slice (od)),(91, .int .i64 ops.length),(92, .int .i64 (k:Nat)),(97, .ptr qo 0),(98, .str on)], ?_⟩
     have e2:σ++([rowS a,rowS b,refS σ.length a,refS (σ.length+1) b]++τ0++τ++[Obj.box oc])=onceS σ a b++τ0++τ++[Obj.box oc]:=by simp [onceS]
     rw [e2]
     clear hgc
     generalize onceS σ a b++τ0++τ=σ2 at*
     subst hqo hoc
     simp [lp56_3,hk,hw,h2,h3,getA0,setA0,h110])
  (fun b τ _=>⟨τ,by
    generalize ops.map Opn.d=cd
    simp [lp56_3]⟩) b0 [] (by simp)
 simp only [List.append_nil,Int.natCast_zero] at this
 obtain ⟨τ',ev,h⟩:=this
 refine ⟨τ',ev, ?_⟩
 rw [h]
 cases foldS (opnStep p) ops 0 b0<;>rfl
def effStep (p:Prg) (_:Nat) (d:Eff) (x:List Bs × List Bs): (List Bs × List Bs) ⊕ Int:=
 if hasS x.1 d.name then .inr 5 else match foldS (opnStep p) d.ops 0 x.2 with
  | .inl b=> .inl (x.1++[d.name],b)
  | .inr e=> .inr e
set_option maxHeartbeats 1000000 in
theorem it56_4 (p:Prg) (m:CMap) (hdl:p.data.length≤maxL) (hel:p.effects.length≤12) (hok: ∀d ∈ p.effects,d.ok∧d.ops.length≤8) (tb:Nat) (σ:St) (hT:IsT σ tb p m) (a0 b0:List Bs) (ha0:a0.length≤10) (hb0:b0.length≤10):
 ∃τ' ev,iterI (evalI CI XB GI 110 false lp56_4) [(0, .ptr tb 0),(4, .func 110 [] []),(11, .ptr (σ.length+2) 0),(12, .ptr (σ.length+3) 0),(79, .slice (p.effects.map Eff.d)),(80, .int .i64 p.effects.length),(81, .int .i64 0)] (onceS σ a0 b0)=
  some (match foldS (effStep p) p.effects 0 (a0,b0) with| .inl x=>(.exit 6,[(0, .ptr tb 0),(4, .func 110 [] []),(11, .ptr (σ.length+2) 0),(12, .ptr (σ.length+3) 0),(79, .slice (p.effects.map Eff.d)),(80, .int .i64 p.effects.length),(81, .int .i64 p.effects.length),(82, .bool false)],onceS σ x.1 x.2++τ') | .inr e=>(.panic (refD e),ev,σ++τ')):=by
 have:=loop_foldP (f:=evalI CI XB GI 110 false lp56_4) p.effects (fun i _=>[(0, .ptr tb 0),(4, .func 110 [] []),(11, .ptr (σ.length+2) 0),(12, .ptr (σ.length+3) 0),(79, .slice (p.effects.map Eff.d)),(80, .int .i64 p.effects.length),(81, .int .i64 (i:Nat))]) (fun x=>onceS σ x.1 x.2) (fun i x=>x.1.length≤10+i∧x.2.length≤10+8*i) (effStep p) (fun e=> .panic (refD e)) σ (fun _=>(.exit 6,[(0, .ptr tb 0),(4, .func 110 [] []),(11, .ptr (σ.length+2) 0),(12, .ptr (σ.length+3) 0),(79, .slice (p.effects.map Eff.d)),(80, .int .i64 p.effects.length),(81, .int .i64 p.effects.length),(82, .bool false)])) (by simp) (by simp)
  (fun i hi x x' hx hs=>by
    have h8:=(hok _ (List.getElem_mem hi)).2
    unfold effStep at hs
    split at hs
    ·cases hs
    ·split at hs
     ·rename_i b hb
      cases hs
      have:=foldS_opn_len hb
      constructor
      ·simp;omega
      ·simp only;omega
     ·cases hs)
  (fun i hi x τ hx=>by
    have hw:=wrap_nat (n:=i) (by omega)
    obtain ⟨hdok,h8⟩:=hok _ (List.getElem_mem hi)
    have hget: (p.effects.map Eff.d)[i]? =some (Eff.d p.effects[i]):=by simp [hi]
    have hlen: (p.effects.map Eff.d).length=p.effects.length:=by simp
    have hel':p.effects.length≤maxL:=by unfold maxL;omega
    generalize p.effects.map Eff.d=dd at*
    have h2:i<dd.length:=by omega
    have h3:dd[i]=Eff.d p.effects[i]:=by rw [List.getElem?_eq_getElem h2] at hget;exact Option.some.inj hget
    generalize p.effects[i]=d at*
    rcases d with ⟨en,ops⟩
    rcases x with ⟨a,b⟩
    obtain ⟨hcl,hcok⟩:=hdok
    simp only [Eff.d,Eff.cs] at*
    have hxl: (ops.map Opn.d).length=ops.length:=by simp
    have h110:=c110 a en (σ.length+2) σ.length (onceS σ a b++τ++[Obj.box [.str en, .slice (ops.map Opn.d)]]) (by simp only [List.append_assoc];exact onceS_b ..) (by simp only [List.append_assoc];exact onceS_r ..) (by omega) (by omega)
    have hset: ((onceS σ a b++τ++[Obj.box [.str en, .slice (ops.map Opn.d)]]).set σ.length (rowS (a++[en]))).set (σ.length+2) (refS σ.length (a++[en]))=onceS σ (a++[en]) b++τ++[Obj.box [.str en, .slice (ops.map Opn.d)]]:=by
     simp only [List.append_assoc];exact onceS_set ..
    rw [hset] at h110
    obtain ⟨qd,hqd⟩: ∃qd,(onceS σ a b++τ).length=qd:=⟨_,rfl⟩
    have hgd: ∀b,(onceS σ (a++[en]) b++(τ++[Obj.box [.str en, .slice (ops.map Opn.d)]]))[qd]? =some (.box [.str en, .slice (ops.map Opn.d)]):=fun b'=>by
     have:qd=(onceS σ (a++[en]) b'++τ).length:=by rw [←hqd];simp only [List.length_append,onceS_len]
     rw [this,←List.append_assoc];exact getA0
    obtain ⟨τ1,ev1,hit⟩:=it56_3 p m hdl hel' ops tb σ (τ++[Obj.box [.str en, .slice (ops.map Opn.d)]]) (a++[en]) hT hcl hcok b (by omega) (.slice dd) (.int .i64 p.effects.length) (.int .i64 i)
    unfold effStep
    cases hh:hasS a en
    ·rw [hh] at h110
     have hgd:=hgd b
     simp only [←List.append_assoc] at hit hgd
     simp only [Bool.false_eq_true,if_false] at h110 ⊢
     generalize ops.map Opn.d=cd at*
     generalize hσ3:onceS σ (a++[en]) b++τ++[Obj.box [.str en, .slice cd]]=σ3 at*
     cases hz:foldS (opnStep p) ops 0 b with
     |inl b'=>
      rw [hz] at hit
      refine ⟨τ++[Obj.box [.str en, .slice cd]]++τ1,[], ?_⟩
      simp only [←List.append_assoc] at hit ⊢
      generalize onceS σ a b++τ=σ2 at*
      generalize onceS σ (a++[en]) b'++τ++[Obj.box [.str en, .slice cd]]++τ1=σ4 at*
      subst hqd
      simp [lp56_4,hi,hw,h2,h3,getA0,setA0,h110,hgd,hxl,hit]
     |inr e=>
      rw [hz] at hit
      refine ⟨τ1,ev1, ?_⟩
      generalize onceS σ a b++τ=σ2 at*
      subst hqd
      simp [lp56_4,hi,hw,h2,h3,getA0,setA0,h110,hgd,hxl,hit]
    ·rw [hh] at h110
     simp only [if_true] at h110 ⊢
     refine ⟨[rowS a,rowS b,refS σ.length a,refS (σ.length+1) b]++τ++[Obj.box [.str en, .slice (ops.map Opn.d)]],[(0, .ptr tb 0),(4, .func 110 [] []),(11, .ptr (σ.length+2) 0),(12, .ptr (σ.length+3) 0),(14, .ptr qd 0),(79, .slice (dd)),(80, .int .i64 p.effects.length),(81, .int .i64 (i:Nat)),(86, .ptr qd 0),(87, .str en)], ?_⟩
     have e2:σ++([rowS a,rowS b,refS σ.length a,refS (σ.length+1) b]++τ++[Obj.box [.str en, .slice (ops.map Opn.d)]])=onceS σ a b++τ++[Obj.box [.str en, .slice (ops.map Opn.d)]]:=by simp [onceS]
     rw [e2]
     clear hit hgd
     generalize ops.map Opn.d=cd at*
     generalize onceS σ a b++τ=σ2 at*
     subst hqd
     simp [lp56_4,hi,hw,h2,h3,getA0,setA0,h110])
  (fun x τ _=>⟨τ,by
    generalize p.effects.map Eff.d=dd
    simp [lp56_4]⟩) (a0,b0) [] (by simp;omega)
 simp only [List.append_nil,Int.natCast_zero] at this
 obtain ⟨τ',ev,h⟩:=this
 refine ⟨τ',ev, ?_⟩
 rw [h]
 cases foldS (effStep p) p.effects 0 (a0,b0)<;>rfl
def unitE:Ex:= .mk 3 0 [] [] [] [] []
def Prg.bare (p:Prg):Prg:=⟨p.data,p.effects,[],unitE⟩
def nPrint:Bs:=[112,114,105,110,116]
def nRead:Bs:=[114,101,97,100]
def Prg.ordE (p:Prg):Int:=match foldS (datStep p) p.data 0 (builtins,[]) with
 | .inr e=>e
 | .inl _=>match foldS (effStep p) p.effects 0 ([nIO],[nPrint,nRead]) with
  | .inr e=>e
  | .inl _=>0
def Prg.decls (p:Prg):Int:=orE p.bare.syn p.ordE
theorem Prg.bare_ok {p:Prg} (h:p.ok):p.bare.ok:=⟨h.dl,h.d,h.el,h.e,by unfold maxL;simp [Prg.bare],by simp [Prg.bare],by show unitE.ok;exact ⟨by simp [maxL],by simp [maxL],by simp [maxL],trivial,trivial⟩⟩
theorem firstE_zero {l:List Int} :firstE l=0↔ ∀x ∈ l,x=0:=by
 induction l with
 |nil=>simp [firstE]
 |cons a r ih=>
  simp only [firstE,List.forall_mem_cons]
  by_cases h:a=0
  ·simp [h,ih]
  ·simp [h]
theorem orE_zero {a b:Int} :orE a b=0↔a=0∧b=0:=by
 unfold orE
 by_cases h:a=0<;>simp [h]
theorem Prg.syn_data {p:Prg} (h:p.syn=0):p.data.length≤12∧p.effects.length≤12∧p.defs.length≤60∧(∀d ∈ p.data,datE d=0)∧(∀e ∈ p.effects,effE e=0)∧((nestE p.defs p.main).take 1 (3000,0)).1=true∧(∀d ∈ p.defs,dfnE d=0)∧p.main.e=0:=by
 unfold Prg.syn at h
 split at h
 ·cases h
 ·rename_i hn
  simp only [orE_zero,firstE_zero,List.forall_mem_map] at h
  obtain ⟨h1,h2,h3⟩:=h
  split at h3
  ·rename_i ht
   simp only [orE_zero,firstE_zero,List.forall_mem_map] at h3
   exact ⟨by omega,by omega,by omega,h1,h2,ht,h3.1,h3.2⟩
  ·cases h3
theorem datE_cons {d:Dat} (h:datE d=0):d.params.length≤4∧d.cons.length≤8∧upW d.name=true∧distE d.params 1=0∧ ∀c ∈ d.cons,conE c=0:=by
 unfold datE at h
 split at h
 ·cases h
 ·split at h
  ·split at h
   ·rename_i h1 h2 h3
    simp only [firstE_zero,List.forall_mem_map] at h
    exact ⟨by omega,by omega,h2,h3,h⟩
   ·rename_i h1 h2 h3
    exact absurd h h3
  ·cases h
theorem effE_ops {e:Eff} (h:effE e=0):e.ops.length≤8∧upW e.name=true∧ ∀o ∈ e.ops,opnE o=0:=by
 unfold effE at h
 split at h
 ·cases h
 ·split at h
  ·rename_i h1 h2
   simp only [firstE_zero,List.forall_mem_map] at h
   exact ⟨by omega,h2,h⟩
  ·cases h
theorem foldS_inr {α β γ:Type} {step:Nat→α→β→β ⊕ γ} {P:γ→Prop} : ∀ (l:List α) (_: ∀a ∈ l,∀i b c,step i a b= .inr c→P c) (i:Nat) (b:β) (c:γ),foldS step l i b= .inr c→P c
 | [],h,i,b,c,hc=>by cases hc
 |a::r,h,i,b,c,hc=>by
  simp only [foldS] at hc
  cases hs:step i a b with
  |inl b1=>rw [hs] at hc;exact foldS_inr r (fun x hx=>h x (List.mem_cons_of_mem _ hx)) _ _ _ hc
  |inr c1=>rw [hs] at hc;cases hc;exact h a List.mem_cons_self _ _ _ hs
theorem consStep_ne {p:Prg} {params:List Bs} {i:Nat} {c:Con} {b:List Bs} {e:Int} (h:consStep p params i c b= .inr e):e≠0:=by
 unfold consStep at h
 split at h
 ·cases h;omega
 ·split at h
  ·cases h
  ·rename_i hz;cases h;exact hz
theorem datStep_ne {p:Prg} {i:Nat} {d:Dat} {b:List Bs × List Bs} {e:Int} (h:datStep p i d b= .inr e):e≠0:=by
 unfold datStep at h
 split at h
 ·cases h;omega
 ·split at h
  ·cases h
  ·rename_i e' he
   cases h
   exact foldS_inr (P:=fun e=>e≠0) _ (fun _ _ _ _ _ h=>consStep_ne h) _ _ _ he
theorem opnStep_ne {p:Prg} {i:Nat} {c:Opn} {b:List Bs} {e:Int} (h:opnStep p i c b= .inr e):e≠0:=by
 unfold opnStep at h
 split at h
 ·cases h;omega
 ·split at h
  ·cases h
  ·rename_i hz;cases h;exact hz
theorem effStep_ne {p:Prg} {i:Nat} {d:Eff} {b:List Bs × List Bs} {e:Int} (h:effStep p i d b= .inr e):e≠0:=by
 unfold effStep at h
 split at h
 ·cases h;omega
 ·split at h
  ·cases h
  ·rename_i e' he
   cases h
   exact foldS_inr (P:=fun e=>e≠0) _ (fun _ _ _ _ _ h=>opnStep_ne h) _ _ _ he
set_option maxHeartbeats 2000000 in
theorem c56 (p:Prg) (m:CMap) (hok:p.ok) (tb:Nat) (σ:St) (hT:IsT σ tb p m):CI (.fn 56) [.ptr tb 0] σ=some (outR p.decls,σ):=by
 have h95:=fun σ=>c95 p.bare (Prg.bare_ok hok) σ
 have q95:qI 95=false:=rfl
 have x95:XB 95=false:=rfl
 have q59:qI 59=false:=rfl
 have x59:XB 59=false:=rfl
 obtain ⟨τ,hτ⟩: ∃τ,bodyI CI XB GI af56 [.ptr tb 0] σ=some (outR p.decls,σ++τ):=by
  obtain ⟨j,hj,hm⟩:=id hT
  have hcs:p.bare.cs=[.slice (p.data.map Dat.d), .slice (p.effects.map Eff.d), .slice [], .int .i64 3, .int .i64 0, .str [], .str [], .slice [], .slice [], .slice []]:=rfl
  rw [hcs] at h95
  rw [p.cs_eq] at hj
  unfold Prg.decls
  by_cases hs:p.bare.syn=0
  ·obtain ⟨hs1,hs2,_,hs3,hs4,_⟩:=Prg.syn_data hs
   rw [hs] at h95 ⊢
   obtain ⟨τ1,ev1,hit1⟩:=it56_2 p m hs1 hok.el (fun d hd=>⟨hok.d d hd,(datE_cons (hs3 d hd)).2.1⟩) tb σ hT builtins [] (by decide) (by decide)
   have hdL: (p.data.map Dat.d).length=p.data.length:=by simp
   have heL: (p.effects.map Eff.d).length=p.effects.length:=by simp
   have ho:orE 0 p.ordE=p.ordE:=rfl
   rw [ho]
   unfold Prg.ordE
   simp only [onceS,rowS,refS,builtins,nInt,nBool,nUnit,List.map_cons,List.map_nil,List.length_cons,List.length_nil] at hit1
   cases hz1:foldS (datStep p) p.data 0 ([[73,110,116],[66,111,111,108],[85,110,105,116]],[]) with
   |inr e=>
    have hne:e≠0:=foldS_inr (P:=fun e=>e≠0) _ (fun _ _ _ _ _ h=>datStep_ne h) _ _ _ hz1
    rw [hz1] at hit1
    have hz1':foldS (datStep p) p.data 0 (builtins,[])= .inr e:=hz1
    rw [hz1']
    simp only [outR_ne hne]
    refine ⟨τ1, ?_⟩
    generalize p.data.map Dat.d=dd at*
    generalize p.effects.map Eff.d=ed at*
    generalize p.defs.map Dfn.d=fd at*
    generalize p.main.cs=mc at*
    simp [bodyI,af56,hj,getO hj,fillD,fillRow,putCells,h95,c59,outR_zero,q95,x95,q59,x59,Nat.testBit_eq_decide_div_mod_eq,getA0,getA,setA,setA0,hdL,hit1]
   |inl x=>
    rw [hz1] at hit1
    have hz1':foldS (datStep p) p.data 0 (builtins,[])= .inl x:=hz1
    rw [hz1']
    simp only at hit1 ⊢
    have e1: ∀τ,∃τ',σ++[.row 1 (x.1.map .str) 0, .row 1 (x.2.map .str) 0, .box [.arr σ.length x.1.length 0 x.1.length], .box [.arr (σ.length+1) x.2.length 0 x.2.length]]++τ1++τ=σ++τ':=fun τ=>⟨_,by rw [List.append_assoc,List.append_assoc]⟩
    have hT2:IsT (σ++[.row 1 (x.1.map .str) 0, .row 1 (x.2.map .str) 0, .box [.arr σ.length x.1.length 0 x.1.length], .box [.arr (σ.length+1) x.2.length 0 x.2.length]]++τ1) tb p m:=hT.app.app
    have hj2: (σ++[.row 1 (x.1.map .str) 0, .row 1 (x.2.map .str) 0, .box [.arr σ.length x.1.length 0 x.1.length], .box [.arr (σ.length+1) x.2.length 0 x.2.length]]++τ1)[tb]? =_:=getO (getO hj)
    generalize hσ2:σ++[.row 1 (x.1.map .str) 0, .row 1 (x.2.map .str) 0, .box [.arr σ.length x.1.length 0 x.1.length], .box [.arr (σ.length+1) x.2.length 0 x.2.length]]++τ1=σ2 at*
    obtain ⟨τ2,ev2,hit2⟩:=it56_4 p m hok.dl hs2 (fun d hd=>⟨hok.e d hd,(effE_ops (hs4 d hd)).1⟩) tb σ2 hT2 [nIO] [nPrint,nRead] (by decide) (by decide)
    simp only [onceS,rowS,refS,nIO,nPrint,nRead,List.map_cons,List.map_nil,List.length_cons,List.length_nil] at hit2
    cases hz2:foldS (effStep p) p.effects 0 ([[73,79]],[[112,114,105,110,116],[114,101,97,100]]) with
    |inr e=>
     have hne:e≠0:=foldS_inr (P:=fun e=>e≠0) _ (fun _ _ _ _ _ h=>effStep_ne h) _ _ _ hz2
     rw [hz2] at hit2
     have hz2':foldS (effStep p) p.effects 0 ([nIO],[nPrint,nRead])= .inr e:=hz2
     rw [hz2']
     simp only [outR_ne hne] at hit2 ⊢
     obtain ⟨τ',hτ'⟩:=e1 τ2
     refine ⟨τ', ?_⟩
     rw [←hτ']
     generalize p.data.map Dat.d=dd at*
     generalize p.effects.map Eff.d=ed at*
     generalize p.defs.map Dfn.d=fd at*
     generalize p.main.cs=mc at*
     simp [bodyI,af56,hj,getO hj,fillD,fillRow,putCells,h95,c59,outR_zero,q95,x95,q59,x59,Nat.testBit_eq_decide_div_mod_eq,getA0,getA,setA,setA0,hdL,heL,hit1,hj2,getO hj2,hit2]
    |inl y=>
     rw [hz2] at hit2
     have hz2':foldS (effStep p) p.effects 0 ([nIO],[nPrint,nRead])= .inl y:=hz2
     rw [hz2']
     simp only [outR_zero] at hit2 ⊢
     obtain ⟨τ',hτ'⟩:=e1 ([.row 1 (y.1.map .str) 0, .row 1 (y.2.map .str) 0, .box [.arr σ2.length y.1.length 0 y.1.length], .box [.arr (σ2.length+1) y.2.length 0 y.2.length]]++τ2)
     refine ⟨τ', ?_⟩
     rw [←hτ',←List.append_assoc]
     generalize p.data.map Dat.d=dd at*
     generalize p.effects.map Eff.d=ed at*
     generalize p.defs.map Dfn.d=fd at*
     generalize p.main.cs=mc at*
     simp [bodyI,af56,hj,getO hj,fillD,fillRow,putCells,h95,c59,outR_zero,q95,x95,q59,x59,Nat.testBit_eq_decide_div_mod_eq,getA0,getA,setA,setA0,hdL,heL,hit1,hj2,getO hj2,hit2]
  ·refine ⟨[], ?_⟩
   have ho:orE p.bare.syn p.ordE=p.bare.syn:=by unfold orE;rw [if_neg hs]
   rw [ho,outR_ne hs]
   generalize p.bare.syn=e at*
   generalize p.data.map Dat.d=dd at*
   generalize p.effects.map Eff.d=ed at*
   generalize p.defs.map Dfn.d=fd at*
   generalize p.main.cs=mc at*
   simp [bodyI,af56,hj,fillD,putCells,h95,c59,outR_ne hs,q95,x95,q59,x59,Nat.testBit_eq_decide_div_mod_eq]
 exact CI_out tab56 hτ
theorem c54 (g:Nat) (first captured:List D) (e:Int) (σ:St) (h:CI (.fn g) (first++captured) (σ++[.box [.int .i64 0]])=some (outR e,σ++[.box [.int .i64 0]])):
 CI (.fn 54) [.func g first captured] σ=some (.ret (.int .i64 e),σ):=by
 have hev:evalCatch CI 154 [.func g first captured] σ=some (.ret (.int .i64 e),σ++[.box [.int .i64 e]]):=by
  unfold evalCatch
  simp only [h]
  by_cases he:e=0
  ·subst he
   rw [outR_zero]
   simp [getA0,setA0]
  ·rw [outR_ne he]
   simp [refD,getA0,setA0]
 exact callI_catch (ty:=154) postN ext_none rfl rfl hev (postI_tree rfl)
theorem c14 (p:Prg) (hok:p.ok) (σ:St):CI (.fn 14) [.agg p.cs] σ=some (.ret (.int .i64 p.decls),σ):=by
 obtain ⟨τ1,h55⟩:=c55 p hok.dl hok.d (σ++[.box p.cs])
 have hT:=lookS_T p (σ++[Obj.box p.cs]) τ1
 obtain ⟨τ,hτ⟩: ∃τ,bodyI CI XB GI af14 [.agg p.cs] σ=some (.ret (.int .i64 p.decls),σ++τ):=by
  refine ⟨[.box p.cs]++([.box p.cs, .map (kvs p.cm), .box (p.cs++[.map ((σ++[Obj.box p.cs]).length+1)])]++τ1), ?_⟩
  have e:σ++([.box p.cs]++([.box p.cs, .map (kvs p.cm), .box (p.cs++[.map ((σ++[Obj.box p.cs]).length+1)])]++τ1))=lookS p (σ++[.box p.cs]) p.cm++τ1:=by
   unfold lookS;simp only [List.append_assoc]
  rw [e]
  generalize lookS p (σ++[.box p.cs]) p.cm++τ1=σ2 at*
  have h56:=c56 p p.cm hok _ _ (hT.app (τ:=[.box [.int .i64 0]]))
  have h54:=c54 56 [.ptr ((σ++[Obj.box p.cs]).length+2) 0] [] p.decls σ2 h56
  have hall:=p.cs_all
  have hpl:=p.cs_len
  have hpt:=p.cs_take
  simp only [List.length_append,List.length_cons,List.length_nil] at h55 h54
  generalize p.cs=pc at*
  simp [bodyI,af14,getA0,hall,hpl,hpt,h55,h54]
 exact CI_tree tab14 hτ rfl rfl
def findConL (s:Bs):List Dat→Nat→Option (Nat × Nat)
 | [],_=>none
 |d::r,i=>match d.cons.findIdx? (fun c=>c.name==s) with
  |some k=>some (i,k)
  |none=>findConL s r (i+1)
theorem strip_one (n:Nat) (σ:St) (d:D) (h:d.tree=true):strip n σ d=some d:=by cases n<;>simp [strip,h]
theorem leads_one (n:Nat) (σ:St) (d:D) (h:d.tree=true):leads n σ d=[]:=by cases n<;>simp [leads,h]
theorem strip_list (n:Nat) (σ:St): ∀ (es:List D),treeL es=true→es.mapM (strip n σ)=some es
 | [],_=>rfl
 |d::r,h=>by
  simp only [treeL,Bool.and_eq_true] at h
  rw [List.mapM_cons,strip_one n σ d h.1,strip_list n σ r h.2]
  rfl
theorem leads_list (n:Nat) (σ:St): ∀ (es:List D),treeL es=true→es.flatMap (leads n σ)=[]
 | [],_=>rfl
 |d::r,h=>by
  simp only [treeL,Bool.and_eq_true] at h
  rw [List.flatMap_cons,leads_one n σ d h.1,leads_list n σ r h.2]
  rfl
theorem strip_row {σ:St} {r sz since:Nat} {es:List D} (hr:σ[r]? =some (.row sz es since)) (hs:since≤es.length) (h:treeL es=true) (n:Nat):
 strip (n+1) σ (.arr r es.length 0 es.length)=some (.slice es)∧leads (n+1) σ (.arr r es.length 0 es.length)=[r]:=by
 have hrow:rowOf σ (.arr r es.length 0 es.length)=some es:=by simp [rowOf,hr,hs]
 constructor
 ·unfold strip
  simp only [D.tree,Bool.false_eq_true,if_false,hrow,strip_list _ _ es h]
  rfl
 ·unfold leads
  simp only [D.tree,Bool.false_eq_true,if_false,hrow,leads_list _ _ es h]
theorem postI_row {q:FuncId→Bool} {f:FuncId} {σ τ:St} {r sz:Nat} {es:List D} {since:Nat} (hr: (σ++τ)[r]? =some (.row sz es since)) (hn:σ.length≤r) (hs:since≤es.length) (h:treeL es=true):
 postI q f σ (some (.ret (.arr r es.length 0 es.length),σ++τ))=some (.ret (.slice (weakL es)),σ):=by
 obtain ⟨hst,hle⟩:=strip_row hr hs h 15
 rw [postI_rows hst (by rw [hle];simpa using hn)]
 rfl
theorem foldS_snoc {α:Type} (g:α→Bs): ∀ (l:List α) (i:Nat) (b:List Bs),foldS (γ:=Unit) (fun _ a b=> .inl (b++[g a])) l i b= .inl (b++l.map g)
 | [],i,b=>by simp [foldS]
 |a::r,i,b=>by simp only [foldS,foldS_snoc g r];simp
def opNames (p:Prg) (i:Int):List Bs:=if i<0 then [nPrint,nRead] else match p.effects[i.toNat]? with|some e=>e.ops.map Opn.name|none=>[]
theorem c90m (p:Prg) (σ:St):CI (.fn 90) [.agg p.cs, .int .i64 (-1)] σ=some (.ret (slD [nPrint,nRead]),σ):=by
 have hτ:bodyI CI XB GI af90 [.agg p.cs, .int .i64 (-1)] σ=some (.ret (slD [nPrint,nRead]),σ++[.box p.cs]):=by
  have hall:=p.cs_all
  generalize p.cs=pc at*
  simp [bodyI,af90,hall,nPrint,nRead,fillRow]
 exact CI_tree tab90 hτ rfl rfl
theorem c90 (p:Prg) (hok:p.ok) (i:Nat) (hi:i<p.effects.length) (σ:St):CI (.fn 90) [.agg p.cs, .int .i64 i] σ=some (.ret (slD (p.effects[i].ops.map Opn.name)),σ):=by
 have hx:=hok.e _ (List.getElem_mem hi)
 have hget: (p.effects.map Eff.d)[i]? =some (Eff.d p.effects[i]):=by simp [hi]
 have hlen: (p.effects.map Eff.d).length=p.effects.length:=by simp
 have hcs1:p.cs[1]? =some (.slice (p.effects.map Eff.d)):=by rw [p.cs_eq];rfl
 generalize p.effects.map Eff.d=ed at*
 have h2:i<ed.length:=by omega
 have h3:ed[i]=Eff.d p.effects[i]:=by rw [List.getElem?_eq_getElem h2] at hget;exact Option.some.inj hget
 generalize p.effects[i]=e at*
 rcases e with ⟨en,ops⟩
 obtain ⟨hol,hoo⟩:=hx
 simp only at hol hoo ⊢
 unfold maxL at hol
 obtain ⟨τ,hit⟩:=loop_foldS (γ:=Unit) (f:=evalI CI XB GI 29 false lp90_0) ops (fun k b=>[(5, .arr (σ.length+1) b.length 0 b.length),(16, .slice (ops.map Opn.d)),(17, .int .i64 ops.length),(18, .int .i64 (k:Nat))])
  (fun b=>σ++[.box p.cs,rowS b]) (fun k b=>b.length=k) (fun _ (o:Opn) b=> .inl (b++[o.name])) (fun _=>(.ret,[])) (fun _=>[]) (fun b=>(.exit 0,[(5, .arr (σ.length+1) b.length 0 b.length),(16, .slice (ops.map Opn.d)),(17, .int .i64 ops.length),(18, .int .i64 ops.length),(19, .bool false)]))
  (by simp) (by simp) (fun k hk b b' hb hs=>by cases hs;simp [hb])
  (fun k hk b τ hb=>by
    have hw:=wrap_nat (n:=k) (by omega)
    have hget: (ops.map Opn.d)[k]? =some (Opn.d ops[k]):=by simp [hk]
    have hlen: (ops.map Opn.d).length=ops.length:=by simp
    generalize ops.map Opn.d=od at*
    have h2:k<od.length:=by omega
    have h3:od[k]=Opn.d ops[k]:=by rw [List.getElem?_eq_getElem h2] at hget;exact Option.some.inj hget
    generalize ops[k]=o at*
    rcases o with ⟨on,arg,res,once⟩
    refine ⟨τ++[.box (Opn.cs ⟨on,arg,res,once⟩)], ?_⟩
    simp only [Opn.d,Opn.cs] at*
    rcases arg with ⟨k1,n1,s1,l1,ls1,t1⟩
    rcases res with ⟨k2,n2,s2,l2,ls2,t2⟩
    simp only [Ty.cs,List.cons_append,List.nil_append] at*
    generalize tysD l1=ld1 at*
    generalize tysD l2=ld2 at*
    generalize ls1.map Lab.d=lsd1 at*
    generalize ls2.map Lab.d=lsd2 at*
    have hg: ∀x,(σ++[.box p.cs,rowS b]++τ++[x])[σ.length+1]? =some (.row 1 (b.map .str) 0):=fun x=>by simp only [List.append_assoc];exact getA
    have hs: ∀x,(σ++[.box p.cs,rowS b]++τ++[x]).set (σ.length+1) (.row 1 (b.map .str++[.str on]) 0)=σ++[.box p.cs,rowS (b++[on])]++τ++[x]:=fun x=>by
     simp only [List.append_assoc];rw [setA];simp [rowS]
    rw [←List.append_assoc]
    have hs2: ∀x,(σ++[.box p.cs,rowS (b++[on])]++τ++[x])=(σ++[.box p.cs,rowS b]++τ++[x]).set (σ.length+1) (.row 1 (b.map .str++[.str on]) 0):=fun x=>(hs x).symm
    have hbl: (b.map D.str).length=b.length:=by simp
    have hba: (b.length+1) *16≤140737488355328:=by omega
    simp only [hs2]
    generalize σ++[.box p.cs,rowS b]++τ=σ1 at*
    generalize b.map D.str=bd at*
    simp [lp90_0,hk,hw,h2,h3,getA0,setA0,hg,rowOf,fillRow,hbl,hba])
  (fun b τ hb=>⟨τ,by
    generalize ops.map Opn.d=od at*
    simp [lp90_0]⟩) [] [] rfl
 rw [foldS_snoc,List.append_nil,List.nil_append,Int.natCast_zero] at hit
 simp only at hit
 have hol2: (ops.map Opn.d).length=ops.length:=by simp
 have hτ:bodyI CI XB GI af90 [.agg p.cs, .int .i64 i] σ=some (.ret (.arr (σ.length+1) (ops.map Opn.name).length 0 (ops.map Opn.name).length),σ++([.box p.cs,rowS (ops.map Opn.name)]++τ)):=by
  rw [←List.append_assoc]
  generalize σ++[.box p.cs,rowS (ops.map Opn.name)]++τ=σ2 at*
  simp only [rowS,List.map_nil,List.length_nil,Int.natCast_zero] at hit
  have hall:=p.cs_all
  simp only [Eff.d,Eff.cs] at*
  generalize p.cs=pc at*
  generalize ops.map Opn.d=od at*
  generalize (ops.map Opn.name).length=nl at*
  have hni: ¬(i:Int) <0:=by omega
  simp [bodyI,af90,hall,hni,getA0,getA,hcs1,h2,h3,hol2,hit]
 refine CI_fn tab90 hτ ?_
 have hl: (ops.map Opn.name).length=((ops.map Opn.name).map D.str).length:=by simp
 rw [hl,postI_row (sz:=1) (since:=0) (by rw [getA];rfl) (by omega) (by omega) (treeL_strs _)]
 rw [show weakL ((ops.map Opn.name).map D.str)=(ops.map Opn.name).map D.str from (plain_strs (ops.map Opn.name)) |>.2 |> fun h=>by simpa [D.weak] using h]
def findOpL (s:Bs):List Eff→Nat→Option (Nat × Nat)
 | [],_=>none
 |e::r,i=>match (e.ops.map Opn.name).findIdx? (· ==s) with
  |some k=>some (i,k)
  |none=>findOpL s r (i+1)
def opD (s:Bs):Option (Nat × Nat)→D
 |some (i,k)=> .tuple [.int .i64 i, .int .i64 k, .int .i64 0]
 |none=>match [nPrint,nRead].findIdx? (· ==s) with
  |some k=> .tuple [.int .i64 (-1), .int .i64 k, .int .i64 0]
  |none=> .tuple [.int .i64 0, .int .i64 0, .int .i64 6]
theorem opD_tree (s:Bs) (x:Option (Nat × Nat)): (opD s x).tree=true∧(opD s x).weak=opD s x:=by
 unfold opD
 split
 ·exact ⟨rfl,rfl⟩
 ·split<;>exact ⟨rfl,rfl⟩
theorem seekM_op (s:Bs): ∀ (l:List Eff) (i:Nat),seekM (fun i (e:Eff)=>((e.ops.map Opn.name).findIdx? (· ==s)).map fun k=>(i,k)) l i=findOpL s l i
 | [],i=>rfl
 |d::r,i=>by
  simp only [seekM,findOpL]
  cases (d.ops.map Opn.name).findIdx? (· ==s) with
  |some k=>rfl
  |none=>exact seekM_op s r (i+1)
theorem c32 (p:Prg) (hok:p.ok) (s:Bs) (σ:St):CI (.fn 32) [.agg p.cs, .str s] σ=some (.ret (opD s (findOpL s p.effects 0)),σ):=by
 obtain ⟨τ,hτ⟩: ∃τ,bodyI CI XB GI af32 [.agg p.cs, .str s] σ=some (.ret (opD s (findOpL s p.effects 0)),σ++τ):=by
  have hel:=hok.el
  have hall:=p.cs_all
  have hpl:=p.cs_len
  have hpt:=p.cs_take
  obtain ⟨τ,hit⟩:=loop_seekM (f:=evalI CI XB GI 33 false lp32_0) (σ:=σ++[.box p.cs]) p.effects (fun i=>[(1, .str s),(2, .ptr σ.length 0),(12, .int .i64 p.effects.length),(13, .int .i64 (i:Nat))])
   (fun i (e:Eff)=>((e.ops.map Opn.name).findIdx? (· ==s)).map fun k=>(i,k)) (fun x=>(.ret,[(4, .int .i64 x.1),(5, .int .i64 x.2),(6, .int .i64 0)])) (.exit 0,[(1, .str s),(2, .ptr σ.length 0),(12, .int .i64 p.effects.length),(13, .int .i64 p.effects.length),(14, .bool false)]) (by simp) (by simp)
   (fun i hi τ=>by
     have hw:=wrap_nat (n:=i) (by unfold maxL at hel;omega)
     have h90:=fun σ=>c90 p hok i hi σ
     have hol:=(hok.e _ (List.getElem_mem hi)).1
     have h89:=fun σ=>c89 (p.effects[i].ops.map Opn.name) s σ (by simpa using hol)
     refine ⟨τ, ?_⟩
     have hg: (σ++[.box p.cs]++τ)[σ.length]? =some (.box p.cs):=by rw [List.append_assoc];exact getA0
     generalize σ++[.box p.cs]++τ=σ1 at*
     generalize p.cs=pc at*
     unfold indexP at h89
     generalize p.effects[i].ops.map Opn.name=nl at*
     simp only [slD] at*
     cases hf:nl.findIdx? (· ==s) with
     |some k=>
      rw [hf] at h89
      simp [lp32_0,hi,hw,hg,hpl,hpt,h90,h89]
     |none=>
      rw [hf] at h89
      simp [lp32_0,hi,hw,hg,hpl,hpt,h90,h89]) (fun τ=>⟨τ,by simp [lp32_0]⟩) []
  rw [seekM_op,List.append_nil,Int.natCast_zero] at hit
  refine ⟨[.box p.cs]++τ, ?_⟩
  rw [←List.append_assoc]
  have hg: (σ++[.box p.cs]++τ)[σ.length]? =some (.box p.cs):=by rw [List.append_assoc];exact getA0
  generalize hσ1:σ++[.box p.cs]++τ=σ1 at*
  have hlen: (p.effects.map Eff.d).length=p.effects.length:=by simp
  have hh:p.cs[1]? =some (.slice (p.effects.map Eff.d)):=by rw [p.cs_eq];rfl
  have h90:=fun σ=>c90m p σ
  have h89:=fun σ=>c89 [nPrint,nRead] s σ (by decide)
  generalize p.effects.map Eff.d=dd at*
  generalize p.cs=pc at*
  have hh2: ∀h:1<pc.length,pc[1]= .slice dd:=fun h=>by rw [List.getElem?_eq_getElem h] at hh;exact Option.some.inj hh
  cases hf:findOpL s p.effects 0 with
  |some x=>
   rw [hf] at hit
   simp [bodyI,af32,getA0,hall,hpl,hpt,hh2,hlen,hit,opD]
  |none=>
   rw [hf] at hit
   unfold indexP at h89
   unfold opD
   simp only [slD] at h90 h89
   cases hq: [nPrint,nRead].findIdx? (· ==s) with
   |some k=>
    rw [hq] at h89
    generalize [nPrint,nRead].map D.str=nd at*
    simp [bodyI,af32,getA0,hall,hpl,hpt,hh2,hlen,hit,hg,h90,h89]
   |none=>
    rw [hq] at h89
    generalize [nPrint,nRead].map D.str=nd at*
    simp [bodyI,af32,getA0,hall,hpl,hpt,hh2,hlen,hit,hg,h90,h89]
 exact CI_tree tab32 hτ (opD_tree _ _).1 (opD_tree _ _).2
end Go.AI
namespace Go.AI
open Go Go.Proofs
set_option maxRecDepth 100000
theorem pure_ofI {X:Ext} (hX:ExtR Tryz.prog GI X) {f:FuncId} {args:List D} {r:D} (hr:r.tree=true) (h:callI tabT X GI (.fn f) args []=some (.ret r,[])):PureCall Tryz.prog GI f args r:=by
 obtain ⟨hreal,hcalls⟩:=(callI_sound postN hX tabR isGI.tree isGI.natR isGI.post mixed).2 (.fn f) args [] (.ret r) [] h
 refine fun fx W vs hfx hG ha=> ?_
 have up: ∀ {d v},R (bare fx) W d v→R (cold Tryz.prog fx) W d v:=fun hr=>R.mono (ρ:=bare fx) (ρ':=cold Tryz.prog fx) (fun i v p h=>by simp [bare] at h) (fun _ h=>h) (fun _ _=>rfl) hr
 refine Calls.mono (hcalls (cold Tryz.prog fx) W vs (cold_rel hfx) (fun g cs hg=>⟨up (hG g cs hg).1,(hG g cs hg).2⟩) rfl ⟨ha.1,fun j x hx=>up (ha.2 j x hx)⟩) fun en w he=> ?_
 obtain ⟨ρ1,L,hR1,hrr⟩:=he
 have hs:strip 16 [] r=some r:=by simp [strip,hr]
 cases en with
 |returned v=>
  refine ⟨lent ρ1 (leads 16 [] r),v,rfl,fun b hb=> .inl (L.fix b hb),fun b hb=> ?_,fun b hb=>L.own b hb (fun i v p h=>by simp [cold] at h),L.size,L.os,L.tape,L.output, ?_⟩
  ·rcases hb with hb| ⟨i,v,p,_,hp,rfl⟩
   ·rcases L.fixnew b hb with h| ⟨j,u,q,hq,_⟩ |hge
    ·exact .inl h
    ·simp [cold] at hq
    ·exact .inr ⟨hge,hR1.fixlt b hb⟩
   ·rcases L.new i v p hp with ⟨j,u,q,hq,_⟩ |hge
    ·simp [cold] at hq
    ·exact .inr ⟨hge,(hR1.blk i v p hp).1⟩
  ·exact strip_sound hR1 (leads 16 [] r) 16 16 (Nat.le_refl _) r r v hrr hs fun i hi=>hi
 |_=>exact hrr.elim
noncomputable def gC (f:FuncId) (args:List D):Option D:=by
 classical exact if h: ∃r:D,r.tree=true∧CI (.fn f) args []=some (.ret r,[]) then some h.choose else none
theorem gC_eq {f:FuncId} {args:List D} {r:D} (hr:r.tree=true) (h:CI (.fn f) args []=some (.ret r,[])):gC f args=some r:=by
 unfold gC
 have hx: ∃r:D,r.tree=true∧CI (.fn f) args []=some (.ret r,[]):=⟨r,hr,h⟩
 rw [dif_pos hx]
 have h2:=hx.choose_spec.2
 have h3:=(Prod.mk.inj (Option.some.inj (h.symm.trans h2))).1
 exact congrArg some (FRes.ret.inj h3).symm
theorem gC_sound {f:FuncId} {args:List D} {r:D} (h:gC f args=some r):r.tree=true∧PureCall Tryz.prog GI f args r:=by
 unfold gC at h
 split at h
 ·rename_i hx
  cases h
  exact ⟨hx.choose_spec.1,pure_ofI extRI hx.choose_spec.1 hx.choose_spec.2⟩
 ·cases h
theorem extC {L:ExtL} (hL:ExtR Tryz.prog GI (extOf L)) {f:FuncId} (hf:Real Tryz.prog f):ExtR Tryz.prog GI (extOf ((f,gC f)::L)):=
 hL.cons hf fun _ _ _ h=>gC_sound h
theorem real17:Real Tryz.prog 17:=⟨_,Tryz.func17,by kernel_rfl,by kernel_rfl⟩
theorem real18:Real Tryz.prog 18:=⟨_,Tryz.func18,by kernel_rfl,by kernel_rfl⟩
theorem real19:Real Tryz.prog 19:=⟨_,Tryz.func19,by kernel_rfl,by kernel_rfl⟩
theorem real21:Real Tryz.prog 21:=⟨_,Tryz.func21,by kernel_rfl,by kernel_rfl⟩
theorem real47:Real Tryz.prog 47:=⟨_,Tryz.func47,by kernel_rfl,by kernel_rfl⟩
theorem real48:Real Tryz.prog 48:=⟨_,Tryz.func48,by kernel_rfl,by kernel_rfl⟩
theorem real53:Real Tryz.prog 53:=⟨_,Tryz.func53,by kernel_rfl,by kernel_rfl⟩
noncomputable def XL:ExtL:=(14,gC 14)::(15,gC 15)::(17,gC 17)::(18,gC 18)::(19,gC 19)::(20,gC 20)::(21,gC 21)::(22,gC 22)::(36,gC 36)::(38,gC 38)::(40,gC 40)::(47,gC 47)::(48,gC 48)::(53,gC 53)::XI
theorem extRL:ExtR Tryz.prog GI (extOf XL):=extC (extC (extC (extC (extC (extC (extC (extC (extC (extC (extC (extC (extC (extC extRI real53) real48) real47) real40) real38) real36) real22) real21) real20) real19) real18) real17) real15) real14
noncomputable abbrev CL:CallF:=callI tabT (extOf XL) GI
noncomputable abbrev XBL:FuncId→Bool:=fun f=>(extOf XL f).isSome
theorem CL_tree {f:FuncId} {af:AFunc} (hT:tabT f=some af) {args:List D} {σ τ:St} {d r:D} (h:bodyI CL XBL GI af args σ=some (.ret d,σ++τ)) (hd:d.tree=true) (hr:d.weak=r)
 (hx:extOf XL f=none) (h196: (f==196)=false):CL (.fn f) args σ=some (.ret r,σ):=
 callI_fn postN hx hT h (by show postJ f σ _=_;unfold postJ;rw [if_neg (by rw [h196];exact Bool.false_ne_true),postI_tree hd,hr])
theorem CL_plain {f:FuncId} (hx:extOf XL f=some fun a=>gC f (weakL a)) {args ws:List D} {r:D} (ht:treeL args=true) (hw:weakL args=ws) (h:CI (.fn f) ws []=some (.ret r,[])) (hr:r.tree=true) (σ:St):CL (.fn f) args σ=some (.ret r,σ):=by
 subst hw
 exact callI_ext postN hx (by unfold callExt;rw [if_pos ht];simp only;rw [gC_eq hr h];rfl)
theorem CL_rows {f:FuncId} (hx:extOf XL f=some fun a=>gC f (weakL a)) {args bs ws:List D} {r:D} {σ:St} (ht:treeL args=false) (hs:args.mapM (strip 16 σ)=some bs) (hw:weakL bs=ws) (h:CI (.fn f) ws []=some (.ret r,[])) (hr:r.tree=true):
 CL (.fn f) args σ=some (.ret r,if r.flat then σ else freeze (args.flatMap (leads 16 σ)) σ):=by
 subst hw
 refine callI_ext postN hx ?_
 unfold callExt
 rw [if_neg (by rw [ht];exact Bool.false_ne_true),hs]
 simp only
 rw [gC_eq hr h]
 simp only
 split<;>rfl
theorem kL16 (σ:St):CL (.fn 16) [] σ=some (.ret (.bool true),σ):=
 callI_ext postN (g:=fun a=>g16 (weakL a)) rfl rfl
def RowIs (σ:St) (r sz:Nat) (es:List D):Prop:= ∃since,since≤es.length∧(σ[r]? =some (.row sz es since)∨σ[r]? =some (.fro sz es since))
theorem RowIs.of {σ:St} {r sz:Nat} {es:List D} (h:RowIs σ r sz es):rowOf σ (.arr r es.length 0 es.length)=some es:=by
 obtain ⟨s,hs,h|h⟩:=h<;>simp [rowOf,h,hs]
theorem RowIs.strip {σ:St} {r sz:Nat} {es:List D} (h:RowIs σ r sz es) (ht:treeL es=true) (n:Nat):
 AI.strip (n+1) σ (.arr r es.length 0 es.length)=some (.slice es)∧leads (n+1) σ (.arr r es.length 0 es.length)=[r]:=by
 constructor
 ·unfold AI.strip
  simp only [D.tree,Bool.false_eq_true,if_false,h.of,strip_list _ _ es ht]
  rfl
 ·unfold leads
  simp only [D.tree,Bool.false_eq_true,if_false,h.of]
  have: ∀ (l:List D),treeL l=true→l.flatMap (leads n σ)=[]:=fun l=>by
   induction l with
   |nil=>intro _;rfl
   |cons a l ih=>
    intro h
    simp only [treeL,Bool.and_eq_true] at h
    rw [List.flatMap_cons,leads_one n σ a h.1,ih h.2];rfl
  rw [this es ht]
theorem freeze_get (l:List Nat) (σ:St) (j:Nat): (freeze l σ)[j]? =(σ[j]?).map fun o=>if l.contains j then o.freeze else o:=by
 simp only [freeze,List.getElem?_map,List.getElem?_zipIdx]
 cases σ[j]? <;>simp
theorem RowIs.freeze {l:List Nat} {σ:St} {r sz:Nat} {es:List D} (h:RowIs σ r sz es):RowIs (AI.freeze l σ) r sz es:=by
 obtain ⟨s,hs,h⟩:=h
 refine ⟨s,hs, ?_⟩
 rw [freeze_get]
 rcases h with h|h
 ·rw [h]
  by_cases hc:l.contains r
  ·right;simp only [Option.map_some,hc,if_true];rfl
  ·left;simp only [Option.map_some,if_neg hc]
 ·right
  rw [h]
  simp [Obj.freeze]
end Go.AI
namespace Go.Proofs.YtgenoggafhhgfaaGreatDoor
open Go Go.AI Go.ChangeShapes Go.WideShapes Go.ChangeAt Go.RowKit
theorem calls_trueL {W:World} {f:FuncId} {ds:List D} {vs:Array Value} (hC:CL (.fn f) ds []=some (.ret (.bool true),[])) (hL:laidMetH Tryz.prog laid3 W) (ha:Rs (bare (oldB W)) W ds vs):
 Calls Tryz.prog f vs W fun e W'=>e= .returned (.bool true)∧Below W.heap.size W W':=by
 refine ((pure_ofI extRL rfl hC) (oldB W) W vs (fun b hb=>hb) (glob_ok hL) ha).mono ?_
 rintro e w ⟨fx',v,rfl, -, -,h3,h4,h5,h6,h7,hr⟩
 exact ⟨by rw [hr.bool_inv],⟨h5,h6,h7,h4,h3⟩⟩
end Go.Proofs.YtgenoggafhhgfaaGreatDoor
namespace Go.AI
open Go Go.Proofs Go.Lx
theorem hasS_mem {l:List Bs} {s:Bs} :hasS l s=true↔s ∈ l:=by unfold hasS;exact List.contains_iff_mem
theorem hasS_not {l:List Bs} {s:Bs} (h:hasS l s=false):s ∉ l:=fun hm=>by rw [hasS_mem.2 hm] at h;cases h
theorem nodup_snoc {l:List Bs} {s:Bs} (hl:l.Nodup) (hs:s ∉ l): (l++[s]).Nodup:=by
 rw [List.nodup_append]
 exact ⟨hl,by simp,fun a ha b hb=>by simp only [List.mem_singleton] at hb;subst hb;exact fun he=>hs (he ▸ ha)⟩
theorem cons_names {p:Prg} {params:List Bs} : ∀ {l:List Con} {i:Nat} {b b':List Bs},foldS (consStep p params) l i b= .inl b'→b'=b++l.map Con.name∧(b.Nodup→b'.Nodup)∧ ∀c ∈ l,∀t ∈ c.args,t.ord p params=0
 | [],i,b,b',h=>by cases h;simp
 |c::r,i,b,b',h=>by
  simp only [foldS] at h
  cases hs:consStep p params i c b with
  |inr e=>rw [hs] at h;cases h
  |inl b1=>
   rw [hs] at h
   obtain ⟨h1,h2,h3⟩:=cons_names h
   unfold consStep at hs
   split at hs
   ·cases hs
   ·rename_i hn
    rw [Bool.not_eq_true] at hn
    split at hs
    ·rename_i hz
     cases hs
     refine ⟨by rw [h1];simp,fun hb=>h2 (nodup_snoc hb (hasS_not hn)), ?_⟩
     rw [firstE_zero] at hz
     simp only [List.forall_mem_map] at hz
     intro c' hc'
     cases hc' with
     |head=>exact hz
     |tail _ hc'=>exact h3 c' hc'
    ·cases hs
theorem dat_names {p:Prg} : ∀ {l:List Dat} {i:Nat} {x x':List Bs × List Bs},foldS (datStep p) l i x= .inl x'→
 x'.1=x.1++l.map Dat.name∧x'.2=x.2++l.flatMap (fun d=>d.cons.map Con.name)∧(x.1.Nodup→x'.1.Nodup)∧(x.2.Nodup→x'.2.Nodup)∧ ∀d ∈ l,∀c ∈ d.cons,∀t ∈ c.args,t.ord p d.params=0
 | [],i,x,x',h=>by cases h;simp
 |d::r,i,x,x',h=>by
  simp only [foldS] at h
  cases hs:datStep p i d x with
  |inr e=>rw [hs] at h;cases h
  |inl y=>
   rw [hs] at h
   obtain ⟨h1,h2,h3,h4,h5⟩:=dat_names h
   unfold datStep at hs
   split at hs
   ·cases hs
   ·rename_i hn
    rw [Bool.not_eq_true] at hn
    split at hs
    ·rename_i b hb
     cases hs
     obtain ⟨c1,c2,c3⟩:=cons_names hb
     refine ⟨by rw [h1];simp,by rw [h2];simp [c1],fun ha=>h3 (nodup_snoc ha (hasS_not hn)),fun hb=>h4 (c2 hb), ?_⟩
     intro d' hd'
     cases hd' with
     |head=>exact c3
     |tail _ hd'=>exact h5 d' hd'
    ·cases hs
theorem opn_names {p:Prg} : ∀ {l:List Opn} {i:Nat} {b b':List Bs},foldS (opnStep p) l i b= .inl b'→b'=b++l.map Opn.name∧(b.Nodup→b'.Nodup)∧ ∀o ∈ l,o.arg.ord p []=0∧o.res.ord p []=0
 | [],i,b,b',h=>by cases h;simp
 |c::r,i,b,b',h=>by
  simp only [foldS] at h
  cases hs:opnStep p i c b with
  |inr e=>rw [hs] at h;cases h
  |inl b1=>
   rw [hs] at h
   obtain ⟨h1,h2,h3⟩:=opn_names h
   unfold opnStep at hs
   split at hs
   ·cases hs
   ·rename_i hn
    rw [Bool.not_eq_true] at hn
    split at hs
    ·rename_i hz
     cases hs
     refine ⟨by rw [h1];simp,fun hb=>h2 (nodup_snoc hb (hasS_not hn)), ?_⟩
     unfold opnErr at hz
     intro c' hc'
     cases hc' with
     |head=>
      split at hz
      ·rename_i h0;exact ⟨h0,hz⟩
      ·rename_i h0;exact absurd hz h0
     |tail _ hc'=>exact h3 c' hc'
    ·cases hs
theorem eff_names {p:Prg} : ∀ {l:List Eff} {i:Nat} {x x':List Bs × List Bs},foldS (effStep p) l i x= .inl x'→
 x'.1=x.1++l.map Eff.name∧x'.2=x.2++l.flatMap (fun d=>d.ops.map Opn.name)∧(x.1.Nodup→x'.1.Nodup)∧(x.2.Nodup→x'.2.Nodup)∧ ∀e ∈ l,∀o ∈ e.ops,o.arg.ord p []=0∧o.res.ord p []=0
 | [],i,x,x',h=>by cases h;simp
 |d::r,i,x,x',h=>by
  simp only [foldS] at h
  cases hs:effStep p i d x with
  |inr e=>rw [hs] at h;cases h
  |inl y=>
   rw [hs] at h
   obtain ⟨h1,h2,h3,h4,h5⟩:=eff_names h
   unfold effStep at hs
   split at hs
   ·cases hs
   ·rename_i hn
    rw [Bool.not_eq_true] at hn
    split at hs
    ·rename_i b hb
     cases hs
     obtain ⟨c1,c2,c3⟩:=opn_names hb
     refine ⟨by rw [h1];simp,by rw [h2];simp [c1],fun ha=>h3 (nodup_snoc ha (hasS_not hn)),fun hb=>h4 (c2 hb), ?_⟩
     intro d' hd'
     cases hd' with
     |head=>exact c3
     |tail _ hd'=>exact h5 d' hd'
    ·cases hs
structure Prg.InOrder (p:Prg):Prop where
 syn:p.bare.syn=0
 dn: (builtins++p.data.map Dat.name).Nodup
 cn: (p.data.flatMap fun d=>d.cons.map Con.name).Nodup
 en: ([nIO]++p.effects.map Eff.name).Nodup
 on: ([nPrint,nRead]++p.effects.flatMap fun d=>d.ops.map Opn.name).Nodup
 args: ∀d ∈ p.data,∀c ∈ d.cons,∀t ∈ c.args,t.ord p d.params=0
 ops: ∀e ∈ p.effects,∀o ∈ e.ops,o.arg.ord p []=0∧o.res.ord p []=0
theorem Prg.inOrder {p:Prg} (h:p.decls=0):p.InOrder:=by
 obtain ⟨hs,ho⟩:=orE_zero.1 h
 unfold Prg.ordE at ho
 cases h1:foldS (datStep p) p.data 0 (builtins,[]) with
 |inr e=>
  rw [h1] at ho
  have hne:e≠0:=foldS_inr (P:=fun e=>e≠0) _ (fun _ _ _ _ _ h=>datStep_ne h) _ _ _ h1
  exact absurd ho hne
 |inl x=>
  rw [h1] at ho
  simp only at ho
  cases h2:foldS (effStep p) p.effects 0 ([nIO],[nPrint,nRead]) with
  |inr e=>
   rw [h2] at ho
   have hne:e≠0:=foldS_inr (P:=fun e=>e≠0) _ (fun _ _ _ _ _ h=>effStep_ne h) _ _ _ h2
   exact absurd ho hne
  |inl y=>
   obtain ⟨a1,a2,a3,a4,a5⟩:=dat_names h1
   obtain ⟨b1,b2,b3,b4,b5⟩:=eff_names h2
   refine ⟨hs, ?_, ?_, ?_, ?_,a5,b5⟩
   ·rw [←a1];exact a3 (by decide)
   ·rw [←List.nil_append (p.data.flatMap _),←a2];exact a4 (by simp)
   ·rw [←b1];exact b3 (by decide)
   ·rw [←b2];exact b4 (by decide)
end Go.AI
namespace Go.AI
open Go Go.Proofs Go.Lx
set_option maxRecDepth 100000
def lookC (m:CMap) (s:Bs):Option (Nat × Nat):=(m.find? (fun x=>x.1==s)).map (·.2)
theorem lookC_addC (i k:Nat) (c:Con) (m:CMap) (s:Bs):lookC (addC i k c m) s=(lookC m s).or (if c.name==s then some (i,k) else none):=by
 unfold addC lookC
 cases h:m.find? (fun x=>x.1==c.name) with
 |some v=>
  simp only
  by_cases hs:c.name=s
  ·subst hs
   rw [h];rfl
  ·have: (c.name==s)=false:=by simpa using hs
   rw [this]
   simp
 |none=>
  simp only [List.find?_append,List.find?_cons,List.find?_nil]
  cases h2:m.find? (fun x=>x.1==s) with
  |some v=>simp
  |none=>cases hc:c.name==s<;>simp
theorem lookC_addCs (i:Nat) (s:Bs): ∀ (l:List Con) (k:Nat) (m:CMap),lookC (addCs i l k m) s=(lookC m s).or ((l.findIdx? (fun c=>c.name==s)).map fun q=>(i,k+q))
 | [],k,m=>by simp [addCs]
 |c::r,k,m=>by
  rw [addCs,lookC_addCs i s r (k+1),lookC_addC,List.findIdx?_cons]
  cases hc:c.name==s
  ·simp only [Bool.false_eq_true,if_false,Option.or_none]
   congr 1
   rw [Option.map_map]
   congr 1
   funext q
   simp only [Function.comp]
   congr 1;omega
  ·cases lookC m s<;>simp
theorem lookC_addDs (s:Bs): ∀ (l:List Dat) (i:Nat) (m:CMap),lookC (addDs l i m) s=(lookC m s).or (findConL s l i)
 | [],i,m=>by simp [addDs,findConL]
 |d::r,i,m=>by
  rw [addDs,lookC_addDs s r (i+1),lookC_addCs,findConL]
  cases d.cons.findIdx? (fun c=>c.name==s) with
  |some q=>cases lookC m s<;>simp
  |none=>simp
theorem lookC_cm (p:Prg) (s:Bs):lookC p.cm s=findConL s p.data 0:=by
 unfold Prg.cm
 rw [lookC_addDs]
 simp [lookC]
theorem cm_find (p:Prg) (s:Bs): (p.cm.find? (fun x=>x.1==s)).map (fun x=>plD x.2)=(findConL s p.data 0).map plD:=by
 rw [←lookC_cm];unfold lookC;rw [Option.map_map];rfl
theorem findConL_some (s:Bs): ∀ (l:List Dat) (off i k:Nat),findConL s l off=some (i,k)→ ∃j,i=off+j∧ ∃d,l[j]? =some d∧ ∃c,d.cons[k]? =some c∧c.name=s
 | [],off,i,k,h=>by cases h
 |d::r,off,i,k,h=>by
  rw [findConL] at h
  cases hf:d.cons.findIdx? (fun c=>c.name==s) with
  |some q=>
   rw [hf] at h
   cases h
   obtain ⟨h1,h2,_⟩:=List.findIdx?_eq_some_iff_getElem.1 hf
   exact ⟨0,rfl,d,rfl,_,List.getElem?_eq_getElem h1,by simpa using h2⟩
  |none=>
   rw [hf] at h
   obtain ⟨j,hj,d',hd,hc⟩:=findConL_some s r (off+1) i k h
   exact ⟨j+1,by omega,d',by simpa using hd,hc⟩
def Prg.conOf (p:Prg) (s:Bs):Option (Dat × Con):=match findConL s p.data 0 with
 |some (i,k)=>(p.data[i]?).bind fun d=>(d.cons[k]?).map fun c=>(d,c)
 |none=>none
theorem conOf_some {p:Prg} {s:Bs} {i k:Nat} (h:findConL s p.data 0=some (i,k)): ∃ (hi:i<p.data.length) (hk:k<p.data[i].cons.length),p.conOf s=some (p.data[i],p.data[i].cons[k])∧p.data[i].cons[k].name=s:=by
 obtain ⟨j,hj,d,hd,c,hc,hn⟩:=findConL_some s p.data 0 i k h
 have:j=i:=by omega
 subst this
 obtain ⟨hi,rfl⟩:=List.getElem?_eq_some_iff.1 hd
 obtain ⟨hk,rfl⟩:=List.getElem?_eq_some_iff.1 hc
 exact ⟨hi,hk,by unfold Prg.conOf;rw [h];simp [hi,hk],hn⟩
theorem conOf_none {p:Prg} {s:Bs} (h:findConL s p.data 0=none):p.conOf s=none:=by unfold Prg.conOf;rw [h]
def conErr (p:Prg) (s:Bs) (n:Nat):Int:=match p.conOf s with
 |none=>6
 |some (_,c)=>if c.args.length=n then 0 else 7
mutual
theorem D.eqb_tree: ∀ (d:D),d.tree=true→d.eqb d=true
 | .bool b,_=>by simp [D.eqb]
 | .int k n,_=>by simp [D.eqb]
 | .str s,_=>by simp [D.eqb]
 | .nilptr,_| .empty,_| .nilmap,_| .nilfunc,_| .niliface,_=>rfl
 | .slice es,h| .agg es,h| .tuple es,h=>by simp only [D.tree,D.eqb] at*;exact eqbL_tree es h
 | .func f a b,h=>by
  simp only [D.tree,Bool.and_eq_true] at h
  simp only [D.eqb,Bool.and_eq_true]
  exact ⟨⟨by simp,eqbL_tree a h.1⟩,eqbL_tree b h.2⟩
 | .iface t v,h=>by
  simp only [D.tree] at h
  simp only [D.eqb,Bool.and_eq_true]
  exact ⟨by simp,D.eqb_tree v h⟩
 | .ptr _ _,h| .rptr _ _ _ _,h| .tptr _,h| .arr _ _ _ _,h| .map _,h| .yield _,h| .undef,h| .any,h=>by simp [D.tree] at h
theorem eqbL_tree: ∀ (l:List D),treeL l=true→eqbL l l=true
 | [],_=>rfl
 |d::r,h=>by
  simp only [treeL,Bool.and_eq_true] at h
  simp only [eqbL,Bool.and_eq_true]
  exact ⟨D.eqb_tree d h.1,eqbL_tree r h.2⟩
end
set_option maxHeartbeats 2000000 in
theorem c144 (p:Prg) (hok:p.ok) (t:Nat) (x:Ex) (σ:St) (hT:IsT σ t p p.cm) (k n:Int) (s u:Bs) (names:List Bs) (l:List Ex) (arms:List Arm) (hx:x= .mk k n s u names l arms):
 CI (.fn 144) [.ptr t 0, .agg x.cs] σ=some (outR (conErr p s l.length),σ):=by
 subst hx
 obtain ⟨j,hj,hm⟩:=hT
 have hlen:=exsD_len l
 have hmf:=mapFind_kvs s p.cm
 rw [cm_find] at hmf
 rw [p.cs_eq] at hj
 obtain ⟨τ,hτ⟩: ∃τ,bodyI CI XB GI af144 [.ptr t 0, .agg (Ex.mk k n s u names l arms).cs] σ=some (outR (conErr p s l.length),σ++τ):=by
  simp only [Ex.cs,slD]
  have hml:=p.main.cs_len
  cases hf:findConL s p.data 0 with
  |none=>
   rw [hf] at hmf
   have ho:conErr p s l.length=6:=by unfold conErr;rw [conOf_none hf]
   rw [ho]
   refine ⟨[.box [.int .i64 k, .int .i64 n, .str s, .str u, .slice (names.map .str), .slice (exsD l), .slice (armsD arms)], .box [.int .i64 0, .int .i64 0]], ?_⟩
   generalize p.data.map Dat.d=dd at*
   generalize p.effects.map Eff.d=ed at*
   generalize p.defs.map Dfn.d=fd at*
   generalize p.main.cs=mc at*
   have hmd:mc.drop 7=[]:=List.drop_eq_nil_of_le (by omega)
   generalize kvs p.cm=km at*
   generalize names.map D.str=nd at*
   generalize exsD l=ld at*
   generalize armsD arms=ad at*
   simp [bodyI,af144,getA0,getA,setA0,setA,getO hj,getO hm,hml,hmd,hmf,D.kindEq,putCells,c58,outR,Nat.testBit_eq_decide_div_mod_eq]
  |some ik=>
   rcases ik with ⟨i,q⟩
   rw [hf] at hmf
   obtain ⟨hi,hq,hc,_⟩:=conOf_some hf
   have ho:conErr p s l.length=if p.data[i].cons[q].args.length=l.length then 0 else 7:=by unfold conErr;rw [hc]
   rw [ho]
   refine ⟨[.box [.int .i64 k, .int .i64 n, .str s, .str u, .slice (names.map .str), .slice (exsD l), .slice (armsD arms)], .box [.int .i64 i, .int .i64 q]], ?_⟩
   have hget: (p.data.map Dat.d)[i]? =some (Dat.d p.data[i]):=by simp [hi]
   have hdl: (p.data.map Dat.d).length=p.data.length:=by simp
   generalize p.data.map Dat.d=dd at*
   have h2:i<dd.length:=by omega
   have h3:dd[i]=Dat.d p.data[i]:=by rw [List.getElem?_eq_getElem h2] at hget;exact Option.some.inj hget
   generalize p.data[i]=d at*
   rcases d with ⟨dn,dp,dc⟩
   simp only [Dat.d,Dat.cs] at*
   have hq:q<dc.length:=hq
   have hgetc: (dc.map Con.d)[q]? =some (Con.d dc[q]):=by simp [hq]
   have hdcl: (dc.map Con.d).length=dc.length:=by simp
   generalize dc.map Con.d=cd at*
   have h4:q<cd.length:=by omega
   have h5:cd[q]=Con.d dc[q]:=by rw [List.getElem?_eq_getElem h4] at hgetc;exact Option.some.inj hgetc
   generalize dc[q]=c at*
   rcases c with ⟨cn,args⟩
   have hal:=tysD_len args
   simp only [Con.d,Con.cs] at*
   generalize p.effects.map Eff.d=ed at*
   generalize p.defs.map Dfn.d=fd at*
   generalize p.main.cs=mc at*
   have hmd:mc.drop 7=[]:=List.drop_eq_nil_of_le (by omega)
   generalize kvs p.cm=km at*
   generalize names.map D.str=nd at*
   generalize exsD l=ld at*
   generalize armsD arms=ad at*
   generalize tysD args=td at*
   generalize slD dp=pd at*
   simp only [Option.map_some,plD] at hmf
   by_cases hz:args.length=l.length
   ·rw [if_pos hz]
    simp [bodyI,af144,getA0,getA,setA0,setA,getO hj,getO hm,hml,hmd,hmf,h2,h3,h4,h5,hlen,hal,hz,D.kindEq,putCells,c58,outR,Nat.testBit_eq_decide_div_mod_eq]
   ·rw [if_neg hz]
    have hz': ((args.length:Int) != (l.length:Int))=true:=by rw [bne_iff_ne];omega
    simp [bodyI,af144,getA0,getA,setA0,setA,getO hj,getO hm,hml,hmd,hmf,h2,h3,h4,h5,hlen,hal,hz,hz',D.kindEq,putCells,c58,outR,Nat.testBit_eq_decide_div_mod_eq]
 exact CI_out tab144 hτ
def all2 {α β:Type} (P:α→β→Bool):List α→List β→Bool
 | [],[]=>true
 |a::r,b::s=>P a b&&all2 P r s
 |_,_=>false
theorem all2_len {α β:Type} {P:α→β→Bool} : ∀ {l:List α} {m:List β},all2 P l m=true→l.length=m.length
 | [],[],_=>rfl
 |a::r,b::s,h=>by
  simp only [all2,Bool.and_eq_true] at h
  simp [all2_len h.2]
 | [],_::_,h=>by cases h
 |_::_,[],h=>by cases h
theorem all2_ne {α β:Type} {P:α→β→Bool} {l:List α} {m:List β} (h:l.length≠m.length):all2 P l m=false:=by
 cases hc:all2 P l m with
 |false=>rfl
 |true=>exact absurd (all2_len hc) h
theorem c187 (c:Con) (a:Arm) (σ:St):CI (.fn 187) [.agg c.cs, .agg a.cs] σ=some (.ret (.bool (c.name==a.op)),σ):=by
 have hτ:bodyI CI XB GI af187 [.agg c.cs, .agg a.cs] σ=some (.ret (.bool (c.name==a.op)),σ++[.box c.cs, .box a.cs]):=by
  rcases c with ⟨cn,args⟩
  rw [Arm.cs_eq]
  simp only [Con.cs]
  have hb:=a.body.cs_all
  generalize tysD args=td at*
  generalize a.body.cs=bc at*
  generalize a.op=op at*
  unfold slD
  generalize a.names.map D.str=nd at*
  simp [bodyI,af187,getA0,getA,hb]
 exact CI_tree tab187 hτ rfl rfl
theorem c188 (c:Con) (a:Arm) (σ:St):CI (.fn 188) [.agg c.cs, .agg a.cs] σ=some (.ret (.bool (decide (c.args.length=a.names.length))),σ):=by
 have hτ:bodyI CI XB GI af188 [.agg c.cs, .agg a.cs] σ=some (.ret (.bool (decide (c.args.length=a.names.length))),σ++[.box c.cs, .box a.cs]):=by
  rcases c with ⟨cn,args⟩
  rw [Arm.cs_eq]
  simp only [Con.cs]
  have hb:=a.body.cs_all
  have hl:=tysD_len args
  have hn: (a.names.map D.str).length=a.names.length:=by simp
  generalize tysD args=td at*
  generalize a.body.cs=bc at*
  generalize a.op=op at*
  unfold slD
  generalize a.names.map D.str=nd at*
  have he: ((args.length:Int) ==(a.names.length:Int))=decide (args.length=a.names.length):=by
   rw [Bool.eq_iff_iff];simp;omega
  simp [bodyI,af188,getA0,getA,hb,hl,hn,he]
 exact CI_tree tab188 hτ rfl rfl
theorem c190 (s:Bs) (a:Arm) (σ:St):CI (.fn 190) [.str s, .agg a.cs] σ=some (.ret (.bool (s==a.op)),σ):=by
 have hτ:bodyI CI XB GI af190 [.str s, .agg a.cs] σ=some (.ret (.bool (s==a.op)),σ++[.box a.cs]):=by
  rw [Arm.cs_eq]
  have hb:=a.body.cs_all
  generalize a.body.cs=bc at*
  generalize a.op=op at*
  unfold slD
  generalize a.names.map D.str=nd at*
  simp [bodyI,af190,getA0,hb]
 exact CI_tree tab190 hτ rfl rfl
theorem all2_drop {α β:Type} (P:α→β→Bool) (l:List α) (m:List β) (h:l.length=m.length) (i:Nat) (hi:i<l.length) (hi':i<m.length):all2 P (l.drop i) (m.drop i)=(P l[i] m[i]&&all2 P (l.drop (i+1)) (m.drop (i+1))):=by
 rw [List.drop_eq_getElem_cons hi,List.drop_eq_getElem_cons hi'];rfl
theorem loop_all2 {α β:Type} {f:Env→St→Option (AExit × Env × St)} {σ:St} (l:List α) (m:List β) (hlm:l.length=m.length) (P:α→β→Bool) (E:Nat→Env) (X Y:AExit × Env) (hX:X.1≠ .normal) (hY:Y.1≠ .normal)
 (h: ∀i (hi:i<l.length) (hi':i<m.length) (τ:St),∃τ',f (E i) (σ++τ)=some (if P l[i] m[i] then (.normal,E (i+1),σ++τ') else (X.1,X.2,σ++τ'))) (hf: ∀τ,∃τ',f (E l.length) (σ++τ)=some (Y.1,Y.2,σ++τ')):
 ∀ (k j:Nat) (τ:St),j+k=l.length→ ∃τ',iterI f (E j) (σ++τ)=some (if all2 P (l.drop j) (m.drop j) then (Y.1,Y.2,σ++τ') else (X.1,X.2,σ++τ'))
 |0,j,τ,hj=>by
  rw [List.drop_eq_nil_of_le (show l.length≤j by omega),List.drop_eq_nil_of_le (show m.length≤j by omega)]
  obtain rfl:j=l.length:=by omega
  obtain ⟨τ',h1⟩:=hf τ
  exact ⟨τ',iterI_end h1 hY⟩
 |k+1,j,τ,hj=>by
  have hlt:j<l.length:=by omega
  have hlt':j<m.length:=by omega
  obtain ⟨τ1,hb⟩:=h j hlt hlt' τ
  rw [all2_drop P l m hlm j hlt hlt']
  cases hp:P l[j] m[j]
  ·rw [hp] at hb
   simp only [Bool.false_eq_true,if_false,Bool.false_and] at hb ⊢
   exact ⟨τ1,iterI_end hb hX⟩
  ·rw [hp] at hb
   simp only [if_true,Bool.true_and] at hb ⊢
   rw [iterI_next hb]
   exact loop_all2 l m hlm P E X Y hX hY h hf k (j+1) τ1 (by omega)
theorem p186 (cons:List Con) (arms:List Arm) (hcl:cons.length≤maxL) (f:Nat) (P:Con→Arm→Bool) (hf: ∀c a σ,CI (.fn f) [.agg c.cs, .agg a.cs] σ=some (.ret (.bool (P c a)),σ)) (σ:St):
 CI (.fn 186) [.slice (cons.map Con.d), .slice (armsD arms), .func f [] []] σ=some (.ret (.bool (all2 P cons arms)),σ):=by
 have hlc: (cons.map Con.d).length=cons.length:=by simp
 have hla:=armsD_len arms
 obtain ⟨τ,hτ⟩: ∃τ,bodyI CI XB GI af186 [.slice (cons.map Con.d), .slice (armsD arms), .func f [] []] σ=some (.ret (.bool (all2 P cons arms)),σ++τ):=by
  by_cases hl:cons.length=arms.length
  ·obtain ⟨τ,hit⟩:=loop_all2 (f:=evalI CI XB GI 32 false lp186_0) (σ:=σ) cons arms hl P (fun i=>[(1, .slice (armsD arms)),(2, .func f [] []),(15, .slice (cons.map Con.d)),(16, .int .i64 cons.length),(17, .int .i64 (i:Nat))]) (.ret,[(6, .bool false)])
    (.exit 0,[(1, .slice (armsD arms)),(2, .func f [] []),(15, .slice (cons.map Con.d)),(16, .int .i64 cons.length),(17, .int .i64 cons.length),(18, .bool false)]) (by simp) (by simp)
    (fun i hi hi' τ=>by
      have hw:=wrap_nat (n:=i) (by unfold maxL at hcl;omega)
      have hgc: (cons.map Con.d)[i]? =some (Con.d cons[i]):=by simp [hi]
      have hga: (armsD arms)[i]? =some (.agg arms[i].cs):=by rw [armsD_map];simp [Arm.d,hi']
      generalize cons.map Con.d=cd at*
      generalize armsD arms=ad at*
      have h2:i<cd.length:=by omega
      have h3:cd[i]= .agg cons[i].cs:=by rw [List.getElem?_eq_getElem h2] at hgc;exact Option.some.inj hgc
      have h4:i<ad.length:=by omega
      have h5:ad[i]= .agg arms[i].cs:=by rw [List.getElem?_eq_getElem h4] at hga;exact Option.some.inj hga
      generalize cons[i]=c at*
      generalize arms[i]=a at*
      have hc:=hf c a
      refine ⟨τ++[.box c.cs, .box a.cs], ?_⟩
      rw [←List.append_assoc]
      generalize σ++τ=σ1 at*
      have x1:c.cs.length=2:=rfl
      have x2:c.cs.take 2=c.cs:=rfl
      have x3:c.cs.drop 2=[]:=rfl
      have x4:c.cs.all D.one=true:=rfl
      have y1:=a.cs_len
      have y2:=a.cs_take
      have y3:a.cs.drop 9=[]:=List.drop_eq_nil_of_le (by simp)
      have y4:=a.cs_all
      generalize c.cs=cc at*
      generalize a.cs=ac at*
      cases hp:P c a<;>rw [hp] at hc<;>simp [lp186_0,hi,hw,h2,h3,h4,h5,getA0,getA,setA0,setA,x1,x2,x3,x4,y1,y2,y3,y4,putCells,hc])
    (fun τ=>⟨τ,by generalize cons.map Con.d=cd at*;generalize armsD arms=ad at*;simp [lp186_0]⟩) cons.length 0 [] (by omega)
   rw [Int.natCast_zero,List.append_nil,List.drop_zero,List.drop_zero] at hit
   refine ⟨τ, ?_⟩
   have hl': (cons.length:Int)=arms.length:=by omega
   generalize cons.map Con.d=cd at*
   generalize armsD arms=ad at*
   cases ha:all2 P cons arms<;>(rw [ha] at hit;simp only [hl'] at hit;simp [bodyI,af186,hlc,hla,hl',hit])
  ·refine ⟨[], ?_⟩
   rw [all2_ne hl]
   have hl': ((cons.length:Int) != (arms.length:Int))=true:=by rw [bne_iff_ne];omega
   generalize cons.map Con.d=cd at*
   generalize armsD arms=ad at*
   simp [bodyI,af186,hlc,hla,hl']
 exact CI_tree tab186 hτ rfl rfl
def matchErr (p:Prg) (arms:List Arm):Int:=match arms with
 | []=>9
 |a::_=>match p.conOf a.op with
  |none=>6
  |some (d,_)=>if all2 (fun (c:Con) (a:Arm)=>c.name==a.op) d.cons arms then (if all2 (fun (c:Con) (a:Arm)=>decide (c.args.length=a.names.length)) d.cons arms then 0 else 7) else 9
set_option maxHeartbeats 4000000 in
theorem c145 (p:Prg) (hok:p.ok) (t:Nat) (x:Ex) (σ:St) (hT:IsT σ t p p.cm) (k n:Int) (s u:Bs) (names:List Bs) (l:List Ex) (arms:List Arm) (hx:x= .mk k n s u names l arms):
 CI (.fn 145) [.ptr t 0, .agg x.cs] σ=some (outR (matchErr p arms),σ):=by
 subst hx
 obtain ⟨j,hj,hm⟩:=hT
 have hla:=armsD_len arms
 rw [p.cs_eq] at hj
 have hml:=p.main.cs_len
 obtain ⟨τ,hτ⟩: ∃τ,bodyI CI XB GI af145 [.ptr t 0, .agg (Ex.mk k n s u names l arms).cs] σ=some (outR (matchErr p arms),σ++τ):=by
  simp only [Ex.cs,slD]
  cases arms with
  |nil=>
   refine ⟨[.box [.int .i64 k, .int .i64 n, .str s, .str u, .slice (names.map .str), .slice (exsD l), .slice []]], ?_⟩
   generalize names.map D.str=nd at*
   generalize exsD l=ld at*
   simp [bodyI,af145,getA0,armsD,c58,outR,matchErr]
  |cons a rest=>
   have hmf:=mapFind_kvs a.op p.cm
   rw [cm_find] at hmf
   have hga: (armsD (a::rest))[0]? =some (.agg a.cs):=by rw [armsD_map];rfl
   have hal0:0< (armsD (a::rest)).length:=by rw [hla];simp
   have hne: (((armsD (a::rest)).length:Int) ==0)=false:=by rw [beq_eq_false_iff_ne];omega
   have e1:eqbL (armsD (a::rest)) (armsD (a::rest))=true:=eqbL_tree _ (arms_plain _).1
   have e2: (slD a.names).eqb (slD a.names)=true:=D.eqb_tree _ (plain_strs _).1
   have e3:eqbL a.body.cs a.body.cs=true:=eqbL_tree _ a.body.plain.1
   have h186:=fun (cons:List Con) (hc:cons.length≤maxL) σ=>p186 cons (a::rest) hc 187 (fun c a=>c.name==a.op) c187 σ
   have h186b:=fun (cons:List Con) (hc:cons.length≤maxL) σ=>p186 cons (a::rest) hc 188 (fun c a=>decide (c.args.length=a.names.length)) c188 σ
   unfold matchErr
   simp only
   cases hf:findConL a.op p.data 0 with
   |none=>
    rw [hf] at hmf
    rw [conOf_none hf]
    refine ⟨[.box [.int .i64 k, .int .i64 n, .str s, .str u, .slice (names.map .str), .slice (exsD l), .slice (armsD (a::rest))], .box [.int .i64 0, .int .i64 0]], ?_⟩
    clear h186 h186b
    generalize armsD (a::rest)=ad at*
    rw [Arm.cs_eq] at hga
    have hbl:=a.body.cs_len
    generalize a.op=aop at*
    generalize slD a.names=an at*
    generalize a.body.cs=ab at*
    have h0: ∀h:0<ad.length,ad[0]= .agg (.str aop::an::ab):=fun h=>by rw [List.getElem?_eq_getElem h] at hga;exact Option.some.inj hga
    generalize p.data.map Dat.d=dd at*
    generalize p.effects.map Eff.d=ed at*
    generalize p.defs.map Dfn.d=fd at*
    generalize p.main.cs=mc at*
    have hmd:mc.drop 7=[]:=List.drop_eq_nil_of_le (by omega)
    generalize kvs p.cm=km at*
    generalize names.map D.str=nd at*
    generalize exsD l=ld at*
    simp [bodyI,af145,getA0,getA,setA0,setA,getO hj,getO hm,hal0,hne,hga,h0,hbl,hml,hmd,hmf,e1,e2,e3,D.kindEq,putCells,c58,outR,Nat.testBit_eq_decide_div_mod_eq]
   |some ik=>
    rcases ik with ⟨i,q⟩
    rw [hf] at hmf
    obtain ⟨hi,hq,hc,_⟩:=conOf_some hf
    rw [hc]
    simp only
    have hdok:=hok.d _ (List.getElem_mem hi)
    refine ⟨[.box [.int .i64 k, .int .i64 n, .str s, .str u, .slice (names.map .str), .slice (exsD l), .slice (armsD (a::rest))], .box [.int .i64 i, .int .i64 q]], ?_⟩
    have hget: (p.data.map Dat.d)[i]? =some (Dat.d p.data[i]):=by simp [hi]
    have hdl: (p.data.map Dat.d).length=p.data.length:=by simp
    generalize p.data.map Dat.d=dd at*
    have h2:i<dd.length:=by omega
    have h3:dd[i]=Dat.d p.data[i]:=by rw [List.getElem?_eq_getElem h2] at hget;exact Option.some.inj hget
    generalize p.data[i]=d at*
    rcases d with ⟨dn,dp,dc⟩
    have h186:=h186 dc hdok.2.1
    have h186b:=h186b dc hdok.2.1
    simp only [Dat.d,Dat.cs] at*
    generalize armsD (a::rest)=ad at*
    generalize all2 (fun (c:Con) (a:Arm)=>c.name==a.op) dc (a::rest)=b1 at*
    generalize all2 (fun (c:Con) (a:Arm)=>decide (c.args.length=a.names.length)) dc (a::rest)=b2 at*
    rw [Arm.cs_eq] at hga
    have hbl:=a.body.cs_len
    generalize a.op=aop at*
    generalize slD a.names=an at*
    generalize a.body.cs=ab at*
    have h0: ∀h:0<ad.length,ad[0]= .agg (.str aop::an::ab):=fun h=>by rw [List.getElem?_eq_getElem h] at hga;exact Option.some.inj hga
    generalize dc.map Con.d=cd at*
    generalize slD dp=pd at*
    generalize p.effects.map Eff.d=ed at*
    generalize p.defs.map Dfn.d=fd at*
    generalize p.main.cs=mc at*
    have hmd:mc.drop 7=[]:=List.drop_eq_nil_of_le (by omega)
    generalize kvs p.cm=km at*
    generalize names.map D.str=nd at*
    generalize exsD l=ld at*
    simp only [Option.map_some,plD] at hmf
    cases b1
    ·simp [bodyI,af145,getA0,getA,setA0,setA,getO hj,getO hm,hal0,hne,hga,h0,hbl,hml,hmd,hmf,e1,e2,e3,h2,h3,h186,D.kindEq,putCells,c58,outR,Nat.testBit_eq_decide_div_mod_eq]
    ·cases b2<;>simp [bodyI,af145,getA0,getA,setA0,setA,getO hj,getO hm,hal0,hne,hga,h0,hbl,hml,hmd,hmf,e1,e2,e3,h2,h3,h186,h186b,D.kindEq,putCells,c58,outR,Nat.testBit_eq_decide_div_mod_eq]
 exact CI_out tab145 hτ
theorem q34:qI 34=false:=rfl
theorem x34:XB 34=false:=rfl
def opErr (p:Prg) (s:Bs):Int:=match findOpL s p.effects 0 with
 |some _=>0
 |none=>if hasS [nPrint,nRead] s then 0 else 6
theorem opD_err (p:Prg) (s:Bs): ∃a b:Int,opD s (findOpL s p.effects 0)= .tuple [.int .i64 a, .int .i64 b, .int .i64 (opErr p s)]:=by
 unfold opD opErr
 cases findOpL s p.effects 0 with
 |some x=>exact ⟨_,_,rfl⟩
 |none=>
  simp only
  have h:=indexP_ge [nPrint,nRead] s
  unfold indexP at h
  cases hq: [nPrint,nRead].findIdx? (· ==s) with
  |some k=>
   rw [hq] at h
   have:hasS [nPrint,nRead] s=true:=by unfold hasS;rw [←h];simp
   rw [if_pos this]
   exact ⟨_,_,rfl⟩
  |none=>
   rw [hq] at h
   have:hasS [nPrint,nRead] s=false:=by unfold hasS;rw [←h];simp
   rw [if_neg (by rw [this];simp)]
   exact ⟨_,_,rfl⟩
theorem c146 (p:Prg) (hok:p.ok) (t:Nat) (m:CMap) (x:Ex) (σ:St) (hT:IsT σ t p m) (k n:Int) (s u:Bs) (names:List Bs) (l:List Ex) (arms:List Arm) (hx:x= .mk k n s u names l arms):
 CI (.fn 146) [.ptr t 0, .agg x.cs] σ=some (outR (opErr p (if k=13 then u else s)),σ):=by
 subst hx
 obtain ⟨j,hj,_⟩:=hT
 have hpl:=p.cs_len
 have hpt:=p.cs_take
 have h32:=fun s σ=>c32 p hok s σ
 obtain ⟨τ,hτ⟩: ∃τ,bodyI CI XB GI af146 [.ptr t 0, .agg (Ex.mk k n s u names l arms).cs] σ=some (outR (opErr p (if k=13 then u else s)),σ++τ):=by
  simp only [Ex.cs,slD]
  refine ⟨[.box [.int .i64 k, .int .i64 n, .str s, .str u, .slice (names.map .str), .slice (exsD l), .slice (armsD arms)]], ?_⟩
  generalize p.cs=pc at*
  generalize names.map D.str=nd at*
  generalize exsD l=ld at*
  generalize armsD arms=ad at*
  by_cases hk:k=13
  ·subst hk
   obtain ⟨a,b,ho⟩:=opD_err p u
   have h32:=h32 u
   rw [ho] at h32
   simp only [if_true]
   generalize opErr p u=e at*
   by_cases he:e=0
   ·subst he
    simp [bodyI,af146,getA0,getO hj,hpl,hpt,h32,c59,outR_zero]
   ·simp [bodyI,af146,getA0,getO hj,hpl,hpt,h32,c59,outR_ne he]
  ·have hk': (k==13)=false:=by simpa using hk
   obtain ⟨a,b,ho⟩:=opD_err p s
   have h32:=h32 s
   rw [ho] at h32
   simp only [if_neg hk]
   generalize opErr p s=e at*
   by_cases he:e=0
   ·subst he
    simp [bodyI,af146,getA0,getO hj,hpl,hpt,hk',h32,c59,outR_zero]
   ·simp [bodyI,af146,getA0,getO hj,hpl,hpt,hk',h32,c59,outR_ne he]
 exact CI_out tab146 hτ
theorem c148 (p:Prg) (hok:p.ok) (t:Nat) (m:CMap) (x:Ex) (σ:St) (hT:IsT σ t p m) (k n:Int) (s u:Bs) (names:List Bs) (l:List Ex) (arms:List Arm) (hx:x= .mk k n s u names l arms):
 CI (.fn 148) [.ptr t 0, .agg x.cs] σ=some (outR (findEffE p.effects s),σ):=by
 subst hx
 obtain ⟨j,hj,_⟩:=hT
 have hpl:=p.cs_len
 have hpt:=p.cs_take
 have h34:=fun σ=>c34 p hok.el s σ
 obtain ⟨τ,hτ⟩: ∃τ,bodyI CI XB GI af148 [.ptr t 0, .agg (Ex.mk k n s u names l arms).cs] σ=some (outR (findEffE p.effects s),σ++τ):=by
  simp only [Ex.cs,slD]
  refine ⟨[.box [.int .i64 k, .int .i64 n, .str s, .str u, .slice (names.map .str), .slice (exsD l), .slice (armsD arms)]], ?_⟩
  generalize p.cs=pc at*
  generalize names.map D.str=nd at*
  generalize exsD l=ld at*
  generalize armsD arms=ad at*
  generalize findEffI p.effects s=fi at*
  generalize findEffE p.effects s=e at*
  by_cases he:e=0
  ·subst he
   simp [bodyI,af148,getA0,getO hj,hpl,hpt,h34,c59,outR_zero,q34,x34,tb63]
  ·simp [bodyI,af148,getA0,getO hj,hpl,hpt,h34,c59,outR_ne he,q34,x34,tb63]
 exact CI_out tab148 hτ
def useE (p:Prg) (s:Bs):Int:=if s==nIO then 5 else findEffE p.effects s
def usingErr (p:Prg) (names:List Bs):Int:=firstE (names.tail.map (useE p))
theorem c149 (p:Prg) (hok:p.ok) (t:Nat) (m:CMap) (x:Ex) (σ:St) (hT:IsT σ t p m) (k n:Int) (s u:Bs) (names:List Bs) (l:List Ex) (arms:List Arm) (hx:x= .mk k n s u names l arms) (hn:0<names.length) (hnl:names.length≤maxL):
 CI (.fn 149) [.ptr t 0, .agg x.cs] σ=some (outR (usingErr p names),σ):=by
 subst hx
 obtain ⟨τ,hτ⟩: ∃τ,bodyI CI XB GI af149 [.ptr t 0, .agg (Ex.mk k n s u names l arms).cs] σ=some (outR (usingErr p names),σ++τ):=by
  have hit:=loop_seekP (f:=evalI CI XB GI 31 false lp149_0) (σ:=σ++[.box (Ex.mk k n s u names l arms).cs]) names.tail (fun i=>[(0, .ptr t 0),(10,slD names.tail),(11, .int .i64 names.tail.length),(12, .int .i64 (i:Nat))]) (useE p) (fun e=> .panic (refD e))
   (.exit 0,[(0, .ptr t 0),(10,slD names.tail),(11, .int .i64 names.tail.length),(12, .int .i64 names.tail.length),(13, .bool false)]) (by simp) (by simp)
   (fun i hi τ=>by
     have hw:=wrap_nat (n:=i) (by unfold maxL at hnl;simp at hi;omega)
     obtain ⟨j,hj,_⟩:=(hT.app (τ:=[.box (Ex.mk k n s u names l arms).cs])).app (τ:=τ)
     have hpl:=p.cs_len
     have hpt:=p.cs_take
     have h34:=fun σ=>c34 p hok.el names.tail[i] σ
     generalize hσ1:σ++[.box (Ex.mk k n s u names l arms).cs]++τ=σ1 at*
     unfold useE
     have hget: (names.tail.map D.str)[i]? =some (.str names.tail[i]):=by rw [List.getElem?_map,List.getElem?_eq_getElem hi];rfl
     have hlen: (names.tail.map D.str).length=names.tail.length:=by simp
     simp only [slD]
     generalize names.tail.map D.str=nd at*
     generalize names.tail[i]=s at*
     have h2:i<nd.length:=by omega
     have h3:nd[i]= .str s:=by rw [List.getElem?_eq_getElem h2] at hget;exact Option.some.inj hget
     generalize p.cs=pc at*
     generalize findEffI p.effects s=fi at*
     generalize findEffE p.effects s=e at*
     generalize names.tail.length=nl at*
     cases hs:s==nIO
     ·unfold nIO at hs
      simp only [Bool.false_eq_true,if_false]
      by_cases he:e=0
      ·subst he
       refine ⟨τ,[], ?_⟩
       rw [hσ1]
       simp [lp149_0,hi,hw,h2,h3,hs,hj,hpl,hpt,h34,c59,outR_zero]
      ·refine ⟨τ,[(0, .ptr t 0),(7, .int .i64 e),(10, .slice nd),(11, .int .i64 nl),(12, .int .i64 i)], ?_⟩
       rw [hσ1]
       simp [lp149_0,hi,hw,h2,h3,hs,hj,hpl,hpt,h34,c59,outR_ne he,he]
     ·simp only [if_true]
      unfold nIO at hs
      refine ⟨τ,[(0, .ptr t 0),(5, .str s),(10, .slice nd),(11, .int .i64 nl),(12, .int .i64 i),(17, .bool true)], ?_⟩
      rw [hσ1]
      simp [lp149_0,hi,hw,h2,h3,hs,c58]) (fun τ=>⟨τ,by simp [lp149_0]⟩) []
  obtain ⟨τ,ev,hit⟩:=hit
  rw [List.append_nil,Int.natCast_zero] at hit
  refine ⟨[.box (Ex.mk k n s u names l arms).cs]++τ, ?_⟩
  rw [←List.append_assoc]
  have hnd: (names.map D.str).drop 1=names.tail.map D.str:=by cases names<;>simp
  have hndl: (names.map D.str).length=names.length:=by simp
  have htl: ((names.length:Nat):Int) - 1=names.tail.length:=by simp;omega
  have htk: (names.map D.str).take names.length=names.map D.str:=List.take_of_length_le (by simp)
  have htm: (names.tail.map D.str).length=names.tail.length:=by simp
  have hall: (names.map D.str).all (fun e=>e.cells.length==1)=true:=by simp [D.cells]
  have hn1: (1:Int)≤names.length:=by omega
  have hn1':1≤names.length:=hn
  simp only [D.cells] at hall
  unfold usingErr
  generalize hσ1:σ++[.box (Ex.mk k n s u names l arms).cs]++τ=σ1 at*
  simp only [Ex.cs,slD] at*
  generalize names.map D.str=nd at*
  generalize names.tail.map D.str=tl at*
  generalize exsD l=ld at*
  generalize armsD arms=ad at*
  generalize firstE (names.tail.map (useE p))=e at*
  clear htl
  generalize names.tail.length=nt at*
  by_cases he:e=0
  ·rw [if_pos he] at hit
   subst he
   simp [bodyI,af149,getA0,bound,hndl,htk,hnd,htm,hn1,hn1',hall,hit,outR_zero, -List.all_eq_true]
  ·rw [if_neg he] at hit
   rw [outR_ne he]
   simp [bodyI,af149,getA0,bound,hndl,htk,hnd,htm,hn1,hn1',hall,hit, -List.all_eq_true]
 exact CI_out tab149 hτ
theorem k90 (p:Prg) (hok:p.ok) (s:Bs) (h:findEffE p.effects s=0) (σ:St):CI (.fn 90) [.agg p.cs, .int .i64 (findEffI p.effects s)] σ=some (.ret (slD (opNames p (findEffI p.effects s))),σ)∧(opNames p (findEffI p.effects s)).length≤maxL:=by
 unfold findEffE at h
 unfold findEffI
 rcases idxOf_find (fun x:Eff=>x.name==s) p.effects with ⟨hneg,_⟩ | ⟨i,hi,hlt,_,_⟩
 ·rw [if_neg (by omega)] at h ⊢
  split at h
  ·rename_i hs
   rw [if_pos hs]
   exact ⟨c90m p σ,by unfold maxL opNames;simp⟩
  ·cases h
 ·rw [hi,if_pos (by omega)]
  have e:opNames p i=p.effects[i].ops.map Opn.name:=by
   unfold opNames
   rw [if_neg (by omega)]
   simp [hlt]
  rw [e]
  exact ⟨c90 p hok i hlt σ,by simpa using (hok.e _ (List.getElem_mem hlt)).1⟩
theorem p189 (names:List Bs) (arms:List Arm) (hcl:names.length≤maxL) (f:Nat) (P:Bs→Arm→Bool) (hf: ∀c a σ,CI (.fn f) [.str c, .agg a.cs] σ=some (.ret (.bool (P c a)),σ)) (σ:St):
 CI (.fn 189) [slD names, .slice (armsD arms), .func f [] []] σ=some (.ret (.bool (all2 P names arms)),σ):=by
 have hlc: (names.map D.str).length=names.length:=by simp
 have hla:=armsD_len arms
 unfold slD
 obtain ⟨τ,hτ⟩: ∃τ,bodyI CI XB GI af189 [.slice (names.map .str), .slice (armsD arms), .func f [] []] σ=some (.ret (.bool (all2 P names arms)),σ++τ):=by
  by_cases hl:names.length=arms.length
  ·obtain ⟨τ,hit⟩:=loop_all2 (f:=evalI CI XB GI 32 false lp189_0) (σ:=σ) names arms hl P (fun i=>[(1, .slice (armsD arms)),(2, .func f [] []),(15, .slice (names.map .str)),(16, .int .i64 names.length),(17, .int .i64 (i:Nat))]) (.ret,[(6, .bool false)])
    (.exit 0,[(1, .slice (armsD arms)),(2, .func f [] []),(15, .slice (names.map .str)),(16, .int .i64 names.length),(17, .int .i64 names.length),(18, .bool false)]) (by simp) (by simp)
    (fun i hi hi' τ=>by
      have hw:=wrap_nat (n:=i) (by unfold maxL at hcl;omega)
      have hgc: (names.map D.str)[i]? =some (.str names[i]):=by simp [hi]
      have hga: (armsD arms)[i]? =some (.agg arms[i].cs):=by rw [armsD_map];simp [Arm.d,hi']
      generalize names.map D.str=cd at*
      generalize armsD arms=ad at*
      have h2:i<cd.length:=by omega
      have h3:cd[i]= .str names[i]:=by rw [List.getElem?_eq_getElem h2] at hgc;exact Option.some.inj hgc
      have h4:i<ad.length:=by omega
      have h5:ad[i]= .agg arms[i].cs:=by rw [List.getElem?_eq_getElem h4] at hga;exact Option.some.inj hga
      generalize names[i]=c at*
      generalize arms[i]=a at*
      have hc:=hf c a
      refine ⟨τ++[.box a.cs], ?_⟩
      rw [←List.append_assoc]
      generalize σ++τ=σ1 at*
      have y1:=a.cs_len
      have y2:=a.cs_take
      have y3:a.cs.drop 9=[]:=List.drop_eq_nil_of_le (by simp)
      have y4:=a.cs_all
      generalize a.cs=ac at*
      cases hp:P c a<;>rw [hp] at hc<;>simp [lp189_0,hi,hw,h2,h3,h4,h5,getA0,setA0,y1,y2,y3,y4,putCells,hc])
    (fun τ=>⟨τ,by generalize names.map D.str=cd at*;generalize armsD arms=ad at*;simp [lp189_0]⟩) names.length 0 [] (by omega)
   rw [Int.natCast_zero,List.append_nil,List.drop_zero,List.drop_zero] at hit
   refine ⟨τ, ?_⟩
   have hl': (names.length:Int)=arms.length:=by omega
   generalize names.map D.str=cd at*
   generalize armsD arms=ad at*
   cases ha:all2 P names arms<;>(rw [ha] at hit;simp only [hl'] at hit;simp [bodyI,af189,hlc,hla,hl',hit])
  ·refine ⟨[], ?_⟩
   rw [all2_ne hl]
   have hl': ((names.length:Int) != (arms.length:Int))=true:=by rw [bne_iff_ne];omega
   generalize names.map D.str=cd at*
   generalize armsD arms=ad at*
   simp [bodyI,af189,hlc,hla,hl']
 exact CI_tree tab189 hτ rfl rfl
def handlerErr (p:Prg) (s:Bs) (arms:List Arm):Int:=
 if findEffE p.effects s=0 then (if all2 (fun (o:Bs) (a:Arm)=>o==a.op) (opNames p (findEffI p.effects s)) arms.tail then 0 else 9) else findEffE p.effects s
set_option maxHeartbeats 2000000 in
theorem c147 (p:Prg) (hok:p.ok) (t:Nat) (m:CMap) (x:Ex) (σ:St) (hT:IsT σ t p m) (k n:Int) (s u:Bs) (names:List Bs) (l:List Ex) (arms:List Arm) (hx:x= .mk k n s u names l arms) (ha:0<arms.length):
 CI (.fn 147) [.ptr t 0, .agg x.cs] σ=some (outR (handlerErr p s arms),σ):=by
 subst hx
 obtain ⟨j,hj,_⟩:=hT
 have hpl:=p.cs_len
 have hpt:=p.cs_take
 have h34:=fun σ=>c34 p hok.el s σ
 have h90:=fun h σ=>(k90 p hok s h σ).1
 have h189:=fun h σ=>p189 (opNames p (findEffI p.effects s)) arms.tail (k90 p hok s h []).2 190 (fun o a=>o==a.op) c190 σ
 have hall: (armsD arms).all (fun e=>e.cells.length==9)=true:=by
  rw [armsD_map,List.all_map];simp [Arm.d,D.cells]
 have htl: (armsD arms).drop 1=armsD arms.tail:=by cases arms<;>simp [armsD]
 have htk: (armsD arms).take arms.length=armsD arms:=List.take_of_length_le (by rw [armsD_len];exact Nat.le_refl _)
 have hla:=armsD_len arms
 have ha1: (1:Int)≤arms.length:=by omega
 have ha2:1≤arms.length:=ha
 have e1:eqbL (armsD arms) (armsD arms)=true:=eqbL_tree _ (arms_plain _).1
 have e2:eqbL (armsD arms.tail) (armsD arms.tail)=true:=eqbL_tree _ (arms_plain _).1
 have e3:eqbL p.cs p.cs=true:=eqbL_tree _ p.plain.1
 have q90:qI 90=false:=rfl
 have x90:XB 90=false:=rfl
 have q189:qI 189=false:=rfl
 have x189:XB 189=false:=rfl
 obtain ⟨τ,hτ⟩: ∃τ,bodyI CI XB GI af147 [.ptr t 0, .agg (Ex.mk k n s u names l arms).cs] σ=some (outR (handlerErr p s arms),σ++τ):=by
  simp only [Ex.cs,slD] at*
  refine ⟨[.box [.int .i64 k, .int .i64 n, .str s, .str u, .slice (names.map .str), .slice (exsD l), .slice (armsD arms)]], ?_⟩
  unfold handlerErr
  simp only [D.cells] at hall
  generalize p.cs=pc at*
  generalize names.map D.str=nd at*
  generalize exsD l=ld at*
  generalize findEffI p.effects s=fi at*
  generalize all2 (fun (o:Bs) (a:Arm)=>o==a.op) (opNames p fi) arms.tail=b at*
  generalize (opNames p fi).map D.str=od at*
  generalize armsD arms.tail=atl at*
  generalize armsD arms=ad at*
  generalize findEffE p.effects s=e at*
  by_cases he:e=0
  ·subst he
   have h90:=h90 rfl
   have h189:=h189 rfl
   rw [if_pos rfl]
   cases b<;>simp [bodyI,af147,getA0,getO hj,bound,hpl,hpt,hall,htl,htk,hla,ha1,ha2,e1,e2,e3,h34,h90,h189,c58,c59,outR,q34,x34,q90,x90,q189,x189,Nat.testBit_eq_decide_div_mod_eq, -List.all_eq_true]
  ·rw [if_neg he]
   simp [bodyI,af147,getA0,getO hj,hpl,hpt,h34,c59,outR_ne he,q34,x34,Nat.testBit_eq_decide_div_mod_eq]
 exact CI_out tab147 hτ
section
variable {β:Type} (step:Ex→β→β ⊕ Int)
mutual
def Ex.walk:Ex→β→β ⊕ Int
 | .mk k n s t names l arms,b=>match step (.mk k n s t names l arms) b with
  | .inr e=> .inr e
  | .inl b1=>match exsWalk l b1 with
   | .inr e=> .inr e
   | .inl b2=>armsWalk arms b2
def exsWalk:List Ex→β→β ⊕ Int
 | [],b=> .inl b
 |x::r,b=>match x.walk b with
  | .inr e=> .inr e
  | .inl b1=>exsWalk r b1
def armsWalk:List Arm→β→β ⊕ Int
 | [],b=> .inl b
 | .mk _ _ x::r,b=>match x.walk b with
  | .inr e=> .inr e
  | .inl b1=>armsWalk r b1
end
theorem exsWalk_fold: ∀ (l:List Ex) (i:Nat) (b:β),exsWalk step l b=foldS (fun _ x=>x.walk step) l i b
 | [],i,b=>by simp only [exsWalk,foldS]
 |x::r,i,b=>by
  simp only [exsWalk,foldS]
  cases x.walk step b with
  |inr e=>rfl
  |inl b1=>exact exsWalk_fold r (i+1) b1
theorem armsWalk_fold: ∀ (l:List Arm) (i:Nat) (b:β),armsWalk step l b=foldS (fun _ a=>a.body.walk step) l i b
 | [],i,b=>by simp only [armsWalk,foldS]
 | .mk _ _ x::r,i,b=>by
  simp only [armsWalk,foldS,Arm.body]
  cases x.walk step b with
  |inr e=>rfl
  |inl b1=>exact armsWalk_fold r (i+1) b1
end
theorem postI_same {q:FuncId→Bool} {f:FuncId} {A A' τ1:St} {d:D} (hl:A'.length=A.length) (hk: ∀j,j<A.length→A'[j]? =A[j]? ∨ ∃o,A'[j]? =some o∧o.under A.length) (hd:d.tree=true) (hq:q f=false):
 postI q f A (some (.ret d,A'++τ1))=some (.ret d.weak,A'):=by
 have hK:Keeps A (A'++τ1):=fun j hj=>by
  rw [List.getElem?_append_left (by omega)];exact hk j hj
 rw [postI_ret hK (trimV_tree hd) (by simp [hq]),←hl,List.take_left]
theorem postI_same_panic {q:FuncId→Bool} {f:FuncId} {A A' τ1:St} {d:D} (hl:A'.length=A.length) (hk: ∀j,j<A.length→A'[j]? =A[j]? ∨ ∃o,A'[j]? =some o∧o.under A.length) (hd:d.tree=true):
 postI q f A (some (.panic d,A'++τ1))=some (.panic d,A'):=by
 have hK:Keeps A (A'++τ1):=fun j hj=>by
  rw [List.getElem?_append_left (by omega)];exact hk j hj
 rw [postI_pan hK hd,←hl,List.take_left]
section
variable {β:Type} (i2 y s i:Nat) (o:β→Obj) (I:β→Prop) (step:Ex→β→β ⊕ Int) (σ SP:St)
theorem p192 (hi2:i2<σ.length) (ho: ∀b m,σ.length≤m→(o b).under m) (hSPl:SP.length=σ.length)
 (hSP: ∀b j,j<σ.length→SP[j]? =(σ.set i2 (o b))[j]? ∨ ∃ob,SP[j]? =some ob∧ ∀m,σ.length≤m→ob.under m)
 (hy: ∀b,(σ.set i2 (o b))[y]? =some (.box [.yield i])) (hs: ∀b,(σ.set i2 (o b))[s]? =some (.box [.func 192 [] [.ptr y 0, .ptr s 0]]))
 (G:Ex→Prop) (hG: ∀e x,G e→x ∈ e.parts→G x) (hI: ∀e b b',G e→I b→step e b= .inl b'→I b')
 (h: ∀e,G e→ ∀b τ,I b→ ∃τ',CI (.round i) [.agg e.cs] (σ.set i2 (o b)++τ)=some (match step e b with| .inl b'=>(.ret (.bool true),σ.set i2 (o b')++(τ++τ')) | .inr err=>(.panic (refD err),SP++(τ++τ')))):
 ∀ (e:Ex),e.ok→G e→ ∀ (b:β) (τ:St),I b→CI (.fn 192) [.agg e.cs, .ptr y 0, .ptr s 0] (σ.set i2 (o b)++τ)=some (match e.walk step b with| .inl b'=>(.ret (.bool true),σ.set i2 (o b')++τ) | .inr err=>(.panic (refD err),SP++τ))∧ ∀b',e.walk step b= .inl b'→I b'
 | .mk k n ss u names l arms,hok,hg,b,τ,hb=>by
  have hparts:=fun x hx=>hG (Ex.mk k n ss u names l arms) x hg hx
  obtain ⟨_,hll,hal,hlok,haok⟩:=hok
  simp only [Ex.parts,List.mem_append,List.mem_map] at hparts
  have keepA: ∀b b' τ j,j< (σ.set i2 (o b)++τ).length→(σ.set i2 (o b')++τ)[j]? =(σ.set i2 (o b)++τ)[j]? ∨ ∃ob,(σ.set i2 (o b')++τ)[j]? =some ob∧ob.under (σ.set i2 (o b)++τ).length:=fun b b' τ j hj=>by
   by_cases hjl:j<σ.length
   ·rw [List.getElem?_append_left (by simpa using hjl),List.getElem?_append_left (by simpa using hjl)]
    by_cases hji:i2=j
    ·subst hji
     right
     exact ⟨o b',by rw [List.getElem?_set_self hi2],ho _ _ (by simp)⟩
    ·left
     rw [List.getElem?_set_ne hji,List.getElem?_set_ne hji]
   ·left
    rw [List.getElem?_append_right (by simp;omega),List.getElem?_append_right (by simp;omega)]
    simp
  have keepP: ∀b τ j,j< (σ.set i2 (o b)++τ).length→(SP++τ)[j]? =(σ.set i2 (o b)++τ)[j]? ∨ ∃ob,(SP++τ)[j]? =some ob∧ob.under (σ.set i2 (o b)++τ).length:=fun b τ j hj=>by
   by_cases hjl:j<σ.length
   ·rw [List.getElem?_append_left (by omega),List.getElem?_append_left (by simpa using hjl)]
    rcases hSP b j hjl with h| ⟨ob,h1,h2⟩
    ·exact .inl h
    ·exact .inr ⟨ob,h1,h2 _ (by simp)⟩
   ·left
    rw [List.getElem?_append_right (by omega),List.getElem?_append_right (by simp;omega),hSPl]
    simp
  have hpost: ∀b' τ1,postI qI 192 (σ.set i2 (o b)++τ) (some (.ret (.bool true),σ.set i2 (o b')++τ++τ1))=some (.ret (.bool true),σ.set i2 (o b')++τ):=fun b' τ1=>postI_same (by simp) (keepA b b' τ) rfl rfl
  have hpostP: ∀err τ1,postI qI 192 (σ.set i2 (o b)++τ) (some (.panic (refD err),SP++τ++τ1))=some (.panic (refD err),SP++τ):=fun err τ1=>postI_same_panic (by simp [hSPl]) (keepP b τ) rfl
  have hexl:=exsD_len l
  have harl:=armsD_len arms
  have hcs:=(Ex.mk k n ss u names l arms).cs_all
  have hcl:=(Ex.mk k n ss u names l arms).cs_len
  have hct:=(Ex.mk k n ss u names l arms).cs_take
  obtain ⟨τ0,h0⟩:=h _ hg b (τ++[.box (Ex.mk k n ss u names l arms).cs]) hb
  have hy0:=getO (τ:=τ) (hy b)
  have hsl: ∀b,(σ.set i2 (o b)).length=σ.length:=fun b=>by simp
  simp only [Ex.walk]
  cases hst:step (Ex.mk k n ss u names l arms) b with
  |inr err=>
   refine ⟨?_,fun b' hb'=>by cases hb'⟩
   rw [hst] at h0
   simp only at h0 ⊢
   refine CI_fn tab192 ?_ (hpostP err ([.box (Ex.mk k n ss u names l arms).cs]++τ0))
   simp only [List.append_assoc] at h0 ⊢
   simp only [←List.append_assoc] at h0 ⊢
   generalize SP++τ++[.box (Ex.mk k n ss u names l arms).cs]++τ0=σ3 at*
   generalize σ.set i2 (o b)++τ=σ1 at*
   generalize (Ex.mk k n ss u names l arms).cs=ec at*
   simp [bodyI,af192,getA0,getO hy0,hcs,hcl,hct,h0]
  |inl b1=>
   rw [hst] at h0
   simp only at h0 ⊢
   have hb1:I b1:=hI _ _ _ hg hb hst
   have hgq: ∀b' τ',(σ.set i2 (o b')++(τ++[.box (Ex.mk k n ss u names l arms).cs])++τ')[σ.length+τ.length]? =some (.box (Ex.mk k n ss u names l arms).cs):=fun b' τ'=>by
    rw [List.append_assoc,List.getElem?_append_right (by simp)]
    simp
   have ih:=fun x hx (hxo:x.ok) b τ hb=>p192 hi2 ho hSPl hSP hy hs G hG hI h x hxo (hparts x hx) b τ hb
   have iw:=fun b0 τa=>loop_foldP (f:=evalI CI XB GI 38 false lp192_0) l (fun j _=>[(2, .ptr s 0),(3, .ptr (σ.length+τ.length) 0),(14, .slice (exsD l)),(15, .int .i64 l.length),(16, .int .i64 (j:Nat))]) (fun b=>σ.set i2 (o b)++(τ++[.box (Ex.mk k n ss u names l arms).cs])) (fun _ b=>I b) (fun _ x=>x.walk step)
    (fun c=> .panic (refD c)) (SP++(τ++[.box (Ex.mk k n ss u names l arms).cs])) (fun _=>(.exit 0,[(2, .ptr s 0),(3, .ptr (σ.length+τ.length) 0),(14, .slice (exsD l)),(15, .int .i64 l.length),(16, .int .i64 l.length),(17, .bool false)])) (by simp) (by simp)
    (fun j hj b b' hb hw=>(ih l[j] (.inl (List.getElem_mem hj)) (exsOk_mem hlok (List.getElem_mem hj)) b [] hb).2 b' hw)
    (fun j hj b τ1 hb=>by
      have hw:=wrap_nat (n:=j) (by unfold maxL at hll;omega)
      have hc:=(ih l[j] (.inl (List.getElem_mem hj)) (exsOk_mem hlok (List.getElem_mem hj)) b (τ++[.box (Ex.mk k n ss u names l arms).cs]++τ1++[.box l[j].cs]) hb).1
      have hget: (exsD l)[j]? =some (.agg l[j].cs):=by rw [exsD_map];simp [Ex.d,hj]
      have hs1: (σ.set i2 (o b)++(τ++[.box (Ex.mk k n ss u names l arms).cs])++τ1)[s]? =some (.box [.func 192 [] [.ptr y 0, .ptr s 0]]):=by rw [List.append_assoc];exact getO (hs b)
      have hx1:=l[j].cs_all
      have hx2:=l[j].cs_len
      have hx3:=l[j].cs_take
      have hx4:l[j].cs.drop 7=[]:=List.drop_eq_nil_of_le (by simp)
      generalize exsD l=ld at*
      have h2:j<ld.length:=by omega
      have h3:ld[j]= .agg l[j].cs:=by rw [List.getElem?_eq_getElem h2] at hget;exact Option.some.inj hget
      cases hwk:l[j].walk step b with
      |inl b'=>
       rw [hwk] at hc
       refine ⟨τ1++[.box l[j].cs],[], ?_⟩
       simp only [←List.append_assoc] at hc hs1 ⊢
       generalize l[j].cs=xc at*
       generalize σ.set i2 (o b')++τ++[.box (Ex.mk k n ss u names l arms).cs]++τ1++[.box xc]=σ4 at*
       generalize σ.set i2 (o b)++τ++[.box (Ex.mk k n ss u names l arms).cs]++τ1=σ3 at*
       simp [lp192_0,hj,hw,h2,h3,getA0,setA0,getO hs1,hx1,hx2,hx3,hx4,putCells,hc]
      |inr err=>
       rw [hwk] at hc
       refine ⟨τ1++[.box l[j].cs],[(2, .ptr s 0),(3, .ptr (σ.length+τ.length) 0),(6, .ptr (σ.set i2 (o b)++τ++[Obj.box (Ex.mk k n ss u names l arms).cs]++τ1).length 0),(14, .slice ld),(15, .int .i64 l.length),(16, .int .i64 (j:Nat)),(20, .func 192 [] [.ptr y 0, .ptr s 0]),(21, .agg l[j].cs)], ?_⟩
       simp only [←List.append_assoc] at hc hs1 ⊢
       generalize l[j].cs=xc at*
       generalize SP++τ++[.box (Ex.mk k n ss u names l arms).cs]++τ1++[.box xc]=σ4 at*
       generalize σ.set i2 (o b)++τ++[.box (Ex.mk k n ss u names l arms).cs]++τ1=σ3 at*
       simp [lp192_0,hj,hw,h2,h3,getA0,setA0,getO hs1,hx1,hx2,hx3,hx4,putCells,hc])
    (fun b τ1 hb=>⟨τ1,by generalize exsD l=ld at*;simp [lp192_0]⟩) b0 τa
   have iwa:=fun b0 τa=>loop_foldP (f:=evalI CI XB GI 38 false lp192_1) arms (fun j _=>[(2, .ptr s 0),(26, .slice (armsD arms)),(27, .int .i64 arms.length),(28, .int .i64 (j:Nat))]) (fun b=>σ.set i2 (o b)++(τ++[.box (Ex.mk k n ss u names l arms).cs])) (fun _ b=>I b) (fun _ x=>x.body.walk step)
    (fun c=> .panic (refD c)) (SP++(τ++[.box (Ex.mk k n ss u names l arms).cs])) (fun _=>(.exit 2,[(2, .ptr s 0),(26, .slice (armsD arms)),(27, .int .i64 arms.length),(28, .int .i64 arms.length),(29, .bool false)])) (by simp) (by simp)
    (fun j hj b b' hb hw=>(ih arms[j].body (.inr ⟨_,List.getElem_mem hj,rfl⟩) (by have:=armsOk_mem haok (List.getElem_mem hj);rcases harm:arms[j] with ⟨a1,a2,a3⟩;rw [harm] at this;exact this.2) b [] hb).2 b' hw)
    (fun j hj b τ1 hb=>by
      have hw:=wrap_nat (n:=j) (by unfold maxL at hal;omega)
      have hc:=(ih arms[j].body (.inr ⟨_,List.getElem_mem hj,rfl⟩) (by have:=armsOk_mem haok (List.getElem_mem hj);rcases harm:arms[j] with ⟨a1,a2,a3⟩;rw [harm] at this;exact this.2) b (τ++[.box (Ex.mk k n ss u names l arms).cs]++τ1++[.box arms[j].cs]) hb).1
      have hget: (armsD arms)[j]? =some (.agg arms[j].cs):=by rw [armsD_map];simp [Arm.d,hj]
      have hs1: (σ.set i2 (o b)++(τ++[.box (Ex.mk k n ss u names l arms).cs])++τ1)[s]? =some (.box [.func 192 [] [.ptr y 0, .ptr s 0]]):=by rw [List.append_assoc];exact getO (hs b)
      have hx1:=arms[j].body.cs_all
      have hx2:=arms[j].body.cs_len
      have hx3:=arms[j].body.cs_take
      have hx4:arms[j].body.cs.drop 7=[]:=List.drop_eq_nil_of_le (by simp)
      rw [Arm.cs_eq] at hget hc
      generalize armsD arms=ld at*
      have h2:j<ld.length:=by omega
      have h3:ld[j]= .agg (.str arms[j].op::slD arms[j].names::arms[j].body.cs):=by rw [List.getElem?_eq_getElem h2] at hget;exact Option.some.inj hget
      unfold slD at*
      generalize arms[j].names.map D.str=nd at*
      generalize arms[j].op=aop at*
      cases hwk:arms[j].body.walk step b with
      |inl b'=>
       rw [hwk] at hc
       refine ⟨τ1++[.box (.str aop:: .slice nd::arms[j].body.cs)],[], ?_⟩
       simp only [←List.append_assoc] at hc hs1 ⊢
       generalize arms[j].body.cs=xc at*
       generalize σ.set i2 (o b')++τ++[.box (Ex.mk k n ss u names l arms).cs]++τ1++[.box (.str aop:: .slice nd::xc)]=σ4 at*
       generalize σ.set i2 (o b)++τ++[.box (Ex.mk k n ss u names l arms).cs]++τ1=σ3 at*
       simp [lp192_1,hj,hw,h2,h3,getA0,setA0,getO hs1,hx1,hx2,hx3,hx4,putCells,hc]
      |inr err=>
       rw [hwk] at hc
       refine ⟨τ1++[.box (.str aop:: .slice nd::arms[j].body.cs)],[(2, .ptr s 0),(8, .ptr (σ.set i2 (o b)++τ++[Obj.box (Ex.mk k n ss u names l arms).cs]++τ1).length 0),(26, .slice ld),(27, .int .i64 arms.length),(28, .int .i64 (j:Nat)),(32, .func 192 [] [.ptr y 0, .ptr s 0]),(33, .ptr (σ.set i2 (o b)++τ++[Obj.box (Ex.mk k n ss u names l arms).cs]++τ1).length 2),(34, .agg arms[j].body.cs)], ?_⟩
       simp only [←List.append_assoc] at hc hs1 ⊢
       generalize arms[j].body.cs=xc at*
       generalize SP++τ++[.box (Ex.mk k n ss u names l arms).cs]++τ1++[.box (.str aop:: .slice nd::xc)]=σ4 at*
       generalize σ.set i2 (o b)++τ++[.box (Ex.mk k n ss u names l arms).cs]++τ1=σ3 at*
       simp [lp192_1,hj,hw,h2,h3,getA0,setA0,getO hs1,hx1,hx2,hx3,hx4,putCells,hc])
    (fun b τ1 hb=>⟨τ1,by generalize armsD arms=ld at*;simp [lp192_1]⟩) b0 τa
   rw [exsWalk_fold step l 0]
   obtain ⟨τ1,ev1,hit1⟩:=iw b1 τ0 hb1
   simp only [Int.natCast_zero] at hit1
   have hlq: (σ.set i2 (o b)++τ).length=σ.length+τ.length:=by simp
   have hgq1:=hgq b1 τ0
   cases hw1:foldS (fun _ x=>x.walk step) l 0 b1 with
   |inr err=>
    refine ⟨?_,fun b' hb'=>by cases hb'⟩
    rw [hw1] at hit1
    simp only at hit1 ⊢
    refine CI_fn tab192 ?_ (hpostP err ([.box (Ex.mk k n ss u names l arms).cs]++τ1))
    simp only [←List.append_assoc] at h0 hit1 hgq1 ⊢
    generalize SP++τ++[.box (Ex.mk k n ss u names l arms).cs]++τ1=σ5 at*
    generalize σ.set i2 (o b1)++τ++[.box (Ex.mk k n ss u names l arms).cs]++τ0=σ3 at*
    rw [←hlq] at hgq1 hit1
    generalize σ.set i2 (o b)++τ=σ1 at*
    simp only [Ex.cs] at*
    generalize exsD l=ld at*
    generalize armsD arms=ad at*
    unfold slD at*
    generalize names.map D.str=nd at*
    simp [bodyI,af192,getA0,getO hy0,h0,hgq1,hexl,hit1]
   |inl b2=>
    rw [hw1] at hit1
    simp only at hit1 ⊢
    rw [armsWalk_fold step arms 0]
    have hb2:I b2:=foldS_inv (I:=I) l (fun a ha j b b' hb hw=>(ih a (.inl ha) (exsOk_mem hlok ha) b [] hb).2 b' hw) 0 b1 b2 hb1 hw1
    obtain ⟨τ2,ev2,hit2⟩:=iwa b2 τ1 hb2
    simp only [Int.natCast_zero] at hit2
    have hgq2:=hgq b2 τ1
    cases hw2:foldS (fun _ (a:Arm)=>a.body.walk step) arms 0 b2 with
    |inr err=>
     refine ⟨?_,fun b' hb'=>by cases hb'⟩
     rw [hw2] at hit2
     simp only at hit2 ⊢
     refine CI_fn tab192 ?_ (hpostP err ([.box (Ex.mk k n ss u names l arms).cs]++τ2))
     simp only [←List.append_assoc] at h0 hit1 hit2 hgq1 hgq2 ⊢
     generalize SP++τ++[.box (Ex.mk k n ss u names l arms).cs]++τ2=σ5 at*
     generalize σ.set i2 (o b1)++τ++[.box (Ex.mk k n ss u names l arms).cs]++τ0=σ3 at*
     generalize σ.set i2 (o b2)++τ++[.box (Ex.mk k n ss u names l arms).cs]++τ1=σ4 at*
     rw [←hlq] at hgq1 hgq2 hit1
     generalize σ.set i2 (o b)++τ=σ1 at*
     simp only [Ex.cs] at*
     generalize exsD l=ld at*
     generalize armsD arms=ad at*
     unfold slD at*
     generalize names.map D.str=nd at*
     simp [bodyI,af192,getA0,getO hy0,h0,hgq1,hgq2,hexl,harl,hit1,hit2]
    |inl b3=>
     refine ⟨?_,fun b' hb'=> ?_⟩
     ·rw [hw2] at hit2
      simp only at hit2 ⊢
      refine CI_fn tab192 ?_ (hpost b3 ([.box (Ex.mk k n ss u names l arms).cs]++τ2))
      simp only [←List.append_assoc] at h0 hit1 hit2 hgq1 hgq2 ⊢
      generalize σ.set i2 (o b3)++τ++[.box (Ex.mk k n ss u names l arms).cs]++τ2=σ5 at*
      generalize σ.set i2 (o b1)++τ++[.box (Ex.mk k n ss u names l arms).cs]++τ0=σ3 at*
      generalize σ.set i2 (o b2)++τ++[.box (Ex.mk k n ss u names l arms).cs]++τ1=σ4 at*
      rw [←hlq] at hgq1 hgq2 hit1
      generalize σ.set i2 (o b)++τ=σ1 at*
      simp only [Ex.cs] at*
      generalize exsD l=ld at*
      generalize armsD arms=ad at*
      unfold slD at*
      generalize names.map D.str=nd at*
      simp [bodyI,af192,getA0,getO hy0,h0,hgq1,hgq2,hexl,harl,hit1,hit2]
     ·cases hb'
      exact foldS_inv (I:=I) arms (fun a ha j b b' hb hw=>(ih a.body (.inr ⟨_,ha,rfl⟩) (by have:=armsOk_mem haok ha;rcases a with ⟨a1,a2,a3⟩;exact this.2) b [] hb).2 b' hw) 0 b2 b3 hb2 hw2
termination_by e=>SizeOf.sizeOf e
decreasing_by exact Ex.parts_lt (by simp only [Ex.parts,List.mem_append,List.mem_map];exact hx)
end
def Ex.ordErr (p:Prg):Ex→Int
 | .mk k _ s t names l arms=>if k=10 then conErr p s l.length else if k=11 then matchErr p arms else if k=12 then opErr p s else if k=13 then opErr p t
  else if k=14 then handlerErr p s arms else if k=15 then handlerErr p s arms else if k=16 then findEffE p.effects s else if k=17 then usingErr p names else 0
def askOf (t:Nat) (k:Int):Option D:=
 if k=10 then some (.func 144 [.ptr t 0] []) else if k=11 then some (.func 145 [.ptr t 0] []) else if k=12 then some (.func 146 [.ptr t 0] []) else if k=13 then some (.func 146 [.ptr t 0] [])
 else if k=14 then some (.func 147 [.ptr t 0] []) else if k=15 then some (.func 147 [.ptr t 0] []) else if k=16 then some (.func 148 [.ptr t 0] []) else if k=17 then some (.func 149 [.ptr t 0] []) else none
def askM (t:Nat):List (D × D):=[(.int .i64 10, .func 144 [.ptr t 0] []),(.int .i64 11, .func 145 [.ptr t 0] []),(.int .i64 12, .func 146 [.ptr t 0] []),(.int .i64 13, .func 146 [.ptr t 0] []),
 (.int .i64 14, .func 147 [.ptr t 0] []),(.int .i64 15, .func 147 [.ptr t 0] []),(.int .i64 16, .func 148 [.ptr t 0] []),(.int .i64 17, .func 149 [.ptr t 0] [])]
theorem ask_find (t:Nat) (k:Int):mapFind 1 (.int .i64 k) (askM t)=some (askOf t k):=by
 unfold askM askOf
 simp only [mapFind,D.kindEq,if_true]
 by_cases h0:k=10
 ·subst h0;simp
 by_cases h1:k=11
 ·subst h1;simp
 by_cases h2:k=12
 ·subst h2;simp
 by_cases h3:k=13
 ·subst h3;simp
 by_cases h4:k=14
 ·subst h4;simp
 by_cases h5:k=15
 ·subst h5;simp
 by_cases h6:k=16
 ·subst h6;simp
 by_cases h7:k=17
 ·subst h7;simp
 have b0: (k==10)=false:=by simpa using h0
 have b1: (k==11)=false:=by simpa using h1
 have b2: (k==12)=false:=by simpa using h2
 have b3: (k==13)=false:=by simpa using h3
 have b4: (k==14)=false:=by simpa using h4
 have b5: (k==15)=false:=by simpa using h5
 have b6: (k==16)=false:=by simpa using h6
 have b7: (k==17)=false:=by simpa using h7
 simp [h0,h1,h2,h3,h4,h5,h6,h7,b0,b1,b2,b3,b4,b5,b6,b7]
theorem nodeE_arms {k n:Int} {s t:Bs} {names:List Bs} {nl:Nat} {arms:List Arm} (h:nodeE k n s t names nl arms=0) (hk:k=14∨k=15):0<arms.length:=by
 have ha: (shapeOf k).a=true:=by rcases hk with rfl|rfl<;>rfl
 have h11: (k != 11)=true:=by rcases hk with rfl|rfl<;>rfl
 have h17: ¬k=17:=by omega
 cases arms with
 |cons a r=>simp
 |nil=>
  exfalso
  unfold nodeE at h
  simp only [if_neg h17,armsE,ha,h11,List.length_nil,decide_true,Bool.and_self,if_true] at h
  generalize distE (names.take names.length) 1=d1 at*
  generalize distE (names.drop names.length) 2=d2 at*
  repeat' split at h
  all_goals first|omega|contradiction
theorem nodeE_names {n:Int} {s t:Bs} {names:List Bs} {nl:Nat} {arms:List Arm} (h:nodeE 17 n s t names nl arms=0):0<names.length:=by
 have hn: (shapeOf 17).n=1:=rfl
 cases names with
 |cons a r=>simp
 |nil=>
  exfalso
  unfold nodeE at h
  have hz:inR ((([]:List Bs).length:Nat):Int) (shapeOf 17).n ((shapeOf 17).n+ (shapeOf 17).m)=false:=by
   rw [hn];unfold inR;simp
  simp only [hz,Bool.false_and,Bool.false_eq_true,if_false] at h
  repeat' split at h
  all_goals first|omega|contradiction
theorem ask_fn (p:Prg) (hok:p.ok) (t:Nat) (x:Ex) (hx:x.ok) (k n:Int) (s u:Bs) (names:List Bs) (l:List Ex) (arms:List Arm) (he:x= .mk k n s u names l arms) (hn:nodeE k n s u names l.length arms=0):
 (askOf t k=none∧x.ordErr p=0)∨ ∃f,askOf t k=some (.func f [.ptr t 0] [])∧ ∀σ,IsT σ t p p.cm→CI (.fn f) [.ptr t 0, .agg x.cs] σ=some (outR (x.ordErr p),σ):=by
 have hnl:names.length≤maxL:=by subst he;exact hx.1
 by_cases h0:k=10
 ·subst h0
  exact .inr ⟨144,rfl,fun σ hT=>by rw [c144 p hok t x σ hT 10 n s u names l arms he];subst he;rfl⟩
 by_cases h1:k=11
 ·subst h1
  exact .inr ⟨145,rfl,fun σ hT=>by rw [c145 p hok t x σ hT 11 n s u names l arms he];subst he;rfl⟩
 by_cases h2:k=12
 ·subst h2
  exact .inr ⟨146,rfl,fun σ hT=>by rw [c146 p hok t _ x σ hT 12 n s u names l arms he];subst he;rfl⟩
 by_cases h3:k=13
 ·subst h3
  exact .inr ⟨146,rfl,fun σ hT=>by rw [c146 p hok t _ x σ hT 13 n s u names l arms he];subst he;rfl⟩
 by_cases h4:k=14
 ·subst h4
  exact .inr ⟨147,rfl,fun σ hT=>by rw [c147 p hok t _ x σ hT 14 n s u names l arms he (nodeE_arms hn (.inl rfl))];subst he;rfl⟩
 by_cases h5:k=15
 ·subst h5
  exact .inr ⟨147,rfl,fun σ hT=>by rw [c147 p hok t _ x σ hT 15 n s u names l arms he (nodeE_arms hn (.inr rfl))];subst he;rfl⟩
 by_cases h6:k=16
 ·subst h6
  exact .inr ⟨148,rfl,fun σ hT=>by rw [c148 p hok t _ x σ hT 16 n s u names l arms he];subst he;rfl⟩
 by_cases h7:k=17
 ·subst h7
  exact .inr ⟨149,rfl,fun σ hT=>by rw [c149 p hok t _ x σ hT 17 n s u names l arms he (nodeE_names hn) hnl];subst he;rfl⟩
 exact .inl ⟨by unfold askOf;simp [h0,h1,h2,h3,h4,h5,h6,h7],by subst he;unfold Ex.ordErr;simp [h0,h1,h2,h3,h4,h5,h6,h7]⟩
def loop96 (qm:Nat) (fd:D) (st:LoopState):Obj:= .loop 40 [(4, .ptr qm 0),(27,fd),(28, .any)] [28] as96_0 bd96_1 st none
theorem IsT.set {σ:St} {t:Nat} {p:Prg} {m:CMap} {i qm:Nat} {fd:D} {st:LoopState} {o:Obj} (h:IsT σ t p m) (hi:σ[i]? =some (loop96 qm fd st)):IsT (σ.set i o) t p m:=by
 obtain ⟨j,h1,h2⟩:=h
 have n1:i≠t:=fun he=>by rw [he,h1] at hi;unfold loop96 at hi;cases hi
 have n2:i≠j:=fun he=>by rw [he,h2] at hi;unfold loop96 at hi;cases hi
 exact ⟨j,by rw [List.getElem?_set_ne n1];exact h1,by rw [List.getElem?_set_ne n2];exact h2⟩
theorem rnd96 (p:Prg) (hok:p.ok) (t i qm jm:Nat) (fd:D) (σ:St) (x:Ex) (hx:x.ok) (hw:x.e=0) (hi:σ[i]? =some (loop96 qm fd .ready)) (hq:σ[qm]? =some (.box [.map jm])) (hj:σ[jm]? =some (.map (askM t))) (hT:IsT σ t p p.cm) (τ:St):
 ∃τ',CI (.round i) [.agg x.cs] (σ++τ)=some (if x.ordErr p=0 then (.ret (.bool true),σ++(τ++τ')) else (.panic (refD (x.ordErr p)),σ.set i (loop96 qm fd .busy)++(τ++τ'))):=by
 refine ⟨[Obj.box x.cs],callI_round postN ?_⟩
 have hil:=lt_of_get hi
 have n1:i≠qm:=fun he=>by rw [he,hq] at hi;unfold loop96 at hi;cases hi
 have n2:i≠jm:=fun he=>by rw [he,hj] at hi;unfold loop96 at hi;cases hi
 have hTs:=(hT.set (o:=loop96 qm fd .busy) hi).app (τ:=τ++[Obj.box x.cs])
 have hq': (σ.set i (loop96 qm fd .busy))[qm]? =some (.box [.map jm]):=by rw [List.getElem?_set_ne n1];exact hq
 have hj': (σ.set i (loop96 qm fd .busy))[jm]? =some (.map (askM t)):=by rw [List.getElem?_set_ne n2];exact hj
 have hi1: (σ++τ)[i]? =some (loop96 qm fd .ready):=getO hi
 have hcs:=x.cs_all
 have hcl:=x.cs_len
 have hct:=x.cs_take
 have hcd:x.cs.drop 7=[]:=List.drop_eq_nil_of_le (by simp)
 obtain ⟨k,n,s,u,names,l,arms,he⟩: ∃k n s u names l arms,x= .mk k n s u names l arms:=by rcases x with ⟨k,n,s,u,names,l,arms⟩;exact ⟨_,_,_,_,_,_,_,rfl⟩
 have hn:nodeE k n s u names l.length arms=0:=by
  subst he
  rw [Ex.e_eq] at hw
  by_cases hz:nodeE k n s u names l.length arms=0
  ·exact hz
  ·rw [if_neg hz] at hw;exact absurd hw hz
 have hhd:x.cs.head?=some (.int .i64 k):=by subst he;rfl
 have hask:=ask_fn p hok t x hx k n s u names l arms he hn
 have hfind:=ask_find t k
 generalize x.ordErr p=e at*
 clear he
 generalize x.cs=xc at*
 have hsr: (σ++(τ++[Obj.box xc])).set i (loop96 qm fd .busy)=σ.set i (loop96 qm fd .busy)++(τ++[Obj.box xc]):=setO hil
 have hbl: (σ.set i (loop96 qm fd .busy)++(τ++[Obj.box xc]))[i]? =some (loop96 qm fd .busy):=getSs hil
 have hback: (σ.set i (loop96 qm fd .busy)++(τ++[Obj.box xc])).set i (loop96 qm fd .ready)=σ++(τ++[Obj.box xc]):=by
  rw [setSs hil]
  congr 1
  rw [←(List.getElem?_eq_some_iff.1 hi).2];exact List.set_getElem_self _
 have hgL: (σ.set i (loop96 qm fd .busy)++(τ++[Obj.box xc]))[σ.length+τ.length]? =some (.box xc):=by
  rw [List.getElem?_append_right (by simp),List.getElem?_append_right (by simp)];simp
 have hq2:=getO (τ:=τ++[Obj.box xc]) hq'
 have hj2:=getO (τ:=τ++[Obj.box xc]) hj'
 generalize askM t=am at*
 have has:evalI CI XB GI 40 true as96_0 [(4, .ptr qm 0),(27,fd),(28, .agg xc)] (σ++τ)=some (.normal,[(4, .ptr qm 0),(5, .ptr (σ.length+τ.length) 0)],σ++(τ++[Obj.box xc])):=by
  have hlen: (σ++τ).length=σ.length+τ.length:=by simp
  rw [←List.append_assoc,←hlen]
  generalize σ++τ=σ6 at*
  simp [as96_0,getA0,setA0,hcs,hcl,hct,hcd,putCells]
 have hi2: (σ++(τ++[Obj.box xc]))[i]? =some (loop96 qm fd .ready):=getO hi
 have hnoRet: ∀e',(∃y,evalI CI XB GI 40 true bd96_1 [(4, .ptr qm 0),(5, .ptr (σ.length+τ.length) 0)] (σ.set i (loop96 qm fd .busy)++(τ++[Obj.box xc]))=some (.normal,y,σ.set i (loop96 qm fd .busy)++(τ++[Obj.box xc])))∧e'=0∨
  (∃y,evalI CI XB GI 40 true bd96_1 [(4, .ptr qm 0),(5, .ptr (σ.length+τ.length) 0)] (σ.set i (loop96 qm fd .busy)++(τ++[Obj.box xc]))=some (.panic (refD e'),y,σ.set i (loop96 qm fd .busy)++(τ++[Obj.box xc])))∧e'≠0→
  roundI CI XB GI i [.agg xc] (σ++τ)=some (if e'=0 then (.ret (.bool true),σ++(τ++[Obj.box xc])) else (.panic (refD e'),σ.set i (loop96 qm fd .busy)++(τ++[Obj.box xc]))):=by
  intro e' hcase
  unfold roundI evalRound
  rw [hi1]
  simp only [loop96,putParams,putE,setE] at*
  simp only [show (28:Nat) <40 by omega,if_true]
  simp only [Nat.reduceEqDiff,if_false,reduceCtorEq]
  erw [has]
  simp only [hi2,hsr]
  rcases hcase with ⟨⟨y,hb⟩,rfl⟩ | ⟨⟨y,hb⟩,hne⟩
  ·simp [hb,endR,hbl,hback]
  ·simp [hb,hne]
 rcases hask with ⟨ha,he0⟩ | ⟨f,ha,hf⟩
 ·rw [ha] at hfind
  refine hnoRet e (.inl ⟨⟨[(5, .ptr (σ.length+τ.length) 0),(6, .nilfunc),(36, .bool false)], ?_⟩,he0⟩)
  generalize σ.set i (loop96 qm fd .busy)++(τ++[Obj.box xc])=σ5 at*
  simp [bd96_1,hq2,hgL,hhd,hj2,hfind,D.kindEq]
 ·rw [ha] at hfind
  have hf:=hf _ hTs
  by_cases he0:e=0
  ·subst he0
   refine hnoRet 0 (.inl ⟨⟨[], ?_⟩,rfl⟩)
   rw [outR_zero] at hf
   generalize σ.set i (loop96 qm fd .busy)++(τ++[Obj.box xc])=σ5 at*
   simp [bd96_1,hq2,hgL,hhd,hj2,hfind,hcl,hct,hf,D.kindEq]
  ·refine hnoRet e (.inr ⟨⟨[(5, .ptr (σ.length+τ.length) 0),(6, .func f [.ptr t 0] []),(36, .bool true),(38, .agg xc)], ?_⟩,he0⟩)
   rw [outR_ne he0] at hf
   generalize σ.set i (loop96 qm fd .busy)++(τ++[Obj.box xc])=σ5 at*
   simp [bd96_1,hq2,hgL,hhd,hj2,hfind,hcl,hct,hf,D.kindEq]
end Go.AI
