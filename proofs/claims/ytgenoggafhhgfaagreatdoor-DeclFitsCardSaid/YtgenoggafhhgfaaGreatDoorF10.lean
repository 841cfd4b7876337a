/- Texts of the proof: what functions of the program compute, step by step. No conditions of its own. -/
import Derived.Test.YtgenoggafhhgfaaGreatDoorF9
set_option linter.unusedVariables false
set_option linter.unusedSimpArgs false
namespace Go.AI
open Go Go.Proofs Go.Lx
set_option maxRecDepth 100000
def unitE:Ex:= .mk 3 0 [] [] [] [] []
def Prg.bare (p:Prg):Prg:=⟨p.data,p.effects,[],unitE⟩
def nPrint:Bs:=[112,114,105,110,116]
def nRead:Bs:=[114,101,97,100]
def Prg.ordE (p:Prg):Int:=match foldS (datStep p) p.data 0 (builtins,[]) with
 | .inr e=>e
 | .inl _=>match foldS (effStep p) p.effects 0 ([nIO],[nPrint,nRead]) with
  | .inr e=>e
  | .inl _=>0
def Prg.decls (p:Prg):Int:=orE p.bare.syn p.ordE
theorem Prg.bare_ok {p:Prg} (h:p.ok):p.bare.ok:=⟨h.dl,h.d,h.el,h.e,by unfold maxL;simp [Prg.bare],by simp [Prg.bare],by show unitE.ok;exact ⟨by simp [maxL],by simp [maxL],by simp [maxL],trivial,trivial⟩⟩
theorem firstE_zero {l:List Int} :firstE l=0↔ ∀x ∈ l,x=0:=by
 induction l with
 |nil=>simp [firstE]
 |cons a r ih=>
  simp only [firstE,List.forall_mem_cons]
  by_cases h:a=0
  ·simp [h,ih]
  ·simp [h]
theorem orE_zero {a b:Int} :orE a b=0↔a=0∧b=0:=by
 unfold orE
 by_cases h:a=0<;>simp [h]
theorem Prg.syn_data {p:Prg} (h:p.syn=0):p.data.length≤12∧p.effects.length≤12∧p.defs.length≤60∧(∀d ∈ p.data,datE d=0)∧(∀e ∈ p.effects,effE e=0)∧((nestE p.defs p.main).take 1 (3000,0)).1=true∧(∀d ∈ p.defs,dfnE d=0)∧p.main.e=0:=by
 unfold Prg.syn at h
 split at h
 ·cases h
 ·rename_i hn
  simp only [orE_zero,firstE_zero,List.forall_mem_map] at h
  obtain ⟨h1,h2,h3⟩:=h
  split at h3
  ·rename_i ht
   simp only [orE_zero,firstE_zero,List.forall_mem_map] at h3
   exact ⟨by omega,by omega,by omega,h1,h2,ht,h3.1,h3.2⟩
  ·cases h3
theorem datE_cons {d:Dat} (h:datE d=0):d.params.length≤4∧d.cons.length≤8∧upW d.name=true∧distE d.params 1=0∧ ∀c ∈ d.cons,conE c=0:=by
 unfold datE at h
 split at h
 ·cases h
 ·split at h
  ·split at h
   ·rename_i h1 h2 h3
    simp only [firstE_zero,List.forall_mem_map] at h
    exact ⟨by omega,by omega,h2,h3,h⟩
   ·rename_i h1 h2 h3
    exact absurd h h3
  ·cases h
theorem effE_ops {e:Eff} (h:effE e=0):e.ops.length≤8∧upW e.name=true∧ ∀o ∈ e.ops,opnE o=0:=by
 unfold effE at h
 split at h
 ·cases h
 ·split at h
  ·rename_i h1 h2
   simp only [firstE_zero,List.forall_mem_map] at h
   exact ⟨by omega,h2,h⟩
  ·cases h
theorem foldS_inr {α β γ:Type} {step:Nat→α→β→β ⊕ γ} {P:γ→Prop} : ∀ (l:List α) (_: ∀a ∈ l,∀i b c,step i a b= .inr c→P c) (i:Nat) (b:β) (c:γ),foldS step l i b= .inr c→P c
 | [],h,i,b,c,hc=>by cases hc
 |a::r,h,i,b,c,hc=>by
  simp only [foldS] at hc
  cases hs:step i a b with
  |inl b1=>rw [hs] at hc;exact foldS_inr r (fun x hx=>h x (List.mem_cons_of_mem _ hx)) _ _ _ hc
  |inr c1=>rw [hs] at hc;cases hc;exact h a List.mem_cons_self _ _ _ hs
theorem consStep_ne {p:Prg} {params:List Bs} {i:Nat} {c:Con} {b:List Bs} {e:Int} (h:consStep p params i c b= .inr e):e≠0:=by
 unfold consStep at h
 split at h
 ·cases h;omega
 ·split at h
  ·cases h
  ·rename_i hz;cases h;exact hz
theorem datStep_ne {p:Prg} {i:Nat} {d:Dat} {b:List Bs × List Bs} {e:Int} (h:datStep p i d b= .inr e):e≠0:=by
 unfold datStep at h
 split at h
 ·cases h;omega
 ·split at h
  ·cases h
  ·rename_i e' he
   cases h
   exact foldS_inr (P:=fun e=>e≠0) _ (fun _ _ _ _ _ h=>consStep_ne h) _ _ _ he
theorem opnStep_ne {p:Prg} {i:Nat} {c:Opn} {b:List Bs} {e:Int} (h:opnStep p i c b= .inr e):e≠0:=by
 unfold opnStep at h
 split at h
 ·cases h;omega
 ·split at h
  ·cases h
  ·rename_i hz;cases h;exact hz
theorem effStep_ne {p:Prg} {i:Nat} {d:Eff} {b:List Bs × List Bs} {e:Int} (h:effStep p i d b= .inr e):e≠0:=by
 unfold effStep at h
 split at h
 ·cases h;omega
 ·split at h
  ·cases h
  ·rename_i e' he
   cases h
   exact foldS_inr (P:=fun e=>e≠0) _ (fun _ _ _ _ _ h=>opnStep_ne h) _ _ _ he
set_option maxHeartbeats 2000000 in
theorem c56 (p:Prg) (m:CMap) (hok:p.ok) (tb:Nat) (σ:St) (hT:IsT σ tb p m):CI (.fn 56) [.ptr tb 0] σ=some (outR p.decls,σ):=by
 have h95:=fun σ=>c95 p.bare (Prg.bare_ok hok) σ
 have q95:qI 95=false:=rfl
 have x95:XB 95=false:=rfl
 have q59:qI 59=false:=rfl
 have x59:XB 59=false:=rfl
 obtain ⟨τ,hτ⟩: ∃τ,bodyI CI XB GI af56 [.ptr tb 0] σ=some (outR p.decls,σ++τ):=by
  obtain ⟨j,hj,hm⟩:=id hT
  have hcs:p.bare.cs=[.slice (p.data.map Dat.d), .slice (p.effects.map Eff.d), .slice [], .int .i64 3, .int .i64 0, .str [], .str [], .slice [], .slice [], .slice []]:=rfl
  rw [hcs] at h95
  rw [p.cs_eq] at hj
  unfold Prg.decls
  by_cases hs:p.bare.syn=0
  ·obtain ⟨hs1,hs2,_,hs3,hs4,_⟩:=Prg.syn_data hs
   rw [hs] at h95 ⊢
   obtain ⟨τ1,ev1,hit1⟩:=it56_2 p m hs1 hok.el (fun d hd=>⟨hok.d d hd,(datE_cons (hs3 d hd)).2.1⟩) tb σ hT builtins [] (by decide) (by decide)
   have hdL: (p.data.map Dat.d).length=p.data.length:=by simp
   have heL: (p.effects.map Eff.d).length=p.effects.length:=by simp
   have ho:orE 0 p.ordE=p.ordE:=rfl
   rw [ho]
   unfold Prg.ordE
   simp only [onceS,rowS,refS,builtins,nInt,nBool,nUnit,List.map_cons,List.map_nil,List.length_cons,List.length_nil] at hit1
   cases hz1:foldS (datStep p) p.data 0 ([[73,110,116],[66,111,111,108],[85,110,105,116]],[]) with
   |inr e=>
    have hne:e≠0:=foldS_inr (P:=fun e=>e≠0) _ (fun _ _ _ _ _ h=>datStep_ne h) _ _ _ hz1
    rw [hz1] at hit1
    have hz1':foldS (datStep p) p.data 0 (builtins,[])= .inr e:=hz1
    rw [hz1']
    simp only [outR_ne hne]
    refine ⟨τ1, ?_⟩
    generalize p.data.map Dat.d=dd at*
    generalize p.effects.map Eff.d=ed at*
    generalize p.defs.map Dfn.d=fd at*
    generalize p.main.cs=mc at*
    simp [bodyI,af56,hj,getO hj,fillD,fillRow,putCells,h95,c59,outR_zero,q95,x95,q59,x59,Nat.testBit_eq_decide_div_mod_eq,getA0,getA,setA,setA0,hdL,hit1]
   |inl x=>
    rw [hz1] at hit1
    have hz1':foldS (datStep p) p.data 0 (builtins,[])= .inl x:=hz1
    rw [hz1']
    simp only at hit1 ⊢
    have e1: ∀τ,∃τ',σ++[.row 1 (x.1.map .str) 0, .row 1 (x.2.map .str) 0, .box [.arr σ.length x.1.length 0 x.1.length], .box [.arr (σ.length+1) x.2.length 0 x.2.length]]++τ1++τ=σ++τ':=fun τ=>⟨_,by rw [List.append_assoc,List.append_assoc]⟩
    have hT2:IsT (σ++[.row 1 (x.1.map .str) 0, .row 1 (x.2.map .str) 0, .box [.arr σ.length x.1.length 0 x.1.length], .box [.arr (σ.length+1) x.2.length 0 x.2.length]]++τ1) tb p m:=hT.app.app
    have hj2: (σ++[.row 1 (x.1.map .str) 0, .row 1 (x.2.map .str) 0, .box [.arr σ.length x.1.length 0 x.1.length], .box [.arr (σ.length+1) x.2.length 0 x.2.length]]++τ1)[tb]? =_:=getO (getO hj)
    generalize hσ2:σ++[.row 1 (x.1.map .str) 0, .row 1 (x.2.map .str) 0, .box [.arr σ.length x.1.length 0 x.1.length], .box [.arr (σ.length+1) x.2.length 0 x.2.length]]++τ1=σ2 at*
    obtain ⟨τ2,ev2,hit2⟩:=it56_4 p m hok.dl hs2 (fun d hd=>⟨hok.e d hd,(effE_ops (hs4 d hd)).1⟩) tb σ2 hT2 [nIO] [nPrint,nRead] (by decide) (by decide)
    simp only [onceS,rowS,refS,nIO,nPrint,nRead,List.map_cons,List.map_nil,List.length_cons,List.length_nil] at hit2
    cases hz2:foldS (effStep p) p.effects 0 ([[73,79]],[[112,114,105,110,116],[114,101,97,100]]) with
    |inr e=>
     have hne:e≠0:=foldS_inr (P:=fun e=>e≠0) _ (fun _ _ _ _ _ h=>effStep_ne h) _ _ _ hz2
     rw [hz2] at hit2
     have hz2':foldS (effStep p) p.effects 0 ([nIO],[nPrint,nRead])= .inr e:=hz2
     rw [hz2']
     simp only [outR_ne hne] at hit2 ⊢
     obtain ⟨τ',hτ'⟩:=e1 τ2
     refine ⟨τ', ?_⟩
     rw [←hτ']
     generalize p.data.map Dat.d=dd at*
     generalize p.effects.map Eff.d=ed at*
     generalize p.defs.map Dfn.d=fd at*
     generalize p.main.cs=mc at*
     simp [bodyI,af56,hj,getO hj,fillD,fillRow,putCells,h95,c59,outR_zero,q95,x95,q59,x59,Nat.testBit_eq_decide_div_mod_eq,getA0,getA,setA,setA0,hdL,heL,hit1,hj2,getO hj2,hit2]
    |inl y=>
     rw [hz2] at hit2
     have hz2':foldS (effStep p) p.effects 0 ([nIO],[nPrint,nRead])= .inl y:=hz2
     rw [hz2']
     simp only [outR_zero] at hit2 ⊢
     obtain ⟨τ',hτ'⟩:=e1 ([.row 1 (y.1.map .str) 0, .row 1 (y.2.map .str) 0, .box [.arr σ2.length y.1.length 0 y.1.length], .box [.arr (σ2.length+1) y.2.length 0 y.2.length]]++τ2)
     refine ⟨τ', ?_⟩
     rw [←hτ',←List.append_assoc]
     generalize p.data.map Dat.d=dd at*
     generalize p.effects.map Eff.d=ed at*
     generalize p.defs.map Dfn.d=fd at*
     generalize p.main.cs=mc at*
     simp [bodyI,af56,hj,getO hj,fillD,fillRow,putCells,h95,c59,outR_zero,q95,x95,q59,x59,Nat.testBit_eq_decide_div_mod_eq,getA0,getA,setA,setA0,hdL,heL,hit1,hj2,getO hj2,hit2]
  ·refine ⟨[], ?_⟩
   have ho:orE p.bare.syn p.ordE=p.bare.syn:=by unfold orE;rw [if_neg hs]
   rw [ho,outR_ne hs]
   generalize p.bare.syn=e at*
   generalize p.data.map Dat.d=dd at*
   generalize p.effects.map Eff.d=ed at*
   generalize p.defs.map Dfn.d=fd at*
   generalize p.main.cs=mc at*
   simp [bodyI,af56,hj,fillD,putCells,h95,c59,outR_ne hs,q95,x95,q59,x59,Nat.testBit_eq_decide_div_mod_eq]
 exact CI_out tab56 hτ
def findConL (s:Bs):List Dat→Nat→Option (Nat × Nat)
 | [],_=>none
 |d::r,i=>match d.cons.findIdx? (fun c=>c.name==s) with
  |some k=>some (i,k)
  |none=>findConL s r (i+1)
def conD:Option (Nat × Nat)→D
 |some (i,k)=> .tuple [.int .i64 i, .int .i64 k, .int .i64 0]
 |none=> .tuple [.int .i64 0, .int .i64 0, .int .i64 6]
theorem seekM_con (s:Bs): ∀ (l:List Dat) (i:Nat),seekM (fun i (d:Dat)=>(d.cons.findIdx? (fun c=>c.name==s)).map fun k=>(i,k)) l i=findConL s l i
 | [],i=>rfl
 |d::r,i=>by
  simp only [seekM,findConL]
  cases d.cons.findIdx? (fun c=>c.name==s) with
  |some k=>rfl
  |none=>exact seekM_con s r (i+1)
theorem strip_one (n:Nat) (σ:St) (d:D) (h:d.tree=true):strip n σ d=some d:=by cases n<;>simp [strip,h]
theorem leads_one (n:Nat) (σ:St) (d:D) (h:d.tree=true):leads n σ d=[]:=by cases n<;>simp [leads,h]
theorem strip_list (n:Nat) (σ:St): ∀ (es:List D),treeL es=true→es.mapM (strip n σ)=some es
 | [],_=>rfl
 |d::r,h=>by
  simp only [treeL,Bool.and_eq_true] at h
  rw [List.mapM_cons,strip_one n σ d h.1,strip_list n σ r h.2]
  rfl
theorem leads_list (n:Nat) (σ:St): ∀ (es:List D),treeL es=true→es.flatMap (leads n σ)=[]
 | [],_=>rfl
 |d::r,h=>by
  simp only [treeL,Bool.and_eq_true] at h
  rw [List.flatMap_cons,leads_one n σ d h.1,leads_list n σ r h.2]
  rfl
theorem strip_row {σ:St} {r sz since:Nat} {es:List D} (hr:σ[r]? =some (.row sz es since)) (hs:since≤es.length) (h:treeL es=true) (n:Nat):
 strip (n+1) σ (.arr r es.length 0 es.length)=some (.slice es)∧leads (n+1) σ (.arr r es.length 0 es.length)=[r]:=by
 have hrow:rowOf σ (.arr r es.length 0 es.length)=some es:=by simp [rowOf,hr,hs]
 constructor
 ·unfold strip
  simp only [D.tree,Bool.false_eq_true,if_false,hrow,strip_list _ _ es h]
  rfl
 ·unfold leads
  simp only [D.tree,Bool.false_eq_true,if_false,hrow,leads_list _ _ es h]
theorem postI_row {q:FuncId→Bool} {f:FuncId} {σ τ:St} {r sz:Nat} {es:List D} {since:Nat} (hr: (σ++τ)[r]? =some (.row sz es since)) (hn:σ.length≤r) (hs:since≤es.length) (h:treeL es=true):
 postI q f σ (some (.ret (.arr r es.length 0 es.length),σ++τ))=some (.ret (.slice (weakL es)),σ):=by
 obtain ⟨hst,hle⟩:=strip_row hr hs h 15
 rw [postI_rows hst (by rw [hle];simpa using hn)]
 rfl
def opNames (p:Prg) (i:Int):List Bs:=if i<0 then [nPrint,nRead] else match p.effects[i.toNat]? with|some e=>e.ops.map Opn.name|none=>[]
def findOpL (s:Bs):List Eff→Nat→Option (Nat × Nat)
 | [],_=>none
 |e::r,i=>match (e.ops.map Opn.name).findIdx? (· ==s) with
  |some k=>some (i,k)
  |none=>findOpL s r (i+1)
end Go.AI
namespace Go.AI
open Go Go.Proofs Go.Lx
theorem hasS_mem {l:List Bs} {s:Bs} :hasS l s=true↔s ∈ l:=by unfold hasS;exact List.contains_iff_mem
theorem hasS_not {l:List Bs} {s:Bs} (h:hasS l s=false):s ∉ l:=fun hm=>by rw [hasS_mem.2 hm] at h;cases h
theorem nodup_snoc {l:List Bs} {s:Bs} (hl:l.Nodup) (hs:s ∉ l): (l++[s]).Nodup:=by
 rw [List.nodup_append]
 exact ⟨hl,by simp,fun a ha b hb=>by simp only [List.mem_singleton] at hb;subst hb;exact fun he=>hs (he ▸ ha)⟩
theorem cons_names {p:Prg} {params:List Bs} : ∀ {l:List Con} {i:Nat} {b b':List Bs},foldS (consStep p params) l i b= .inl b'→b'=b++l.map Con.name∧(b.Nodup→b'.Nodup)∧ ∀c ∈ l,∀t ∈ c.args,t.ord p params=0
 | [],i,b,b',h=>by cases h;simp
 |c::r,i,b,b',h=>by
  simp only [foldS] at h
  cases hs:consStep p params i c b with
  |inr e=>rw [hs] at h;cases h
  |inl b1=>
   rw [hs] at h
   obtain ⟨h1,h2,h3⟩:=cons_names h
   unfold consStep at hs
   split at hs
   ·cases hs
   ·rename_i hn
    rw [Bool.not_eq_true] at hn
    split at hs
    ·rename_i hz
     cases hs
     refine ⟨by rw [h1];simp,fun hb=>h2 (nodup_snoc hb (hasS_not hn)), ?_⟩
     rw [firstE_zero] at hz
     simp only [List.forall_mem_map] at hz
     intro c' hc'
     cases hc' with
     |head=>exact hz
     |tail _ hc'=>exact h3 c' hc'
    ·cases hs
theorem dat_names {p:Prg} : ∀ {l:List Dat} {i:Nat} {x x':List Bs × List Bs},foldS (datStep p) l i x= .inl x'→
 x'.1=x.1++l.map Dat.name∧x'.2=x.2++l.flatMap (fun d=>d.cons.map Con.name)∧(x.1.Nodup→x'.1.Nodup)∧(x.2.Nodup→x'.2.Nodup)∧ ∀d ∈ l,∀c ∈ d.cons,∀t ∈ c.args,t.ord p d.params=0
 | [],i,x,x',h=>by cases h;simp
 |d::r,i,x,x',h=>by
  simp only [foldS] at h
  cases hs:datStep p i d x with
  |inr e=>rw [hs] at h;cases h
  |inl y=>
   rw [hs] at h
   obtain ⟨h1,h2,h3,h4,h5⟩:=dat_names h
   unfold datStep at hs
   split at hs
   ·cases hs
   ·rename_i hn
    rw [Bool.not_eq_true] at hn
    split at hs
    ·rename_i b hb
     cases hs
     obtain ⟨c1,c2,c3⟩:=cons_names hb
     refine ⟨by rw [h1];simp,by rw [h2];simp [c1],fun ha=>h3 (nodup_snoc ha (hasS_not hn)),fun hb=>h4 (c2 hb), ?_⟩
     intro d' hd'
     cases hd' with
     |head=>exact c3
     |tail _ hd'=>exact h5 d' hd'
    ·cases hs
theorem opn_names {p:Prg} : ∀ {l:List Opn} {i:Nat} {b b':List Bs},foldS (opnStep p) l i b= .inl b'→b'=b++l.map Opn.name∧(b.Nodup→b'.Nodup)∧ ∀o ∈ l,o.arg.ord p []=0∧o.res.ord p []=0
 | [],i,b,b',h=>by cases h;simp
 |c::r,i,b,b',h=>by
  simp only [foldS] at h
  cases hs:opnStep p i c b with
  |inr e=>rw [hs] at h;cases h
  |inl b1=>
   rw [hs] at h
   obtain ⟨h1,h2,h3⟩:=opn_names h
   unfold opnStep at hs
   split at hs
   ·cases hs
   ·rename_i hn
    rw [Bool.not_eq_true] at hn
    split at hs
    ·rename_i hz
     cases hs
     refine ⟨by rw [h1];simp,fun hb=>h2 (nodup_snoc hb (hasS_not hn)), ?_⟩
     unfold opnErr at hz
     intro c' hc'
     cases hc' with
     |head=>
      split at hz
      ·rename_i h0;exact ⟨h0,hz⟩
      ·rename_i h0;exact absurd hz h0
     |tail _ hc'=>exact h3 c' hc'
    ·cases hs
theorem eff_names {p:Prg} : ∀ {l:List Eff} {i:Nat} {x x':List Bs × List Bs},foldS (effStep p) l i x= .inl x'→
 x'.1=x.1++l.map Eff.name∧x'.2=x.2++l.flatMap (fun d=>d.ops.map Opn.name)∧(x.1.Nodup→x'.1.Nodup)∧(x.2.Nodup→x'.2.Nodup)∧ ∀e ∈ l,∀o ∈ e.ops,o.arg.ord p []=0∧o.res.ord p []=0
 | [],i,x,x',h=>by cases h;simp
 |d::r,i,x,x',h=>by
  simp only [foldS] at h
  cases hs:effStep p i d x with
  |inr e=>rw [hs] at h;cases h
  |inl y=>
   rw [hs] at h
   obtain ⟨h1,h2,h3,h4,h5⟩:=eff_names h
   unfold effStep at hs
   split at hs
   ·cases hs
   ·rename_i hn
    rw [Bool.not_eq_true] at hn
    split at hs
    ·rename_i b hb
     cases hs
     obtain ⟨c1,c2,c3⟩:=opn_names hb
     refine ⟨by rw [h1];simp,by rw [h2];simp [c1],fun ha=>h3 (nodup_snoc ha (hasS_not hn)),fun hb=>h4 (c2 hb), ?_⟩
     intro d' hd'
     cases hd' with
     |head=>exact c3
     |tail _ hd'=>exact h5 d' hd'
    ·cases hs
structure Prg.InOrder (p:Prg):Prop where
 syn:p.bare.syn=0
 dn: (builtins++p.data.map Dat.name).Nodup
 cn: (p.data.flatMap fun d=>d.cons.map Con.name).Nodup
 en: ([nIO]++p.effects.map Eff.name).Nodup
 on: ([nPrint,nRead]++p.effects.flatMap fun d=>d.ops.map Opn.name).Nodup
 args: ∀d ∈ p.data,∀c ∈ d.cons,∀t ∈ c.args,t.ord p d.params=0
 ops: ∀e ∈ p.effects,∀o ∈ e.ops,o.arg.ord p []=0∧o.res.ord p []=0
theorem Prg.inOrder {p:Prg} (h:p.decls=0):p.InOrder:=by
 obtain ⟨hs,ho⟩:=orE_zero.1 h
 unfold Prg.ordE at ho
 cases h1:foldS (datStep p) p.data 0 (builtins,[]) with
 |inr e=>
  rw [h1] at ho
  have hne:e≠0:=foldS_inr (P:=fun e=>e≠0) _ (fun _ _ _ _ _ h=>datStep_ne h) _ _ _ h1
  exact absurd ho hne
 |inl x=>
  rw [h1] at ho
  simp only at ho
  cases h2:foldS (effStep p) p.effects 0 ([nIO],[nPrint,nRead]) with
  |inr e=>
   rw [h2] at ho
   have hne:e≠0:=foldS_inr (P:=fun e=>e≠0) _ (fun _ _ _ _ _ h=>effStep_ne h) _ _ _ h2
   exact absurd ho hne
  |inl y=>
   obtain ⟨a1,a2,a3,a4,a5⟩:=dat_names h1
   obtain ⟨b1,b2,b3,b4,b5⟩:=eff_names h2
   refine ⟨hs, ?_, ?_, ?_, ?_,a5,b5⟩
   ·rw [←a1];exact a3 (by decide)
   ·rw [←List.nil_append (p.data.flatMap _),←a2];exact a4 (by simp)
   ·rw [←b1];exact b3 (by decide)
   ·rw [←b2];exact b4 (by decide)
theorem findIdx_nodup {α:Type} (g:α→Bs): ∀ (l:List α) (k:Nat) (c:α),(l.map g).Nodup→l[k]? =some c→l.findIdx? (fun x=>g x==g c)=some k
 | [],k,c,_,h=>by simp at h
 |a::r,0,c,_,h=>by
  simp only [List.getElem?_cons_zero,Option.some.injEq] at h
  subst h
  simp [List.findIdx?_cons]
 |a::r,k+1,c,hn,h=>by
  simp only [List.getElem?_cons_succ] at h
  simp only [List.map_cons,List.nodup_cons] at hn
  have hm:g c ∈ r.map g:=List.mem_map_of_mem (List.mem_of_getElem? h)
  have hne: (g a==g c)=false:=by
   rw [beq_eq_false_iff_ne];intro he;exact hn.1 (he ▸ hm)
  rw [List.findIdx?_cons,hne]
  simp only [Bool.false_eq_true,if_false]
  rw [findIdx_nodup g r k c hn.2 h]
  rfl
theorem findIdx_notin {α:Type} (g:α→Bs) (l:List α) (s:Bs) (h:s ∉ l.map g):l.findIdx? (fun x=>g x==s)=none:=by
 rw [List.findIdx?_eq_none_iff]
 intro x hx
 rw [beq_eq_false_iff_ne]
 intro he
 exact h (he ▸ List.mem_map_of_mem hx)
theorem findConL_at: ∀ (l:List Dat) (off i k:Nat) (d:Dat) (c:Con),(l.flatMap fun d=>d.cons.map Con.name).Nodup→l[i]? =some d→d.cons[k]? =some c→findConL c.name l off=some (off+i,k)
 | [],off,i,k,d,c,_,h,_=>by simp at h
 |a::r,off,0,k,d,c,hn,h,hc=>by
  simp only [List.getElem?_cons_zero,Option.some.injEq] at h
  subst h
  rw [List.flatMap_cons,List.nodup_append] at hn
  simp only [findConL,findIdx_nodup Con.name a.cons k c hn.1 hc]
  rfl
 |a::r,off,i+1,k,d,c,hn,h,hc=>by
  simp only [List.getElem?_cons_succ] at h
  rw [List.flatMap_cons,List.nodup_append] at hn
  have hm:c.name ∈ r.flatMap fun d=>d.cons.map Con.name:=List.mem_flatMap.2 ⟨d,List.mem_of_getElem? h,List.mem_map_of_mem (List.mem_of_getElem? hc)⟩
  have h0:=findIdx_notin Con.name a.cons c.name (fun hx=>hn.2.2 _ hx _ hm rfl)
  simp only [findConL,h0]
  rw [findConL_at r (off+1) i k d c hn.2.1 h hc,show off+1+i=off+ (i+1) by omega]
end Go.AI
namespace Go.AI
open Go Go.Proofs Go.Lx
set_option maxRecDepth 100000
theorem findConL_some (s:Bs): ∀ (l:List Dat) (off i k:Nat),findConL s l off=some (i,k)→ ∃j,i=off+j∧ ∃d,l[j]? =some d∧ ∃c,d.cons[k]? =some c∧c.name=s
 | [],off,i,k,h=>by cases h
 |d::r,off,i,k,h=>by
  rw [findConL] at h
  cases hf:d.cons.findIdx? (fun c=>c.name==s) with
  |some q=>
   rw [hf] at h
   cases h
   obtain ⟨h1,h2,_⟩:=List.findIdx?_eq_some_iff_getElem.1 hf
   exact ⟨0,rfl,d,rfl,_,List.getElem?_eq_getElem h1,by simpa using h2⟩
  |none=>
   rw [hf] at h
   obtain ⟨j,hj,d',hd,hc⟩:=findConL_some s r (off+1) i k h
   exact ⟨j+1,by omega,d',by simpa using hd,hc⟩
def Prg.conOf (p:Prg) (s:Bs):Option (Dat × Con):=match findConL s p.data 0 with
 |some (i,k)=>(p.data[i]?).bind fun d=>(d.cons[k]?).map fun c=>(d,c)
 |none=>none
theorem conOf_some {p:Prg} {s:Bs} {i k:Nat} (h:findConL s p.data 0=some (i,k)): ∃ (hi:i<p.data.length) (hk:k<p.data[i].cons.length),p.conOf s=some (p.data[i],p.data[i].cons[k])∧p.data[i].cons[k].name=s:=by
 obtain ⟨j,hj,d,hd,c,hc,hn⟩:=findConL_some s p.data 0 i k h
 have:j=i:=by omega
 subst this
 obtain ⟨hi,rfl⟩:=List.getElem?_eq_some_iff.1 hd
 obtain ⟨hk,rfl⟩:=List.getElem?_eq_some_iff.1 hc
 exact ⟨hi,hk,by unfold Prg.conOf;rw [h];simp [hi,hk],hn⟩
theorem conOf_none {p:Prg} {s:Bs} (h:findConL s p.data 0=none):p.conOf s=none:=by unfold Prg.conOf;rw [h]
def conErr (p:Prg) (s:Bs) (n:Nat):Int:=match p.conOf s with
 |none=>6
 |some (_,c)=>if c.args.length=n then 0 else 7
mutual
theorem D.eqb_tree: ∀ (d:D),d.tree=true→d.eqb d=true
 | .bool b,_=>by simp [D.eqb]
 | .int k n,_=>by simp [D.eqb]
 | .str s,_=>by simp [D.eqb]
 | .nilptr,_| .empty,_| .nilmap,_| .nilfunc,_| .niliface,_=>rfl
 | .slice es,h| .agg es,h| .tuple es,h=>by simp only [D.tree,D.eqb] at*;exact eqbL_tree es h
 | .func f a b,h=>by
  simp only [D.tree,Bool.and_eq_true] at h
  simp only [D.eqb,Bool.and_eq_true]
  exact ⟨⟨by simp,eqbL_tree a h.1⟩,eqbL_tree b h.2⟩
 | .iface t v,h=>by
  simp only [D.tree] at h
  simp only [D.eqb,Bool.and_eq_true]
  exact ⟨by simp,D.eqb_tree v h⟩
 | .ptr _ _,h| .rptr _ _ _ _,h| .tptr _,h| .arr _ _ _ _,h| .map _,h| .yield _,h| .undef,h| .any,h=>by simp [D.tree] at h
theorem eqbL_tree: ∀ (l:List D),treeL l=true→eqbL l l=true
 | [],_=>rfl
 |d::r,h=>by
  simp only [treeL,Bool.and_eq_true] at h
  simp only [eqbL,Bool.and_eq_true]
  exact ⟨D.eqb_tree d h.1,eqbL_tree r h.2⟩
end
def all2 {α β:Type} (P:α→β→Bool):List α→List β→Bool
 | [],[]=>true
 |a::r,b::s=>P a b&&all2 P r s
 |_,_=>false
def matchErr (p:Prg) (arms:List Arm):Int:=match arms with
 | []=>9
 |a::_=>match p.conOf a.op with
  |none=>6
  |some (d,_)=>if all2 (fun (c:Con) (a:Arm)=>c.name==a.op) d.cons arms then (if all2 (fun (c:Con) (a:Arm)=>decide (c.args.length=a.names.length)) d.cons arms then 0 else 7) else 9
theorem q34:qI 34=false:=rfl
theorem x34:XB 34=false:=rfl
def opErr (p:Prg) (s:Bs):Int:=match findOpL s p.effects 0 with
 |some _=>0
 |none=>if hasS [nPrint,nRead] s then 0 else 6
def useE (p:Prg) (s:Bs):Int:=if s==nIO then 5 else findEffE p.effects s
def usingErr (p:Prg) (names:List Bs):Int:=firstE (names.tail.map (useE p))
def handlerErr (p:Prg) (s:Bs) (arms:List Arm):Int:=
 if findEffE p.effects s=0 then (if all2 (fun (o:Bs) (a:Arm)=>o==a.op) (opNames p (findEffI p.effects s)) arms.tail then 0 else 9) else findEffE p.effects s
section
variable {β:Type} (step:Ex→β→β ⊕ Int)
mutual
def Ex.walk:Ex→β→β ⊕ Int
 | .mk k n s t names l arms,b=>match step (.mk k n s t names l arms) b with
  | .inr e=> .inr e
  | .inl b1=>match exsWalk l b1 with
   | .inr e=> .inr e
   | .inl b2=>armsWalk arms b2
def exsWalk:List Ex→β→β ⊕ Int
 | [],b=> .inl b
 |x::r,b=>match x.walk b with
  | .inr e=> .inr e
  | .inl b1=>exsWalk r b1
def armsWalk:List Arm→β→β ⊕ Int
 | [],b=> .inl b
 | .mk _ _ x::r,b=>match x.walk b with
  | .inr e=> .inr e
  | .inl b1=>armsWalk r b1
end
end
theorem postI_same {q:FuncId→Bool} {f:FuncId} {A A' τ1:St} {d:D} (hl:A'.length=A.length) (hk: ∀j,j<A.length→A'[j]? =A[j]? ∨ ∃o,A'[j]? =some o∧o.under A.length) (hd:d.tree=true) (hq:q f=false):
 postI q f A (some (.ret d,A'++τ1))=some (.ret d.weak,A'):=by
 have hK:Keeps A (A'++τ1):=fun j hj=>by
  rw [List.getElem?_append_left (by omega)];exact hk j hj
 rw [postI_ret hK (trimV_tree hd) (by simp [hq]),←hl,List.take_left]
section
variable {β:Type} (i2 y s i:Nat) (o:β→Obj) (I:β→Prop) (step:Ex→β→β ⊕ Int) (σ SP:St)
end
def Ex.ordErr (p:Prg):Ex→Int
 | .mk k _ s t names l arms=>if k=10 then conErr p s l.length else if k=11 then matchErr p arms else if k=12 then opErr p s else if k=13 then opErr p t
  else if k=14 then handlerErr p s arms else if k=15 then handlerErr p s arms else if k=16 then findEffE p.effects s else if k=17 then usingErr p names else 0
def ordStep (p:Prg) (x:Ex) (_:Unit):Unit ⊕ Int:=if x.ordErr p=0 then .inl () else .inr (x.ordErr p)
def Ex.ordE (p:Prg) (e:Ex):Int:=match e.walk (ordStep p) () with| .inl _=>0| .inr err=>err
section
variable {β:Type} {step:Ex→β→β ⊕ Int}
end
def Ex.chk (e:Ex):Int:=if (e.take 1 (3000,0)).1 then e.e else 3
set_option maxHeartbeats 1000000 in
theorem c82 (e:Ex) (hok:e.ok) (σ:St):CI (.fn 82) [.agg e.cs] σ=some (.ret (.tuple [.agg [.int .i64 (e.take 1 (3000,0)).2.1, .int .i64 (e.take 1 (3000,0)).2.2], .int .i64 e.chk]),σ):=by
 have h130:=fun i σ h=>c130 e hok 1 (3000,0) i σ ⟨by simp,by simp⟩ (by omega) (by omega) h
 have h131:=fun σ=>c131 e hok σ
 have q131:qI 131=false:=rfl
 have x131:XB 131=false:=rfl
 obtain ⟨τ,hτ⟩: ∃τ,bodyI CI XB GI af82 [.agg e.cs] σ=some (.ret (.tuple [.agg [.int .i64 (e.take 1 (3000,0)).2.1, .int .i64 (e.take 1 (3000,0)).2.2], .int .i64 e.chk]),σ++τ):=by
  unfold Ex.chk
  have hall:=e.cs_all
  have hcl:=e.cs_len
  have hct:=e.cs_take
  have hee:eqbL e.cs e.cs=true:=eqbL_tree _ e.plain.1
  have h:=h130 (σ.length+2) (σ++[.box e.cs, .box z2, .box [.int .i64 3000, .int .i64 0]]) (by rw [getA];rfl)
  rw [setA] at h
  generalize e.take 1 (3000,0)=q at*
  simp only [mBox,List.set] at h
  refine ⟨[.box e.cs, .box [.int .i64 q.2.1, .int .i64 q.2.2], .box [.int .i64 q.2.1, .int .i64 q.2.2]], ?_⟩
  generalize e.cs=ec at*
  simp only [z2] at h
  cases hq:q.1
  ·rw [hq] at h
   simp [bodyI,af82,getA0,getA,setA,setA0,hall,hcl,hct,fillD,putCells,h]
  ·rw [hq] at h
   simp [bodyI,af82,getA0,getA,setA,setA0,hall,hcl,hct,hee,fillD,putCells,h,h131,q131,x131,Nat.testBit_eq_decide_div_mod_eq]
 exact CI_tree tab82 hτ rfl rfl
theorem c80 (e:Ex) (hok:e.ok) (σ:St):CI (.fn 80) [.agg e.cs] σ=some (.ret (.int .i64 e.chk),σ):=by
 have h82:=fun σ=>c82 e hok σ
 have hτ:bodyI CI XB GI af80 [.agg e.cs] σ=some (.ret (.int .i64 e.chk),σ++[.box e.cs, .box [.int .i64 (e.take 1 (3000,0)).2.1, .int .i64 (e.take 1 (3000,0)).2.2]]):=by
  have hall:=e.cs_all
  have hcl:=e.cs_len
  have hct:=e.cs_take
  generalize e.cs=ec at*
  generalize (e.take 1 (3000,0)).2=q at*
  simp [bodyI,af80,getA0,getA,setA,hall,hcl,hct,putCells,h82]
 exact CI_tree tab80 hτ rfl rfl
theorem Ex.chk_e {e:Ex} (h:e.chk=0):e.e=0∧(e.take 1 (3000,0)).1=true:=by
 unfold Ex.chk at h
 split at h
 ·rename_i ht;exact ⟨h,ht⟩
 ·cases h
def Prg.chk (p:Prg):Int:=orE p.syn (orE p.decls (orE (firstE (p.defs.map fun d=>d.body.ordE p)) (p.main.ordE p)))
theorem c123 (p:Prg) (hdl:p.data.length≤maxL) (s:Bs) (σ:St):CI (.fn 123) [.agg p.cs, .str s] σ=some (.ret (.int .i64 (idxOf (fun x:Dat=>x.name==s) p.data)),σ):=by
 have hall:=p.cs_all
 have hh:p.cs.head?=some (.slice (p.data.map Dat.d)):=by rw [p.cs_eq];rfl
 have hlen: (p.data.map Dat.d).length=p.data.length:=by simp
 have hq: (σ++[Obj.box p.cs])[σ.length]? =some (.box p.cs):=getA0
 have hit:=loop_find (f:=evalI CI XB GI 22 false lp123_0) (σ:=σ++[.box p.cs]) p.data (fun i=>[(1, .str s),(2, .ptr σ.length 0),(5, .int .i64 (i:Nat))]) (fun x:Dat=>x.name==s) (fun i=>(.ret,[(4, .int .i64 (i:Nat))],σ++[.box p.cs])) (.exit 0,[(1, .str s),(2, .ptr σ.length 0),(5, .int .i64 p.data.length),(10, .bool false)],σ++[.box p.cs]) (by simp) (by simp)
  (fun i hi=>by
    have hw:=wrap_nat (n:=i) (by unfold maxL at hdl;omega)
    have hget: (p.data.map Dat.d)[i]? =some (Dat.d p.data[i]):=by simp [hi]
    generalize σ++[.box p.cs]=σ1 at*
    generalize p.data.map Dat.d=dd at*
    have h2:i<dd.length:=by omega
    have h3:dd[i]=Dat.d p.data[i]:=by rw [List.getElem?_eq_getElem h2] at hget;exact Option.some.inj hget
    generalize p.data[i]=d at*
    rcases d with ⟨dn,dp,dc⟩
    simp only [Dat.d,Dat.cs,slD] at*
    generalize dp.map D.str=pd at*
    generalize dc.map Con.d=cd at*
    generalize p.cs=pc at*
    cases hb:dn==s<;>simp [lp123_0,hq,hh,hi,hw,hlen,h2,h3,hb]) (by
    generalize σ++[.box p.cs]=σ1 at*
    generalize p.data.map Dat.d=dd at*
    generalize p.cs=pc at*
    simp [lp123_0,hq,hh,hlen])
 rw [Int.natCast_zero] at hit
 refine CI_tree tab123 (d:= .int .i64 (idxOf (fun x:Dat=>x.name==s) p.data)) (τ:=[.box p.cs]) ?_ rfl rfl
 unfold idxOf
 have hb: ∀x,bodyI CI XB GI af123 [.agg p.cs, .str s] σ=x→bodyI CI XB GI af123 [.agg p.cs, .str s] σ=x:=fun _ h=>h
 generalize p.cs=pc at*
 cases hf:p.data.findIdx? (fun x:Dat=>x.name==s)<;>(rw [hf] at hit;simp [bodyI,af123,hall,hit])
theorem c35 (p:Prg) (hel:p.effects.length≤maxL) (s:Bs) (σ:St):CI (.fn 35) [.agg p.cs, .str s] σ=some (.ret (.tuple [.int .i64 (findEffI p.effects s), .int .i64 (findEffE p.effects s)]),σ):=by
 have hall:=p.cs_all
 have hpl:=p.cs_len
 have hh:p.cs[1]? =some (.slice (p.effects.map Eff.d)):=by rw [p.cs_eq];rfl
 have hlen: (p.effects.map Eff.d).length=p.effects.length:=by simp
 have hq: (σ++[Obj.box p.cs])[σ.length]? =some (.box p.cs):=getA0
 have hit:=loop_find (f:=evalI CI XB GI 25 false lp35_0) (σ:=σ++[.box p.cs]) p.effects (fun i=>[(1, .str s),(2, .ptr σ.length 0),(6, .int .i64 (i:Nat))]) (fun x:Eff=>x.name==s) (fun i=>(.ret,[(4, .int .i64 (i:Nat)),(5, .int .i64 0)],σ++[.box p.cs])) (.exit 0,[(1, .str s),(2, .ptr σ.length 0),(6, .int .i64 p.effects.length),(11, .bool false)],σ++[.box p.cs]) (by simp) (by simp)
  (fun i hi=>by
    have hw:=wrap_nat (n:=i) (by unfold maxL at hel;omega)
    have hget: (p.effects.map Eff.d)[i]? =some (Eff.d p.effects[i]):=by simp [hi]
    generalize σ++[.box p.cs]=σ1 at*
    generalize p.effects.map Eff.d=dd at*
    have h2:i<dd.length:=by omega
    have h3:dd[i]=Eff.d p.effects[i]:=by rw [List.getElem?_eq_getElem h2] at hget;exact Option.some.inj hget
    generalize p.effects[i]=d at*
    rcases d with ⟨dn,ops⟩
    simp only [Eff.d,Eff.cs] at*
    generalize ops.map Opn.d=cd at*
    generalize p.cs=pc at*
    have hh2: ∀h:1<pc.length,pc[1]= .slice dd:=fun h=>by rw [List.getElem?_eq_getElem h] at hh;exact Option.some.inj hh
    cases hb:dn==s<;>simp [lp35_0,hq,hpl,hh2,hi,hw,hlen,h2,h3,hb]) (by
    generalize σ++[.box p.cs]=σ1 at*
    generalize p.effects.map Eff.d=dd at*
    generalize p.cs=pc at*
    have hh2: ∀h:1<pc.length,pc[1]= .slice dd:=fun h=>by rw [List.getElem?_eq_getElem h] at hh;exact Option.some.inj hh
    simp [lp35_0,hq,hpl,hh2,hlen])
 rw [Int.natCast_zero] at hit
 refine CI_tree tab35 (d:= .tuple [.int .i64 (findEffI p.effects s), .int .i64 (findEffE p.effects s)]) (τ:=[.box p.cs]) ?_ rfl rfl
 unfold findEffI findEffE idxOf nIO
 generalize p.cs=pc at*
 cases hf:p.effects.findIdx? (fun x:Eff=>x.name==s) with
 |some k=>
  rw [hf] at hit
  have: (0:Int)≤(k:Int):=by omega
  simp [bodyI,af35,hall,hit]
 |none=>
  rw [hf] at hit
  cases hs:s==[73,79]<;>simp [bodyI,af35,hall,hit,hs]
theorem it31_0 (p:Prg) (hok:p.ok) (s:Bs) (i:Nat) (hi:i<p.data.length) (q:Nat) (σ:St) (hq:σ[q]? =some (.box p.cs)):
 iterI (evalI CI XB GI 41 false lp31_0) [(1, .str s),(2, .ptr q 0),(7, .int .i64 i),(8, .int .i64 0)] σ=
  some (match p.data[i].cons.findIdx? (fun c=>c.name==s) with|some k=>(.ret,[(4, .int .i64 i),(5, .int .i64 (k:Nat)),(6, .int .i64 0)],σ) |none=>(.exit 2,[(1, .str s),(2, .ptr q 0),(7, .int .i64 i),(8, .int .i64 p.data[i].cons.length),(24, .bool false)],σ)):=by
 have hx:=hok.d _ (List.getElem_mem hi)
 have hh:p.cs.head?=some (.slice (p.data.map Dat.d)):=by rw [p.cs_eq];rfl
 have hget: (p.data.map Dat.d)[i]? =some (Dat.d p.data[i]):=by simp [hi]
 have hlen: (p.data.map Dat.d).length=p.data.length:=by simp
 generalize p.data.map Dat.d=dd at*
 have h2:i<dd.length:=by omega
 have h3:dd[i]=Dat.d p.data[i]:=by rw [List.getElem?_eq_getElem h2] at hget;exact Option.some.inj hget
 generalize p.data[i]=d at*
 rcases d with ⟨dn,params,cons⟩
 obtain ⟨_,hcl,_⟩:=hx
 simp only [Dat.d,Dat.cs,slD] at*
 have hcdl: (cons.map Con.d).length=cons.length:=by simp
 have hcg: ∀k (hk:k<cons.length),(cons.map Con.d)[k]? =some (Con.d cons[k]):=fun k hk=>by simp [hk]
 generalize cons.map Con.d=cd at*
 generalize params.map D.str=pd at*
 generalize p.cs=pc at*
 have:=loop_find (f:=evalI CI XB GI 41 false lp31_0) (σ:=σ) cons (fun k=>[(1, .str s),(2, .ptr q 0),(7, .int .i64 i),(8, .int .i64 (k:Nat))]) (fun c=>c.name==s) (fun k=>(.ret,[(4, .int .i64 i),(5, .int .i64 (k:Nat)),(6, .int .i64 0)],σ)) (.exit 2,[(1, .str s),(2, .ptr q 0),(7, .int .i64 i),(8, .int .i64 cons.length),(24, .bool false)],σ) (by simp) (by simp)
  (fun k hk=>by
    have hw:=wrap_nat (n:=k) (by unfold maxL at hcl;omega)
    have hcg:=hcg k hk
    have h4:k<cd.length:=by omega
    have h5:cd[k]=Con.d cons[k]:=by rw [List.getElem?_eq_getElem h4] at hcg;exact Option.some.inj hcg
    generalize cons[k]=c at*
    rcases c with ⟨cn,args⟩
    simp only [Con.d,Con.cs] at*
    generalize tysD args=ad at*
    cases hb:cn==s<;>simp [lp31_0,hq,hh,h2,h3,h4,h5,hk,hw,hcdl,hb])
  (by simp [lp31_0,hq,hh,h2,h3,hcdl])
 rw [Int.natCast_zero] at this
 exact this
theorem c31 (p:Prg) (hok:p.ok) (s:Bs) (σ:St):CI (.fn 31) [.agg p.cs, .str s] σ=some (.ret (conD (findConL s p.data 0)),σ):=by
 obtain ⟨τ,hτ⟩: ∃τ,bodyI CI XB GI af31 [.agg p.cs, .str s] σ=some (.ret (conD (findConL s p.data 0)),σ++τ):=by
  have hdl:=hok.dl
  have hall:=p.cs_all
  have hh:p.cs.head?=some (.slice (p.data.map Dat.d)):=by rw [p.cs_eq];rfl
  have hlen: (p.data.map Dat.d).length=p.data.length:=by simp
  obtain ⟨τ,hit⟩:=loop_seekM (f:=evalI CI XB GI 41 false lp31_1) (σ:=σ++[.box p.cs]) p.data (fun i=>[(1, .str s),(2, .ptr σ.length 0),(7, .int .i64 (i:Nat))])
   (fun i (d:Dat)=>(d.cons.findIdx? (fun c=>c.name==s)).map fun k=>(i,k)) (fun x=>(.ret,[(4, .int .i64 x.1),(5, .int .i64 x.2),(6, .int .i64 0)])) (.exit 0,[(1, .str s),(2, .ptr σ.length 0),(7, .int .i64 p.data.length),(13, .bool false)]) (by simp) (by simp)
   (fun i hi τ=>by
     have hw:=wrap_nat (n:=i) (by unfold maxL at hdl;omega)
     have hq: (σ++[Obj.box p.cs]++τ)[σ.length]? =some (.box p.cs):=by rw [List.append_assoc];exact getA0
     have h0:=it31_0 p hok s i hi σ.length _ hq
     refine ⟨τ, ?_⟩
     generalize σ++[.box p.cs]++τ=σ1 at*
     generalize p.data.map Dat.d=dd at*
     generalize p.cs=pc at*
     cases hf:p.data[i].cons.findIdx? (fun c=>c.name==s) with
     |some k=>
      rw [hf] at h0
      simp [lp31_1,hq,hh,hi,hw,hlen,h0]
     |none=>
      rw [hf] at h0
      simp [lp31_1,hq,hh,hi,hw,hlen,h0]) (fun τ=>⟨τ,by
     have hq: (σ++[Obj.box p.cs]++τ)[σ.length]? =some (.box p.cs):=by rw [List.append_assoc];exact getA0
     generalize σ++[.box p.cs]++τ=σ1 at*
     generalize p.data.map Dat.d=dd at*
     generalize p.cs=pc at*
     simp [lp31_1,hq,hh,hlen]⟩) []
  rw [seekM_con,List.append_nil,Int.natCast_zero] at hit
  refine ⟨[.box p.cs]++τ, ?_⟩
  rw [←List.append_assoc]
  generalize hσ1:σ++[.box p.cs]++τ=σ1 at*
  generalize p.cs=pc at*
  cases hf:findConL s p.data 0 with
  |some x=>
   rw [hf] at hit
   simp [bodyI,af31,hall,hit,conD]
  |none=>
   rw [hf] at hit
   simp [bodyI,af31,hall,hit,conD]
 exact CI_tree tab31 hτ (by unfold conD;split<;>rfl) (by unfold conD;split<;>rfl)
def tyI:Ty:= .mk 2 0 [] [] [] 0
theorem c122e (s:Bs) (σ:St):CI (.fn 122) [.empty, .str s] σ=some (.ret (.bool false),σ):=by
 have h:iterI (evalI CI XB GI 19 false lp152_0) [(0, .empty),(1, .str s),(5, .int .i64 0)] σ=some (.exit 0,[(0, .empty),(1, .str s),(5, .int .i64 0),(9, .bool false)],σ):=iterI_end (by simp [lp152_0]) (by simp)
 have h152:CI (.fn 152) [.empty, .str s] σ=some (.ret (.int .i64 (-1)),σ):=by
  refine CI_tree0 tab152 (d:= .int .i64 (-1)) ?_ rfl rfl
  simp [bodyI,af152,h]
 refine CI_tree0 tab122 (d:= .bool false) ?_ rfl rfl
 simp [bodyI,af122,h152]
theorem k122e {pd:D} {l:List Bs} (h:StrsD pd l) (hl:l.length≤maxL) (s:Bs) (σ:St):CI (.fn 122) [pd, .str s] σ=some (.ret (.bool (hasS l s)),σ):=by
 rcases h with rfl| ⟨rfl,rfl⟩
 ·exact h122 l s σ hl
 ·exact c122e s σ
def datErr (p:Prg) (s:Bs) (n:Nat):Int:=match p.data.find? (fun x:Dat=>x.name==s) with|none=>6|some d=>if d.params.length=n then 0 else 7
def ordRN (p:Prg) (params:List Bs) (k:Int) (s:Bs) (n:Nat) (ls:List Lab):Int:=
 if k=1∧hasS params s=false then 6 else if k=6∧datErr p s n≠0 then datErr p s n else firstE (ls.map fun x=>findEffE p.effects x.s)
mutual
def Ty.ordR (p:Prg) (params:List Bs):Ty→Int
 | .mk k _ s l ls _=>if ordRN p params k s l.length ls=0 then tysOrdR p params l else ordRN p params k s l.length ls
def tysOrdR (p:Prg) (params:List Bs):List Ty→Int
 | []=>0
 |t::r=>if t.ordR p params=0 then tysOrdR p params r else t.ordR p params
end
theorem tysOrdR_first (p:Prg) (params:List Bs): ∀ (l:List Ty),tysOrdR p params l=firstE (l.map fun t=>t.ordR p params)
 | []=>rfl
 |t::r=>by simp only [tysOrdR,List.map_cons,firstE,tysOrdR_first p params r]
set_option maxHeartbeats 2000000 in
theorem c73 (p:Prg) (hdl:p.data.length≤maxL) (hel:p.effects.length≤maxL) (params:List Bs) (hpar:params.length≤maxL) (pd:D) (hpd:StrsD pd params):
 ∀ (t:Ty),t.ok→ ∀ (σ:St),CI (.fn 73) [.agg p.cs,pd, .agg t.cs] σ=some (.ret (.int .i64 (t.ordR p params)),σ)
 | .mk k n s l ls tail,hok,σ=>by
  obtain ⟨hl1,hl2,hl3⟩:=hok
  have hpl:=p.cs_len
  have hpt:=p.cs_take
  have hpa:=p.cs_all
  have q35:qI 35=false:=rfl
  have x35:XB 35=false:=rfl
  have q73:qI 73=false:=rfl
  have x73:XB 73=false:=rfl
  have hq1: (σ++[Obj.box p.cs, .box (Ty.mk k n s l ls tail).cs])[σ.length]? =some (.box p.cs):=getA0
  have hq2: (σ++[Obj.box p.cs, .box (Ty.mk k n s l ls tail).cs])[σ.length+1]? =some (.box [.int .i64 k, .int .i64 n, .str s, .slice (tysD l), .slice (ls.map Lab.d), .int .i64 tail]):=getA
  have hlen:=tysD_len l
  have hlsl: (ls.map Lab.d).length=ls.length:=by simp
  have h35:=fun s σ=>c35 p hel s σ
  have it0:iterI (evalI CI XB GI 84 false lp73_0) [(1,pd),(3, .ptr σ.length 0),(5, .ptr (σ.length+1) 0),(8, .int .i64 0)] (σ++[Obj.box p.cs, .box (Ty.mk k n s l ls tail).cs])=
   some (match ls.find? (fun a=>findEffE p.effects a.s != 0) with|some a=>(.ret,[(6, .int .i64 (findEffE p.effects a.s))],σ++[Obj.box p.cs, .box (Ty.mk k n s l ls tail).cs]) |none=>(.exit 0,[(1,pd),(3, .ptr σ.length 0),(5, .ptr (σ.length+1) 0),(8, .int .i64 ls.length),(48, .bool false)],σ++[Obj.box p.cs, .box (Ty.mk k n s l ls tail).cs])):=by
   generalize σ++[Obj.box p.cs, .box (Ty.mk k n s l ls tail).cs]=σ1 at*
   have hee:eqbL p.cs p.cs=true:=eqbL_tree _ p.plain.1
   have:=loop_find (f:=evalI CI XB GI 84 false lp73_0) (σ:=σ1) ls (fun i=>[(1,pd),(3, .ptr σ.length 0),(5, .ptr (σ.length+1) 0),(8, .int .i64 (i:Nat))]) (fun a=>findEffE p.effects a.s != 0) (fun i=>(.ret,[(6, .int .i64 (findEffE p.effects (ls.getD i ⟨[],0⟩).s))],σ1)) (.exit 0,[(1,pd),(3, .ptr σ.length 0),(5, .ptr (σ.length+1) 0),(8, .int .i64 ls.length),(48, .bool false)],σ1) (by simp) (by simp)
    (fun i hi=>by
      have hw:=wrap_nat (n:=i) (by unfold maxL at hl2;omega)
      have hget: (ls.map Lab.d)[i]? =some (Lab.d ls[i]):=by simp [hi]
      have hgd:ls.getD i ⟨[],0⟩=ls[i]:=by simp [List.getD,hi]
      rw [hgd]
      generalize ls.map Lab.d=ld at*
      have h2:i<ld.length:=by omega
      have h3:ld[i]=Lab.d ls[i]:=by rw [List.getElem?_eq_getElem h2] at hget;exact Option.some.inj hget
      have h35:=h35 ls[i].s
      generalize ls[i]=x at*
      rcases x with ⟨xs,xn⟩
      simp only [Lab.d] at*
      generalize p.cs=pc at*
      generalize tysD l=td at*
      generalize findEffI p.effects xs=fi at*
      generalize findEffE p.effects xs=fe at*
      cases hb:fe != 0
      ·have h0:fe=0:=by simpa using hb
       subst h0
       simp [lp73_0,hq1,hq2,hi,hw,hlsl,h2,h3,hpl,hpt,h35,q35,x35,Nat.testBit_eq_decide_div_mod_eq]
      ·have h0: ¬fe=0:=by simpa using hb
       simp [lp73_0,hq1,hq2,hi,hw,hlsl,h2,h3,hpl,hpt,h35,q35,x35,hb,h0,Nat.testBit_eq_decide_div_mod_eq])
    (by generalize ls.map Lab.d=ld at*;generalize tysD l=td at*;simp [lp73_0,hq2,hlsl])
   rw [Int.natCast_zero] at this
   rw [this]
   cases hf:ls.findIdx? (fun a=>findEffE p.effects a.s != 0) with
   |none=>
    rw [List.findIdx?_eq_none_iff] at hf
    rw [List.find?_eq_none.2 fun x hx=>by simpa using hf x hx]
   |some i=>
    obtain ⟨h1,h2,h3⟩:=List.findIdx?_eq_some_iff_getElem.1 hf
    have:ls.find? (fun a=>findEffE p.effects a.s != 0)=some ls[i]:=by
     rw [List.find?_eq_some_iff_getElem]
     exact ⟨h2,i,h1,rfl,fun j hj=>by simpa using h3 j hj⟩
    rw [this]
    simp [List.getD,h1]
  have it1:iterI (evalI CI XB GI 84 false lp73_1) [(1,pd),(3, .ptr σ.length 0),(5, .ptr (σ.length+1) 0),(11, .int .i64 0)] (σ++[Obj.box p.cs, .box (Ty.mk k n s l ls tail).cs])=
   some (if tysOrdR p params l=0 then (.exit 2,[(1,pd),(3, .ptr σ.length 0),(5, .ptr (σ.length+1) 0),(11, .int .i64 l.length),(70, .bool false)],σ++[Obj.box p.cs, .box (Ty.mk k n s l ls tail).cs]) else (.ret,[(6, .int .i64 (tysOrdR p params l))],σ++[Obj.box p.cs, .box (Ty.mk k n s l ls tail).cs])):=by
   have ih:=fun i (hi:i<l.length) σ=>c73 p hdl hel params hpar pd hpd l[i] (tysOk_mem hl3 (List.getElem_mem hi)) σ
   generalize σ++[Obj.box p.cs, .box (Ty.mk k n s l ls tail).cs]=σ1 at*
   have:=loop_find (f:=evalI CI XB GI 84 false lp73_1) (σ:=σ1) l (fun i=>[(1,pd),(3, .ptr σ.length 0),(5, .ptr (σ.length+1) 0),(11, .int .i64 (i:Nat))]) (fun a=>a.ordR p params != 0) (fun i=>(.ret,[(6, .int .i64 ((l.getD i tyI).ordR p params))],σ1)) (.exit 2,[(1,pd),(3, .ptr σ.length 0),(5, .ptr (σ.length+1) 0),(11, .int .i64 l.length),(70, .bool false)],σ1) (by simp) (by simp)
    (fun i hi=>by
      have hw:=wrap_nat (n:=i) (by unfold maxL at hl1;omega)
      have hget: (tysD l)[i]? =some (.agg l[i].cs):=by rw [tysD_map];simp [Ty.d,hi]
      have hgd:l.getD i tyI=l[i]:=by simp [List.getD,hi]
      rw [hgd]
      have ih:=ih i hi
      generalize tysD l=ld at*
      have h2:i<ld.length:=by omega
      have h3:ld[i]= .agg l[i].cs:=by rw [List.getElem?_eq_getElem h2] at hget;exact Option.some.inj hget
      have y1:=l[i].cs_len
      have y2:=l[i].cs_take
      generalize l[i]=x at*
      generalize x.cs=xc at*
      generalize p.cs=pc at*
      generalize ls.map Lab.d=lsd at*
      generalize x.ordR p params=fe at*
      cases hb:fe != 0
      ·have h0:fe=0:=by simpa using hb
       subst h0
       simp [lp73_1,hq1,hq2,hi,hw,hlen,h2,h3,hpl,hpt,y1,y2,ih,q73,x73,Nat.testBit_eq_decide_div_mod_eq]
      ·have h0: ¬fe=0:=by simpa using hb
       simp [lp73_1,hq1,hq2,hi,hw,hlen,h2,h3,hpl,hpt,y1,y2,ih,q73,x73,hb,h0,Nat.testBit_eq_decide_div_mod_eq])
    (by generalize ls.map Lab.d=ld at*;generalize tysD l=td at*;simp [lp73_1,hq2,hlen])
   rw [Int.natCast_zero] at this
   rw [this,tysOrdR_first,firstE_find]
   cases hf:l.findIdx? (fun a=>a.ordR p params != 0) with
   |none=>
    rw [List.findIdx?_eq_none_iff] at hf
    rw [List.find?_eq_none.2 fun x hx=>by simpa using hf x hx]
    rfl
   |some i=>
    obtain ⟨h1,h2,h3⟩:=List.findIdx?_eq_some_iff_getElem.1 hf
    have:l.find? (fun a=>a.ordR p params != 0)=some l[i]:=by
     rw [List.find?_eq_some_iff_getElem]
     exact ⟨h2,i,h1,rfl,fun j hj=>by simpa using h3 j hj⟩
    rw [this]
    have hne: ¬(l[i].ordR p params=0):=by simpa using h2
    simp [List.getD,h1,hne]
  have h122:=fun σ=>k122e hpd hpar s σ
  have h123:=fun σ=>c123 p hdl s σ
  have hh:p.cs.head?=some (.slice (p.data.map Dat.d)):=by rw [p.cs_eq];rfl
  have hdlen: (p.data.map Dat.d).length=p.data.length:=by simp
  have hcs: (Ty.mk k n s l ls tail).cs=[.int .i64 k, .int .i64 n, .str s, .slice (tysD l), .slice (ls.map Lab.d), .int .i64 tail]:=rfl
  have hτ:bodyI CI XB GI af73 [.agg p.cs,pd, .agg (Ty.mk k n s l ls tail).cs] σ=some (.ret (.int .i64 ((Ty.mk k n s l ls tail).ordR p params)),σ++[Obj.box p.cs, .box (Ty.mk k n s l ls tail).cs]):=by
   simp only [Ty.ordR]
   rw [hcs] at it0 it1 hq1 ⊢
   generalize tysOrdR p params l=te at*
   have fin: ∀ (hA: ¬(k=1∧hasS params s=false)) (hB:k=6→ ∃i,∃h:i<p.data.length,idxOf (fun x:Dat=>x.name==s) p.data=(i:Nat)∧p.data[i].params.length=l.length),
    bodyI CI XB GI af73 [.agg p.cs,pd, .agg [.int .i64 k, .int .i64 n, .str s, .slice (tysD l), .slice (ls.map Lab.d), .int .i64 tail]] σ=some (.ret (.int .i64 (match ls.find? (fun a=>findEffE p.effects a.s != 0) with|some a=>findEffE p.effects a.s|none=>te)),σ++[Obj.box p.cs, .box [.int .i64 k, .int .i64 n, .str s, .slice (tysD l), .slice (ls.map Lab.d), .int .i64 tail]]):=by
    intro hA hB
    have hk1: (k==1)=false∨((k==1)=true∧hasS params s=true):=by
     cases hk:k==1
     ·exact .inl rfl
     ·right
      refine ⟨rfl, ?_⟩
      cases hs:hasS params s
      ·exact absurd ⟨by simpa using hk,hs⟩ hA
      ·rfl
    by_cases hk6:k=6
    ·obtain ⟨i,hi,hidx,hpn⟩:=hB hk6
     subst hk6
     rw [hidx] at h123
     have hget: (p.data.map Dat.d)[i]? =some (Dat.d p.data[i]):=by simp [hi]
     generalize p.data.map Dat.d=dd at*
     have h2:i<dd.length:=by omega
     have h3:dd[i]=Dat.d p.data[i]:=by rw [List.getElem?_eq_getElem h2] at hget;exact Option.some.inj hget
     generalize p.data[i]=d at*
     rcases d with ⟨dn,dp,dc⟩
     simp only [Dat.d,Dat.cs,slD] at*
     have hpl2: (dp.map D.str).length=dp.length:=by simp
     generalize dp.map D.str=pdd at*
     generalize dc.map Con.d=cd at*
     have hni: ¬(i:Int) <0:=by omega
     generalize tysD l=ld at*
     generalize ls.map Lab.d=lsd at*
     generalize p.cs=pc at*
     cases hf:ls.find? (fun a=>findEffE p.effects a.s != 0) with
     |some a=>
      rw [hf] at it0
      simp [bodyI,af73,getA0,getA,hpa,hpl,hpt,hh,h123,hni,h2,h3,hlen,hpl2,hpn,it0]
     |none=>
      rw [hf] at it0
      by_cases hz:te=0
      ·rw [if_pos hz] at it1
       simp [bodyI,af73,getA0,getA,hpa,hpl,hpt,hh,h123,hni,h2,h3,hlen,hpl2,hpn,it0,it1,hz]
      ·rw [if_neg hz] at it1
       simp [bodyI,af73,getA0,getA,hpa,hpl,hpt,hh,h123,hni,h2,h3,hlen,hpl2,hpn,it0,it1]
    ·have hk6': (k==6)=false:=by simpa using hk6
     generalize tysD l=ld at*
     generalize ls.map Lab.d=lsd at*
     generalize p.cs=pc at*
     cases hf:ls.find? (fun a=>findEffE p.effects a.s != 0) with
     |some a=>
      rw [hf] at it0
      rcases hk1 with hk1| ⟨hk1,hs1⟩
      ·simp [bodyI,af73,getA0,getA,hpa,hpl,hpt,hk1,hk6',it0]
      ·rw [hs1] at h122
       simp [bodyI,af73,getA0,getA,hpa,hpl,hpt,hk1,hk6',h122,it0]
     |none=>
      rw [hf] at it0
      by_cases hz:te=0
      ·rw [if_pos hz] at it1
       rcases hk1 with hk1| ⟨hk1,hs1⟩
       ·simp [bodyI,af73,getA0,getA,hpa,hpl,hpt,hk1,hk6',it0,it1,hz]
       ·rw [hs1] at h122
        simp [bodyI,af73,getA0,getA,hpa,hpl,hpt,hk1,hk6',h122,it0,it1,hz]
      ·rw [if_neg hz] at it1
       rcases hk1 with hk1| ⟨hk1,hs1⟩
       ·simp [bodyI,af73,getA0,getA,hpa,hpl,hpt,hk1,hk6',it0,it1]
       ·rw [hs1] at h122
        simp [bodyI,af73,getA0,getA,hpa,hpl,hpt,hk1,hk6',h122,it0,it1]
   by_cases hA:k=1∧hasS params s=false
   ·have hN:ordRN p params k s l.length ls=6:=if_pos hA
    have h6: ¬(6:Int)=0:=by decide
    rw [hN,if_neg h6]
    obtain ⟨rfl,hs1⟩:=hA
    rw [hs1] at h122
    generalize tysD l=ld at*
    generalize ls.map Lab.d=lsd at*
    generalize p.cs=pc at*
    simp [bodyI,af73,getA0,getA,hpa,hpl,hpt,h122]
   ·have hlast: ∀v:Int,v=firstE (ls.map fun x=>findEffE p.effects x.s)→(match ls.find? (fun a=>findEffE p.effects a.s != 0) with|some a=>findEffE p.effects a.s|none=>te)=if v=0 then te else v:=by
     rintro v rfl
     rw [firstE_find]
     cases hf:ls.find? (fun a=>findEffE p.effects a.s != 0) with
     |none=>exact (if_pos rfl).symm
     |some a=>
      have:=List.find?_some hf
      have hne: ¬findEffE p.effects a.s=0:=by simpa using this
      exact (if_neg hne).symm
    by_cases h6:k=6
    ·subst h6
     rcases idxOf_find (fun x:Dat=>x.name==s) p.data with ⟨hneg,hn⟩ | ⟨i,hidx,hi,hn, -⟩
     ·have hdE:datErr p s l.length=6:=by unfold datErr;rw [hn]
      have h6: ¬(6:Int)=0:=by decide
      have hN:ordRN p params 6 s l.length ls=6:=by
       unfold ordRN
       rw [if_neg hA,hdE]
       exact if_pos ⟨rfl,h6⟩
      rw [hN,if_neg h6]
      generalize idxOf (fun x:Dat=>x.name==s) p.data=ix at*
      generalize tysD l=ld at*
      generalize ls.map Lab.d=lsd at*
      generalize p.cs=pc at*
      simp [bodyI,af73,getA0,getA,hpa,hpl,hpt,h123,hneg]
     ·by_cases hpn:p.data[i].params.length=l.length
      ·have hdE:datErr p s l.length=0:=by unfold datErr;rw [hn];exact if_pos hpn
       have:=fin hA (fun _=>⟨i,hi,hidx,hpn⟩)
       rw [this,hlast (ordRN p params 6 s l.length ls)]
       unfold ordRN
       rw [if_neg hA,hdE]
       exact if_neg fun h=>h.2 rfl
      ·have hdE:datErr p s l.length=7:=by unfold datErr;rw [hn];exact if_neg hpn
       have h7: ¬(7:Int)=0:=by decide
       have hN:ordRN p params 6 s l.length ls=7:=by
        unfold ordRN
        rw [if_neg hA,hdE]
        exact if_pos ⟨rfl,h7⟩
       rw [hN,if_neg h7]
       rw [hidx] at h123
       have hget: (p.data.map Dat.d)[i]? =some (Dat.d p.data[i]):=by simp [hi]
       generalize p.data.map Dat.d=dd at*
       have h2:i<dd.length:=by omega
       have h3:dd[i]=Dat.d p.data[i]:=by rw [List.getElem?_eq_getElem h2] at hget;exact Option.some.inj hget
       generalize p.data[i]=d at*
       rcases d with ⟨dn,dp,dc⟩
       simp only [Dat.d,Dat.cs,slD] at*
       have hpl2: (dp.map D.str).length=dp.length:=by simp
       generalize dp.map D.str=pdd at*
       generalize dc.map Con.d=cd at*
       have hni: ¬(i:Int) <0:=by omega
       have hpn': ((l.length:Int) != (dp.length:Int))=true:=by
        simp only [bne_iff_ne,ne_eq]
        intro h
        exact hpn (by omega)
       generalize tysD l=ld at*
       generalize ls.map Lab.d=lsd at*
       generalize p.cs=pc at*
       simp [bodyI,af73,getA0,getA,hpa,hpl,hpt,hh,h123,hni,h2,h3,hlen,hpl2,hpn']
    ·have:=fin hA (fun h=>absurd h h6)
     rw [this,hlast (ordRN p params k s l.length ls)]
     unfold ordRN
     rw [if_neg hA]
     exact if_neg fun h=>h6 h.1
  exact CI_tree tab73 hτ rfl rfl
termination_by t=>SizeOf.sizeOf t
decreasing_by
 have:=List.sizeOf_lt_of_mem (List.getElem_mem hi)
 simp only [Ty.mk.sizeOf_spec]
 omega
theorem c169 (ls:List Lab) (tail:Int) (σ:St) (hl:ls.length≤maxL):CI (.fn 169) [.agg [.slice (ls.map Lab.d), .int .i64 tail]] σ=some (.ret (.int .i64 (rowE ls tail)),σ):=by
 have hτ:bodyI CI XB GI af169 [.agg [.slice (ls.map Lab.d), .int .i64 tail]] σ=some (.ret (.int .i64 (rowE ls tail)),σ++[.box [.slice (ls.map Lab.d), .int .i64 tail]]):=by
  have hq: (σ++[Obj.box [.slice (ls.map Lab.d), .int .i64 tail]])[σ.length]? =some (.box [.slice (ls.map Lab.d), .int .i64 tail]):=getA0
  have hlsl: (ls.map Lab.d).length=ls.length:=by simp
  have hit:=loop_find (f:=evalI CI XB GI 31 false lp169_0) (σ:=σ++[.box [.slice (ls.map Lab.d), .int .i64 tail]]) ls (fun i=>[(1, .ptr σ.length 0),(3, .int .i64 (i:Nat))]) (fun a=>labE a != 0) (fun i=>(.ret,[(2, .int .i64 (labE (ls.getD i ⟨[],0⟩)))],σ++[.box [.slice (ls.map Lab.d), .int .i64 tail]]))
   (.exit 0,[(1, .ptr σ.length 0),(3, .int .i64 ls.length),(8, .bool false)],σ++[.box [.slice (ls.map Lab.d), .int .i64 tail]]) (by simp) (by simp)
   (fun i hi=>by
     have hw:=wrap_nat (n:=i) (by unfold maxL at hl;omega)
     have hget: (ls.map Lab.d)[i]? =some (Lab.d ls[i]):=by simp [hi]
     have hgd:ls.getD i ⟨[],0⟩=ls[i]:=by simp [List.getD,hi]
     rw [hgd]
     generalize σ++[.box [.slice (ls.map Lab.d), .int .i64 tail]]=σ1 at*
     generalize ls.map Lab.d=ld at*
     have h2:i<ld.length:=by omega
     have h3:ld[i]=Lab.d ls[i]:=by rw [List.getElem?_eq_getElem h2] at hget;exact Option.some.inj hget
     generalize ls[i]=x at*
     rcases x with ⟨s,n⟩
     simp only [Lab.d] at h3
     unfold labE
     cases h1:upW s
     ·simp [lp169_0,hq,hi,hw,hlsl,h2,h3,c176,h1]
     ·cases h4:inR n 0 999999999
      ·simp [lp169_0,hq,hi,hw,hlsl,h2,h3,c176,h1,k157,h4]
      ·simp [lp169_0,hq,hi,hw,hlsl,h2,h3,c176,h1,k157,h4])
   (by generalize σ++[.box [.slice (ls.map Lab.d), .int .i64 tail]]=σ1 at*;generalize ls.map Lab.d=ld at*;simp [lp169_0,hq,hlsl])
  rw [Int.natCast_zero] at hit
  unfold rowE
  rw [firstE_app,firstE_find]
  have hfi:ls.find? (fun a=>labE a != 0)=(ls.findIdx? (fun a=>labE a != 0)).map fun i=>ls.getD i ⟨[],0⟩:=by
   cases hf:ls.findIdx? (fun a=>labE a != 0) with
   |none=>
    rw [List.findIdx?_eq_none_iff] at hf
    rw [List.find?_eq_none.2 fun x hx=>by simpa using hf x hx]
    rfl
   |some i=>
    obtain ⟨h1,h2,h3⟩:=List.findIdx?_eq_some_iff_getElem.1 hf
    have:ls.find? (fun a=>labE a != 0)=some ls[i]:=by
     rw [List.find?_eq_some_iff_getElem]
     exact ⟨h2,i,h1,rfl,fun j hj=>by simpa using h3 j hj⟩
    rw [this]
    simp [List.getD,h1]
  cases hf:ls.findIdx? (fun a=>labE a != 0) with
  |some i=>
   rw [hf] at hit hfi
   rw [hfi]
   have:labE (ls.getD i ⟨[],0⟩)≠0:=by have:=List.find?_some hfi;simpa using this
   clear hfi
   dsimp only at hit
   show bodyI CI XB GI af169 [.agg [.slice (ls.map Lab.d), .int .i64 tail]] σ=some (.ret (.int .i64 (if labE (ls.getD i ⟨[],0⟩)=0 then _ else labE (ls.getD i ⟨[],0⟩))),_)
   generalize ls.getD i ⟨[],0⟩=x at*
   generalize labE x=le at*
   simp [bodyI,af169,getA0,hit,this]
  |none=>
   rw [hf] at hit hfi
   rw [hfi]
   simp only [Option.map_none]
   generalize ls.map Lab.d=ld at*
   unfold firstE
   cases h4:inR tail (-1) 999999999
   ·simp [bodyI,af169,getA0,hit,k157,h4,firstE]
   ·simp [bodyI,af169,getA0,hit,k157,h4,firstE]
 exact CI_tree tab169 hτ rfl rfl
theorem it177 (σ:St): ∀ (r pre:List Bs),(pre++r).length≤maxL→ ∀m,m=pre.length→
 iterI (evalI CI XB GI 24 false lp177_0) [(0,slD (pre++r)),(3, .int .i64 (m:Nat))] σ=
  some (if distFrom pre r 1=0 then (.exit 0,[(0,slD (pre++r)),(3, .int .i64 (pre++r).length),(7, .bool false)],σ) else (.ret,[(2, .int .i64 (distFrom pre r 1))],σ))
 | [],pre,hl,m,hm=>by
  have:m=(pre++([]:List Bs)).length:=by rw [hm];simp
  refine iterI_end ?_ (by simp [distFrom])
  generalize pre++([]:List Bs)=q at*
  simp [lp177_0,this,distFrom]
 |s::r,pre,hl,m,hm=>by
  have hmt:m< (pre++s::r).length:=by simp;omega
  have hget: (pre++s::r)[m]? =some s:=by rw [hm];simp
  have htk: ((pre++s::r).map D.str).take m=pre.map D.str:=by rw [hm];simp
  have hw:=wrap_nat (n:=m) (by unfold maxL at hl;simp at hl;omega)
  have h122:=h122 pre s σ (by unfold maxL at*;simp at hl;omega)
  have hp:pre++[s]++r=pre++s::r:=by simp
  have ih:=it177 σ r (pre++[s]) (by rw [hp];exact hl) (m+1) (by simp [hm])
  rw [hp] at ih
  simp only [distFrom]
  simp only [slD] at h122
  generalize hq:pre++s::r=q at*
  have h3:q[m]=s:=by rw [List.getElem?_eq_getElem hmt] at hget;exact Option.some.inj hget
  have hm': (m:Int)≤q.length:=by omega
  have hv:isC s 1=varW s:=rfl
  have q122:qI 122=false:=rfl
  have x122:XB 122=false:=rfl
  by_cases hc:varW s=true
  ·by_cases hh:hasS pre s=true
   ·simp only [hv,hc,hh,if_true]
    refine iterI_end ?_ (by simp)
    rw [hh] at h122
    simp [lp177_0,hmt,h3,c135,hc,bound,hm',htk,h122,q122,x122,Nat.testBit_eq_decide_div_mod_eq]
   ·simp only [hv,hc,if_true,if_neg hh]
    rw [←ih]
    refine iterI_next ?_
    rw [Bool.not_eq_true] at hh
    rw [hh] at h122
    simp [lp177_0,hmt,h3,c135,hc,hw,bound,hm',htk,h122,q122,x122,Nat.testBit_eq_decide_div_mod_eq]
  ·simp only [hv,if_neg hc]
   refine iterI_end ?_ (by simp)
   rw [Bool.not_eq_true] at hc
   simp [lp177_0,hmt,h3,c135,hc]
theorem c177 (l:List Bs) (σ:St) (hl:l.length≤maxL):CI (.fn 177) [slD l] σ=some (.ret (.int .i64 (distE l 1)),σ):=by
 refine CI_tree0 tab177 (d:= .int .i64 (distE l 1)) ?_ rfl rfl
 have hit:=it177 σ l [] hl 0 rfl
 rw [Int.natCast_zero,List.nil_append] at hit
 unfold distE
 by_cases h:distFrom [] l 1=0
 ·rw [if_pos h] at hit
  simp [bodyI,af177,hit,h]
 ·rw [if_neg h] at hit
  simp [bodyI,af177,hit]
theorem findIdx_none_all {α:Type} (l:List α) (Q:α→Bool) (h:l.findIdx? (fun a=> !Q a)=none):l.all Q=true:=by
 rw [List.findIdx?_eq_none_iff] at h
 exact List.all_eq_true.2 fun x hx=>by simpa using h x hx
theorem findIdx_some_all {α:Type} (l:List α) (Q:α→Bool) (i:Nat) (h:l.findIdx? (fun a=> !Q a)=some i):l.all Q=false:=by
 obtain ⟨h1,h2, -⟩:=List.findIdx?_eq_some_iff_getElem.1 h
 rw [List.all_eq_false]
 exact ⟨l[i],List.getElem_mem h1,by simpa using h2⟩
theorem loop_all {α:Type} {f:Env→St→Option (AExit × Env × St)} {σ:St} (l:List α) (E:Nat→Env) (Q:α→Bool) (X Y:AExit × Env × St) (hX:X.1≠ .normal) (hY:Y.1≠ .normal)
 (h: ∀i (hi:i<l.length),f (E i) σ=if Q l[i] then some (.normal,E (i+1),σ) else some X) (hf:f (E l.length) σ=some Y):
 iterI f (E 0) σ=some (if l.all Q then Y else X):=by
 have:=loop_find (f:=f) (σ:=σ) l E (fun a=> !Q a) (fun _=>X) Y (fun _=>hX) hY (fun i hi=>by rw [h i hi];cases Q l[i]<;>rfl) hf
 rw [this]
 cases hf:l.findIdx? (fun a=> !Q a) with
 |none=>rw [findIdx_none_all l Q hf];rfl
 |some i=>rw [findIdx_some_all l Q i hf];rfl
theorem loop_err {α:Type} {f:Env→St→Option (AExit × Env × St)} {σ:St} (l:List α) (E:Nat→Env) (e:α→Int) (X:Int→AExit × Env × St) (Y:AExit × Env × St) (hX: ∀n,(X n).1≠ .normal) (hY:Y.1≠ .normal)
 (h: ∀i (hi:i<l.length),f (E i) σ=if e l[i]=0 then some (.normal,E (i+1),σ) else some (X (e l[i]))) (hf:f (E l.length) σ=some Y):
 iterI f (E 0) σ=some (if firstE (l.map e)=0 then Y else X (firstE (l.map e))):=by
 have from_: ∀ (m j:Nat),j+m=l.length→iterI f (E j) σ=some (if firstE ((l.drop j).map e)=0 then Y else X (firstE ((l.drop j).map e))):=by
  intro m
  induction m with
  |zero=>
   intro j hj
   obtain rfl:j=l.length:=by omega
   rw [List.drop_length]
   exact iterI_end hf hY
  |succ m ih=>
   intro j hj
   have hlt:j<l.length:=by omega
   have hb:=h j hlt
   rw [List.drop_eq_getElem_cons hlt]
   simp only [List.map_cons,firstE]
   by_cases hq:e l[j]=0
   ·rw [if_pos hq] at hb ⊢
    rw [iterI_next hb]
    exact ih (j+1) (by omega)
   ·simp only [if_neg hq] at hb ⊢
    exact iterI_end hb (hX _)
 have:=from_ l.length 0 (by omega)
 rw [List.drop_zero] at this
 exact this
theorem c204: ∀ (t:Ty),t.ok→ ∀ (σ:St),CI (.fn 204) [.agg t.cs] σ=some (.ret (.bool (t.cl tailC)),σ)
 | .mk k n s l ls tail,hok,σ=>by
  obtain ⟨hl1,hl2,hl3⟩:=hok
  have hq1: (σ++[Obj.box (Ty.mk k n s l ls tail).cs])[σ.length]? =some (.box [.int .i64 k, .int .i64 n, .str s, .slice (tysD l), .slice (ls.map Lab.d), .int .i64 tail]):=getA0
  have hlen:=tysD_len l
  have hlsl: (ls.map Lab.d).length=ls.length:=by simp
  have it0:iterI (evalI CI XB GI 49 false lp204_0) [(1, .ptr σ.length 0),(3, .int .i64 0)] (σ++[Obj.box (Ty.mk k n s l ls tail).cs])=
   some (if ls.all (fun x=>x.n==0) then (.exit 0,[(1, .ptr σ.length 0),(3, .int .i64 ls.length),(24, .bool false)],σ++[Obj.box (Ty.mk k n s l ls tail).cs]) else (.ret,[(2, .bool false)],σ++[Obj.box (Ty.mk k n s l ls tail).cs])):=by
   generalize σ++[Obj.box (Ty.mk k n s l ls tail).cs]=σ1 at*
   refine loop_all ls (fun i=>[(1, .ptr σ.length 0),(3, .int .i64 (i:Nat))]) _ _ _ (by simp) (by simp) (fun i hi=> ?_) ?_
   ·have hw:=wrap_nat (n:=i) (by unfold maxL at hl2;omega)
    have hget: (ls.map Lab.d)[i]? =some (Lab.d ls[i]):=by simp [hi]
    generalize ls.map Lab.d=ld at*
    have h2:i<ld.length:=by omega
    have h3:ld[i]=Lab.d ls[i]:=by rw [List.getElem?_eq_getElem h2] at hget;exact Option.some.inj hget
    generalize ls[i]=x at*
    rcases x with ⟨xs,xn⟩
    simp only [Lab.d] at h3
    generalize tysD l=td at*
    cases h4:xn==0
    ·have h5: (xn != 0)=true:=by simpa using h4
     have h6: ¬xn=0:=by simpa using h4
     simp [lp204_0,hq1,hi,hw,hlsl,h2,h3,h5,h6]
    ·have h5:xn=0:=by simpa using h4
     simp [lp204_0,hq1,hi,hw,hlsl,h2,h3,h5]
   ·generalize ls.map Lab.d=ld at*
    generalize tysD l=td at*
    simp [lp204_0,hq1,hlsl]
  have it1:iterI (evalI CI XB GI 49 false lp204_1) [(1, .ptr σ.length 0),(4, .int .i64 0)] (σ++[Obj.box (Ty.mk k n s l ls tail).cs])=
   some (if l.all (fun t=>t.cl tailC) then (.exit 2,[(1, .ptr σ.length 0),(4, .int .i64 l.length),(39, .bool false)],σ++[Obj.box (Ty.mk k n s l ls tail).cs]) else (.ret,[(2, .bool false)],σ++[Obj.box (Ty.mk k n s l ls tail).cs])):=by
   have ih:=fun i (hi:i<l.length) σ=>c204 l[i] (tysOk_mem hl3 (List.getElem_mem hi)) σ
   generalize σ++[Obj.box (Ty.mk k n s l ls tail).cs]=σ1 at*
   refine loop_all l (fun i=>[(1, .ptr σ.length 0),(4, .int .i64 (i:Nat))]) _ _ _ (by simp) (by simp) (fun i hi=> ?_) ?_
   ·have hw:=wrap_nat (n:=i) (by unfold maxL at hl1;omega)
    have hget: (tysD l)[i]? =some (.agg l[i].cs):=by rw [tysD_map];simp [Ty.d,hi]
    have ih:=ih i hi
    generalize tysD l=ld at*
    have h2:i<ld.length:=by omega
    have h3:ld[i]= .agg l[i].cs:=by rw [List.getElem?_eq_getElem h2] at hget;exact Option.some.inj hget
    have y1:=l[i].cs_len
    have y2:=l[i].cs_take
    generalize l[i]=x at*
    generalize x.cs=xc at*
    generalize ls.map Lab.d=lsd at*
    cases hb:x.cl tailC
    ·rw [hb] at ih
     simp [lp204_1,hq1,hi,hw,hlen,h2,h3,y1,y2,ih]
    ·rw [hb] at ih
     simp [lp204_1,hq1,hi,hw,hlen,h2,h3,y1,y2,ih]
   ·generalize ls.map Lab.d=ld at*
    generalize tysD l=td at*
    simp [lp204_1,hq1,hlen]
  have hτ:bodyI CI XB GI af204 [.agg (Ty.mk k n s l ls tail).cs] σ=some (.ret (.bool ((Ty.mk k n s l ls tail).cl tailC)),σ++[.box (Ty.mk k n s l ls tail).cs]):=by
   simp only [Ty.cl,tysCl_all]
   simp only [Ty.cs] at it0 it1 ⊢
   unfold tailC at*
   generalize ls.map Lab.d=lsd at*
   generalize tysD l=ld at*
   generalize (ls.all fun x=>x.n==0)=lb at*
   generalize (l.all fun t=>t.cl fun n=>n != -1)=tb at*
   have rest: ∀ (b:Bool),b=(lb&&tb)→(k==0)=false→((k==5)&&(tail != -1))=false→bodyI CI XB GI af204 [.agg [.int .i64 k, .int .i64 n, .str s, .slice ld, .slice lsd, .int .i64 tail]] σ=some (.ret (.bool b),σ++[.box [.int .i64 k, .int .i64 n, .str s, .slice ld, .slice lsd, .int .i64 tail]]):=by
    rintro b rfl hk hk5
    cases h5:k==5
    ·cases lb
     ·simp [bodyI,af204,getA0,hk,h5,it0]
     ·cases tb<;>simp [bodyI,af204,getA0,hk,h5,it0,it1]
    ·rw [h5] at hk5
     have ht: (tail != -1)=false:=by simpa using hk5
     cases lb
     ·simp [bodyI,af204,getA0,hk,h5,ht,it0]
     ·cases tb<;>simp [bodyI,af204,getA0,hk,h5,ht,it0,it1]
   cases hk:k==0
   ·cases hk5: (k==5)&&(tail != -1)
    ·rw [rest (lb&&tb) rfl hk hk5]
     simp
    ·obtain ⟨h5,ht⟩:=Bool.and_eq_true_iff.1 hk5
     simp [bodyI,af204,getA0,hk,h5,ht]
   ·simp [bodyI,af204,getA0,hk]
  exact CI_tree tab204 hτ rfl rfl
termination_by t=>SizeOf.sizeOf t
decreasing_by
 have:=List.sizeOf_lt_of_mem (List.getElem_mem hi)
 simp only [Ty.mk.sizeOf_spec]
 omega
mutual
def Ty.left:Ty→Int→Int→Int
 | .mk _ _ _ l ls _,left,d=>if d<1∨24<ls.length then -1 else tysLeft l (left - 1) (d - 1)
def tysLeft:List Ty→Int→Int→Int
 | [],left,_=>left
 |t::r,left,d=>if 0≤left then tysLeft r (t.left left d) d else left
end
mutual
theorem Ty.left_le: ∀ (t:Ty) (left d:Int),0≤left→ -1≤t.left left d∧t.left left d≤left
 | .mk _ _ _ l ls _,left,d,h=>by
  simp only [Ty.left]
  split
  ·exact ⟨by omega,by omega⟩
  ·have:=tysLeft_le l (left - 1) (d - 1) (by omega)
   exact ⟨this.1,by omega⟩
theorem tysLeft_le: ∀ (l:List Ty) (left d:Int), -1≤left→ -1≤tysLeft l left d∧tysLeft l left d≤left
 | [],left,d,h=>by simp only [tysLeft];exact ⟨h,by omega⟩
 |t::r,left,d,h=>by
  simp only [tysLeft]
  split
  ·rename_i h0
   obtain ⟨h1,h2⟩:=t.left_le left d h0
   have:=tysLeft_le r (t.left left d) d h1
   exact ⟨this.1,by omega⟩
  ·exact ⟨h,by omega⟩
end
mutual
theorem c120: ∀ (t:Ty),t.ok→ ∀ (left d:Int) (σ:St),0≤left→left≤1000000→0≤d→d≤1000→
 CI (.fn 120) [.agg t.cs, .int .i64 left, .int .i64 d] σ=some (.ret (.int .i64 (t.left left d)),σ)
 | .mk k n s l ls tail,hok,left,d,σ,h0,h1,hd0,hd1=>by
  obtain ⟨hl1,hl2,hl3⟩:=hok
  have hw:IntKind.i64.wrap (left - 1)=left - 1:=wrap_i64 (by omega) (by omega)
  have hlsl: (ls.map Lab.d).length=ls.length:=by simp
  have hτ:bodyI CI XB GI af120 [.agg (Ty.mk k n s l ls tail).cs, .int .i64 left, .int .i64 d] σ=some (.ret (.int .i64 ((Ty.mk k n s l ls tail).left left d)),σ++[.box (Ty.mk k n s l ls tail).cs]):=by
   simp only [Ty.left]
   by_cases hdd:d<1
   ·rw [if_pos (.inl hdd)]
    simp only [Ty.cs]
    generalize ls.map Lab.d=lsd at*
    generalize tysD l=ld at*
    simp [bodyI,af120,getA0,hw,hdd]
   ·by_cases h24:24<ls.length
    ·rw [if_pos (.inr h24)]
     simp only [Ty.cs]
     generalize ls.map Lab.d=lsd at*
     generalize tysD l=ld at*
     have h24': (24:Int) < (lsd.length:Int):=by omega
     have h24'':24<lsd.length:=by omega
     simp [bodyI,af120,getA0,hw,hdd,h24,h24',h24'']
    ·rw [if_neg (fun h=>h.elim hdd h24)]
     obtain ⟨j,hit⟩:=it120 l [] (left - 1) d (σ++[.box (Ty.mk k n s l ls tail).cs]) σ.length ⟨k,n,s, .slice (ls.map Lab.d),tail,by rw [getA0];rfl⟩ hl1 hl3 (by omega) (by omega) (by omega) (by omega) 0 rfl
     rw [Int.natCast_zero] at hit
     simp only [Ty.cs] at hit ⊢
     generalize ls.map Lab.d=lsd at*
     generalize tysD l=ld at*
     have h24': ¬(24:Int) < (lsd.length:Int):=by omega
     have h24'': ¬24<lsd.length:=by omega
     simp [bodyI,af120,getA0,hw,hdd,h24,h24',h24'',hit]
  exact CI_tree tab120 hτ rfl rfl
theorem it120: ∀ (r pre:List Ty) (left d:Int) (σ:St) (p:Nat),(∃k n s ls tail,σ[p]? =some (.box [.int .i64 k, .int .i64 n, .str s, .slice (tysD (pre++r)),ls, .int .i64 tail]))→(pre++r).length≤maxL→tysOk r→ -1≤left→left≤1000000→1≤d→d≤1000→ ∀ (m:Nat),m=pre.length→
 ∃j:Int,iterI (evalI CI XB GI 40 false lp120_0) [(1, .int .i64 left),(2, .int .i64 d),(3, .ptr p 0),(7, .int .i64 (m:Nat))] σ=
  some (.exit 0,[(1, .int .i64 (tysLeft r left (d - 1))),(2, .int .i64 d),(3, .ptr p 0),(7, .int .i64 j),(27, .bool false)],σ)
 | [],pre,left,d,σ,p,hσ,hl,hok,h0,h1,hd0,hd1,m,hm=>by
  obtain ⟨k,n,s,ls,tail,hσ⟩:=hσ
  rw [List.append_nil] at hσ
  refine ⟨(m:Int),iterI_end ?_ (by simp)⟩
  have hlen:=tysD_len pre
  generalize tysD pre=ld at*
  simp [lp120_0,hσ,hm,hlen,tysLeft]
 |t::r,pre,left,d,σ,p,hσ,hl,hok,h0,h1,hd0,hd1,m,hm=>by
  obtain ⟨k,n,s,ls,tail,hσ'⟩:=hσ
  have hlen:=tysD_len (pre++t::r)
  have hmt:m< (pre++t::r).length:=by simp;omega
  have hget: (tysD (pre++t::r))[m]? =some (.agg t.cs):=by rw [tysD_map,hm];simp [Ty.d]
  have hw:=wrap_nat (n:=m) (by unfold maxL at hl;omega)
  have hwd:IntKind.i64.wrap (d - 1)=d - 1:=wrap_i64 (by omega) (by omega)
  have hp:pre++[t]++r=pre++t::r:=by simp
  by_cases hlt:0≤left
  ·have ht:=t.left_le left (d - 1) hlt
   obtain ⟨j,ih⟩:=it120 r (pre++[t]) (t.left left (d - 1)) d σ p ⟨k,n,s,ls,tail,by rw [hp];exact hσ'⟩ (by rw [hp];exact hl) hok.2 ht.1 (by omega) hd0 hd1 (m+1) (by simp [hm])
   refine ⟨j, ?_⟩
   have h120:=c120 t hok.1 left (d - 1) σ hlt h1 (by omega) (by omega)
   simp only [tysLeft,if_pos hlt]
   rw [←ih]
   refine iterI_next ?_
   generalize tysD (pre++t::r)=ld at*
   generalize (pre++t::r).length=len at*
   have h2:m<ld.length:=by omega
   have h3:ld[m]= .agg t.cs:=by rw [List.getElem?_eq_getElem h2] at hget;exact Option.some.inj hget
   have y1:=t.cs_len
   have y2:=t.cs_take
   generalize t.cs=xc at*
   generalize t.left left (d - 1)=tl at*
   simp [lp120_0,hσ',hmt,hlen,h2,h3,y1,y2,hw,hwd,hlt,h120]
  ·refine ⟨(m:Int),iterI_end ?_ (by simp)⟩
   simp only [tysLeft,if_neg hlt]
   generalize tysD (pre++t::r)=ld at*
   generalize (pre++t::r).length=len at*
   simp [lp120_0,hσ',hmt,hlen,hlt]
end
theorem isB_mem {s:Bs} (h:isB s=true):s ∈ builtins:=by
 unfold isB hasS at h
 simpa using h
theorem isB_C0 {s:Bs} (h:isC s 0=true):isB s=false:=by
 cases hb:isB s
 ·rfl
 ·have: ∀x ∈ builtins,isC x 0=false:=by decide
  rw [this s (isB_mem hb)] at h
  cases h
theorem isB_C1 {s:Bs} (h:isC s 1=true):isB s=false:=by
 cases hb:isB s
 ·rfl
 ·have: ∀x ∈ builtins,isC x 1=false:=by decide
  rw [this s (isB_mem hb)] at h
  cases h
theorem tysE_first: ∀ (l:List Ty),tysE l=firstE (l.map Ty.e)
 | []=>rfl
 |t::r=>by simp only [tysE,List.map_cons,firstE,tysE_first r]
set_option maxHeartbeats 4000000 in
theorem c121: ∀ (t:Ty),t.ok→ ∀ (σ:St),CI (.fn 121) [.agg t.cs] σ=some (.ret (.int .i64 t.e),σ)
 | .mk k n s l ls tail,hok,σ=>by
  obtain ⟨hl1,hl2,hl3⟩:=hok
  have hq1: (σ++[Obj.box (Ty.mk k n s l ls tail).cs])[σ.length]? =some (.box [.int .i64 k, .int .i64 n, .str s, .slice (tysD l), .slice (ls.map Lab.d), .int .i64 tail]):=getA0
  have hlen:=tysD_len l
  have hlsl: (ls.map Lab.d).length=ls.length:=by simp
  have it0:iterI (evalI CI XB GI 125 false lp121_0) [(1, .ptr σ.length 0),(5, .int .i64 0)] (σ++[Obj.box (Ty.mk k n s l ls tail).cs])=
   some (if tysE l=0 then (.exit 0,[(1, .ptr σ.length 0),(5, .int .i64 l.length),(113, .bool false)],σ++[Obj.box (Ty.mk k n s l ls tail).cs]) else (.ret,[(2, .int .i64 (tysE l))],σ++[Obj.box (Ty.mk k n s l ls tail).cs])):=by
   have ih:=fun i (hi:i<l.length) σ=>c121 l[i] (tysOk_mem hl3 (List.getElem_mem hi)) σ
   generalize σ++[Obj.box (Ty.mk k n s l ls tail).cs]=σ1 at*
   rw [tysE_first]
   refine loop_err l (fun i=>[(1, .ptr σ.length 0),(5, .int .i64 (i:Nat))]) Ty.e (fun v=>(.ret,[(2, .int .i64 v)],σ1)) _ (by simp) (by simp) (fun i hi=> ?_) ?_
   ·have hw:=wrap_nat (n:=i) (by unfold maxL at hl1;omega)
    have hget: (tysD l)[i]? =some (.agg l[i].cs):=by rw [tysD_map];simp [Ty.d,hi]
    have ih:=ih i hi
    generalize tysD l=ld at*
    have h2:i<ld.length:=by omega
    have h3:ld[i]= .agg l[i].cs:=by rw [List.getElem?_eq_getElem h2] at hget;exact Option.some.inj hget
    have y1:=l[i].cs_len
    have y2:=l[i].cs_take
    generalize l[i]=x at*
    generalize x.cs=xc at*
    generalize ls.map Lab.d=lsd at*
    generalize x.e=xe at*
    by_cases hb:xe=0
    ·simp [lp121_0,hq1,hi,hw,hlen,h2,h3,y1,y2,ih,hb]
    ·have hb': (xe != 0)=true:=by simpa using hb
     simp [lp121_0,hq1,hi,hw,hlen,h2,h3,y1,y2,ih,hb,hb']
   ·generalize ls.map Lab.d=ld at*
    generalize tysD l=td at*
    simp [lp121_0,hq1,hlen]
  have hτ:bodyI CI XB GI af121 [.agg (Ty.mk k n s l ls tail).cs] σ=some (.ret (.int .i64 (Ty.mk k n s l ls tail).e),σ++[.box (Ty.mk k n s l ls tail).cs]):=by
   have h169:=fun σ=>c169 ls tail σ hl2
   simp only [Ty.e]
   simp only [Ty.cs] at it0 ⊢
   generalize ls.map Lab.d=lsd at*
   generalize tysD l=ld at*
   generalize tysE l=te at*
   have cut: ∀v,tnodeE k n s l.length ls tail=v→v≠0→bodyI CI XB GI af121 [.agg [.int .i64 k, .int .i64 n, .str s, .slice ld, .slice lsd, .int .i64 tail]] σ=some (.ret (.int .i64 v),σ++[.box [.int .i64 k, .int .i64 n, .str s, .slice ld, .slice lsd, .int .i64 tail]])→
    bodyI CI XB GI af121 [.agg [.int .i64 k, .int .i64 n, .str s, .slice ld, .slice lsd, .int .i64 tail]] σ=some (.ret (.int .i64 (if tnodeE k n s l.length ls tail=0 then te else tnodeE k n s l.length ls tail)),σ++[.box [.int .i64 k, .int .i64 n, .str s, .slice ld, .slice lsd, .int .i64 tail]]):=by
    intro v hv hne hb
    rw [hv,if_neg hne]
    exact hb
   have fin:tnodeE k n s l.length ls tail=0→bodyI CI XB GI af121 [.agg [.int .i64 k, .int .i64 n, .str s, .slice ld, .slice lsd, .int .i64 tail]] σ=some (.ret (.int .i64 te),σ++[.box [.int .i64 k, .int .i64 n, .str s, .slice ld, .slice lsd, .int .i64 tail]])→
    bodyI CI XB GI af121 [.agg [.int .i64 k, .int .i64 n, .str s, .slice ld, .slice lsd, .int .i64 tail]] σ=some (.ret (.int .i64 (if tnodeE k n s l.length ls tail=0 then te else tnodeE k n s l.length ls tail)),σ++[.box [.int .i64 k, .int .i64 n, .str s, .slice ld, .slice lsd, .int .i64 tail]]):=by
    intro hv hb
    rw [if_pos hv]
    exact hb
   cases hk:inR k 0 6
   ·exact cut 1 (by simp [tnodeE,hk]) (by decide) (by simp [bodyI,af121,getA0,k157,hk])
   cases hn:inR n 0 999999999
   ·exact cut 1 (by simp [tnodeE,hk,hn]) (by decide) (by simp [bodyI,af121,getA0,k157,hk,hn])
   have hn0:0≤n:=by unfold inR at hn;simp at hn;omega
   have hkk:0≤k∧k≤6:=by unfold inR at hk;simp at hk;omega
   by_cases hkn:k≠0∧n≠0
   ·obtain ⟨h1,h2⟩:=hkn
    have h3:0<n:=by omega
    have h1': (k != 0)=true:=by simpa using h1
    have h2': (n != 0)=true:=by simpa using h2
    exact cut 1 (by simp [tnodeE,hk,hn,h1,h3]) (by decide) (by simp [bodyI,af121,getA0,k157,hk,hn,h1',h2'])
   have hg: ((k != 0)&&(n != 0))=false:=by
    cases h: (k != 0)&&(n != 0)
    ·rfl
    ·exact absurd (by simpa using h) hkn
   have hg2: ((k != 0)&&decide (0<n))=false:=by
    cases h: (k != 0)&&decide (0<n)
    ·rfl
    ·obtain ⟨h1,h2⟩:=Bool.and_eq_true_iff.1 h
     exact absurd ⟨by simpa using h1,by have:=of_decide_eq_true h2;omega⟩ hkn
   have h0: (k != 0)=false∨((k != 0)=true∧(n != 0)=false):=by
    cases h:k != 0
    ·exact .inl rfl
    ·rw [h] at hg
     exact .inr ⟨rfl,by simpa using hg⟩
   have k167:=fun s k σ=>c167 s k σ
   by_cases hk1:k=1
   ·subst hk1
    have hcl:classT 1=1:=rfl
    have hnn: ¬0<n:=by simpa using hg2
    have hn0: (n != 0)=false:=by simpa using hg
    cases hc:isC s 1
    ·exact cut 4 (by simp [tnodeE,hk,hn,hnn,hcl,hc]) (by decide) (by simp [bodyI,af121,getA0,k157,k167,k168,hk,hn,hn0,hc])
    have hb:=isB_C1 hc
    by_cases hl:l.length=0
    rotate_left
    ·have hr:inR l.length (leastT 1) (mostT 1)=false:=by
      have e1:leastT 1=0:=by simp [leastT]
      have e2:mostT 1=0:=by simp [mostT]
      rw [e1,e2]
      unfold inR
      rw [decide_eq_false (p:=(l.length:Int)≤0) (by omega),Bool.and_false]
     have hl':0<l.length:=by omega
     exact cut 7 (by simp [tnodeE,hk,hn,hnn,hcl,hc,hb,hr]) (by decide) (by simp [bodyI,af121,getA0,k157,k167,k168,hk,hn,hn0,hc,hb,hlen,hl',hl])
    have hr:inR l.length (leastT 1) (mostT 1)=true:=by simp [inR,leastT,mostT,hl]
    have hl': ¬0<l.length:=by omega
    by_cases hlp:0<ls.length
    ·have hlp': (0:Int) < (lsd.length:Int):=by omega
     have hlp'':0<lsd.length:=by omega
     exact cut 1 (by simp [tnodeE,hk,hn,hnn,hcl,hc,hb,hr,hlp]) (by decide) (by simp [bodyI,af121,getA0,k157,k167,k168,hk,hn,hn0,hc,hb,hlen,hl',hl,hlp,hlp',hlp''])
    have hlp': ¬(0:Int) < (lsd.length:Int):=by omega
    have hlp'': ¬0<lsd.length:=by omega
    cases ht0:tail != 0
    ·refine fin (by simp [tnodeE,hk,hn,hnn,hcl,hc,hb,hr,hlp,ht0]) ?_
     by_cases ht:te=0<;>simp [bodyI,af121,getA0,k157,k167,k168,hk,hn,hn0,hc,hb,hlen,hl',hl,hlp,hlp',hlp'',ht0,it0,ht]
    ·exact cut 1 (by simp [tnodeE,hk,hn,hnn,hcl,hc,hb,hr,hlp,ht0]) (by decide) (by simp [bodyI,af121,getA0,k157,k167,k168,hk,hn,hn0,hc,hb,hlen,hl',hl,hlp,hlp',hlp'',ht0])
   by_cases hk5:k=5
   ·subst hk5
    have hcl:classT 5=0:=rfl
    have hnn: ¬0<n:=by simpa using hg2
    have hn0: (n != 0)=false:=by simpa using hg
    cases hc:isC s 0
    ·exact cut 4 (by simp [tnodeE,hk,hn,hnn,hcl,hc]) (by decide) (by simp [bodyI,af121,getA0,k157,k167,k168,hk,hn,hn0,hc])
    have hb:=isB_C0 hc
    by_cases hl:l.length=2
    rotate_left
    ·have hr:inR l.length (leastT 5) (mostT 5)=false:=by
      show (decide ((2:Int)≤l.length)&&decide ((l.length:Int)≤2))=false
      by_cases h2: (l.length:Int)≤2
      ·rw [decide_eq_false (p:=(2:Int)≤l.length) (by omega),Bool.false_and]
      ·rw [decide_eq_false h2,Bool.and_false]
     have hl': ((l.length:Int) != 2)=true:=by simp only [bne_iff_ne,ne_eq];omega
     exact cut 7 (by simp [tnodeE,hk,hn,hnn,hcl,hc,hb,hr]) (by decide) (by simp [bodyI,af121,getA0,k157,k167,k168,hk,hn,hn0,hc,hb,hlen,hl',hl])
    have hr:inR l.length (leastT 5) (mostT 5)=true:=by simp [inR,leastT,mostT,hl]
    have hl': ((l.length:Int) != 2)=false:=by simp [hl]
    have hN:tnodeE 5 n s l.length ls tail=rowE ls tail:=by simp [tnodeE,hk,hn,hnn,hcl,hc,hb,hr]
    by_cases hz:rowE ls tail=0
    ·refine fin (by rw [hN,hz]) ?_
     by_cases ht:te=0<;>simp [bodyI,af121,getA0,k157,k167,k168,hk,hn,hn0,hc,hb,hlen,hl',hl,h169,hz,it0,ht]
    ·have hz': (rowE ls tail != 0)=true:=by simpa using hz
     exact cut _ hN hz (by simp [bodyI,af121,getA0,k157,k167,k168,hk,hn,hn0,hc,hb,hlen,hl',hl,h169,hz,hz'])
   by_cases hk6:k=6
   ·subst hk6
    have hcl:classT 6=2:=rfl
    have hnn: ¬0<n:=by simpa using hg2
    have hn0: (n != 0)=false:=by simpa using hg
    cases hc:isC s 2
    ·exact cut 4 (by simp [tnodeE,hk,hn,hnn,hcl,hc]) (by decide) (by simp [bodyI,af121,getA0,k157,k167,k168,hk,hn,hn0,hc])
    cases hb:isB s
    rotate_left
    ·exact cut 4 (by simp [tnodeE,hk,hn,hnn,hcl,hc,hb]) (by decide) (by simp [bodyI,af121,getA0,k157,k167,k168,hk,hn,hn0,hc,hb])
    by_cases hl:l.length≤4
    rotate_left
    ·have hr:inR l.length (leastT 6) (mostT 6)=false:=by
      show (decide ((0:Int)≤l.length)&&decide ((l.length:Int)≤4))=false
      rw [decide_eq_false (p:=(l.length:Int)≤4) (by omega),Bool.and_false]
     have hl': (4:Int) < (l.length:Int):=by omega
     exact cut 7 (by simp [tnodeE,hk,hn,hnn,hcl,hc,hb,hr]) (by decide) (by simp [bodyI,af121,getA0,k157,k167,k168,hk,hn,hn0,hc,hb,hlen,hl',hl])
    have hr:inR l.length (leastT 6) (mostT 6)=true:=by simp [inR,leastT,mostT];omega
    have hl': ¬(4:Int) < (l.length:Int):=by omega
    by_cases hlp:0<ls.length
    ·have hlp': (0:Int) < (lsd.length:Int):=by omega
     have hlp'':0<lsd.length:=by omega
     exact cut 1 (by simp [tnodeE,hk,hn,hnn,hcl,hc,hb,hr,hlp]) (by decide) (by simp [bodyI,af121,getA0,k157,k167,k168,hk,hn,hn0,hc,hb,hlen,hl',hl,hlp,hlp',hlp''])
    have hlp': ¬(0:Int) < (lsd.length:Int):=by omega
    have hlp'': ¬0<lsd.length:=by omega
    cases ht0:tail != 0
    ·refine fin (by simp [tnodeE,hk,hn,hnn,hcl,hc,hb,hr,hlp,ht0]) ?_
     by_cases ht:te=0<;>simp [bodyI,af121,getA0,k157,k167,k168,hk,hn,hn0,hc,hb,hlen,hl',hl,hlp,hlp',hlp'',ht0,it0,ht]
    ·exact cut 1 (by simp [tnodeE,hk,hn,hnn,hcl,hc,hb,hr,hlp,ht0]) (by decide) (by simp [bodyI,af121,getA0,k157,k167,k168,hk,hn,hn0,hc,hb,hlen,hl',hl,hlp,hlp',hlp'',ht0])
   ·have hcl:classT k=0:=by simp [classT,hk1,hk6]
    have e1: (k==1)=false:=by simpa using hk1
    have e5: (k==5)=false:=by simpa using hk5
    have e6: (k==6)=false:=by simpa using hk6
    have n5: (k != 5)=true:=by simpa using hk5
    have n6: (k != 6)=true:=by simpa using hk6
    cases hc:isC s 0
    ·exact cut 4 (by simp [tnodeE,hk,hn,hg2,hcl,e1,e5,e6,n5,n6,hk5,hc]) (by decide) (by rcases h0 with h0|h0<;>simp [bodyI,af121,getA0,k157,k167,k168,hk,hn,h0,e1,e5,e6,n5,n6,hk5,hc])
    have hb:=isB_C0 hc
    by_cases hl:l.length=0
    rotate_left
    ·have hr:inR l.length (leastT k) (mostT k)=false:=by
      have e1:leastT k=0:=by simp [leastT,hk5,hk6]
      have e2:mostT k=0:=by simp [mostT,hk5,hk6]
      rw [e1,e2]
      unfold inR
      rw [decide_eq_false (p:=(l.length:Int)≤0) (by omega),Bool.and_false]
     have hl':0<l.length:=by omega
     exact cut 7 (by simp [tnodeE,hk,hn,hg2,hcl,e1,e5,e6,n5,n6,hk5,hc,hb,hr]) (by decide) (by rcases h0 with h0|h0<;>simp [bodyI,af121,getA0,k157,k167,k168,hk,hn,h0,e1,e5,e6,n5,n6,hk5,hc,hb,hlen,hl',hl])
    have hr:inR l.length (leastT k) (mostT k)=true:=by simp [inR,leastT,mostT,hl,hk5,hk6]
    have hl': ¬0<l.length:=by omega
    by_cases hlp:0<ls.length
    ·have hlp': (0:Int) < (lsd.length:Int):=by omega
     have hlp'':0<lsd.length:=by omega
     exact cut 1 (by simp [tnodeE,hk,hn,hg2,hcl,e1,e5,e6,n5,n6,hk5,hc,hb,hr,hlp]) (by decide) (by rcases h0 with h0|h0<;>simp [bodyI,af121,getA0,k157,k167,k168,hk,hn,h0,e1,e5,e6,n5,n6,hk5,hc,hb,hlen,hl',hl,hlp,hlp',hlp''])
    have hlp': ¬(0:Int) < (lsd.length:Int):=by omega
    have hlp'': ¬0<lsd.length:=by omega
    cases ht0:tail != 0
    ·refine fin (by simp [tnodeE,hk,hn,hg2,hcl,e1,e5,e6,n5,n6,hk5,hc,hb,hr,hlp,ht0]) ?_
     rcases h0 with h0|h0<;>by_cases ht:te=0<;>simp [bodyI,af121,getA0,k157,k167,k168,hk,hn,h0,e1,e5,e6,n5,n6,hk5,hc,hb,hlen,hl',hl,hlp,hlp',hlp'',ht0,it0,ht]
    ·exact cut 1 (by simp [tnodeE,hk,hn,hg2,hcl,e1,e5,e6,n5,n6,hk5,hc,hb,hr,hlp,ht0]) (by decide) (by rcases h0 with h0|h0<;>simp [bodyI,af121,getA0,k157,k167,k168,hk,hn,h0,e1,e5,e6,n5,n6,hk5,hc,hb,hlen,hl',hl,hlp,hlp',hlp'',ht0])
  exact CI_tree tab121 hτ rfl rfl
termination_by t=>SizeOf.sizeOf t
decreasing_by
 have:=List.sizeOf_lt_of_mem (List.getElem_mem hi)
 simp only [Ty.mk.sizeOf_spec]
 omega
theorem tysLeft_neg: ∀ (l:List Ty) (x d:Int),x<0→tysLeft l x d=x
 | [],_,_,_=>rfl
 |_::_,x,d,h=>by
  simp only [tysLeft]
  rw [if_neg (by omega)]
mutual
theorem Ty.take_eq: ∀ (t:Ty) (left d:Int),0≤left→((t.take left d).1=true↔0≤t.left left (201 - d))∧((t.take left d).1=true→(t.take left d).2=t.left left (201 - d))
 | .mk _ _ _ l ls _,left,d,h=>by
  simp only [Ty.take,Ty.left]
  by_cases h1:200<d
  ·rw [if_pos (.inr (.inl h1)),if_pos (.inl (by omega))]
   exact ⟨⟨fun h=>(by cases h),fun h=>(by omega)⟩,fun h=>(by cases h)⟩
  by_cases h2:24<ls.length
  ·rw [if_pos (.inr (.inr h2)),if_pos (.inr h2)]
   exact ⟨⟨fun h=>(by cases h),fun h=>(by omega)⟩,fun h=>(by cases h)⟩
  rw [if_neg (c:=201 - d<1∨24<ls.length) (fun h=>h.elim (by omega) h2)]
  by_cases h3:left - 1<0
  ·rw [if_pos (.inl h3),tysLeft_neg l _ _ h3]
   exact ⟨⟨fun h=>(by cases h),fun h=>(by omega)⟩,fun h=>(by cases h)⟩
  rw [if_neg (fun h=>h.elim h3 (fun h=>h.elim h1 h2))]
  have:=tysTake_eq l (left - 1) (d+1) (by omega)
  have e:201 - d - 1=201 - (d+1):=by omega
  rw [e]
  exact this
theorem tysTake_eq: ∀ (l:List Ty) (left d:Int),0≤left→((tysTake l left d).1=true↔0≤tysLeft l left (201 - d))∧((tysTake l left d).1=true→(tysTake l left d).2=tysLeft l left (201 - d))
 | [],left,d,h=>by
  simp only [tysTake,tysLeft]
  exact ⟨⟨fun _=>h,fun _=>trivial⟩,fun _=>trivial⟩
 |t::r,left,d,h=>by
  obtain ⟨h1,h2⟩:=t.take_eq left d h
  simp only [tysTake,tysLeft]
  rw [if_pos h]
  by_cases ht: (t.take left d).1=true
  ·rw [if_pos ht,h2 ht]
   exact tysTake_eq r _ d (h1.1 ht)
  ·rw [if_neg ht,tysLeft_neg r _ _ (by have:=mt h1.2 ht;omega)]
   have hn:=mt h1.2 ht
   exact ⟨⟨fun h=>(by cases h),fun h=>absurd h hn⟩,fun h=>(by cases h)⟩
end
theorem Ty.chk_left (t:Ty):t.chk=if t.left 3000 200<0 then 3 else t.e:=by
 obtain ⟨h1, -⟩:=t.take_eq 3000 1 (by omega)
 have e: (201:Int) - 1=200:=rfl
 rw [e] at h1
 unfold Ty.chk
 by_cases h: (t.take 3000 1).1=true
 ·rw [if_pos h,if_neg (by have:=h1.1 h;omega)]
 ·rw [if_neg h,if_pos (by have:=mt h1.2 h;omega)]
theorem tcl_node {k n:Int} {s:Bs} {len:Nat} {ls:List Lab} {tail:Int} (h:tnodeE k n s len ls tail=0) (hk:k=5):tail0 tail=tailC tail:=by
 unfold tnodeE at h
 subst hk
 split at h
 ·cases h
 split at h
 ·cases h
 split at h
 ·cases h
 rw [if_pos rfl] at h
 unfold rowE at h
 rw [firstE_app] at h
 have hr:inR tail (-1) 999999999=true:=by
  cases hr:inR tail (-1) 999999999
  ·rw [hr] at h
   split at h
   ·simp [firstE] at h
   ·rename_i h1;exact absurd h h1
  ·rfl
 unfold inR at hr
 unfold tail0 tailC
 simp at hr
 cases hb:tail != -1
 ·have:tail= -1:=by simpa using hb
  subst this
  rfl
 ·have: ¬tail= -1:=by simpa using hb
  exact decide_eq_true (by omega)
mutual
theorem Ty.cl_eq: ∀ (t:Ty),t.e=0→t.cl tailC=t.cl tail0
 | .mk k n s l ls tail,h=>by
  simp only [Ty.e] at h
  split at h
  ·rename_i h1
   simp only [Ty.cl]
   rw [tysCl_eq l h]
   cases hk:k==5
   ·simp
   ·rw [tcl_node h1 (by simpa using hk)]
  ·rename_i h1;exact absurd h h1
theorem tysCl_eq: ∀ (l:List Ty),tysE l=0→tysCl tailC l=tysCl tail0 l
 | [],_=>rfl
 |t::r,h=>by
  simp only [tysE] at h
  split at h
  ·rename_i h1
   simp only [tysCl]
   rw [t.cl_eq h1,tysCl_eq r h]
  ·rename_i h1;exact absurd h h1
end
theorem c71 (t:Ty) (hok:t.ok) (σ:St):CI (.fn 71) [.agg t.cs] σ=some (.ret (.int .i64 t.chk),σ):=by
 have hτ:bodyI CI XB GI af71 [.agg t.cs] σ=some (.ret (.int .i64 t.chk),σ++[.box t.cs]):=by
  have h120:=fun σ=>c120 t hok 3000 200 σ (by omega) (by omega) (by omega) (by omega)
  have h121:=fun σ=>c121 t hok σ
  have hall:t.cs.all D.one=true:=by cases t;rfl
  have y1:=t.cs_len
  have y2:=t.cs_take
  rw [t.chk_left]
  generalize t.left 3000 200=x at*
  generalize t.e=y at*
  generalize t.cs=xc at*
  by_cases hx:x<0
  ·simp [bodyI,af71,getA0,hall,y1,y2,h120,hx]
  ·simp [bodyI,af71,getA0,hall,y1,y2,h120,h121,hx]
 exact CI_tree tab71 hτ rfl rfl
theorem Ty.chk_e {t:Ty} (h:t.chk=0):t.e=0:=by
 unfold Ty.chk at h
 split at h
 ·exact h
 ·cases h
theorem c178 (t:Ty) (hok:t.ok) (σ:St):CI (.fn 178) [.agg t.cs] σ=some (.ret (.int .i64 (declE1 t)),σ):=by
 have hτ:bodyI CI XB GI af178 [.agg t.cs] σ=some (.ret (.int .i64 (declE1 t)),σ++[.box t.cs]):=by
  have h71:=fun σ=>c71 t hok σ
  have h204:=fun σ=>c204 t hok σ
  have hall:t.cs.all D.one=true:=by cases t;rfl
  have y1:=t.cs_len
  have y2:=t.cs_take
  unfold declE1
  by_cases hx:t.chk=0
  ·rw [t.cl_eq (Ty.chk_e hx)] at h204
   rw [if_pos hx]
   rw [hx] at h71
   generalize t.cs=xc at*
   cases hc:t.cl tail0
   ·rw [hc] at h204
    simp [bodyI,af178,getA0,hall,y1,y2,h71,h204]
   ·rw [hc] at h204
    simp [bodyI,af178,getA0,hall,y1,y2,h71,h204]
  ·have hx': (t.chk != 0)=true:=by simpa using hx
   rw [if_neg hx]
   generalize t.chk=x at*
   generalize t.cs=xc at*
   simp [bodyI,af178,getA0,hall,y1,y2,h71,hx,hx']
 exact CI_tree tab178 hτ rfl rfl
theorem tnode_labels {k n:Int} {s:Bs} {len:Nat} {ls:List Lab} {tail:Int} (h:tnodeE k n s len ls tail=0) (hk: ¬k=5):ls=[]:=by
 cases ls with
 |nil=>rfl
 |cons a r=>
  exfalso
  unfold tnodeE at h
  rw [if_neg hk] at h
  have: (decide (0< (a::r).length) || (tail != 0))=true:=by simp
  rw [if_pos this] at h
  split at h
  ·cases h
  split at h
  ·cases h
  split at h
  ·cases h
  ·cases h
theorem ordRN_eq (p:Prg) (params:List Bs) {k n:Int} {s:Bs} {len:Nat} {ls:List Lab} {tail:Int} (h:tnodeE k n s len ls tail=0):ordRN p params k s len ls=ordN p params k s len ls:=by
 unfold ordRN ordN datErr
 by_cases h5:k=5
 ·subst h5
  simp
 ·rw [tnode_labels h h5]
  by_cases h1:k=1
  ·subst h1
   cases hasS params s<;>simp [firstE]
  ·by_cases h6:k=6
   ·subst h6
    simp only [List.map_nil,firstE]
    cases hf:p.data.find? (fun x:Dat=>x.name==s) with
    |none=>simp
    |some d=>by_cases hp:d.params.length=len<;>simp [hp]
   ·simp [h1,h5,h6,firstE]
mutual
theorem Ty.ordR_eq (p:Prg) (params:List Bs): ∀ (t:Ty),t.e=0→t.ordR p params=t.ord p params
 | .mk k n s l ls tail,h=>by
  simp only [Ty.e] at h
  split at h
  ·rename_i h1
   simp only [Ty.ordR,Ty.ord]
   rw [tysOrdR_eq p params l h,ordRN_eq p params h1]
  ·rename_i h1;exact absurd h h1
theorem tysOrdR_eq (p:Prg) (params:List Bs): ∀ (l:List Ty),tysE l=0→tysOrdR p params l=tysOrd p params l
 | [],_=>rfl
 |t::r,h=>by
  simp only [tysE] at h
  split at h
  ·rename_i h1
   simp only [tysOrdR,tysOrd]
   rw [t.ordR_eq p params h1,tysOrdR_eq p params r h]
  ·rename_i h1;exact absurd h h1
end
theorem c134 (e:Eff) (hok:e.ok) (σ:St):CI (.fn 134) [e.d] σ=some (.ret (.int .i64 (effE e)),σ):=by
 rcases e with ⟨name,ops⟩
 obtain ⟨hol,ho⟩:=hok
 simp only at hol ho
 have hτ:bodyI CI XB GI af134 [Eff.d ⟨name,ops⟩] σ=some (.ret (.int .i64 (effE ⟨name,ops⟩)),σ++[.box [.str name, .slice (ops.map Opn.d)]]):=by
  have hlen: (ops.map Opn.d).length=ops.length:=by simp
  have hq: (σ++[Obj.box [.str name, .slice (ops.map Opn.d)]])[σ.length]? =some (.box [.str name, .slice (ops.map Opn.d)]):=getA0
  have hit:iterI (evalI CI XB GI 49 false lp134_0) [(1, .ptr σ.length 0),(3, .int .i64 0)] (σ++[Obj.box [.str name, .slice (ops.map Opn.d)]])=
   some (if firstE (ops.map opnE)=0 then (.exit 0,[(1, .ptr σ.length 0),(3, .int .i64 ops.length),(18, .bool false)],σ++[Obj.box [.str name, .slice (ops.map Opn.d)]]) else (.ret,[(2, .int .i64 (firstE (ops.map opnE)))],σ++[Obj.box [.str name, .slice (ops.map Opn.d)]])):=by
   generalize σ++[Obj.box [.str name, .slice (ops.map Opn.d)]]=σ1 at*
   refine loop_err ops (fun i=>[(1, .ptr σ.length 0),(3, .int .i64 (i:Nat))]) opnE (fun v=>(.ret,[(2, .int .i64 v)],σ1)) _ (by simp) (by simp) (fun i hi=> ?_) ?_
   ·have hw:=wrap_nat (n:=i) (by unfold maxL at hol;omega)
    have hx:=ho _ (List.getElem_mem hi)
    have hget: (ops.map Opn.d)[i]? =some (Opn.d ops[i]):=by simp [hi]
    generalize ops.map Opn.d=ld at*
    have h2:i<ld.length:=by omega
    have h3:ld[i]=Opn.d ops[i]:=by rw [List.getElem?_eq_getElem h2] at hget;exact Option.some.inj hget
    generalize ops[i]=x at*
    rcases x with ⟨on,arg,res,once⟩
    obtain ⟨ha,hb⟩:=hx
    simp only at ha hb
    have k1:=fun σ=>c178 arg ha σ
    have k2:=fun σ=>c178 res hb σ
    have hE:opnE ⟨on,arg,res,once⟩=if varW on then (if declE1 arg=0 then declE1 res else declE1 arg) else 4:=by
     simp only [opnE,declE,List.map_cons,List.map_nil,firstE]
     by_cases h:declE1 res=0<;>simp [h]
    rw [hE]
    simp only [Opn.d,Opn.cs] at*
    generalize declE1 arg=e1 at*
    generalize declE1 res=e2 at*
    rcases arg with ⟨k1',n1,s1,l1,ls1,t1⟩
    rcases res with ⟨k2',n2,s2,l2,ls2,t2⟩
    simp only [Ty.cs,List.cons_append,List.nil_append] at*
    generalize tysD l1=ld1 at*
    generalize tysD l2=ld2 at*
    generalize ls1.map Lab.d=lsd1 at*
    generalize ls2.map Lab.d=lsd2 at*
    cases hu:varW on
    ·simp [lp134_0,hq,hlen,hi,hw,h2,h3,c135,hu]
    ·by_cases h1:e1=0
     ·by_cases h4:e2=0
      ·simp [lp134_0,hq,hlen,hi,hw,h2,h3,c135,hu,k1,k2,h1,h4]
      ·have h4': (e2 != 0)=true:=by simpa using h4
       simp [lp134_0,hq,hlen,hi,hw,h2,h3,c135,hu,k1,k2,h1,h4,h4']
     ·have h1': (e1 != 0)=true:=by simpa using h1
      simp [lp134_0,hq,hlen,hi,hw,h2,h3,c135,hu,k1,h1,h1']
   ·generalize ops.map Opn.d=ld at*
    simp [lp134_0,hq,hlen]
  unfold effE
  simp only [Eff.d,Eff.cs] at*
  generalize ops.map Opn.d=ld at*
  generalize firstE (ops.map opnE)=fe at*
  by_cases h8:8<ops.length
  ·have h8': (8:Int) <ops.length:=by omega
   have h8'':8<ld.length:=by omega
   simp [bodyI,af134,getA0,h8,h8',h8'',hlen]
  have h8': ¬(8:Int) <ops.length:=by omega
  have h8'': ¬8<ld.length:=by omega
  cases hu:upW name
  ·simp [bodyI,af134,getA0,h8,h8',h8'',hlen,c176,hu]
  by_cases hf:fe=0
  ·simp [bodyI,af134,getA0,h8,h8',h8'',hlen,c176,hu,hit,hf]
  ·simp [bodyI,af134,getA0,h8,h8',h8'',hlen,c176,hu,hit,hf]
 exact CI_tree tab134 hτ rfl rfl
theorem it133 (l:List Ty) (hl:l.length≤maxL) (hok:tysOk l) (p:D) (i:Int) (nm:Bs) (q:Nat) (σ:St) (hq:σ[q]? =some (.box [.str nm, .slice (tysD l)])):
 iterI (evalI CI XB GI 64 false lp133_0) [(1,p),(4, .int .i64 i),(5, .ptr q 0),(6, .int .i64 0)] σ=
  some (if declE l=0 then (.exit 2,[(1,p),(4, .int .i64 i),(5, .ptr q 0),(6, .int .i64 l.length),(52, .bool false)],σ) else (.ret,[(2, .int .i64 (declE l))],σ)):=by
 have hlen:=tysD_len l
 unfold declE
 refine loop_err l (fun j=>[(1,p),(4, .int .i64 i),(5, .ptr q 0),(6, .int .i64 (j:Nat))]) declE1 (fun v=>(.ret,[(2, .int .i64 v)],σ)) _ (by simp) (by simp) (fun j hj=> ?_) ?_
 ·have hw:=wrap_nat (n:=j) (by unfold maxL at hl;omega)
  have hget: (tysD l)[j]? =some (.agg l[j].cs):=by rw [tysD_map];simp [Ty.d,hj]
  have ih:=c178 l[j] (tysOk_mem hok (List.getElem_mem hj)) σ
  generalize tysD l=ld at*
  have h2:j<ld.length:=by omega
  have h3:ld[j]= .agg l[j].cs:=by rw [List.getElem?_eq_getElem h2] at hget;exact Option.some.inj hget
  have y1:=l[j].cs_len
  have y2:=l[j].cs_take
  generalize l[j]=x at*
  generalize x.cs=xc at*
  generalize declE1 x=xe at*
  by_cases hb:xe=0
  ·simp [lp133_0,hq,hj,hw,hlen,h2,h3,y1,y2,ih,hb]
  ·have hb': (xe != 0)=true:=by simpa using hb
   simp [lp133_0,hq,hj,hw,hlen,h2,h3,y1,y2,ih,hb,hb']
 ·generalize tysD l=ld at*
  simp [lp133_0,hq,hlen]
theorem c133 (d:Dat) (hok:d.ok) (σ:St):CI (.fn 133) [d.d] σ=some (.ret (.int .i64 (datE d)),σ):=by
 rcases d with ⟨name,params,cons⟩
 obtain ⟨hpl,hcl,hco⟩:=hok
 simp only at hpl hcl hco
 obtain ⟨τ,hτ⟩: ∃τ,bodyI CI XB GI af133 [Dat.d ⟨name,params,cons⟩] σ=some (.ret (.int .i64 (datE ⟨name,params,cons⟩)),σ++τ):=by
  obtain ⟨τ,hit⟩:=loop_seek (f:=evalI CI XB GI 64 false lp133_1) (σ:=σ++[.box [.str name, .slice (params.map D.str), .slice (cons.map Con.d)]]) cons (fun i=>[(1, .ptr σ.length 0),(4, .int .i64 (i:Nat))]) (fun a=>conE a != 0) (fun a=>(.ret,[(2, .int .i64 (conE a))]))
   (.exit 0,[(1, .ptr σ.length 0),(4, .int .i64 cons.length),(32, .bool false)]) (by simp) (by simp)
   (fun i hi τ=>by
     have hw:=wrap_nat (n:=i) (by unfold maxL at hcl;omega)
     have hx:=hco _ (List.getElem_mem hi)
     have hlen: (cons.map Con.d).length=cons.length:=by simp
     have hget: (cons.map Con.d)[i]? =some (Con.d cons[i]):=by simp [hi]
     have hq: (σ++[Obj.box [.str name, .slice (params.map D.str), .slice (cons.map Con.d)]]++τ)[σ.length]? =some (.box [.str name, .slice (params.map D.str), .slice (cons.map Con.d)]):=by rw [List.append_assoc];exact getA0
     generalize hσ1:σ++[Obj.box [.str name, .slice (params.map D.str), .slice (cons.map Con.d)]]++τ=σ1 at*
     rcases hxx:cons[i] with ⟨cn,args⟩
     rw [hxx] at hx hget
     obtain ⟨ha,hb⟩:=hx
     simp only at ha hb
     have hal:=tysD_len args
     have hit2:=it133 args ha hb (.ptr σ.length 0) i cn σ1.length (σ1++[.box [.str cn, .slice (tysD args)]]) getA0
     have hq2: ∀x,(σ1++[x])[σ.length]? =some (.box [.str name, .slice (params.map D.str), .slice (cons.map Con.d)]):=fun x=>by
      have:=lt_of_get hq
      rw [List.getElem?_append_left this]
      exact hq
     refine ⟨τ++[.box [.str cn, .slice (tysD args)]], ?_⟩
     rw [←List.append_assoc]
     rw [hσ1]
     clear hσ1
     unfold conE
     simp only [Con.d,Con.cs] at*
     generalize cons.map Con.d=ld at*
     have h2:i<ld.length:=by omega
     have h3:ld[i]= .agg [.str cn, .slice (tysD args)]:=by rw [List.getElem?_eq_getElem h2] at hget;exact Option.some.inj hget
     generalize tysD args=ad at*
     by_cases h4:4<args.length
     ·have h4': (4:Int) <args.length:=by omega
      have h4'':4<ad.length:=by omega
      simp [lp133_1,fillD,putCells,hq,hlen,hi,hw,h2,h3,getA0,setA0,h4,h4',h4'',hal]
     ·have h4': ¬(4:Int) <args.length:=by omega
      have h4'': ¬4<ad.length:=by omega
      cases hu:upW cn
      ·simp [lp133_1,fillD,putCells,hq,hlen,hi,hw,h2,h3,getA0,setA0,h4,h4',h4'',hal,c176,hu]
      ·by_cases hd:declE args=0
       ·simp [lp133_1,fillD,putCells,hq,hq2,hlen,hi,hw,h2,h3,getA0,setA0,h4,h4',h4'',hal,c176,hu,hit2,hd]
       ·have hd': (declE args != 0)=true:=by simpa using hd
        simp [lp133_1,fillD,putCells,hq,hq2,hlen,hi,hw,h2,h3,getA0,setA0,h4,h4',h4'',hal,c176,hu,hit2,hd,hd'])
   (fun τ=>⟨τ,by
     have hq: (σ++[Obj.box [.str name, .slice (params.map D.str), .slice (cons.map Con.d)]]++τ)[σ.length]? =some (.box [.str name, .slice (params.map D.str), .slice (cons.map Con.d)]):=by rw [List.append_assoc];exact getA0
     have hlen: (cons.map Con.d).length=cons.length:=by simp
     generalize σ++[Obj.box [.str name, .slice (params.map D.str), .slice (cons.map Con.d)]]++τ=σ1 at*
     generalize cons.map Con.d=ld at*
     simp [lp133_1,hq,hlen]⟩) []
  rw [Int.natCast_zero,List.append_nil] at hit
  have hlen: (cons.map Con.d).length=cons.length:=by simp
  have h177:=fun σ=>c177 params σ hpl
  unfold datE
  simp only [Dat.d,Dat.cs] at*
  rw [firstE_find]
  simp only [slD] at*
  have hppl: (params.map D.str).length=params.length:=by simp
  generalize cons.map Con.d=ld at*
  generalize params.map D.str=pd at*
  by_cases h4:4<params.length
  ·have h4': (4:Int) <params.length:=by omega
   have h4'':4<pd.length:=by omega
   refine ⟨[.box [.str name, .slice pd, .slice ld]], ?_⟩
   simp [bodyI,af133,getA0,h4,h4',h4'',hppl]
  have h4': ¬(4:Int) <params.length:=by omega
  have h4'': ¬4<pd.length:=by omega
  by_cases h8:8<cons.length
  ·have h8': (8:Int) <cons.length:=by omega
   have h8'':8<ld.length:=by omega
   refine ⟨[.box [.str name, .slice pd, .slice ld]], ?_⟩
   simp [bodyI,af133,getA0,h4,h4',h4'',hppl,h8,h8',h8'',hlen]
  have h8': ¬(8:Int) <cons.length:=by omega
  have h8'': ¬8<ld.length:=by omega
  cases hu:upW name
  ·refine ⟨[.box [.str name, .slice pd, .slice ld]], ?_⟩
   simp [bodyI,af133,getA0,h4,h4',h4'',hppl,h8,h8',h8'',hlen,c176,hu]
  by_cases hd:distE params 1=0
  ·refine ⟨[.box [.str name, .slice pd, .slice ld]]++τ, ?_⟩
   rw [←List.append_assoc]
   rw [hd] at h177
   cases hf:cons.find? (fun a=>conE a != 0)<;>(rw [hf] at hit;simp [bodyI,af133,getA0,h4,h4',h4'',hppl,h8,h8',h8'',hlen,c176,hu,h177,hd,hit])
  ·have hd': (distE params 1 != 0)=true:=by simpa using hd
   refine ⟨[.box [.str name, .slice pd, .slice ld]], ?_⟩
   simp [bodyI,af133,getA0,h4,h4',h4'',hppl,h8,h8',h8'',hlen,c176,hu,h177,hd,hd']
 exact CI_tree tab133 hτ rfl rfl
mutual
def Ex.left:Ex→Int→Int→Int
 | .mk _ _ _ _ _ l arms,left,d=>if d<1 then -1 else armsLeft arms (exsLeft l (left - 1) (d - 1)) (d - 1)
def exsLeft:List Ex→Int→Int→Int
 | [],left,_=>left
 |x::r,left,d=>if 0≤left then exsLeft r (x.left left d) d else left
def armsLeft:List Arm→Int→Int→Int
 | [],left,_=>left
 | .mk _ _ x::r,left,d=>if 0≤left then armsLeft r (x.left left d) d else left
end
theorem exsLeft_neg: ∀ (l:List Ex) (x d:Int),x<0→exsLeft l x d=x
 | [],_,_,_=>rfl
 |_::_,x,d,h=>by
  simp only [exsLeft]
  rw [if_neg (by omega)]
theorem armsLeft_neg: ∀ (l:List Arm) (x d:Int),x<0→armsLeft l x d=x
 | [],_,_,_=>rfl
 | .mk _ _ _::_,x,d,h=>by
  simp only [armsLeft]
  rw [if_neg (by omega)]
mutual
theorem Ex.take_left2: ∀ (t:Ex) (d:Int) (b:Int × Int),0≤b.1→((t.take d b).1=true↔0≤t.left b.1 (201 - d))∧((t.take d b).1=true→(t.take d b).2.1=t.left b.1 (201 - d))
 | .mk _ _ _ _ _ l arms,d,b,h=>by
  simp only [Ex.take,Ex.left]
  by_cases h1:200<d
  ·rw [if_pos (.inr h1),if_pos (c:=201 - d<1) (by omega)]
   exact ⟨⟨fun h=>(by cases h),fun h=>(by omega)⟩,fun h=>(by cases h)⟩
  rw [if_neg (c:=201 - d<1) (by omega)]
  have e:201 - d - 1=201 - (d+1):=by omega
  rw [e]
  by_cases h3:b.1 - 1<0
  ·rw [if_pos (.inl h3),exsLeft_neg l _ _ h3,armsLeft_neg arms _ _ h3]
   exact ⟨⟨fun h=>(by cases h),fun h=>(by omega)⟩,fun h=>(by cases h)⟩
  rw [if_neg (fun h=>h.elim h3 h1)]
  obtain ⟨a1,a2⟩:=exsTake_left2 l (d+1) (b.1 - 1,if d>b.2 then d else b.2) (by simp;omega)
  generalize exsTake l (d+1) (b.1 - 1,if d>b.2 then d else b.2)=q at*
  by_cases ht:q.1=true
  ·rw [if_pos ht]
   have a2:=a2 ht
   have a1:=a1.1 ht
   simp only at a1 a2
   rw [←a2] at a1 ⊢
   exact armsTake_left2 arms (d+1) q.2 a1
  ·rw [if_neg ht]
   have hn:=mt a1.2 ht
   simp only at hn
   rw [armsLeft_neg arms _ _ (by omega)]
   exact ⟨⟨fun h=>(by cases h),fun h=>absurd h hn⟩,fun h=>(by cases h)⟩
theorem exsTake_left2: ∀ (l:List Ex) (d:Int) (b:Int × Int),0≤b.1→((exsTake l d b).1=true↔0≤exsLeft l b.1 (201 - d))∧((exsTake l d b).1=true→(exsTake l d b).2.1=exsLeft l b.1 (201 - d))
 | [],d,b,h=>by
  simp only [exsTake,exsLeft]
  exact ⟨⟨fun _=>h,fun _=>trivial⟩,fun _=>trivial⟩
 |t::r,d,b,h=>by
  obtain ⟨h1,h2⟩:=t.take_left2 d b h
  simp only [exsTake,exsLeft]
  rw [if_pos h]
  by_cases ht: (t.take d b).1=true
  ·rw [if_pos ht,←h2 ht]
   exact exsTake_left2 r d _ (by rw [h2 ht];exact h1.1 ht)
  ·have hn:=mt h1.2 ht
   rw [if_neg ht,exsLeft_neg r _ _ (by omega)]
   exact ⟨⟨fun h=>(by cases h),fun h=>absurd h hn⟩,fun h=>(by cases h)⟩
theorem armsTake_left2: ∀ (l:List Arm) (d:Int) (b:Int × Int),0≤b.1→((armsTake l d b).1=true↔0≤armsLeft l b.1 (201 - d))∧((armsTake l d b).1=true→(armsTake l d b).2.1=armsLeft l b.1 (201 - d))
 | [],d,b,h=>by
  simp only [armsTake,armsLeft]
  exact ⟨⟨fun _=>h,fun _=>trivial⟩,fun _=>trivial⟩
 | .mk _ _ t::r,d,b,h=>by
  obtain ⟨h1,h2⟩:=t.take_left2 d b h
  simp only [armsTake,armsLeft]
  rw [if_pos h]
  by_cases ht: (t.take d b).1=true
  ·rw [if_pos ht,←h2 ht]
   exact armsTake_left2 r d _ (by rw [h2 ht];exact h1.1 ht)
  ·have hn:=mt h1.2 ht
   rw [if_neg ht,armsLeft_neg r _ _ (by omega)]
   exact ⟨⟨fun h=>(by cases h),fun h=>absurd h hn⟩,fun h=>(by cases h)⟩
end
theorem armsLeft_map: ∀ (l:List Arm) (x d:Int),armsLeft l x d=exsLeft (l.map Arm.body) x d
 | [],_,_=>rfl
 | .mk _ _ b::r,x,d=>by
  simp only [armsLeft,List.map_cons,exsLeft,Arm.body,armsLeft_map r]
theorem exsLeft_app: ∀ (a b:List Ex) (x d:Int),exsLeft (a++b) x d=exsLeft b (exsLeft a x d) d
 | [],_,_,_=>rfl
 |y::r,b,x,d=>by
  simp only [List.cons_append,exsLeft]
  split
  ·exact exsLeft_app r b _ d
  ·rename_i h
   rw [exsLeft_neg b _ _ (by omega)]
theorem Ex.left_parts (k n:Int) (s t:Bs) (names:List Bs) (l:List Ex) (arms:List Arm) (x d:Int): (Ex.mk k n s t names l arms).left x d=if d<1 then -1 else exsLeft (l++arms.map Arm.body) (x - 1) (d - 1):=by
 simp only [Ex.left]
 rw [armsLeft_map,exsLeft_app]
mutual
theorem Ex.left_le: ∀ (t:Ex) (x d:Int),0≤x→ -1≤t.left x d∧t.left x d≤x
 | .mk _ _ _ _ _ l arms,x,d,h=>by
  simp only [Ex.left]
  split
  ·exact ⟨by omega,by omega⟩
  ·have h1:=exsLeft_le l (x - 1) (d - 1) (by omega)
   have h2:=armsLeft_le arms (exsLeft l (x - 1) (d - 1)) (d - 1) h1.1
   exact ⟨h2.1,by omega⟩
theorem exsLeft_le: ∀ (l:List Ex) (x d:Int), -1≤x→ -1≤exsLeft l x d∧exsLeft l x d≤x
 | [],x,d,h=>by simp only [exsLeft];exact ⟨h,by omega⟩
 |t::r,x,d,h=>by
  simp only [exsLeft]
  split
  ·rename_i h0
   obtain ⟨h1,h2⟩:=t.left_le x d h0
   have:=exsLeft_le r (t.left x d) d h1
   exact ⟨this.1,by omega⟩
  ·exact ⟨h,by omega⟩
theorem armsLeft_le: ∀ (l:List Arm) (x d:Int), -1≤x→ -1≤armsLeft l x d∧armsLeft l x d≤x
 | [],x,d,h=>by simp only [armsLeft];exact ⟨h,by omega⟩
 | .mk _ _ t::r,x,d,h=>by
  simp only [armsLeft]
  split
  ·rename_i h0
   obtain ⟨h1,h2⟩:=t.left_le x d h0
   have:=armsLeft_le r (t.left x d) d h1
   exact ⟨this.1,by omega⟩
  ·exact ⟨h,by omega⟩
end
theorem it132 (k n:Int) (s t:Bs) (nd:List D) (l:List Ex) (arms:List Arm) (hl:l.length≤maxL) (ha:arms.length≤maxL) (d:Int) (hd0:1≤d) (hd1:d≤1000) (p:Nat) (σ:St) (hσ:σ[p]? =some (.box [.int .i64 k, .int .i64 n, .str s, .str t, .slice nd, .slice (exsD l), .slice (armsD arms)]))
 (ih: ∀x ∈ l++arms.map Arm.body,∀ (left:Int),0≤left→left≤1000000→CI (.fn 132) [.agg x.cs, .int .i64 left, .int .i64 (d - 1)] σ=some (.ret (.int .i64 (x.left left (d - 1))),σ)):
 ∀ (r pre:List Ex),pre++r=l++arms.map Arm.body→ ∀ (left:Int), -1≤left→left≤1000000→ ∀ (m:Nat),m=pre.length→
 ∃j:Int,iterI (evalI CI XB GI 58 false lp132_0) [(1, .int .i64 left),(2, .int .i64 d),(3, .ptr p 0),(7, .int .i64 (l.length+arms.length:Nat)),(8, .int .i64 (m:Nat))] σ=
  some (.exit 0,[(1, .int .i64 (exsLeft r left (d - 1))),(2, .int .i64 d),(3, .ptr p 0),(7, .int .i64 (l.length+arms.length:Nat)),(8, .int .i64 j),(26, .bool false)],σ)
 | [],pre,hp,left,h0,h1,m,hm=>by
  refine ⟨(m:Int),iterI_end ?_ (by simp)⟩
  have hmm:m=l.length+arms.length:=by
   have:=congrArg List.length hp
   simp at this
   omega
  generalize hN:l.length+arms.length=N at*
  have hnm: ¬(m:Int) < (N:Int):=by omega
  simp [lp132_0,hσ,hmm,exsLeft]
 |x::r,pre,hp,left,h0,h1,m,hm=>by
  have hmt:m<l.length+arms.length:=by
   have:=congrArg List.length hp
   simp at this
   omega
  have hmt': (m:Int) < ((l.length+arms.length:Nat):Int):=by omega
  have hget: (l++arms.map Arm.body)[m]? =some x:=by rw [←hp,hm];simp
  have hw:=wrap_nat (n:=m) (by unfold maxL at hl ha;omega)
  have hwd:IntKind.i64.wrap (d - 1)=d - 1:=wrap_i64 (by omega) (by omega)
  have hel:=exsD_len l
  have hal:=armsD_len arms
  have y1:=x.cs_len
  have y2:=x.cs_take
  by_cases hlt:0≤left
  ·have hx:=ih x (List.mem_of_getElem? hget) left hlt h1
   have ht:=x.left_le left (d - 1) hlt
   obtain ⟨j,ih2⟩:=it132 k n s t nd l arms hl ha d hd0 hd1 p σ hσ ih r (pre++[x]) (by rw [←hp];simp) (x.left left (d - 1)) ht.1 (by omega) (m+1) (by simp [hm])
   refine ⟨j, ?_⟩
   simp only [exsLeft,if_pos hlt]
   rw [←ih2]
   refine iterI_next ?_
   by_cases hml:m<l.length
   ·rw [List.getElem?_append_left hml] at hget
    have hg: (exsD l)[m]? =some (.agg x.cs):=by rw [exsD_map,List.getElem?_map,hget];rfl
    have hml': (m:Int) < (l.length:Int):=by omega
    generalize exsD l=ed at*
    generalize armsD arms=ad at*
    generalize hN:l.length+arms.length=N at*
    have h2:m<ed.length:=by omega
    have h3:ed[m]= .agg x.cs:=by rw [List.getElem?_eq_getElem h2] at hg;exact Option.some.inj hg
    generalize x.left left (d - 1)=xl at*
    generalize x.cs=xc at*
    simp [lp132_0,hσ,hmt,hmt',hml,hml',hel,h2,h3,y1,y2,hw,hwd,hlt,hx]
   ·rw [List.getElem?_append_right (by omega),List.getElem?_map] at hget
    obtain ⟨a,hga,rfl⟩:=Option.map_eq_some_iff.1 hget
    have hg: (armsD arms)[m - l.length]? =some (Arm.d a):=by rw [armsD_map,List.getElem?_map,hga];rfl
    have hml': ¬(m:Int) < (l.length:Int):=by omega
    have hws:IntKind.i64.wrap ((m:Int) - (l.length:Int))=((m - l.length:Nat):Int):=by rw [wrap_i64 (by omega) (by unfold maxL at hl ha;omega)];omega
    have hqa:m - l.length<arms.length:=by omega
    generalize exsD l=ed at*
    generalize armsD arms=ad at*
    generalize hN:l.length+arms.length=N at*
    generalize m - l.length=q at*
    have h2:q<ad.length:=by
     cases h:ad[q]? with
     |none=>rw [h] at hg;cases hg
     |some _=>exact (List.getElem?_eq_some_iff.1 h).1
    have h3:ad[q]=Arm.d a:=by rw [List.getElem?_eq_getElem h2] at hg;exact Option.some.inj hg
    rcases a with ⟨op,names,body⟩
    simp only [Arm.d,Arm.cs,Arm.body] at*
    generalize body.left left (d - 1)=xl at*
    generalize body.cs=xc at*
    simp [lp132_0,hσ,hmt,hmt',hml,hml',hel,hal,hqa,h2,h3,y1,y2,hw,hwd,hws,hlt,hx]
  ·refine ⟨(m:Int),iterI_end ?_ (by simp)⟩
   simp only [exsLeft,if_neg hlt]
   generalize l.length+arms.length=N at*
   simp [lp132_0,hσ,hmt,hmt',hlt]
theorem c132: ∀ (x:Ex),x.ok→ ∀ (left d:Int) (σ:St),0≤left→left≤1000000→0≤d→d≤1000→
 CI (.fn 132) [.agg x.cs, .int .i64 left, .int .i64 d] σ=some (.ret (.int .i64 (x.left left d)),σ)
 | .mk k n s t names l arms,hok,left,d,σ,h0,h1,hd0,hd1=>by
  have hw:IntKind.i64.wrap (left - 1)=left - 1:=wrap_i64 (by omega) (by omega)
  have ih:=fun x (hx:x ∈ l++arms.map Arm.body) (left d:Int) (σ:St)=>c132 x (Ex.parts_ok hok hx) left d σ
  obtain ⟨hn1,hl1,ha1, -⟩:=hok
  have hel:=exsD_len l
  have hal:=armsD_len arms
  have hws:IntKind.i64.wrap ((l.length:Int) + (arms.length:Int))=((l.length+arms.length:Nat):Int):=by rw [wrap_i64 (by omega) (by unfold maxL at*;omega)];omega
  have hτ:bodyI CI XB GI af132 [.agg (Ex.mk k n s t names l arms).cs, .int .i64 left, .int .i64 d] σ=some (.ret (.int .i64 ((Ex.mk k n s t names l arms).left left d)),σ++[.box (Ex.mk k n s t names l arms).cs]):=by
   rw [Ex.left_parts]
   by_cases hdd:d<1
   ·rw [if_pos hdd]
    simp only [Ex.cs]
    generalize exsD l=ed at*
    generalize armsD arms=ad at*
    simp [bodyI,af132,getA0,hw,hdd]
   ·rw [if_neg hdd]
    obtain ⟨j,hit⟩:=it132 k n s t (names.map D.str) l arms hl1 ha1 d (by omega) hd1 σ.length (σ++[.box (Ex.mk k n s t names l arms).cs]) (by rw [getA0];rfl) (fun x hx left h0 h1=>ih x hx left (d - 1) _ h0 h1 (by omega) (by omega)) _ [] rfl (left - 1) (by omega) (by omega) 0 rfl
    rw [Int.natCast_zero] at hit
    generalize exsLeft (l++arms.map Arm.body) (left - 1) (d - 1)=v at*
    simp only [Ex.cs] at hit ⊢
    generalize exsD l=ed at*
    generalize armsD arms=ad at*
    generalize hN:l.length+arms.length=N at*
    simp [bodyI,af132,getA0,hw,hdd,hel,hal,hws,hit]
  exact CI_tree tab132 hτ rfl rfl
termination_by x=>SizeOf.sizeOf x
decreasing_by
 rcases List.mem_append.1 hx with h|h
 ·have:=List.sizeOf_lt_of_mem h
  simp only [Ex.mk.sizeOf_spec]
  omega
 ·obtain ⟨a,ha,rfl⟩:=List.mem_map.1 h
  have:=List.sizeOf_lt_of_mem ha
  rcases a with ⟨op,nm,b⟩
  simp only [Ex.mk.sizeOf_spec,Arm.mk.sizeOf_spec,Arm.body] at*
  omega
theorem it206 (k n:D) (s t:D) (l arms:D) (a:Bs) (p:Nat) (σ:St): ∀ (r pre:List Bs),(a::(pre++r)).length≤maxL→σ[p]? =some (.box [k,n,s,t,slD (a::(pre++r)),l,arms])→ ∀m,m=pre.length+1→
 iterI (evalI CI XB GI 42 false lp206_0) [(1, .ptr p 0),(4, .int .i64 (m:Nat))] σ=
  some (if distFrom pre r 2=0 then (.exit 0,[(1, .ptr p 0),(4, .int .i64 (a::(pre++r)).length),(22, .bool false)],σ) else (.ret,[(2, .int .i64 (distFrom pre r 2))],σ))
 | [],pre,hl,hσ,m,hm=>by
  have:m=(a::(pre++([]:List Bs))).length:=by rw [hm];simp
  refine iterI_end ?_ (by simp [distFrom])
  generalize a::(pre++([]:List Bs))=q at*
  simp [lp206_0,hσ,this,distFrom]
 |s1::r,pre,hl,hσ,m,hm=>by
  have hmt:m< (a::(pre++s1::r)).length:=by simp;omega
  have hget: (a::(pre++s1::r))[m]? =some s1:=by rw [hm];simp
  have htk: (((a::(pre++s1::r)).map D.str).take m).drop 1=pre.map D.str:=by rw [hm];simp
  have htk2: (((a::(pre++s1::r)).map D.str).drop 1).take (m - 1)=pre.map D.str:=by rw [hm];simp
  have hw:=wrap_nat (n:=m) (by unfold maxL at hl;omega)
  have h122:=h122 pre s1 σ (by unfold maxL at*;simp at hl;omega)
  have hp:pre++[s1]++r=pre++s1::r:=by simp
  have ih:=it206 k n s t l arms a p σ r (pre++[s1]) (by rw [hp];exact hl) (by rw [hp];exact hσ) (m+1) (by simp [hm])
  rw [hp] at ih
  simp only [distFrom]
  simp only [slD] at h122
  generalize hq:a::(pre++s1::r)=q at*
  have h3:q[m]=s1:=by rw [List.getElem?_eq_getElem hmt] at hget;exact Option.some.inj hget
  have hm': (m:Int)≤q.length:=by omega
  have hm1: (1:Int)≤m:=by omega
  have hv:isC s1 2=upW s1:=rfl
  have q122:qI 122=false:=rfl
  have x122:XB 122=false:=rfl
  by_cases hc:upW s1=true
  ·by_cases hh:hasS pre s1=true
   ·simp only [hv,hc,hh,if_true]
    refine iterI_end ?_ (by simp)
    rw [hh] at h122
    simp [lp206_0,hσ,hmt,h3,c176,hc,bound,hm',hm1,htk,htk2,h122,q122,x122,Nat.testBit_eq_decide_div_mod_eq]
   ·simp only [hv,hc,if_true,if_neg hh]
    rw [←ih]
    refine iterI_next ?_
    rw [Bool.not_eq_true] at hh
    rw [hh] at h122
    simp [lp206_0,hσ,hmt,h3,c176,hc,hw,bound,hm',hm1,htk,htk2,h122,q122,x122,Nat.testBit_eq_decide_div_mod_eq]
  ·simp only [hv,if_neg hc]
   refine iterI_end ?_ (by simp)
   rw [Bool.not_eq_true] at hc
   simp [lp206_0,hσ,hmt,h3,c176,hc]
def namesE (k:Int) (names:List Bs):Int:=
 if distE (names.take (if k=17 then 1 else names.length)) 1=0 then distE (names.drop (if k=17 then 1 else names.length)) 2
 else distE (names.take (if k=17 then 1 else names.length)) 1
theorem c206 (k n:Int) (s t:Bs) (names:List Bs) (l:List Ex) (arms:List Arm) (hl:names.length≤maxL) (h17:k=17→0<names.length) (σ:St):
 CI (.fn 206) [.agg (Ex.mk k n s t names l arms).cs] σ=some (.ret (.int .i64 (namesE k names)),σ):=by
 have hτ:bodyI CI XB GI af206 [.agg (Ex.mk k n s t names l arms).cs] σ=some (.ret (.int .i64 (namesE k names)),σ++[.box (Ex.mk k n s t names l arms).cs]):=by
  unfold namesE
  by_cases hk:k=17
  ·subst hk
   have h17:=h17 rfl
   rcases names with _| ⟨a,r⟩
   ·simp at h17
   ·have hit:=it206 (.int .i64 17) (.int .i64 n) (.str s) (.str t) (.slice (exsD l)) (.slice (armsD arms)) a σ.length (σ++[.box (Ex.mk 17 n s t (a::r) l arms).cs]) r [] hl (by rw [getA0];rfl) 1 rfl
    have h177:=fun σ=>c177 [a] σ (by unfold maxL;simp)
    have e1: (if (17:Int)=17 then 1 else (a::r).length)=1:=rfl
    rw [e1]
    simp only [List.take_succ_cons,List.take_zero,List.drop_succ_cons,List.drop_zero]
    have hr:distFrom [] r 2=distE r 2:=rfl
    rw [hr] at hit
    simp only [Ex.cs,slD,List.nil_append,List.map_cons,List.map_nil] at*
    generalize exsD l=ed at*
    generalize armsD arms=ad at*
    have hb: (1:Int)≤(r.length:Int) +1:=by omega
    rw [show ((1:Nat):Int)=1 from rfl] at hit
    by_cases hd:distE [a] 1=0
    ·rw [hd] at h177
     rw [if_pos hd]
     by_cases he:distE r 2=0
     ·rw [if_pos he] at hit
      simp [bodyI,af206,getA0,bound,hb,h177,he,hit]
     ·rw [if_neg he] at hit
      simp [bodyI,af206,getA0,bound,hb,h177,hit]
    ·have hd': (distE [a] 1 != 0)=true:=by simpa using hd
     rw [if_neg hd]
     simp [bodyI,af206,getA0,bound,hb,h177,hd']
  ·have h177:=fun σ=>c177 names σ hl
   have hk': (k != 17)=true:=by simpa using hk
   rw [if_neg hk,List.take_length,List.drop_length]
   have e:distE [] 2=0:=rfl
   have e2: (if distE names 1=0 then distE [] 2 else distE names 1)=distE names 1:=by rw [e];split<;>simp_all
   rw [e2]
   simp only [Ex.cs,slD] at*
   generalize exsD l=ed at*
   generalize armsD arms=ad at*
   simp [bodyI,af206,getA0,hk',h177]
 exact CI_tree tab206 hτ rfl rfl
def Sh.r (x:Sh):List D:=[.int .i64 x.s, .int .i64 x.t, .int .i64 x.n, .int .i64 x.p, .bool x.a, .int .i64 x.lo, .int .i64 x.hi]
def shapesR:List D:=shapesL.map fun x=> .agg x.r
theorem c205 (σ:St):CI (.fn 205) [] σ=some (.ret (.slice shapesR),σ):=by
 refine CI_tree0 tab205 (d:= .slice shapesR) ?_ rfl rfl
 simp [bodyI,af205,shapesR,shapesL,Sh.r,fillRow,fillD,putCells]
theorem hasS_ops (l:List Arm) (s:Bs):hasS (l.map Arm.op) s= !(l.all fun a=> !(a.op==s)):=by
 unfold hasS
 induction l with
 |nil=>rfl
 |cons a r ih=>
  simp only [List.map_cons,List.contains_cons,List.all_cons,Bool.not_and,Bool.not_not,ih]
  cases h:s==a.op
  ·have: (a.op==s)=false:=by
    cases h2:a.op==s
    ·rfl
    ·rw [eq_of_beq h2] at h;simp at h
   rw [this]
  ·have: (a.op==s)=true:=by rw [eq_of_beq h];simp
   rw [this]
theorem it207 (arms:List Arm) (hl:arms.length≤maxL) (i:Nat) (hi:i<arms.length) (c0 c1 c2 c3 c4 c5:D) (rest:List D) (op:Bs) (b:D) (p q:Nat) (σ:St) (hp:σ[p]? =some (.box [c0,c1,c2,c3,c4,c5, .slice (armsD arms)])) (hq:σ[q]? =some (.box (.str op::rest))):
 iterI (evalI CI XB GI 116 false lp207_0) [(1, .ptr p 0),(3,b),(4, .int .i64 (i:Nat)),(5, .ptr q 0),(8, .int .i64 0)] σ=
  some (if hasS ((arms.take i).map Arm.op) op then (.ret,[(2, .int .i64 5)],σ) else (.exit 2,[(1, .ptr p 0),(3,b),(4, .int .i64 (i:Nat)),(5, .ptr q 0),(8, .int .i64 (i:Nat)),(97, .bool false)],σ)):=by
 have hlen: (arms.take i).length=i:=by simp;omega
 have hal:=armsD_len arms
 have:=loop_all (f:=evalI CI XB GI 116 false lp207_0) (σ:=σ) (arms.take i) (fun j=>[(1, .ptr p 0),(3,b),(4, .int .i64 (i:Nat)),(5, .ptr q 0),(8, .int .i64 (j:Nat))]) (fun a=> !(a.op==op)) (.ret,[(2, .int .i64 5)],σ) (.exit 2,[(1, .ptr p 0),(3,b),(4, .int .i64 (i:Nat)),(5, .ptr q 0),(8, .int .i64 (i:Nat)),(97, .bool false)],σ) (by simp) (by simp)
  (fun j hj=>by
    rw [hlen] at hj
    have hw:=wrap_nat (n:=j) (by unfold maxL at hl;omega)
    have hja:j<arms.length:=by omega
    have hget: (armsD arms)[j]? =some (Arm.d arms[j]):=by rw [armsD_map];simp [hja]
    have hjt: (arms.take i)[j]'(by rw [hlen];exact hj)=arms[j]:=by simp
    rw [hjt]
    clear hjt
    have hji: (j:Int) < (i:Int):=by omega
    generalize armsD arms=ad at*
    have h2:j<ad.length:=by omega
    have h3:ad[j]=Arm.d arms[j]:=by rw [List.getElem?_eq_getElem h2] at hget;exact Option.some.inj hget
    generalize arms[j]=a at*
    obtain ⟨Q,hQ⟩: ∃Q,(a.op==op)=Q:=⟨_,rfl⟩
    rw [hQ]
    rcases a with ⟨aop,nm,body⟩
    have y1:=body.cs_len
    simp only [Arm.d,Arm.cs,Arm.op] at*
    cases Q<;>simp [lp207_0,hp,hq,hj,hji,hw,hal,hja,h2,h3,y1,hQ,Nat.testBit_eq_decide_div_mod_eq])
  (by rw [hlen];simp [lp207_0])
 rw [Int.natCast_zero] at this
 rw [this,hasS_ops]
 cases (arms.take i).all fun a=> !(a.op==op)<;>rfl
set_option maxHeartbeats 4000000 in
theorem rnd207 (k n:Int) (s t:Bs) (names l:List D) (p:Nat) (pre r:List Arm) (a:Arm) (hl: (pre++a::r).length≤maxL) (hok:a.ok) (σ:St) (hσ:σ[p]? =some (.box [.int .i64 k, .int .i64 n, .str s, .str t, .slice names, .slice l, .slice (armsD (pre++a::r))])) (m:Nat) (hm:m=pre.length):
 evalI CI XB GI 116 false lp207_1 [(1, .ptr p 0),(3, .bool (k != 11)),(4, .int .i64 (m:Nat))] σ=
  some (if armE k (pre.map Arm.op) a=0 then (.normal,[(1, .ptr p 0),(3, .bool (k != 11)),(4, .int .i64 (m+1:Nat))],σ++[.box a.cs]) else (.ret,[(2, .int .i64 (armE k (pre.map Arm.op) a))],σ++[.box a.cs])):=by
 have hmt:m< (pre++a::r).length:=by simp;omega
 have hget: (armsD (pre++a::r))[m]? =some (.agg a.cs):=by rw [armsD_map,hm];simp [Arm.d]
 have hw:=wrap_nat (n:=m) (by unfold maxL at hl;simp at hl;omega)
 have htk: ((pre++a::r).take m).map Arm.op=pre.map Arm.op:=by rw [hm];simp
 have hlen:=armsD_len (pre++a::r)
 have hpl: (pre.map Arm.op==[])=decide (m=0):=by
  rw [Bool.eq_iff_iff]
  simp only [beq_iff_eq,decide_eq_true_eq,List.map_eq_nil_iff]
  rw [hm,List.length_eq_zero_iff]
 have h0:m=0→hasS (pre.map Arm.op) a.op=false:=fun h=>by
  rw [hm,List.length_eq_zero_iff] at h;subst h;rfl
 have hq: (σ++[Obj.box a.cs])[σ.length]? =some (.box (.str a.op::slD a.names::a.body.cs)):=by rw [getA0,Arm.cs_eq];rfl
 have hit:=fun b=>it207 (pre++a::r) hl m hmt (.int .i64 k) (.int .i64 n) (.str s) (.str t) (.slice names) (.slice l) (slD a.names::a.body.cs) a.op b p σ.length (σ++[Obj.box a.cs]) (getO hσ) hq
 rw [htk] at hit
 have ha':a.names.length≤maxL:=by
  rcases a with ⟨_,_,_⟩
  exact hok.1
 have h177:=fun σ=>c177 a.names σ ha'
 have hbl:=a.body.cs_len
 have hbd:=a.body.cs_all
 have hbt:a.body.cs.take 7=a.body.cs:=List.take_of_length_le (by omega)
 rw [Arm.cs_eq] at*
 unfold armE armF armC
 rw [hpl]
 have hnl: (a.names.map D.str).length=a.names.length:=by simp
 simp only [slD] at*
 generalize hasS (pre.map Arm.op) a.op=hs at*
 generalize (pre++a::r).length=q at*
 generalize armsD (pre++a::r)=ad at*
 generalize a.op=xo at*
 generalize distE a.names 1=dE at*
 generalize a.names.length=nl at*
 generalize a.names.map D.str=nd at*
 generalize a.body.cs=bd at*
 have h2:m<ad.length:=by omega
 have h3:ad[m]= .agg (.str xo:: .slice nd::bd):=by rw [List.getElem?_eq_getElem h2] at hget;exact Option.some.inj hget
 have hmt': (m:Int) <q:=by omega
 by_cases hk:k=11
 ·subst hk
  simp only [beq_self_eq_true,if_true]
  have hne: ((11:Int) != 11)=false:=rfl
  rw [hne]
  by_cases h4:nl≤4
  ·have h4': (nl:Int)≤4:=by omega
   have h4'': ¬(4:Int) <nl:=by omega
   have h5: ((2:Int) != 0)=true:=rfl
   simp only [decide_eq_true h4,if_true,h5,Bool.true_and]
   cases hc:isC xo 2
   ·simp [lp207_1,hσ,hmt,hmt',hw,hlen,h2,h3,getA0,setA0,hbl,hbt,hbd,hnl,h4'',c167,hc]
   ·by_cases hd:dE=0
    ·subst hd
     cases hs
     ·simp [lp207_1,hσ,hmt,hmt',hw,hlen,h2,h3,getA0,setA0,hbl,hbt,hbd,hnl,h4'',c167,hc,h177,hit]
     ·simp [lp207_1,hσ,hmt,hmt',hw,hlen,h2,h3,getA0,setA0,hbl,hbt,hbd,hnl,h4'',c167,hc,h177,hit]
    ·have hd': (dE != 0)=true:=by simpa using hd
     simp [lp207_1,hσ,hmt,hmt',hw,hlen,h2,h3,getA0,setA0,hbl,hbt,hbd,hnl,h4'',c167,hc,h177,hd,hd']
  ·have h4': (4:Int) <nl:=by omega
   simp [lp207_1,hσ,hmt,hmt',hw,hlen,h2,h3,getA0,setA0,hbl,hbt,hbd,hnl,h4,h4',c167]
 ·have hk1: (k==11)=false:=by simpa using hk
  have hk2: (k != 11)=true:=by simpa using hk
  rw [hk1,hk2]
  have e1: ((nl:Int) ==1)=decide (nl=1):=by rw [Bool.eq_iff_iff];simp;omega
  have e2: ((nl:Int) ==2)=decide (nl=2):=by rw [Bool.eq_iff_iff];simp;omega
  have e1b: ((nl:Int) != 1)= !decide (nl=1):=by rw [bne,e1]
  have e2b: ((nl:Int) != 2)= !decide (nl=2):=by rw [bne,e2]
  have b0: (nl==1)=decide (nl=1):=by rw [Bool.eq_iff_iff];simp
  have b2: (nl==2)=decide (nl=2):=by rw [Bool.eq_iff_iff];simp
  rw [b0,b2]
  by_cases hm0:m=0
  ·subst hm0
   have h0:=h0 rfl
   subst h0
   have hr:nReturn=[114,101,116,117,114,110]:=rfl
   rw [hr]
   simp only [Int.natCast_zero] at hit
   have hw1:IntKind.i64.wrap 1=1:=rfl
   cases ho:xo==[114,101,116,117,114,110]
   ·simp [lp207_1,hσ,hmt,hmt',hw,hlen,h2,h3,getA0,setA0,hbl,hbt,hbd,hnl,c167,ho]
   ·by_cases h1:nl=1
    ·by_cases hd:dE=0
     ·subst hd
      simp [lp207_1,hσ,hmt,hmt',hw,hlen,h2,h3,getA0,setA0,hbl,hbt,hbd,hnl,c167,ho,e1,e1b,h1,h177,hit,hw1]
     ·have hd': (dE != 0)=true:=by simpa using hd
      simp [lp207_1,hσ,hmt,hmt',hw,hlen,h2,h3,getA0,setA0,hbl,hbt,hbd,hnl,c167,ho,e1,e1b,h1,h177,hd,hd']
    ·simp [lp207_1,hσ,hmt,hmt',hw,hlen,h2,h3,getA0,setA0,hbl,hbt,hbd,hnl,c167,ho,e1,e1b,h1]
  ·have hm1: ((m:Int) ==0)=false:=by simpa using hm0
   have h5: ((1:Int) != 0)=true:=rfl
   by_cases h1:nl=2
   ·cases hc:isC xo 1
    ·cases hc2:isC xo 2<;>simp [lp207_1,hσ,hmt,hmt',hw,hlen,h2,h3,getA0,setA0,hbl,hbt,hbd,hnl,c167,hm0,hm1,e2,e2b,h1,hc,hc2]
    ·by_cases hd:dE=0
     ·subst hd
      cases hc2:isC xo 2<;>cases hs<;>simp [lp207_1,hσ,hmt,hmt',hw,hlen,h2,h3,getA0,setA0,hbl,hbt,hbd,hnl,c167,hm0,hm1,e2,e2b,h1,hc,hc2,h177,hit]
     ·have hd': (dE != 0)=true:=by simpa using hd
      cases hc2:isC xo 2<;>simp [lp207_1,hσ,hmt,hmt',hw,hlen,h2,h3,getA0,setA0,hbl,hbt,hbd,hnl,c167,hm0,hm1,e2,e2b,h1,hc,hc2,h177,hd,hd']
   ·simp [lp207_1,hσ,hmt,hmt',hw,hlen,h2,h3,getA0,setA0,hbl,hbt,hbd,hnl,c167,hm0,hm1,e2,e2b,h1]
theorem it207o (k n:Int) (s t:Bs) (names l:List D) (p:Nat): ∀ (r pre:List Arm),(pre++r).length≤maxL→armsOk (pre++r)→ ∀ (σ:St),σ[p]? =some (.box [.int .i64 k, .int .i64 n, .str s, .str t, .slice names, .slice l, .slice (armsD (pre++r))])→ ∀m,m=pre.length→
 ∃τ,iterI (evalI CI XB GI 116 false lp207_1) [(1, .ptr p 0),(3, .bool (k != 11)),(4, .int .i64 (m:Nat))] σ=
  some (if armsE k (pre.map Arm.op) r=0 then (.exit 0,[(1, .ptr p 0),(3, .bool (k != 11)),(4, .int .i64 (pre++r).length),(16, .bool false)],σ++τ) else (.ret,[(2, .int .i64 (armsE k (pre.map Arm.op) r))],σ++τ))
 | [],pre,hl,hok,σ,hσ,m,hm=>by
  have:m=(pre++([]:List Arm)).length:=by rw [hm];simp
  have hlen:=armsD_len (pre++([]:List Arm))
  refine ⟨[],iterI_end ?_ (by simp [armsE])⟩
  generalize (pre++([]:List Arm)).length=q at*
  generalize armsD (pre++([]:List Arm))=ad at*
  simp [lp207_1,hσ,hlen,this,armsE]
 |a::r,pre,hl,hok,σ,hσ,m,hm=>by
  have hr:=rnd207 k n s t names l p pre r a hl (armsOk_mem hok (by simp)) σ hσ m hm
  simp only [armsE]
  by_cases he:armE k (pre.map Arm.op) a=0
  ·simp only [if_pos he] at hr ⊢
   have hp:pre++[a]++r=pre++a::r:=by simp
   obtain ⟨τ,ih⟩:=it207o k n s t names l p r (pre++[a]) (by rw [hp];exact hl) (by rw [hp];exact hok) (σ++[.box a.cs]) (by rw [hp];exact getO hσ) (m+1) (by simp [hm])
   rw [hp] at ih
   simp only [List.map_append,List.map_cons,List.map_nil] at ih
   rw [iterI_next hr,ih]
   exact ⟨[.box a.cs]++τ,by rw [←List.append_assoc]⟩
  ·simp only [if_neg he] at hr ⊢
   exact ⟨[.box a.cs],iterI_end hr (by simp)⟩
def armsR (k:Int) (arms:List Arm):Int:=if armsE k [] arms=0 then (if k != 11&&decide (arms.length=0) then 7 else 0) else armsE k [] arms
theorem c207 (k n:Int) (s t:Bs) (names:List Bs) (l:List Ex) (arms:List Arm) (hl:arms.length≤maxL) (hok:armsOk arms) (σ:St):CI (.fn 207) [.agg (Ex.mk k n s t names l arms).cs] σ=some (.ret (.int .i64 (armsR k arms)),σ):=by
 obtain ⟨τ,hit⟩:=it207o k n s t (names.map .str) (exsD l) σ.length arms [] hl hok (σ++[.box (Ex.mk k n s t names l arms).cs]) (by rw [getA0];rfl) 0 rfl
 rw [Int.natCast_zero,List.nil_append,List.map_nil] at hit
 have hlen:=armsD_len arms
 have hτ:bodyI CI XB GI af207 [.agg (Ex.mk k n s t names l arms).cs] σ=some (.ret (.int .i64 (armsR k arms)),σ++([.box (Ex.mk k n s t names l arms).cs]++τ)):=by
  have hg: (σ++([Obj.box (Ex.mk k n s t names l arms).cs]++τ))[σ.length]? =some (.box (Ex.mk k n s t names l arms).cs):=getA0
  rw [List.append_assoc] at hit
  unfold armsR
  simp only [Ex.cs,slD] at*
  generalize names.map D.str=nd at*
  generalize exsD l=ed at*
  generalize armsD arms=ad at*
  generalize armsE k [] arms=ae at*
  by_cases he:ae=0
  ·subst he
   rw [if_pos rfl] at hit
   by_cases hk:k=11
   ·subst hk
    have hk2: ((11:Int) != 11)=false:=rfl
    rw [hk2] at hit
    simp [bodyI,af207,getA0,hit]
   ·have hk2: (k != 11)=true:=by simpa using hk
    rw [hk2] at hit
    by_cases h0:arms.length=0
    ·simp [bodyI,af207,getA0,hk2,hit,hg,hlen,h0]
    ·have hb: ((arms.length:Int) ==0)=false:=by simpa using h0
     simp [bodyI,af207,getA0,hk2,hit,hg,hlen,h0,hb]
  ·rw [if_neg he] at hit
   simp [bodyI,af207,getA0,hit,he]
 exact CI_tree tab207 hτ rfl rfl
end Go.AI
