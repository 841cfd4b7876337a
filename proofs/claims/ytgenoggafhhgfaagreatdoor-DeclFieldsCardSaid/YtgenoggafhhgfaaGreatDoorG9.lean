/- Texts of the proof: what functions of the program compute, step by step. No conditions of its own. -/
import Derived.Test.YtgenoggafhhgfaaGreatDoorG8
import Derived.Test.YtgenoggafhhgfaaGreatDoorG5
import Derived.Test.YtgenoggafhhgfaaGreatDoorG7
set_option linter.unusedVariables false
set_option linter.unusedSimpArgs false
namespace Go.AI
open Go Go.Proofs Go.Lx
set_option maxRecDepth 100000
theorem c54 (g:Nat) (first captured:List D) (e:Int) (σ:St) (h:CI (.fn g) (first++captured) (σ++[.box [.int .i64 0]])=some (outR e,σ++[.box [.int .i64 0]])):
 CI (.fn 54) [.func g first captured] σ=some (.ret (.int .i64 e),σ):=by
 have hev:evalCatch CI 154 [.func g first captured] σ=some (.ret (.int .i64 e),σ++[.box [.int .i64 e]]):=by
  unfold evalCatch
  simp only [h]
  by_cases he:e=0
  ·subst he
   rw [outR_zero]
   simp [getA0,setA0]
  ·rw [outR_ne he]
   simp [refD,getA0,setA0]
 exact callI_catch (ty:=154) postN ext_none rfl rfl hev (postI_tree rfl)
theorem c14 (p:Prg) (hok:p.ok) (σ:St):CI (.fn 14) [.agg p.cs] σ=some (.ret (.int .i64 p.decls),σ):=by
 obtain ⟨τ1,h55⟩:=c55 p hok.dl hok.d (σ++[.box p.cs])
 have hT:=lookS_T p (σ++[Obj.box p.cs]) τ1
 obtain ⟨τ,hτ⟩: ∃τ,bodyI CI XB GI af14 [.agg p.cs] σ=some (.ret (.int .i64 p.decls),σ++τ):=by
  refine ⟨[.box p.cs]++([.box p.cs, .map (kvs p.cm), .box (p.cs++[.map ((σ++[Obj.box p.cs]).length+1)])]++τ1), ?_⟩
  have e:σ++([.box p.cs]++([.box p.cs, .map (kvs p.cm), .box (p.cs++[.map ((σ++[Obj.box p.cs]).length+1)])]++τ1))=lookS p (σ++[.box p.cs]) p.cm++τ1:=by
   unfold lookS;simp only [List.append_assoc]
  rw [e]
  generalize lookS p (σ++[.box p.cs]) p.cm++τ1=σ2 at*
  have h56:=c56 p p.cm hok _ _ (hT.app (τ:=[.box [.int .i64 0]]))
  have h54:=c54 56 [.ptr ((σ++[Obj.box p.cs]).length+2) 0] [] p.decls σ2 h56
  have hall:=p.cs_all
  have hpl:=p.cs_len
  have hpt:=p.cs_take
  simp only [List.length_append,List.length_cons,List.length_nil] at h55 h54
  generalize p.cs=pc at*
  simp [bodyI,af14,getA0,hall,hpl,hpt,h55,h54]
 exact CI_tree tab14 hτ rfl rfl
def findConL (s:Bs):List Dat→Nat→Option (Nat × Nat)
 | [],_=>none
 |d::r,i=>match d.cons.findIdx? (fun c=>c.name==s) with
  |some k=>some (i,k)
  |none=>findConL s r (i+1)
theorem strip_one (n:Nat) (σ:St) (d:D) (h:d.tree=true):strip n σ d=some d:=by cases n<;>simp [strip,h]
theorem leads_one (n:Nat) (σ:St) (d:D) (h:d.tree=true):leads n σ d=[]:=by cases n<;>simp [leads,h]
theorem strip_list (n:Nat) (σ:St): ∀ (es:List D),treeL es=true→es.mapM (strip n σ)=some es
 | [],_=>rfl
 |d::r,h=>by
  simp only [treeL,Bool.and_eq_true] at h
  rw [List.mapM_cons,strip_one n σ d h.1,strip_list n σ r h.2]
  rfl
theorem leads_list (n:Nat) (σ:St): ∀ (es:List D),treeL es=true→es.flatMap (leads n σ)=[]
 | [],_=>rfl
 |d::r,h=>by
  simp only [treeL,Bool.and_eq_true] at h
  rw [List.flatMap_cons,leads_one n σ d h.1,leads_list n σ r h.2]
  rfl
theorem strip_row {σ:St} {r sz since:Nat} {es:List D} (hr:σ[r]? =some (.row sz es since)) (hs:since≤es.length) (h:treeL es=true) (n:Nat):
 strip (n+1) σ (.arr r es.length 0 es.length)=some (.slice es)∧leads (n+1) σ (.arr r es.length 0 es.length)=[r]:=by
 have hrow:rowOf σ (.arr r es.length 0 es.length)=some es:=by simp [rowOf,hr,hs]
 constructor
 ·unfold strip
  simp only [D.tree,Bool.false_eq_true,if_false,hrow,strip_list _ _ es h]
  rfl
 ·unfold leads
  simp only [D.tree,Bool.false_eq_true,if_false,hrow,leads_list _ _ es h]
def opNames (p:Prg) (i:Int):List Bs:=if i<0 then [nPrint,nRead] else match p.effects[i.toNat]? with|some e=>e.ops.map Opn.name|none=>[]
def findOpL (s:Bs):List Eff→Nat→Option (Nat × Nat)
 | [],_=>none
 |e::r,i=>match (e.ops.map Opn.name).findIdx? (· ==s) with
  |some k=>some (i,k)
  |none=>findOpL s r (i+1)
end Go.AI
namespace Go.AI
open Go Go.Proofs
set_option maxRecDepth 100000
theorem pure_ofI {X:Ext} (hX:ExtR Tryz.prog GI X) {f:FuncId} {args:List D} {r:D} (hr:r.tree=true) (h:callI tabT X GI (.fn f) args []=some (.ret r,[])):PureCall Tryz.prog GI f args r:=by
 obtain ⟨hreal,hcalls⟩:=(callI_sound postN hX tabR isGI.tree isGI.natR isGI.post mixed).2 (.fn f) args [] (.ret r) [] h
 refine fun fx W vs hfx hG ha=> ?_
 have up: ∀ {d v},R (bare fx) W d v→R (cold Tryz.prog fx) W d v:=fun hr=>R.mono (ρ:=bare fx) (ρ':=cold Tryz.prog fx) (fun i v p h=>by simp [bare] at h) (fun _ h=>h) (fun _ _=>rfl) hr
 refine Calls.mono (hcalls (cold Tryz.prog fx) W vs (cold_rel hfx) (fun g cs hg=>⟨up (hG g cs hg).1,(hG g cs hg).2⟩) rfl ⟨ha.1,fun j x hx=>up (ha.2 j x hx)⟩) fun en w he=> ?_
 obtain ⟨ρ1,L,hR1,hrr⟩:=he
 have hs:strip 16 [] r=some r:=by simp [strip,hr]
 cases en with
 |returned v=>
  refine ⟨lent ρ1 (leads 16 [] r),v,rfl,fun b hb=> .inl (L.fix b hb),fun b hb=> ?_,fun b hb=>L.own b hb (fun i v p h=>by simp [cold] at h),L.size,L.os,L.tape,L.output, ?_⟩
  ·rcases hb with hb| ⟨i,v,p,_,hp,rfl⟩
   ·rcases L.fixnew b hb with h| ⟨j,u,q,hq,_⟩ |hge
    ·exact .inl h
    ·simp [cold] at hq
    ·exact .inr ⟨hge,hR1.fixlt b hb⟩
   ·rcases L.new i v p hp with ⟨j,u,q,hq,_⟩ |hge
    ·simp [cold] at hq
    ·exact .inr ⟨hge,(hR1.blk i v p hp).1⟩
  ·exact strip_sound hR1 (leads 16 [] r) 16 16 (Nat.le_refl _) r r v hrr hs fun i hi=>hi
 |_=>exact hrr.elim
noncomputable def gC (f:FuncId) (args:List D):Option D:=by
 classical exact if h: ∃r:D,r.tree=true∧CI (.fn f) args []=some (.ret r,[]) then some h.choose else none
theorem gC_eq {f:FuncId} {args:List D} {r:D} (hr:r.tree=true) (h:CI (.fn f) args []=some (.ret r,[])):gC f args=some r:=by
 unfold gC
 have hx: ∃r:D,r.tree=true∧CI (.fn f) args []=some (.ret r,[]):=⟨r,hr,h⟩
 rw [dif_pos hx]
 have h2:=hx.choose_spec.2
 have h3:=(Prod.mk.inj (Option.some.inj (h.symm.trans h2))).1
 exact congrArg some (FRes.ret.inj h3).symm
theorem gC_sound {f:FuncId} {args:List D} {r:D} (h:gC f args=some r):r.tree=true∧PureCall Tryz.prog GI f args r:=by
 unfold gC at h
 split at h
 ·rename_i hx
  cases h
  exact ⟨hx.choose_spec.1,pure_ofI extRI hx.choose_spec.1 hx.choose_spec.2⟩
 ·cases h
theorem extC {L:ExtL} (hL:ExtR Tryz.prog GI (extOf L)) {f:FuncId} (hf:Real Tryz.prog f):ExtR Tryz.prog GI (extOf ((f,gC f)::L)):=
 hL.cons hf fun _ _ _ h=>gC_sound h
theorem real17:Real Tryz.prog 17:=⟨_,Tryz.func17,by kernel_rfl,by kernel_rfl⟩
theorem real18:Real Tryz.prog 18:=⟨_,Tryz.func18,by kernel_rfl,by kernel_rfl⟩
theorem real19:Real Tryz.prog 19:=⟨_,Tryz.func19,by kernel_rfl,by kernel_rfl⟩
theorem real21:Real Tryz.prog 21:=⟨_,Tryz.func21,by kernel_rfl,by kernel_rfl⟩
theorem real47:Real Tryz.prog 47:=⟨_,Tryz.func47,by kernel_rfl,by kernel_rfl⟩
theorem real48:Real Tryz.prog 48:=⟨_,Tryz.func48,by kernel_rfl,by kernel_rfl⟩
theorem real53:Real Tryz.prog 53:=⟨_,Tryz.func53,by kernel_rfl,by kernel_rfl⟩
noncomputable def XL:ExtL:=(14,gC 14)::(15,gC 15)::(17,gC 17)::(18,gC 18)::(19,gC 19)::(20,gC 20)::(21,gC 21)::(22,gC 22)::(36,gC 36)::(38,gC 38)::(40,gC 40)::(47,gC 47)::(48,gC 48)::(53,gC 53)::XI
theorem extRL:ExtR Tryz.prog GI (extOf XL):=extC (extC (extC (extC (extC (extC (extC (extC (extC (extC (extC (extC (extC (extC extRI real53) real48) real47) real40) real38) real36) real22) real21) real20) real19) real18) real17) real15) real14
noncomputable abbrev CL:CallF:=callI tabT (extOf XL) GI
noncomputable abbrev XBL:FuncId→Bool:=fun f=>(extOf XL f).isSome
theorem CL_tree {f:FuncId} {af:AFunc} (hT:tabT f=some af) {args:List D} {σ τ:St} {d r:D} (h:bodyI CL XBL GI af args σ=some (.ret d,σ++τ)) (hd:d.tree=true) (hr:d.weak=r)
 (hx:extOf XL f=none) (h196: (f==196)=false):CL (.fn f) args σ=some (.ret r,σ):=
 callI_fn postN hx hT h (by show postJ f σ _=_;unfold postJ;rw [if_neg (by rw [h196];exact Bool.false_ne_true),postI_tree hd,hr])
theorem CL_plain {f:FuncId} (hx:extOf XL f=some fun a=>gC f (weakL a)) {args ws:List D} {r:D} (ht:treeL args=true) (hw:weakL args=ws) (h:CI (.fn f) ws []=some (.ret r,[])) (hr:r.tree=true) (σ:St):CL (.fn f) args σ=some (.ret r,σ):=by
 subst hw
 exact callI_ext postN hx (by unfold callExt;rw [if_pos ht];simp only;rw [gC_eq hr h];rfl)
theorem CL_rows {f:FuncId} (hx:extOf XL f=some fun a=>gC f (weakL a)) {args bs ws:List D} {r:D} {σ:St} (ht:treeL args=false) (hs:args.mapM (strip 16 σ)=some bs) (hw:weakL bs=ws) (h:CI (.fn f) ws []=some (.ret r,[])) (hr:r.tree=true):
 CL (.fn f) args σ=some (.ret r,if r.flat then σ else freeze (args.flatMap (leads 16 σ)) σ):=by
 subst hw
 refine callI_ext postN hx ?_
 unfold callExt
 rw [if_neg (by rw [ht];exact Bool.false_ne_true),hs]
 simp only
 rw [gC_eq hr h]
 simp only
 split<;>rfl
theorem kL16 (σ:St):CL (.fn 16) [] σ=some (.ret (.bool true),σ):=
 callI_ext postN (g:=fun a=>g16 (weakL a)) rfl rfl
def RowIs (σ:St) (r sz:Nat) (es:List D):Prop:= ∃since,since≤es.length∧(σ[r]? =some (.row sz es since)∨σ[r]? =some (.fro sz es since))
theorem RowIs.of {σ:St} {r sz:Nat} {es:List D} (h:RowIs σ r sz es):rowOf σ (.arr r es.length 0 es.length)=some es:=by
 obtain ⟨s,hs,h|h⟩:=h<;>simp [rowOf,h,hs]
theorem RowIs.strip {σ:St} {r sz:Nat} {es:List D} (h:RowIs σ r sz es) (ht:treeL es=true) (n:Nat):
 AI.strip (n+1) σ (.arr r es.length 0 es.length)=some (.slice es)∧leads (n+1) σ (.arr r es.length 0 es.length)=[r]:=by
 constructor
 ·unfold AI.strip
  simp only [D.tree,Bool.false_eq_true,if_false,h.of,strip_list _ _ es ht]
  rfl
 ·unfold leads
  simp only [D.tree,Bool.false_eq_true,if_false,h.of]
  have: ∀ (l:List D),treeL l=true→l.flatMap (leads n σ)=[]:=fun l=>by
   induction l with
   |nil=>intro _;rfl
   |cons a l ih=>
    intro h
    simp only [treeL,Bool.and_eq_true] at h
    rw [List.flatMap_cons,leads_one n σ a h.1,ih h.2];rfl
  rw [this es ht]
theorem freeze_get (l:List Nat) (σ:St) (j:Nat): (freeze l σ)[j]? =(σ[j]?).map fun o=>if l.contains j then o.freeze else o:=by
 simp only [freeze,List.getElem?_map,List.getElem?_zipIdx]
 cases σ[j]? <;>simp
theorem freeze_len (l:List Nat) (σ:St): (freeze l σ).length=σ.length:=by simp [freeze]
theorem freeze_box {l:List Nat} {σ:St} {j:Nat} {cs:List D} (h:σ[j]? =some (.box cs)): (freeze l σ)[j]? =some (.box cs):=by
 rw [freeze_get,h]
 simp [Obj.freeze]
theorem RowIs.freeze {l:List Nat} {σ:St} {r sz:Nat} {es:List D} (h:RowIs σ r sz es):RowIs (AI.freeze l σ) r sz es:=by
 obtain ⟨s,hs,h⟩:=h
 refine ⟨s,hs, ?_⟩
 rw [freeze_get]
 rcases h with h|h
 ·rw [h]
  by_cases hc:l.contains r
  ·right;simp only [Option.map_some,hc,if_true];rfl
  ·left;simp only [Option.map_some,if_neg hc]
 ·right
  rw [h]
  simp [Obj.freeze]
theorem freeze_app {σ τ:St} {l:List Nat} (h: ∀i ∈ l,σ.length≤i): ∃τ',τ'.length=τ.length∧freeze l (σ++τ)=σ++τ':=by
 refine ⟨(freeze l (σ++τ)).drop σ.length,by simp [freeze_len], ?_⟩
 apply List.ext_getElem?
 intro j
 rw [freeze_get]
 by_cases hj:j<σ.length
 ·rw [List.getElem?_append_left hj,List.getElem?_append_left hj,List.getElem?_eq_getElem hj]
  have:l.contains j=false:=by
   cases hc:l.contains j
   ·rfl
   ·have:=h j (by simpa using hc)
    omega
  simp only [Option.map_some,this,Bool.false_eq_true,if_false]
 ·rw [List.getElem?_append_right (l₁:=σ) (l₂:=List.drop _ _) (by omega),List.getElem?_drop,show σ.length+ (j - σ.length)=j by omega,freeze_get]
end Go.AI
namespace Go.Proofs.YtgenoggafhhgfaaGreatDoor
open Go Go.AI Go.ChangeShapes Go.WideShapes Go.ChangeAt Go.RowKit
theorem calls_trueL {W:World} {f:FuncId} {ds:List D} {vs:Array Value} (hC:CL (.fn f) ds []=some (.ret (.bool true),[])) (hL:laidMetH Tryz.prog laid3 W) (ha:Rs (bare (oldB W)) W ds vs):
 Calls Tryz.prog f vs W fun e W'=>e= .returned (.bool true)∧Below W.heap.size W W':=by
 refine ((pure_ofI extRL rfl hC) (oldB W) W vs (fun b hb=>hb) (glob_ok hL) ha).mono ?_
 rintro e w ⟨fx',v,rfl, -, -,h3,h4,h5,h6,h7,hr⟩
 exact ⟨by rw [hr.bool_inv],⟨h5,h6,h7,h4,h3⟩⟩
end Go.Proofs.YtgenoggafhhgfaaGreatDoor
namespace Go.AI
open Go Go.Proofs Go.Lx
theorem hasS_mem {l:List Bs} {s:Bs} :hasS l s=true↔s ∈ l:=by unfold hasS;exact List.contains_iff_mem
theorem hasS_not {l:List Bs} {s:Bs} (h:hasS l s=false):s ∉ l:=fun hm=>by rw [hasS_mem.2 hm] at h;cases h
theorem nodup_snoc {l:List Bs} {s:Bs} (hl:l.Nodup) (hs:s ∉ l): (l++[s]).Nodup:=by
 rw [List.nodup_append]
 exact ⟨hl,by simp,fun a ha b hb=>by simp only [List.mem_singleton] at hb;subst hb;exact fun he=>hs (he ▸ ha)⟩
theorem cons_names {p:Prg} {params:List Bs} : ∀ {l:List Con} {i:Nat} {b b':List Bs},foldS (consStep p params) l i b= .inl b'→b'=b++l.map Con.name∧(b.Nodup→b'.Nodup)∧ ∀c ∈ l,∀t ∈ c.args,t.ord p params=0
 | [],i,b,b',h=>by cases h;simp
 |c::r,i,b,b',h=>by
  simp only [foldS] at h
  cases hs:consStep p params i c b with
  |inr e=>rw [hs] at h;cases h
  |inl b1=>
   rw [hs] at h
   obtain ⟨h1,h2,h3⟩:=cons_names h
   unfold consStep at hs
   split at hs
   ·cases hs
   ·rename_i hn
    rw [Bool.not_eq_true] at hn
    split at hs
    ·rename_i hz
     cases hs
     refine ⟨by rw [h1];simp,fun hb=>h2 (nodup_snoc hb (hasS_not hn)), ?_⟩
     rw [firstE_zero] at hz
     simp only [List.forall_mem_map] at hz
     intro c' hc'
     cases hc' with
     |head=>exact hz
     |tail _ hc'=>exact h3 c' hc'
    ·cases hs
theorem dat_names {p:Prg} : ∀ {l:List Dat} {i:Nat} {x x':List Bs × List Bs},foldS (datStep p) l i x= .inl x'→
 x'.1=x.1++l.map Dat.name∧x'.2=x.2++l.flatMap (fun d=>d.cons.map Con.name)∧(x.1.Nodup→x'.1.Nodup)∧(x.2.Nodup→x'.2.Nodup)∧ ∀d ∈ l,∀c ∈ d.cons,∀t ∈ c.args,t.ord p d.params=0
 | [],i,x,x',h=>by cases h;simp
 |d::r,i,x,x',h=>by
  simp only [foldS] at h
  cases hs:datStep p i d x with
  |inr e=>rw [hs] at h;cases h
  |inl y=>
   rw [hs] at h
   obtain ⟨h1,h2,h3,h4,h5⟩:=dat_names h
   unfold datStep at hs
   split at hs
   ·cases hs
   ·rename_i hn
    rw [Bool.not_eq_true] at hn
    split at hs
    ·rename_i b hb
     cases hs
     obtain ⟨c1,c2,c3⟩:=cons_names hb
     refine ⟨by rw [h1];simp,by rw [h2];simp [c1],fun ha=>h3 (nodup_snoc ha (hasS_not hn)),fun hb=>h4 (c2 hb), ?_⟩
     intro d' hd'
     cases hd' with
     |head=>exact c3
     |tail _ hd'=>exact h5 d' hd'
    ·cases hs
theorem opn_names {p:Prg} : ∀ {l:List Opn} {i:Nat} {b b':List Bs},foldS (opnStep p) l i b= .inl b'→b'=b++l.map Opn.name∧(b.Nodup→b'.Nodup)∧ ∀o ∈ l,o.arg.ord p []=0∧o.res.ord p []=0
 | [],i,b,b',h=>by cases h;simp
 |c::r,i,b,b',h=>by
  simp only [foldS] at h
  cases hs:opnStep p i c b with
  |inr e=>rw [hs] at h;cases h
  |inl b1=>
   rw [hs] at h
   obtain ⟨h1,h2,h3⟩:=opn_names h
   unfold opnStep at hs
   split at hs
   ·cases hs
   ·rename_i hn
    rw [Bool.not_eq_true] at hn
    split at hs
    ·rename_i hz
     cases hs
     refine ⟨by rw [h1];simp,fun hb=>h2 (nodup_snoc hb (hasS_not hn)), ?_⟩
     unfold opnErr at hz
     intro c' hc'
     cases hc' with
     |head=>
      split at hz
      ·rename_i h0;exact ⟨h0,hz⟩
      ·rename_i h0;exact absurd hz h0
     |tail _ hc'=>exact h3 c' hc'
    ·cases hs
theorem eff_names {p:Prg} : ∀ {l:List Eff} {i:Nat} {x x':List Bs × List Bs},foldS (effStep p) l i x= .inl x'→
 x'.1=x.1++l.map Eff.name∧x'.2=x.2++l.flatMap (fun d=>d.ops.map Opn.name)∧(x.1.Nodup→x'.1.Nodup)∧(x.2.Nodup→x'.2.Nodup)∧ ∀e ∈ l,∀o ∈ e.ops,o.arg.ord p []=0∧o.res.ord p []=0
 | [],i,x,x',h=>by cases h;simp
 |d::r,i,x,x',h=>by
  simp only [foldS] at h
  cases hs:effStep p i d x with
  |inr e=>rw [hs] at h;cases h
  |inl y=>
   rw [hs] at h
   obtain ⟨h1,h2,h3,h4,h5⟩:=eff_names h
   unfold effStep at hs
   split at hs
   ·cases hs
   ·rename_i hn
    rw [Bool.not_eq_true] at hn
    split at hs
    ·rename_i b hb
     cases hs
     obtain ⟨c1,c2,c3⟩:=opn_names hb
     refine ⟨by rw [h1];simp,by rw [h2];simp [c1],fun ha=>h3 (nodup_snoc ha (hasS_not hn)),fun hb=>h4 (c2 hb), ?_⟩
     intro d' hd'
     cases hd' with
     |head=>exact c3
     |tail _ hd'=>exact h5 d' hd'
    ·cases hs
structure Prg.InOrder (p:Prg):Prop where
 syn:p.bare.syn=0
 dn: (builtins++p.data.map Dat.name).Nodup
 cn: (p.data.flatMap fun d=>d.cons.map Con.name).Nodup
 en: ([nIO]++p.effects.map Eff.name).Nodup
 on: ([nPrint,nRead]++p.effects.flatMap fun d=>d.ops.map Opn.name).Nodup
 args: ∀d ∈ p.data,∀c ∈ d.cons,∀t ∈ c.args,t.ord p d.params=0
 ops: ∀e ∈ p.effects,∀o ∈ e.ops,o.arg.ord p []=0∧o.res.ord p []=0
theorem Prg.inOrder {p:Prg} (h:p.decls=0):p.InOrder:=by
 obtain ⟨hs,ho⟩:=orE_zero.1 h
 unfold Prg.ordE at ho
 cases h1:foldS (datStep p) p.data 0 (builtins,[]) with
 |inr e=>
  rw [h1] at ho
  have hne:e≠0:=foldS_inr (P:=fun e=>e≠0) _ (fun _ _ _ _ _ h=>datStep_ne h) _ _ _ h1
  exact absurd ho hne
 |inl x=>
  rw [h1] at ho
  simp only at ho
  cases h2:foldS (effStep p) p.effects 0 ([nIO],[nPrint,nRead]) with
  |inr e=>
   rw [h2] at ho
   have hne:e≠0:=foldS_inr (P:=fun e=>e≠0) _ (fun _ _ _ _ _ h=>effStep_ne h) _ _ _ h2
   exact absurd ho hne
  |inl y=>
   obtain ⟨a1,a2,a3,a4,a5⟩:=dat_names h1
   obtain ⟨b1,b2,b3,b4,b5⟩:=eff_names h2
   refine ⟨hs, ?_, ?_, ?_, ?_,a5,b5⟩
   ·rw [←a1];exact a3 (by decide)
   ·rw [←List.nil_append (p.data.flatMap _),←a2];exact a4 (by simp)
   ·rw [←b1];exact b3 (by decide)
   ·rw [←b2];exact b4 (by decide)
theorem findIdx_nodup {α:Type} (g:α→Bs): ∀ (l:List α) (k:Nat) (c:α),(l.map g).Nodup→l[k]? =some c→l.findIdx? (fun x=>g x==g c)=some k
 | [],k,c,_,h=>by simp at h
 |a::r,0,c,_,h=>by
  simp only [List.getElem?_cons_zero,Option.some.injEq] at h
  subst h
  simp [List.findIdx?_cons]
 |a::r,k+1,c,hn,h=>by
  simp only [List.getElem?_cons_succ] at h
  simp only [List.map_cons,List.nodup_cons] at hn
  have hm:g c ∈ r.map g:=List.mem_map_of_mem (List.mem_of_getElem? h)
  have hne: (g a==g c)=false:=by
   rw [beq_eq_false_iff_ne];intro he;exact hn.1 (he ▸ hm)
  rw [List.findIdx?_cons,hne]
  simp only [Bool.false_eq_true,if_false]
  rw [findIdx_nodup g r k c hn.2 h]
  rfl
theorem findIdx_notin {α:Type} (g:α→Bs) (l:List α) (s:Bs) (h:s ∉ l.map g):l.findIdx? (fun x=>g x==s)=none:=by
 rw [List.findIdx?_eq_none_iff]
 intro x hx
 rw [beq_eq_false_iff_ne]
 intro he
 exact h (he ▸ List.mem_map_of_mem hx)
theorem findConL_at: ∀ (l:List Dat) (off i k:Nat) (d:Dat) (c:Con),(l.flatMap fun d=>d.cons.map Con.name).Nodup→l[i]? =some d→d.cons[k]? =some c→findConL c.name l off=some (off+i,k)
 | [],off,i,k,d,c,_,h,_=>by simp at h
 |a::r,off,0,k,d,c,hn,h,hc=>by
  simp only [List.getElem?_cons_zero,Option.some.injEq] at h
  subst h
  rw [List.flatMap_cons,List.nodup_append] at hn
  simp only [findConL,findIdx_nodup Con.name a.cons k c hn.1 hc]
  rfl
 |a::r,off,i+1,k,d,c,hn,h,hc=>by
  simp only [List.getElem?_cons_succ] at h
  rw [List.flatMap_cons,List.nodup_append] at hn
  have hm:c.name ∈ r.flatMap fun d=>d.cons.map Con.name:=List.mem_flatMap.2 ⟨d,List.mem_of_getElem? h,List.mem_map_of_mem (List.mem_of_getElem? hc)⟩
  have h0:=findIdx_notin Con.name a.cons c.name (fun hx=>hn.2.2 _ hx _ hm rfl)
  simp only [findConL,h0]
  rw [findConL_at r (off+1) i k d c hn.2.1 h hc,show off+1+i=off+ (i+1) by omega]
end Go.AI
namespace Go.AI
open Go Go.Proofs Go.Lx
set_option maxRecDepth 100000
def lookC (m:CMap) (s:Bs):Option (Nat × Nat):=(m.find? (fun x=>x.1==s)).map (·.2)
theorem lookC_addC (i k:Nat) (c:Con) (m:CMap) (s:Bs):lookC (addC i k c m) s=(lookC m s).or (if c.name==s then some (i,k) else none):=by
 unfold addC lookC
 cases h:m.find? (fun x=>x.1==c.name) with
 |some v=>
  simp only
  by_cases hs:c.name=s
  ·subst hs
   rw [h];rfl
  ·have: (c.name==s)=false:=by simpa using hs
   rw [this]
   simp
 |none=>
  simp only [List.find?_append,List.find?_cons,List.find?_nil]
  cases h2:m.find? (fun x=>x.1==s) with
  |some v=>simp
  |none=>cases hc:c.name==s<;>simp
theorem lookC_addCs (i:Nat) (s:Bs): ∀ (l:List Con) (k:Nat) (m:CMap),lookC (addCs i l k m) s=(lookC m s).or ((l.findIdx? (fun c=>c.name==s)).map fun q=>(i,k+q))
 | [],k,m=>by simp [addCs]
 |c::r,k,m=>by
  rw [addCs,lookC_addCs i s r (k+1),lookC_addC,List.findIdx?_cons]
  cases hc:c.name==s
  ·simp only [Bool.false_eq_true,if_false,Option.or_none]
   congr 1
   rw [Option.map_map]
   congr 1
   funext q
   simp only [Function.comp]
   congr 1;omega
  ·cases lookC m s<;>simp
theorem lookC_addDs (s:Bs): ∀ (l:List Dat) (i:Nat) (m:CMap),lookC (addDs l i m) s=(lookC m s).or (findConL s l i)
 | [],i,m=>by simp [addDs,findConL]
 |d::r,i,m=>by
  rw [addDs,lookC_addDs s r (i+1),lookC_addCs,findConL]
  cases d.cons.findIdx? (fun c=>c.name==s) with
  |some q=>cases lookC m s<;>simp
  |none=>simp
theorem lookC_cm (p:Prg) (s:Bs):lookC p.cm s=findConL s p.data 0:=by
 unfold Prg.cm
 rw [lookC_addDs]
 simp [lookC]
theorem cm_find (p:Prg) (s:Bs): (p.cm.find? (fun x=>x.1==s)).map (fun x=>plD x.2)=(findConL s p.data 0).map plD:=by
 rw [←lookC_cm];unfold lookC;rw [Option.map_map];rfl
theorem findConL_some (s:Bs): ∀ (l:List Dat) (off i k:Nat),findConL s l off=some (i,k)→ ∃j,i=off+j∧ ∃d,l[j]? =some d∧ ∃c,d.cons[k]? =some c∧c.name=s
 | [],off,i,k,h=>by cases h
 |d::r,off,i,k,h=>by
  rw [findConL] at h
  cases hf:d.cons.findIdx? (fun c=>c.name==s) with
  |some q=>
   rw [hf] at h
   cases h
   obtain ⟨h1,h2,_⟩:=List.findIdx?_eq_some_iff_getElem.1 hf
   exact ⟨0,rfl,d,rfl,_,List.getElem?_eq_getElem h1,by simpa using h2⟩
  |none=>
   rw [hf] at h
   obtain ⟨j,hj,d',hd,hc⟩:=findConL_some s r (off+1) i k h
   exact ⟨j+1,by omega,d',by simpa using hd,hc⟩
def Prg.conOf (p:Prg) (s:Bs):Option (Dat × Con):=match findConL s p.data 0 with
 |some (i,k)=>(p.data[i]?).bind fun d=>(d.cons[k]?).map fun c=>(d,c)
 |none=>none
theorem conOf_some {p:Prg} {s:Bs} {i k:Nat} (h:findConL s p.data 0=some (i,k)): ∃ (hi:i<p.data.length) (hk:k<p.data[i].cons.length),p.conOf s=some (p.data[i],p.data[i].cons[k])∧p.data[i].cons[k].name=s:=by
 obtain ⟨j,hj,d,hd,c,hc,hn⟩:=findConL_some s p.data 0 i k h
 have:j=i:=by omega
 subst this
 obtain ⟨hi,rfl⟩:=List.getElem?_eq_some_iff.1 hd
 obtain ⟨hk,rfl⟩:=List.getElem?_eq_some_iff.1 hc
 exact ⟨hi,hk,by unfold Prg.conOf;rw [h];simp [hi,hk],hn⟩
theorem conOf_none {p:Prg} {s:Bs} (h:findConL s p.data 0=none):p.conOf s=none:=by unfold Prg.conOf;rw [h]
def conErr (p:Prg) (s:Bs) (n:Nat):Int:=match p.conOf s with
 |none=>6
 |some (_,c)=>if c.args.length=n then 0 else 7
mutual
theorem D.eqb_tree: ∀ (d:D),d.tree=true→d.eqb d=true
 | .bool b,_=>by simp [D.eqb]
 | .int k n,_=>by simp [D.eqb]
 | .str s,_=>by simp [D.eqb]
 | .nilptr,_| .empty,_| .nilmap,_| .nilfunc,_| .niliface,_=>rfl
 | .slice es,h| .agg es,h| .tuple es,h=>by simp only [D.tree,D.eqb] at*;exact eqbL_tree es h
 | .func f a b,h=>by
  simp only [D.tree,Bool.and_eq_true] at h
  simp only [D.eqb,Bool.and_eq_true]
  exact ⟨⟨by simp,eqbL_tree a h.1⟩,eqbL_tree b h.2⟩
 | .iface t v,h=>by
  simp only [D.tree] at h
  simp only [D.eqb,Bool.and_eq_true]
  exact ⟨by simp,D.eqb_tree v h⟩
 | .ptr _ _,h| .rptr _ _ _ _,h| .tptr _,h| .arr _ _ _ _,h| .map _,h| .yield _,h| .undef,h| .any,h=>by simp [D.tree] at h
theorem eqbL_tree: ∀ (l:List D),treeL l=true→eqbL l l=true
 | [],_=>rfl
 |d::r,h=>by
  simp only [treeL,Bool.and_eq_true] at h
  simp only [eqbL,Bool.and_eq_true]
  exact ⟨D.eqb_tree d h.1,eqbL_tree r h.2⟩
end
def all2 {α β:Type} (P:α→β→Bool):List α→List β→Bool
 | [],[]=>true
 |a::r,b::s=>P a b&&all2 P r s
 |_,_=>false
def matchErr (p:Prg) (arms:List Arm):Int:=match arms with
 | []=>9
 |a::_=>match p.conOf a.op with
  |none=>6
  |some (d,_)=>if all2 (fun (c:Con) (a:Arm)=>c.name==a.op) d.cons arms then (if all2 (fun (c:Con) (a:Arm)=>decide (c.args.length=a.names.length)) d.cons arms then 0 else 7) else 9
theorem q34:qI 34=false:=rfl
theorem x34:XB 34=false:=rfl
def opErr (p:Prg) (s:Bs):Int:=match findOpL s p.effects 0 with
 |some _=>0
 |none=>if hasS [nPrint,nRead] s then 0 else 6
def useE (p:Prg) (s:Bs):Int:=if s==nIO then 5 else findEffE p.effects s
def usingErr (p:Prg) (names:List Bs):Int:=firstE (names.tail.map (useE p))
def handlerErr (p:Prg) (s:Bs) (arms:List Arm):Int:=
 if findEffE p.effects s=0 then (if all2 (fun (o:Bs) (a:Arm)=>o==a.op) (opNames p (findEffI p.effects s)) arms.tail then 0 else 9) else findEffE p.effects s
section
variable {β:Type} (step:Ex→β→β ⊕ Int)
mutual
def Ex.walk:Ex→β→β ⊕ Int
 | .mk k n s t names l arms,b=>match step (.mk k n s t names l arms) b with
  | .inr e=> .inr e
  | .inl b1=>match exsWalk l b1 with
   | .inr e=> .inr e
   | .inl b2=>armsWalk arms b2
def exsWalk:List Ex→β→β ⊕ Int
 | [],b=> .inl b
 |x::r,b=>match x.walk b with
  | .inr e=> .inr e
  | .inl b1=>exsWalk r b1
def armsWalk:List Arm→β→β ⊕ Int
 | [],b=> .inl b
 | .mk _ _ x::r,b=>match x.walk b with
  | .inr e=> .inr e
  | .inl b1=>armsWalk r b1
end
end
theorem postI_same {q:FuncId→Bool} {f:FuncId} {A A' τ1:St} {d:D} (hl:A'.length=A.length) (hk: ∀j,j<A.length→A'[j]? =A[j]? ∨ ∃o,A'[j]? =some o∧o.under A.length) (hd:d.tree=true) (hq:q f=false):
 postI q f A (some (.ret d,A'++τ1))=some (.ret d.weak,A'):=by
 have hK:Keeps A (A'++τ1):=fun j hj=>by
  rw [List.getElem?_append_left (by omega)];exact hk j hj
 rw [postI_ret hK (trimV_tree hd) (by simp [hq]),←hl,List.take_left]
theorem postI_same_panic {q:FuncId→Bool} {f:FuncId} {A A' τ1:St} {d:D} (hl:A'.length=A.length) (hk: ∀j,j<A.length→A'[j]? =A[j]? ∨ ∃o,A'[j]? =some o∧o.under A.length) (hd:d.tree=true):
 postI q f A (some (.panic d,A'++τ1))=some (.panic d,A'):=by
 have hK:Keeps A (A'++τ1):=fun j hj=>by
  rw [List.getElem?_append_left (by omega)];exact hk j hj
 rw [postI_pan hK hd,←hl,List.take_left]
section
variable {β:Type} (i2 y s i:Nat) (o:β→Obj) (I:β→Prop) (step:Ex→β→β ⊕ Int) (σ SP:St)
end
def Ex.ordErr (p:Prg):Ex→Int
 | .mk k _ s t names l arms=>if k=10 then conErr p s l.length else if k=11 then matchErr p arms else if k=12 then opErr p s else if k=13 then opErr p t
  else if k=14 then handlerErr p s arms else if k=15 then handlerErr p s arms else if k=16 then findEffE p.effects s else if k=17 then usingErr p names else 0
def loop96 (qm:Nat) (fd:D) (st:LoopState):Obj:= .loop 40 [(4, .ptr qm 0),(27,fd),(28, .any)] [28] as96_0 bd96_1 st none
theorem IsT.set {σ:St} {t:Nat} {p:Prg} {m:CMap} {i qm:Nat} {fd:D} {st:LoopState} {o:Obj} (h:IsT σ t p m) (hi:σ[i]? =some (loop96 qm fd st)):IsT (σ.set i o) t p m:=by
 obtain ⟨j,h1,h2⟩:=h
 have n1:i≠t:=fun he=>by rw [he,h1] at hi;unfold loop96 at hi;cases hi
 have n2:i≠j:=fun he=>by rw [he,h2] at hi;unfold loop96 at hi;cases hi
 exact ⟨j,by rw [List.getElem?_set_ne n1];exact h1,by rw [List.getElem?_set_ne n2];exact h2⟩
def ordStep (p:Prg) (x:Ex) (_:Unit):Unit ⊕ Int:=if x.ordErr p=0 then .inl () else .inr (x.ordErr p)
def Ex.ordE (p:Prg) (e:Ex):Int:=match e.walk (ordStep p) () with| .inl _=>0| .inr err=>err
section
variable {β:Type} {step:Ex→β→β ⊕ Int}
end
def Ex.chk (e:Ex):Int:=if (e.take 1 (3000,0)).1 then e.e else 3
theorem Ex.chk_e {e:Ex} (h:e.chk=0):e.e=0∧(e.take 1 (3000,0)).1=true:=by
 unfold Ex.chk at h
 split at h
 ·rename_i ht;exact ⟨h,ht⟩
 ·cases h
def Prg.chk (p:Prg):Int:=orE p.syn (orE p.decls (orE (firstE (p.defs.map fun d=>d.body.ordE p)) (p.main.ordE p)))
mutual
def Ty.left:Ty→Int→Int→Int
 | .mk _ _ _ l ls _,left,d=>if d<1∨24<ls.length then -1 else tysLeft l (left - 1) (d - 1)
def tysLeft:List Ty→Int→Int→Int
 | [],left,_=>left
 |t::r,left,d=>if 0≤left then tysLeft r (t.left left d) d else left
end
mutual
theorem Ty.left_le: ∀ (t:Ty) (left d:Int),0≤left→ -1≤t.left left d∧t.left left d≤left
 | .mk _ _ _ l ls _,left,d,h=>by
  simp only [Ty.left]
  split
  ·exact ⟨by omega,by omega⟩
  ·have:=tysLeft_le l (left - 1) (d - 1) (by omega)
   exact ⟨this.1,by omega⟩
theorem tysLeft_le: ∀ (l:List Ty) (left d:Int), -1≤left→ -1≤tysLeft l left d∧tysLeft l left d≤left
 | [],left,d,h=>by simp only [tysLeft];exact ⟨h,by omega⟩
 |t::r,left,d,h=>by
  simp only [tysLeft]
  split
  ·rename_i h0
   obtain ⟨h1,h2⟩:=t.left_le left d h0
   have:=tysLeft_le r (t.left left d) d h1
   exact ⟨this.1,by omega⟩
  ·exact ⟨h,by omega⟩
end
theorem tysLeft_neg: ∀ (l:List Ty) (x d:Int),x<0→tysLeft l x d=x
 | [],_,_,_=>rfl
 |_::_,x,d,h=>by
  simp only [tysLeft]
  rw [if_neg (by omega)]
mutual
theorem Ty.take_eq: ∀ (t:Ty) (left d:Int),0≤left→((t.take left d).1=true↔0≤t.left left (201 - d))∧((t.take left d).1=true→(t.take left d).2=t.left left (201 - d))
 | .mk _ _ _ l ls _,left,d,h=>by
  simp only [Ty.take,Ty.left]
  by_cases h1:200<d
  ·rw [if_pos (.inr (.inl h1)),if_pos (.inl (by omega))]
   exact ⟨⟨fun h=>(by cases h),fun h=>(by omega)⟩,fun h=>(by cases h)⟩
  by_cases h2:24<ls.length
  ·rw [if_pos (.inr (.inr h2)),if_pos (.inr h2)]
   exact ⟨⟨fun h=>(by cases h),fun h=>(by omega)⟩,fun h=>(by cases h)⟩
  rw [if_neg (c:=201 - d<1∨24<ls.length) (fun h=>h.elim (by omega) h2)]
  by_cases h3:left - 1<0
  ·rw [if_pos (.inl h3),tysLeft_neg l _ _ h3]
   exact ⟨⟨fun h=>(by cases h),fun h=>(by omega)⟩,fun h=>(by cases h)⟩
  rw [if_neg (fun h=>h.elim h3 (fun h=>h.elim h1 h2))]
  have:=tysTake_eq l (left - 1) (d+1) (by omega)
  have e:201 - d - 1=201 - (d+1):=by omega
  rw [e]
  exact this
theorem tysTake_eq: ∀ (l:List Ty) (left d:Int),0≤left→((tysTake l left d).1=true↔0≤tysLeft l left (201 - d))∧((tysTake l left d).1=true→(tysTake l left d).2=tysLeft l left (201 - d))
 | [],left,d,h=>by
  simp only [tysTake,tysLeft]
  exact ⟨⟨fun _=>h,fun _=>trivial⟩,fun _=>trivial⟩
 |t::r,left,d,h=>by
  obtain ⟨h1,h2⟩:=t.take_eq left d h
  simp only [tysTake,tysLeft]
  rw [if_pos h]
  by_cases ht: (t.take left d).1=true
  ·rw [if_pos ht,h2 ht]
   exact tysTake_eq r _ d (h1.1 ht)
  ·rw [if_neg ht,tysLeft_neg r _ _ (by have:=mt h1.2 ht;omega)]
   have hn:=mt h1.2 ht
   exact ⟨⟨fun h=>(by cases h),fun h=>absurd h hn⟩,fun h=>(by cases h)⟩
end
theorem Ty.chk_left (t:Ty):t.chk=if t.left 3000 200<0 then 3 else t.e:=by
 obtain ⟨h1, -⟩:=t.take_eq 3000 1 (by omega)
 have e: (201:Int) - 1=200:=rfl
 rw [e] at h1
 unfold Ty.chk
 by_cases h: (t.take 3000 1).1=true
 ·rw [if_pos h,if_neg (by have:=h1.1 h;omega)]
 ·rw [if_neg h,if_pos (by have:=mt h1.2 h;omega)]
theorem tcl_node {k n:Int} {s:Bs} {len:Nat} {ls:List Lab} {tail:Int} (h:tnodeE k n s len ls tail=0) (hk:k=5):tail0 tail=tailC tail:=by
 unfold tnodeE at h
 subst hk
 split at h
 ·cases h
 split at h
 ·cases h
 split at h
 ·cases h
 rw [if_pos rfl] at h
 unfold rowE at h
 rw [firstE_app] at h
 have hr:inR tail (-1) 999999999=true:=by
  cases hr:inR tail (-1) 999999999
  ·rw [hr] at h
   split at h
   ·simp [firstE] at h
   ·rename_i h1;exact absurd h h1
  ·rfl
 unfold inR at hr
 unfold tail0 tailC
 simp at hr
 cases hb:tail != -1
 ·have:tail= -1:=by simpa using hb
  subst this
  rfl
 ·have: ¬tail= -1:=by simpa using hb
  exact decide_eq_true (by omega)
mutual
theorem Ty.cl_eq: ∀ (t:Ty),t.e=0→t.cl tailC=t.cl tail0
 | .mk k n s l ls tail,h=>by
  simp only [Ty.e] at h
  split at h
  ·rename_i h1
   simp only [Ty.cl]
   rw [tysCl_eq l h]
   cases hk:k==5
   ·simp
   ·rw [tcl_node h1 (by simpa using hk)]
  ·rename_i h1;exact absurd h h1
theorem tysCl_eq: ∀ (l:List Ty),tysE l=0→tysCl tailC l=tysCl tail0 l
 | [],_=>rfl
 |t::r,h=>by
  simp only [tysE] at h
  split at h
  ·rename_i h1
   simp only [tysCl]
   rw [t.cl_eq h1,tysCl_eq r h]
  ·rename_i h1;exact absurd h h1
end
theorem Ty.chk_e {t:Ty} (h:t.chk=0):t.e=0:=by
 unfold Ty.chk at h
 split at h
 ·exact h
 ·cases h
mutual
def Ex.left:Ex→Int→Int→Int
 | .mk _ _ _ _ _ l arms,left,d=>if d<1 then -1 else armsLeft arms (exsLeft l (left - 1) (d - 1)) (d - 1)
def exsLeft:List Ex→Int→Int→Int
 | [],left,_=>left
 |x::r,left,d=>if 0≤left then exsLeft r (x.left left d) d else left
def armsLeft:List Arm→Int→Int→Int
 | [],left,_=>left
 | .mk _ _ x::r,left,d=>if 0≤left then armsLeft r (x.left left d) d else left
end
theorem exsLeft_neg: ∀ (l:List Ex) (x d:Int),x<0→exsLeft l x d=x
 | [],_,_,_=>rfl
 |_::_,x,d,h=>by
  simp only [exsLeft]
  rw [if_neg (by omega)]
theorem armsLeft_neg: ∀ (l:List Arm) (x d:Int),x<0→armsLeft l x d=x
 | [],_,_,_=>rfl
 | .mk _ _ _::_,x,d,h=>by
  simp only [armsLeft]
  rw [if_neg (by omega)]
mutual
theorem Ex.take_left2: ∀ (t:Ex) (d:Int) (b:Int × Int),0≤b.1→((t.take d b).1=true↔0≤t.left b.1 (201 - d))∧((t.take d b).1=true→(t.take d b).2.1=t.left b.1 (201 - d))
 | .mk _ _ _ _ _ l arms,d,b,h=>by
  simp only [Ex.take,Ex.left]
  by_cases h1:200<d
  ·rw [if_pos (.inr h1),if_pos (c:=201 - d<1) (by omega)]
   exact ⟨⟨fun h=>(by cases h),fun h=>(by omega)⟩,fun h=>(by cases h)⟩
  rw [if_neg (c:=201 - d<1) (by omega)]
  have e:201 - d - 1=201 - (d+1):=by omega
  rw [e]
  by_cases h3:b.1 - 1<0
  ·rw [if_pos (.inl h3),exsLeft_neg l _ _ h3,armsLeft_neg arms _ _ h3]
   exact ⟨⟨fun h=>(by cases h),fun h=>(by omega)⟩,fun h=>(by cases h)⟩
  rw [if_neg (fun h=>h.elim h3 h1)]
  obtain ⟨a1,a2⟩:=exsTake_left2 l (d+1) (b.1 - 1,if d>b.2 then d else b.2) (by simp;omega)
  generalize exsTake l (d+1) (b.1 - 1,if d>b.2 then d else b.2)=q at*
  by_cases ht:q.1=true
  ·rw [if_pos ht]
   have a2:=a2 ht
   have a1:=a1.1 ht
   simp only at a1 a2
   rw [←a2] at a1 ⊢
   exact armsTake_left2 arms (d+1) q.2 a1
  ·rw [if_neg ht]
   have hn:=mt a1.2 ht
   simp only at hn
   rw [armsLeft_neg arms _ _ (by omega)]
   exact ⟨⟨fun h=>(by cases h),fun h=>absurd h hn⟩,fun h=>(by cases h)⟩
theorem exsTake_left2: ∀ (l:List Ex) (d:Int) (b:Int × Int),0≤b.1→((exsTake l d b).1=true↔0≤exsLeft l b.1 (201 - d))∧((exsTake l d b).1=true→(exsTake l d b).2.1=exsLeft l b.1 (201 - d))
 | [],d,b,h=>by
  simp only [exsTake,exsLeft]
  exact ⟨⟨fun _=>h,fun _=>trivial⟩,fun _=>trivial⟩
 |t::r,d,b,h=>by
  obtain ⟨h1,h2⟩:=t.take_left2 d b h
  simp only [exsTake,exsLeft]
  rw [if_pos h]
  by_cases ht: (t.take d b).1=true
  ·rw [if_pos ht,←h2 ht]
   exact exsTake_left2 r d _ (by rw [h2 ht];exact h1.1 ht)
  ·have hn:=mt h1.2 ht
   rw [if_neg ht,exsLeft_neg r _ _ (by omega)]
   exact ⟨⟨fun h=>(by cases h),fun h=>absurd h hn⟩,fun h=>(by cases h)⟩
theorem armsTake_left2: ∀ (l:List Arm) (d:Int) (b:Int × Int),0≤b.1→((armsTake l d b).1=true↔0≤armsLeft l b.1 (201 - d))∧((armsTake l d b).1=true→(armsTake l d b).2.1=armsLeft l b.1 (201 - d))
 | [],d,b,h=>by
  simp only [armsTake,armsLeft]
  exact ⟨⟨fun _=>h,fun _=>trivial⟩,fun _=>trivial⟩
 | .mk _ _ t::r,d,b,h=>by
  obtain ⟨h1,h2⟩:=t.take_left2 d b h
  simp only [armsTake,armsLeft]
  rw [if_pos h]
  by_cases ht: (t.take d b).1=true
  ·rw [if_pos ht,←h2 ht]
   exact armsTake_left2 r d _ (by rw [h2 ht];exact h1.1 ht)
  ·have hn:=mt h1.2 ht
   rw [if_neg ht,armsLeft_neg r _ _ (by omega)]
   exact ⟨⟨fun h=>(by cases h),fun h=>absurd h hn⟩,fun h=>(by cases h)⟩
end
mutual
theorem Ex.left_le: ∀ (t:Ex) (x d:Int),0≤x→ -1≤t.left x d∧t.left x d≤x
 | .mk _ _ _ _ _ l arms,x,d,h=>by
  simp only [Ex.left]
  split
  ·exact ⟨by omega,by omega⟩
  ·have h1:=exsLeft_le l (x - 1) (d - 1) (by omega)
   have h2:=armsLeft_le arms (exsLeft l (x - 1) (d - 1)) (d - 1) h1.1
   exact ⟨h2.1,by omega⟩
theorem exsLeft_le: ∀ (l:List Ex) (x d:Int), -1≤x→ -1≤exsLeft l x d∧exsLeft l x d≤x
 | [],x,d,h=>by simp only [exsLeft];exact ⟨h,by omega⟩
 |t::r,x,d,h=>by
  simp only [exsLeft]
  split
  ·rename_i h0
   obtain ⟨h1,h2⟩:=t.left_le x d h0
   have:=exsLeft_le r (t.left x d) d h1
   exact ⟨this.1,by omega⟩
  ·exact ⟨h,by omega⟩
theorem armsLeft_le: ∀ (l:List Arm) (x d:Int), -1≤x→ -1≤armsLeft l x d∧armsLeft l x d≤x
 | [],x,d,h=>by simp only [armsLeft];exact ⟨h,by omega⟩
 | .mk _ _ t::r,x,d,h=>by
  simp only [armsLeft]
  split
  ·rename_i h0
   obtain ⟨h1,h2⟩:=t.left_le x d h0
   have:=armsLeft_le r (t.left x d) d h1
   exact ⟨this.1,by omega⟩
  ·exact ⟨h,by omega⟩
end
end Go.AI
namespace Go.AI
open Go Go.Proofs Go.Lx
end Go.AI
namespace Go.AI
open Go Go.Proofs Go.Lx
set_option maxRecDepth 100000
theorem find_none {α:Type} (l:List α):l.findIdx? (fun _=>false)=none:=by
 rw [List.findIdx?_eq_none_iff];intros;rfl
theorem Ex.chk_left (e:Ex):e.chk=if e.left 3000 200<0 then 3 else e.e:=by
 unfold Ex.chk
 obtain ⟨h1,_⟩:=e.take_left2 1 (3000,0) (by simp)
 have e1: (201:Int) - 1=200:=rfl
 simp only [e1] at h1
 by_cases h: (e.take 1 (3000,0)).1=true
 ·rw [if_pos h,if_neg (by have:=h1.1 h;omega)]
 ·rw [if_neg h,if_pos (by have:=mt h1.2 h;omega)]
theorem find_all {α:Type} (l:List α) (Q:α→Bool): (l.find? (fun a=> !Q a)).isNone=l.all Q:=by
 induction l with
 |nil=>rfl
 |cons a r ih=>rw [List.find?_cons,List.all_cons];cases h:Q a<;>simp [ih]
theorem Ty.cl_eq2 (p:Int→Bool) (k n:Int) (s:Bs) (l:List Ty) (ls:List Lab) (tail:Int): (Ty.mk k n s l ls tail).cl p=(!(k==0|| (k==5&&p tail))&&(ls.all (fun x=>x.n==0)&&l.all (fun t=>t.cl p))):=by
 simp only [Ty.cl,tysCl_all,Bool.and_assoc]
set_option maxHeartbeats 1000000 in
theorem c116: ∀ (t:Ty),t.ok→ ∀ (σ:St),CI (.fn 116) [.agg t.cs] σ=some (.ret (.bool (t.cl tailC)),σ)
 | .mk k n s l ls tail,hok,σ=>by
  obtain ⟨hl1,hl2,hl3⟩:=hok
  have ih:=fun x (hx:x ∈ l) σ=>c116 x (tysOk_mem hl3 hx) σ
  obtain ⟨ld,hld,hll,hlg⟩:=opq Ty.d l
  obtain ⟨sd,hsd,hsl,hsg⟩:=opq Lab.d ls
  have hcs: (Ty.mk k n s l ls tail).cs=[.int .i64 k, .int .i64 n, .str s, .slice ld, .slice sd, .int .i64 tail]:=by simp only [Ty.cs,tysD_map,hld,hsd]
  rw [hcs]
  have hit0:=loop_seek (f:=evalI CI XB GI 44 false lp116_0) (σ:=σ++[.box [.int .i64 k, .int .i64 n, .str s, .slice ld, .slice sd, .int .i64 tail]]) ls (fun i=>[(1, .ptr σ.length 0),(23, .slice sd),(24, .int .i64 ls.length),(25, .int .i64 (i:Nat))]) (fun x=> !(x.n==0)) (fun _=>(.ret,[(2, .bool false)])) (.exit 0,[(1, .ptr σ.length 0),(23, .slice sd),(24, .int .i64 ls.length),(25, .int .i64 ls.length),(26, .bool false)]) (by simp) (by simp)
   (fun i hi τ=>by
     have hw:=wrap_nat (n:=i) (by unfold maxL at*;omega)
     obtain ⟨h2,h3⟩:=hsg i hi
     have hii: (i:Int) <ls.length:=by omega
     refine ⟨τ++[.box [.str ls[i].s, .int .i64 ls[i].n]], ?_⟩
     rw [←List.append_assoc]
     unfold Lab.d at h3
     generalize ls[i].s=xs at*
     generalize ls[i].n=xn at*
     generalize σ++[Obj.box [.int .i64 k, .int .i64 n, .str s, .slice ld, .slice sd, .int .i64 tail]]++τ=σ1 at*
     by_cases hx:xn=0
     ·subst hx
      simp [lp116_0,hi,hii,hw,h2,h3,getA0,setA0]
     ·have hx1: (xn==0)=false:=by simpa using hx
      have hx2: (xn != 0)=true:=by simpa using hx
      simp [lp116_0,hi,hii,hw,h2,h3,getA0,setA0,hx,hx1,hx2]) (fun τ=>⟨τ,by simp [lp116_0]⟩)
  have hit1:=loop_seek (f:=evalI CI XB GI 44 false lp116_1) (σ:=σ++[.box [.int .i64 k, .int .i64 n, .str s, .slice ld, .slice sd, .int .i64 tail]]) l (fun i=>[(34, .slice ld),(35, .int .i64 l.length),(36, .int .i64 (i:Nat))]) (fun x=> !(x.cl tailC)) (fun _=>(.ret,[(2, .bool false)])) (.exit 2,[(34, .slice ld),(35, .int .i64 l.length),(36, .int .i64 l.length),(37, .bool false)]) (by simp) (by simp)
   (fun i hi τ=>by
     have hw:=wrap_nat (n:=i) (by unfold maxL at*;omega)
     obtain ⟨h2,h3⟩:=hlg i hi
     have ih:=ih l[i] (List.getElem_mem hi)
     have hii: (i:Int) <l.length:=by omega
     have y1:=l[i].cs_len
     have y2:=l[i].cs_take
     have y3:l[i].cs.all D.one=true:=by cases l[i];rfl
     refine ⟨τ++[.box l[i].cs], ?_⟩
     rw [←List.append_assoc]
     unfold Ty.d at h3
     generalize l[i].cl tailC=b at*
     generalize l[i].cs=xc at*
     generalize σ++[Obj.box [.int .i64 k, .int .i64 n, .str s, .slice ld, .slice sd, .int .i64 tail]]++τ=σ1 at*
     cases b<;>simp [lp116_1,hi,hii,hw,h2,h3,getA0,setA0,y1,y2,y3,ih]) (fun τ=>⟨τ,by simp [lp116_1]⟩)
  rw [Int.natCast_zero] at hit0 hit1
  obtain ⟨τ,hit0⟩:=hit0 []
  rw [List.append_nil] at hit0
  obtain ⟨τ',hit1⟩:=hit1 τ
  have hf0:=find_all ls (fun x=>x.n==0)
  have hf1:=find_all l (fun t=>t.cl tailC)
  obtain ⟨τ2,hτ⟩: ∃τ2,bodyI CI XB GI af116 [.agg [.int .i64 k, .int .i64 n, .str s, .slice ld, .slice sd, .int .i64 tail]] σ=some (.ret (.bool ((Ty.mk k n s l ls tail).cl tailC)),σ++τ2):=by
   rw [Ty.cl_eq2,←hf0,←hf1]
   have rest: (k==0)=false→((k==5)&&(tail != -1))=false→ ∃τ2,bodyI CI XB GI af116 [.agg [.int .i64 k, .int .i64 n, .str s, .slice ld, .slice sd, .int .i64 tail]] σ=some (.ret (.bool ((ls.find? (fun a=> !(a.n==0))).isNone&&(l.find? (fun a=> !(a.cl tailC))).isNone)),σ++τ2):=by
    intro hk hk5
    have hg: ∀y,(σ++[Obj.box [.int .i64 k, .int .i64 n, .str s, .slice ld, .slice sd, .int .i64 tail]]++y)[σ.length]? =some (.box [.int .i64 k, .int .i64 n, .str s, .slice ld, .slice sd, .int .i64 tail]):=fun y=>by rw [List.append_assoc];exact getA0
    have hg0:=hg []
    rw [List.append_nil] at hg0
    cases hc0:ls.find? (fun a=> !(a.n==0)) with
    |some a=>
     rw [hc0] at hit0
     refine ⟨[.box [.int .i64 k, .int .i64 n, .str s, .slice ld, .slice sd, .int .i64 tail]]++τ, ?_⟩
     rw [←List.append_assoc]
     cases h5:k==5
     ·simp [bodyI,af116,getA0,hk,h5,hll,hsl,hit0]
     ·rw [h5] at hk5
      have ht: (tail != -1)=false:=by simpa using hk5
      simp [bodyI,af116,getA0,hk,h5,ht,hll,hsl,hit0]
    |none=>
     rw [hc0] at hit0
     have hg1:=hg τ
     refine ⟨[.box [.int .i64 k, .int .i64 n, .str s, .slice ld, .slice sd, .int .i64 tail]]++τ', ?_⟩
     rw [←List.append_assoc]
     generalize σ++[Obj.box [.int .i64 k, .int .i64 n, .str s, .slice ld, .slice sd, .int .i64 tail]]++τ=σ1 at*
     generalize σ++[Obj.box [.int .i64 k, .int .i64 n, .str s, .slice ld, .slice sd, .int .i64 tail]]++τ'=σ2 at*
     cases hc1:l.find? (fun a=> !(a.cl tailC)) with
     |some a=>
      rw [hc1] at hit1
      cases h5:k==5
      ·simp [bodyI,af116,getA0,hk,h5,hll,hsl,hit0,hg1,hit1]
      ·rw [h5] at hk5
       have ht: (tail != -1)=false:=by simpa using hk5
       simp [bodyI,af116,getA0,hk,h5,ht,hll,hsl,hit0,hg1,hit1]
     |none=>
      rw [hc1] at hit1
      cases h5:k==5
      ·simp [bodyI,af116,getA0,hk,h5,hll,hsl,hit0,hg1,hit1]
      ·rw [h5] at hk5
       have ht: (tail != -1)=false:=by simpa using hk5
       simp [bodyI,af116,getA0,hk,h5,ht,hll,hsl,hit0,hg1,hit1]
   unfold tailC at*
   cases hk:k==0
   ·cases hk5: (k==5)&&(tail != -1)
    ·obtain ⟨τ2,h⟩:=rest hk hk5
     exact ⟨τ2,by rw [h];rfl⟩
    ·obtain ⟨h5,ht⟩:=Bool.and_eq_true_iff.1 hk5
     refine ⟨[.box [.int .i64 k, .int .i64 n, .str s, .slice ld, .slice sd, .int .i64 tail]], ?_⟩
     simp [bodyI,af116,getA0,hk,h5,ht]
   ·refine ⟨[.box [.int .i64 k, .int .i64 n, .str s, .slice ld, .slice sd, .int .i64 tail]], ?_⟩
    simp [bodyI,af116,getA0,hk]
  exact CI_tree tab116 hτ rfl rfl
termination_by t=>SizeOf.sizeOf t
decreasing_by
 have:=List.sizeOf_lt_of_mem hx
 simp only [Ty.mk.sizeOf_spec]
 omega
def Prg.tyE (p:Prg) (t:Ty):Int:=orE p.decls (orE t.chk (if t.cl tailC then t.ord p [] else 1))
theorem c65 (p:Prg) (m:CMap) (hok:p.ok) (t:Ty) (ht:t.ok) (tb:Nat) (σ:St) (hT:IsT σ tb p m):CI (.fn 65) [.ptr tb 0, .agg t.cs] σ=some (outR (p.tyE t),σ):=by
 have hT2:IsT (σ++[.box t.cs]) tb p m:=hT.app
 have h56:=c56 p m hok tb _ hT2
 have h60:=fun σ=>c60 t ht σ
 have h116:=fun σ=>c116 t ht σ
 have h112:=c112 p m hok.dl hok.el [] (by unfold maxL;simp) .empty (.inr ⟨rfl,rfl⟩) tb t ht _ hT2
 have y1:=t.cs_len
 have y2:=t.cs_take
 have y3:t.cs.all D.one=true:=by cases t;rfl
 refine CI_out tab65 (τ:=[.box t.cs]) ?_
 unfold Prg.tyE orE
 generalize p.decls=z1 at*
 generalize t.chk=z2 at*
 generalize t.cl tailC=b at*
 generalize t.ord p []=z3 at*
 generalize t.cs=tc at*
 by_cases h1:z1=0
 ·subst h1
  rw [outR_zero] at h56
  by_cases h2:z2=0
  ·subst h2
   cases b
   ·simp [bodyI,af65,getA0,y1,y2,y3,h56,h60,h116,c58,c59,outR]
   ·by_cases h3:z3=0
    ·subst h3
     rw [outR_zero] at h112
     simp [bodyI,af65,getA0,y1,y2,y3,h56,h60,h116,h112,c59,outR_zero]
    ·rw [outR_ne h3] at h112
     simp [bodyI,af65,getA0,y1,y2,y3,h56,h60,h116,h112,c59,outR_zero,outR_ne h3]
  ·rw [if_pos rfl,if_neg h2]
   simp [bodyI,af65,getA0,y1,y2,y3,h56,h60,c59,outR_ne h2]
 ·rw [if_neg h1]
  rw [outR_ne h1] at h56
  simp [bodyI,af65,getA0,y1,y2,y3,h56,outR_ne h1]
mutual
def Ty.rep (params:List Bs) (args:List Ty):Ty→Ty
 | .mk k n s l ls tail=>if k=1∧0≤indexP params s then args.getD (indexP params s).toNat (.mk k n s l ls tail) else .mk k n s (tysRep params args l) ls tail
def tysRep (params:List Bs) (args:List Ty):List Ty→List Ty
 | []=>[]
 |t::r=>t.rep params args::tysRep params args r
end
theorem tysRep_map (params:List Bs) (args:List Ty): ∀ (l:List Ty),tysRep params args l=l.map (Ty.rep params args)
 | []=>rfl
 |t::r=>by simp only [tysRep,List.map_cons,tysRep_map params args r]
mutual
def Ty.rm:Ty→Int→Int→Bool × Int
 | .mk _ _ _ l _ _,d,n=>if n - 1<0∨d<1 then (false,n - 1) else tysRm l (d - 1) (n - 1)
def tysRm:List Ty→Int→Int→Bool × Int
 | [],_,n=>(true,n)
 |t::r,d,n=>if (t.rm d n).1 then tysRm r d (t.rm d n).2 else (false,(t.rm d n).2)
end
mutual
def Ty.small:Ty→Prop
 | .mk k _ _ l ls _=>l.length≤4∧ls.length≤24∧(k=1→l=[])∧tysSmall l
def tysSmall:List Ty→Prop
 | []=>True
 |t::r=>t.small∧tysSmall r
end
theorem tysSmall_mem: ∀ {l:List Ty} {t:Ty},tysSmall l→t ∈ l→t.small
 |_::_,_,h, .head _=>h.1
 |_::_,_,h, .tail _ hm=>tysSmall_mem h.2 hm
mutual
theorem Ty.small_rep {params:List Bs} {args:List Ty} (ha: ∀a ∈ args,a.small): ∀ (t:Ty),t.small→(t.rep params args).small
 | .mk k n s l ls tail,h=>by
  simp only [Ty.rep]
  split
  ·rw [List.getD_eq_getElem?_getD]
   cases hg:args[(indexP params s).toNat]? with
   |none=>exact h
   |some a=>exact ha a (List.mem_of_getElem? hg)
  ·rename_i hc
   obtain ⟨h1,h2,h3,h4⟩:=h
   refine ⟨by rw [tysRep_map,List.length_map];exact h1,h2,fun hk=>by rw [h3 hk];rfl,tysSmall_rep ha l h4⟩
theorem tysSmall_rep {params:List Bs} {args:List Ty} (ha: ∀a ∈ args,a.small): ∀ (l:List Ty),tysSmall l→tysSmall (tysRep params args l)
 | [],_=>trivial
 |t::r,h=>⟨t.small_rep ha h.1,tysSmall_rep ha r h.2⟩
end
mutual
theorem Ty.small_ok: ∀ (t:Ty),t.small→t.ok
 | .mk k n s l ls tail,h=>⟨by unfold maxL;have:=h.1;omega,by unfold maxL;have:=h.2.1;omega,tysSmall_ok l h.2.2.2⟩
theorem tysSmall_ok: ∀ (l:List Ty),tysSmall l→tysOk l
 | [],_=>trivial
 |t::r,h=>⟨t.small_ok h.1,tysSmall_ok r h.2⟩
end
theorem tnode_few {k n:Int} {s:Bs} {len:Nat} {ls:List Lab} {tail:Int} (h:tnodeE k n s len ls tail=0):len≤4∧(k=1→len=0):=by
 unfold tnodeE at h
 split at h
 ·cases h
 split at h
 ·cases h
 split at h
 ·cases h
 rename_i _ _ hr
 rw [Bool.not_eq_true,Bool.not_eq_false'] at hr
 unfold inR mostT leastT at hr
 simp only [Bool.and_eq_true,decide_eq_true_eq] at hr
 constructor
 ·split at hr<;>(try split at hr)<;>omega
 ·intro hk
  subst hk
  simp at hr
  omega
mutual
theorem Ty.small_of: ∀ (t:Ty) (n d:Int),t.e=0→0≤n→0≤t.left n d→t.small
 | .mk k m s l ls tail,n,d,he,hn,hl=>by
  simp only [Ty.e] at he
  simp only [Ty.left] at hl
  split at he
  ·rename_i ht
   obtain ⟨f1,f2⟩:=tnode_few ht
   split at hl
   ·omega
   ·rename_i hd
    refine ⟨f1,by omega,fun hk=>List.length_eq_zero_iff.1 (f2 hk), ?_⟩
    by_cases hz:n - 1<0
    ·rw [tysLeft_neg _ _ _ hz] at hl;omega
    ·exact tysSmall_of2 l (n - 1) (d - 1) he (by omega) hl
  ·rename_i ht;exact absurd he ht
theorem tysSmall_of2: ∀ (l:List Ty) (n d:Int),tysE l=0→0≤n→0≤tysLeft l n d→tysSmall l
 | [],_,_,_,_,_=>trivial
 |t::r,n,d,he,hn,hl=>by
  simp only [tysE] at he
  simp only [tysLeft] at hl
  rw [if_pos hn] at hl
  split at he
  ·rename_i ht
   by_cases hz:t.left n d<0
   ·rw [tysLeft_neg _ _ _ hz] at hl;omega
   ·exact ⟨Ty.small_of t n d ht hn (by omega),tysSmall_of2 r _ d he (by omega) hl⟩
  ·rename_i ht;exact absurd he ht
end
theorem Ty.small_chk {t:Ty} (h:t.chk=0):t.small:=by
 have he:=Ty.chk_e h
 rw [t.chk_left] at h
 split at h
 ·cases h
 ·exact Ty.small_of t 3000 200 he (by omega) (by omega)
mutual
theorem Ty.rm_left: ∀ (t:Ty),t.small→ ∀ (n d:Int),0≤n→((t.rm d n).1=true↔0≤t.left n d)∧((t.rm d n).1=true→(t.rm d n).2=t.left n d)
 | .mk k m s l ls tail,hs,n,d,hn=>by
  obtain ⟨h1,h2,_,h4⟩:=hs
  simp only [Ty.rm,Ty.left]
  by_cases hd:d<1
  ·rw [if_pos (.inr hd),if_pos (.inl hd)]
   exact ⟨⟨fun h=>(by cases h),fun h=>(by omega)⟩,fun h=>(by cases h)⟩
  ·rw [if_neg (c:=d<1∨24<ls.length) (by omega)]
   by_cases hz:n - 1<0
   ·rw [if_pos (.inl hz),tysLeft_neg _ _ _ hz]
    exact ⟨⟨fun h=>(by cases h),fun h=>(by omega)⟩,fun h=>(by cases h)⟩
   ·rw [if_neg (by omega)]
    exact tysRm_left l h4 (n - 1) (d - 1) (by omega)
theorem tysRm_left: ∀ (l:List Ty),tysSmall l→ ∀ (n d:Int),0≤n→((tysRm l d n).1=true↔0≤tysLeft l n d)∧((tysRm l d n).1=true→(tysRm l d n).2=tysLeft l n d)
 | [],_,n,d,hn=>by
  simp only [tysRm,tysLeft]
  exact ⟨⟨fun _=>hn,fun _=>trivial⟩,fun _=>trivial⟩
 |t::r,hs,n,d,hn=>by
  obtain ⟨h1,h2⟩:=t.rm_left hs.1 n d hn
  simp only [tysRm,tysLeft]
  rw [if_pos hn]
  by_cases ht: (t.rm d n).1=true
  ·rw [if_pos ht,h2 ht]
   exact tysRm_left r hs.2 _ d (h1.1 ht)
  ·rw [if_neg ht,tysLeft_neg _ _ _ (by have:=mt h1.2 ht;omega)]
   exact ⟨⟨fun h=>(by cases h),fun h=>absurd (h1.2 h) ht⟩,fun h=>(by cases h)⟩
end
mutual
theorem Ty.rm_in: ∀ (t:Ty) (d n:Int),0≤n→ -1≤(t.rm d n).2∧(t.rm d n).2≤n∧((t.rm d n).1=true→0≤(t.rm d n).2)
 | .mk k m s l ls tail,d,n,hn=>by
  simp only [Ty.rm]
  split
  ·exact ⟨by simp only;omega,by simp only;omega,fun h=>(by cases h)⟩
  ·have:=tysRm_in l (d - 1) (n - 1) (by omega)
   exact ⟨this.1,by omega,this.2.2⟩
theorem tysRm_in: ∀ (l:List Ty) (d n:Int),0≤n→ -1≤(tysRm l d n).2∧(tysRm l d n).2≤n∧((tysRm l d n).1=true→0≤(tysRm l d n).2)
 | [],d,n,hn=>⟨by simp only [tysRm];omega,by simp only [tysRm];omega,fun _=>by simp only [tysRm];exact hn⟩
 |t::r,d,n,hn=>by
  have h1:=t.rm_in d n hn
  simp only [tysRm]
  split
  ·rename_i ht
   have:=tysRm_in r d _ (h1.2.2 ht)
   exact ⟨this.1,by omega,this.2.2⟩
  ·exact ⟨h1.1,h1.2.1,fun h=>(by cases h)⟩
end
theorem rep_tnode {params:List Bs} {args:List Ty} : ∀ (l:List Ty),(tysRep params args l).length=l.length:=fun l=>by rw [tysRep_map,List.length_map]
mutual
theorem Ty.rep_e {params:List Bs} {args:List Ty} (ha: ∀a ∈ args,a.e=0): ∀ (t:Ty),t.e=0→(t.rep params args).e=0
 | .mk k n s l ls tail,h=>by
  simp only [Ty.rep]
  split
  ·rw [List.getD_eq_getElem?_getD]
   cases hg:args[(indexP params s).toNat]? with
   |none=>exact h
   |some a=>exact ha a (List.mem_of_getElem? hg)
  ·simp only [Ty.e] at h ⊢
   rw [rep_tnode]
   split at h
   ·rename_i ht
    rw [if_pos ht]
    exact tysRep_e ha l h
   ·rename_i ht;exact absurd h ht
theorem tysRep_e {params:List Bs} {args:List Ty} (ha: ∀a ∈ args,a.e=0): ∀ (l:List Ty),tysE l=0→tysE (tysRep params args l)=0
 | [],_=>rfl
 |t::r,h=>by
  simp only [tysE,tysRep] at h ⊢
  split at h
  ·rename_i ht
   rw [if_pos (t.rep_e ha ht)]
   exact tysRep_e ha r h
  ·rename_i ht;exact absurd h ht
end
mutual
theorem Ty.rep_nil: ∀ (t:Ty),t.rep [] []=t
 | .mk k n s l ls tail=>by
  simp only [Ty.rep]
  have: ¬(k=1∧0≤indexP [] s):=by
   rintro ⟨_,h⟩
   unfold indexP at h
   simp at h
  rw [if_neg this,tysRep_nil l]
theorem tysRep_nil: ∀ (l:List Ty),tysRep [] [] l=l
 | []=>rfl
 |t::r=>by simp only [tysRep,t.rep_nil,tysRep_nil r]
end
theorem setAs {σ τ:St} {i k:Nat} {o o':Obj} : (σ.set i o++τ).set (σ.length+k) o'=σ.set i o++τ.set k o':=by
 have:σ.length=(σ.set i o).length:=by simp
 rw [this];exact setA
theorem k89 {pd:D} {l:List Bs} (h:StrsD pd l) (hl:l.length≤maxL) (s:Bs) (σ:St):CI (.fn 89) [pd, .str s] σ=some (.ret (.int .i64 (indexP l s)),σ):=by
 rcases h with rfl| ⟨rfl,rfl⟩
 ·exact c89 l s σ hl
 ·refine CI_tree0 tab89 (d:= .int .i64 (-1)) ?_ rfl rfl
  have hit:iterI (evalI CI XB GI 19 false lp89_0) [(0, .empty),(1, .str s),(7, .int .i64 0),(8, .int .i64 0)] σ=some (.exit 0,[(0, .empty),(1, .str s),(7, .int .i64 0),(8, .int .i64 0),(9, .bool false)],σ):=iterI_end (by simp [lp89_0]) (by simp)
  simp [bodyI,af89,hit]
theorem indexP_lt (l:List Bs) (s:Bs) (h:0≤indexP l s): ∃i:Nat,indexP l s=i∧i<l.length:=by
 unfold indexP at*
 cases hf:l.findIdx? (· ==s) with
 |none=>rw [hf] at h;simp at h
 |some i=>exact ⟨i,rfl,(List.findIdx?_eq_some_iff_getElem.1 hf).1⟩
def res61 (t:Ty) (d n:Int) (i:Nat) (σ:St):Option (FRes × St):=some ((if (t.rm d n).1 then .ret (.agg t.cs) else .panic (refD 3)),σ.set i (.box [.int .i64 (t.rm d n).2]))
def put61 (pd ad:D) (t u:Ty):Prop:= ∀ (d n:Int) (i:Nat) (σ:St),σ[i]? =some (.box [.int .i64 n])→0≤n→n≤3000→0≤d→d≤200→CI (.fn 61) [.ptr i 0, .agg t.cs,pd,ad, .int .i64 d] σ=res61 u d n i σ
def ArgsD (ad:D) (args:List Ty):Prop:=ad= .slice (args.map Ty.d)∨(ad= .empty∧args=[])
set_option maxHeartbeats 1000000 in
theorem it61 (params:List Bs) (args:List Ty) (pd ad:D) (l:List Ty) (hl:l.length≤4) (d:Int) (hd0:1≤d) (hd1:d≤200) (i:Nat) (σ:St) (hi:i<σ.length) (tc:List D)
 (ih: ∀x ∈ l,put61 pd ad x (x.rep params args)): ∀ (r pre:List Ty),pre++r=l→ ∀ (b:Int) (es:List D) (since:Nat) (τ:St),0≤b→b≤3000→since≤l.length→es=pre.map (fun x=>(x.rep params args).d)++List.replicate r.length (.agg z6)→
 ∃τ' ev since',since'≤l.length∧iterI (evalI CI XB GI 90 false lp61_0) [(0, .ptr i 0),(2,pd),(3,ad),(4, .int .i64 d),(6, .ptr σ.length 0),(10, .ptr (σ.length+1) 0),(12, .arr (σ.length+2) l.length 0 l.length),(56, .slice (l.map Ty.d)),(57, .int .i64 l.length),(58, .int .i64 pre.length)] (σ.set i (.box [.int .i64 b])++([.box tc, .box z6, .row 6 es since]++τ))=
  some (if (tysRm (tysRep params args r) (d - 1) b).1 then (.exit 0,[(0, .ptr i 0),(2,pd),(3,ad),(4, .int .i64 d),(6, .ptr σ.length 0),(10, .ptr (σ.length+1) 0),(12, .arr (σ.length+2) l.length 0 l.length),(56, .slice (l.map Ty.d)),(57, .int .i64 l.length),(58, .int .i64 l.length),(59, .bool false)],σ.set i (.box [.int .i64 (tysRm (tysRep params args r) (d - 1) b).2])++([.box tc, .box z6, .row 6 (l.map fun x=>(x.rep params args).d) since']++τ'))
   else (.panic (refD 3),ev,σ.set i (.box [.int .i64 (tysRm (tysRep params args r) (d - 1) b).2])++τ'))
 | [],pre,hp,b,es,since,τ,hb0,hb1,hs,he=>by
  obtain rfl:pre=l:=by rw [←hp];simp
  refine ⟨τ,[],since,hs,iterI_end ?_ (by simp [tysRm,tysRep])⟩
  have hes:es=pre.map fun x=>(x.rep params args).d:=by rw [he];simp
  rw [hes]
  simp only [tysRep,tysRm,if_true]
  generalize σ.set i (.box [.int .i64 b])++([.box tc, .box z6, .row 6 (pre.map fun x=>(x.rep params args).d) since]++τ)=σ1 at*
  generalize pre.map Ty.d=ld at*
  simp [lp61_0]
 |x::r,pre,hp,b,es,since,τ,hb0,hb1,hs,he=>by
  have hxl:x ∈ l:=by rw [←hp];simp
  have hpl:pre.length<l.length:=by rw [←hp];simp
  have hput:=ih x hxl (d - 1) b i (σ.set i (.box [.int .i64 b])++([.box tc, .box z6, .row 6 es since]++τ++[.box x.cs])) (getSs hi) hb0 hb1 (by omega) (by omega)
  have hbr:=(x.rep params args).rm_in (d - 1) b hb0
  have hlen:es.length=l.length:=by rw [he,←hp];simp
  have hat:es[pre.length]? =some (.agg z6):=by
   rw [he,List.getElem?_append_right (by simp)];simp
  have hset:es.set pre.length (.agg (x.rep params args).cs)=(pre++[x]).map (fun x=>(x.rep params args).d)++List.replicate r.length (.agg z6):=by
   rw [he,List.set_append_right _ _ (by simp)]
   simp [List.replicate_succ,Ty.d]
  obtain ⟨ld,hld,hll,hlg⟩:=opq Ty.d l
  obtain ⟨h2,h3⟩:=hlg pre.length hpl
  have hlx:l[pre.length]=x:=by
   have:l[pre.length]? =some x:=by rw [←hp];simp
   rw [List.getElem?_eq_getElem hpl] at this;exact Option.some.inj this
  rw [hlx] at h3
  have ih2:=it61 params args pd ad l hl d hd0 hd1 i σ hi tc ih r (pre++[x]) (by rw [←hp];simp) ((x.rep params args).rm (d - 1) b).2 (es.set pre.length (.agg (x.rep params args).cs)) l.length (τ++[.box x.cs])
  rw [hld] at ih2 ⊢
  have hw:=wrap_nat (n:=pre.length) (by omega)
  have hwd:IntKind.i64.wrap (d - 1)=d - 1:=wrap_i64 (by omega) (by omega)
  have hii: (pre.length:Int) <l.length:=by omega
  have y1:=x.cs_len
  have y2:=x.cs_take
  have y3:x.cs.all D.one=true:=by cases x;rfl
  have w1:=(x.rep params args).cs_len
  have w2: (x.rep params args).cs.all D.one=true:=by cases x.rep params args;rfl
  unfold res61 at hput
  rw [setSs hi] at hput
  simp only [tysRep,tysRm]
  have hrow: ∀ (c:Int) (y:St),(σ.set i (.box [.int .i64 c])++([Obj.box tc, .box z6, .row 6 es since]++τ++y))[σ.length+2]? =some (.row 6 es since):=fun c y=>by rw [List.append_assoc];exact getAs
  have hrs: ∀ (c:Int) (y:St) (o:Obj),(σ.set i (.box [.int .i64 c])++([Obj.box tc, .box z6, .row 6 es since]++τ++y)).set (σ.length+2) o=σ.set i (.box [.int .i64 c])++([.box tc, .box z6,o]++(τ++y)):=fun c y o=>by rw [List.append_assoc,setAs];rfl
  have e0: ∀ (c:Int),σ.set i (.box [.int .i64 c])++([Obj.box tc, .box z6, .row 6 es since]++τ++[Obj.box x.cs])=σ.set i (.box [.int .i64 c])++([.box tc, .box z6, .row 6 es since]++τ)++[Obj.box x.cs]:=fun c=>by simp
  have hput0:=hput
  rw [e0] at hput
  unfold Ty.d at h3
  by_cases hok: ((x.rep params args).rm (d - 1) b).1=true
  ·obtain ⟨τ',ev,since',hs',ih2⟩:=ih2 (hbr.2.2 hok) (by omega) (Nat.le_refl _) hset
   refine ⟨τ',ev,since',hs', ?_⟩
   simp only [if_pos hok] at hput ⊢
   have e1: (pre++[x]).length=pre.length+1:=by simp
   rw [e1] at ih2
   rw [←ih2]
   refine iterI_next ?_
   have hr2:=hrs ((x.rep params args).rm (d - 1) b).2 [.box x.cs] (.row 6 (es.set pre.length (.agg (x.rep params args).cs)) l.length)
   have hr1:=hrow ((x.rep params args).rm (d - 1) b).2 [.box x.cs]
   rw [←hr2]
   clear ih2 hr2 hrs hrow hset he e0 hput0
   generalize σ.set i (.box [.int .i64 ((x.rep params args).rm (d - 1) b).2])++([.box tc, .box z6, .row 6 es since]++τ++[Obj.box x.cs])=σ2 at*
   generalize σ.set i (.box [.int .i64 b])++([.box tc, .box z6, .row 6 es since]++τ)=σ1 at*
   generalize x.cs=xc at*
   generalize (x.rep params args).cs=rc at*
   have hdr:rc.drop 6=[]:=List.drop_eq_nil_of_le (by omega)
   have hes2:pre.length<es.length:=by omega
   have hs2:since≤l.length:=hs
   have hat2:es[pre.length]= .agg z6:=by rw [List.getElem?_eq_getElem hes2] at hat;exact Option.some.inj hat
   simp [lp61_0,hii,hpl,hw,hwd,hll,h2,h3,getA0,setA0,y1,y2,y3,w1,w2,hput,hr1,hlen,hs2,hat2,hdr]
  ·simp only [if_neg hok] at hput ⊢
   have hstep: ∃ev,evalI CI XB GI 90 false lp61_0 [(0, .ptr i 0),(2,pd),(3,ad),(4, .int .i64 d),(6, .ptr σ.length 0),(10, .ptr (σ.length+1) 0),(12, .arr (σ.length+2) l.length 0 l.length),(56, .slice ld),(57, .int .i64 l.length),(58, .int .i64 pre.length)] (σ.set i (.box [.int .i64 b])++([.box tc, .box z6, .row 6 es since]++τ))=
    some (.panic (refD 3),ev,σ.set i (.box [.int .i64 ((x.rep params args).rm (d - 1) b).2])++([.box tc, .box z6, .row 6 es since]++τ++[.box x.cs])):=by
    generalize σ.set i (.box [.int .i64 ((x.rep params args).rm (d - 1) b).2])++([.box tc, .box z6, .row 6 es since]++τ++[Obj.box x.cs])=σ2 at*
    generalize σ.set i (.box [.int .i64 b])++([.box tc, .box z6, .row 6 es since]++τ)=σ1 at*
    generalize x.cs=xc at*
    refine ⟨[(0, .ptr i 0),(2,pd),(3,ad),(4, .int .i64 d),(6, .ptr σ.length 0),(10, .ptr (σ.length+1) 0),(12, .arr (σ.length+2) l.length 0 l.length),(13, .int .i64 pre.length),(14, .ptr σ1.length 0),(56, .slice ld),(57, .int .i64 l.length),(58, .int .i64 pre.length),(66, .agg xc),(70, .int .i64 (d - 1))], ?_⟩
    simp [lp61_0,hii,hpl,hw,hwd,hll,h2,h3,getA0,setA0,y1,y2,y3,hput]
   obtain ⟨ev,hstep⟩:=hstep
   exact ⟨_,ev,since,hs,iterI_end hstep (by simp)⟩
def datIx (p:Prg) (s:Bs):Nat:=(idxOf (fun x:Dat=>x.name==s) p.data).toNat
mutual
def Ty.has (p:Prg) (params:List Bs) (T:Nat→Nat→Bool) (set:Nat):Ty→Bool
 | .mk k _ s l _ _=>if k=1 then (set / 2 ^ (indexP params s).toNat) % 2==1 else if k=6 then T (datIx p s) (tysBits p params T set l) else true
def tysBits (p:Prg) (params:List Bs) (T:Nat→Nat→Bool) (set:Nat):List Ty→Nat
 | []=>0
 |t::r=>(if t.has p params T set then 1 else 0) +2*tysBits p params T set r
end
def bitsL:List Bool→Nat
 | []=>0
 |b::r=>(if b then 1 else 0) +2*bitsL r
theorem tysBits_map (p:Prg) (params:List Bs) (T:Nat→Nat→Bool) (set:Nat): ∀ (l:List Ty),tysBits p params T set l=bitsL (l.map fun t=>t.has p params T set)
 | []=>rfl
 |t::r=>by simp only [tysBits,List.map_cons,bitsL,tysBits_map p params T set r]
theorem bitsL_lt: ∀ (l:List Bool),bitsL l<2 ^ l.length
 | []=>by simp [bitsL]
 |b::r=>by
  have:=bitsL_lt r
  simp only [bitsL,List.length_cons,Nat.pow_succ]
  split<;>omega
theorem bitsL_snoc: ∀ (l:List Bool) (b:Bool),bitsL (l++[b])=bitsL l+ (if b then 2 ^ l.length else 0)
 | [],b=>by cases b<;>rfl
 |a::r,b=>by
  simp only [List.cons_append,bitsL,bitsL_snoc r b,List.length_cons,Nat.pow_succ]
  cases b<;>simp<;>omega
def tabC (T:Nat→Nat→Bool):List D:=(List.range 192).map fun j=> .int .i64 (if T (j / 16) (j % 16) then 1 else 0)
theorem tabC_len (T:Nat→Nat→Bool): (tabC T).length=192:=by simp [tabC]
theorem tabC_get (T:Nat→Nat→Bool) (i s:Nat) (hi:i<12) (hs:s<16): (tabC T)[i*16+s]? =some (.int .i64 (if T i s then 1 else 0)):=by
 unfold tabC
 rw [List.getElem?_map,List.getElem?_range (by omega)]
 have h1: (i*16+s) / 16=i:=by omega
 have h2: (i*16+s) % 16=s:=by omega
 simp only [Option.map_some,h1,h2]
theorem or_fact: ∀ (i:Fin 4) (own:Fin 16),own.val<2 ^ i.val→IntKind.i64.wrap ((BitVec.ofNat 64 own.val|||BitVec.ofInt 64 (2 ^ i.val:Int)).toNat:Int)=(own.val:Int) +2 ^ i.val:=by decide+kernel
theorem shl_fact: ∀ (i:Fin 5),IntKind.i64.wrap (2 ^ (min i.val 64))=2 ^ i.val:=by decide+kernel
theorem shr_fact: ∀ (j:Fin 4) (set:Fin 16),IntKind.i64.wrap ((BitVec.ofInt 64 ((set.val:Int).fdiv (2 ^ (min j.val 64)))&&& 1#64).toNat:Int)=((set.val / 2 ^ j.val % 2:Nat):Int):=by decide+kernel
theorem ord_param {p:Prg} {params:List Bs} {s:Bs} {len:Nat} {ls:List Lab} (h:ordN p params 1 s len ls=0):0≤indexP params s:=by
 unfold ordN at h
 simp at h
 have h1:=indexP_ge params s
 rw [show params.contains s=true from h] at h1
 simpa using h1
theorem ord_data {p:Prg} {params:List Bs} {s:Bs} {len:Nat} {ls:List Lab} (h:ordN p params 6 s len ls=0): ∃i:Nat,idxOf (fun x:Dat=>x.name==s) p.data=i∧datIx p s=i∧ ∃hi:i<p.data.length,p.data[i].params.length=len:=by
 unfold ordN at h
 rw [if_neg (by decide),if_pos rfl] at h
 rcases idxOf_find (fun x:Dat=>x.name==s) p.data with ⟨_,hf⟩ | ⟨i,hi,hil,hf,_⟩
 ·rw [hf] at h;cases h
 ·rw [hf] at h
  simp only at h
  refine ⟨i,hi,by unfold datIx;rw [hi];rfl,hil, ?_⟩
  split at h
  ·assumption
  ·cases h
theorem ord_parts {p:Prg} {params:List Bs} {k n:Int} {s:Bs} {l:List Ty} {ls:List Lab} {tail:Int} (h: (Ty.mk k n s l ls tail).ord p params=0):ordN p params k s l.length ls=0∧ ∀t ∈ l,t.ord p params=0:=by
 simp only [Ty.ord] at h
 split at h
 ·rename_i h0
  rw [tysOrd_first,firstE_zero] at h
  exact ⟨h0,fun t ht=>h _ (List.mem_map_of_mem ht)⟩
 ·rename_i h0;exact absurd h h0
set_option maxHeartbeats 1000000 in
theorem c66 (p:Prg) (m:CMap) (hdl:p.data.length≤12) (T:Nat→Nat→Bool) (params:List Bs) (hpl:params.length≤4) (pd:D) (hpd:StrsD pd params) (set:Nat) (hset:set<16) (tb f:Nat):
 ∀ (t:Ty),t.small→t.ord p params=0→ ∀ (σ:St),IsT σ tb p m→σ[f]? =some (.box (tabC T))→CI (.fn 66) [.ptr tb 0, .ptr f 0, .agg t.cs,pd, .int .i64 set] σ=some (.ret (.bool (t.has p params T set)),σ)
 | .mk k n s l ls tail,hsm,hord,σ,hT,hf=>by
  obtain ⟨hl4,_,_,hls⟩:=hsm
  obtain ⟨ho,hop⟩:=ord_parts hord
  have ih:=fun x (hx:x ∈ l) σ=>c66 p m hdl T params hpl pd hpd set hset tb f x (tysSmall_mem hls hx) (hop x hx) σ
  obtain ⟨ld,hld,hll,hlg⟩:=opq Ty.d l
  obtain ⟨sd,hsd,hsl,hsg⟩:=opq Lab.d ls
  have hcs: (Ty.mk k n s l ls tail).cs=[.int .i64 k, .int .i64 n, .str s, .slice ld, .slice sd, .int .i64 tail]:=by simp only [Ty.cs,tysD_map,hld,hsd]
  rw [hcs]
  suffices h: ∃τ,bodyI CI XB GI af66 [.ptr tb 0, .ptr f 0, .agg [.int .i64 k, .int .i64 n, .str s, .slice ld, .slice sd, .int .i64 tail],pd, .int .i64 set] σ=some (.ret (.bool ((Ty.mk k n s l ls tail).has p params T set)),σ++τ) by
   obtain ⟨τ,h⟩:=h
   exact CI_tree tab66 h rfl rfl
  simp only [Ty.has]
  by_cases k1:k=1
  ·subst k1
   obtain ⟨j,hj,hjl⟩:=indexP_lt params s (ord_param ho)
   have h89:=fun σ=>k89 hpd (by unfold maxL;omega) s σ
   rw [hj] at h89
   refine ⟨[.box [.int .i64 1, .int .i64 n, .str s, .slice ld, .slice sd, .int .i64 tail]], ?_⟩
   have hsh:=shr_fact ⟨j,by omega⟩ ⟨set,hset⟩
   have hj0: ¬(j:Int) <0:=by omega
   rw [if_pos rfl,hj]
   simp only at hsh
   have hb: (((set / 2 ^ j % 2:Nat):Int) ==1)=(set / 2 ^ j % 2==1):=by
    rw [Bool.eq_iff_iff,beq_iff_eq,beq_iff_eq];omega
   have e0: ((j:Int)).toNat=j:=by omega
   rw [e0]
   generalize set / 2 ^ j % 2=v at*
   simp [bodyI,af66,getA0,getA,h89,arithD,intArith,hj0,IntKind.bits]
   exact (congrArg (fun z=>z==(1:Int)) hsh).trans hb
  rw [if_neg k1]
  have b1: (k==1)=false:=by simpa using k1
  by_cases k6:k=6
  rotate_left
  ·rw [if_neg k6]
   have b6: (k==6)=false:=by simpa using k6
   refine ⟨[.box [.int .i64 k, .int .i64 n, .str s, .slice ld, .slice sd, .int .i64 tail]], ?_⟩
   simp [bodyI,af66,getA0,getA,b1,b6]
  subst k6
  rw [if_pos rfl]
  obtain ⟨i,hi,hix,hil,_⟩:=ord_data ho
  have h117:=fun σ hT=>c117 p m (by unfold maxL;omega) s tb σ hT
  have hit:=loop_seek (f:=evalI CI XB GI 58 false lp66_0) (σ:=σ++[.box [.int .i64 6, .int .i64 n, .str s, .slice ld, .slice sd, .int .i64 tail]]) l (fun i=>[(0, .ptr tb 0),(1, .ptr f 0),(3,pd),(4, .int .i64 set),(7, .ptr σ.length 0),(11, .int .i64 (bitsL ((l.take i).map fun t=>t.has p params T set):Nat)),(29, .slice ld),(30, .int .i64 l.length),(31, .int .i64 (i:Nat))]) (fun _=>false) (fun _=>(.ret,[]))
   (.exit 1,[(0, .ptr tb 0),(1, .ptr f 0),(3,pd),(4, .int .i64 set),(7, .ptr σ.length 0),(11, .int .i64 (bitsL ((l.take l.length).map fun t=>t.has p params T set):Nat)),(29, .slice ld),(30, .int .i64 l.length),(31, .int .i64 l.length),(32, .bool false)]) (by simp) (by simp)
   (fun j hj τ=>by
     have hw:=wrap_nat (n:=j) (by omega)
     obtain ⟨h2,h3⟩:=hlg j hj
     have hjj: (j:Int) <l.length:=by omega
     have y1:=l[j].cs_len
     have y2:=l[j].cs_take
     have y3:l[j].cs.all D.one=true:=by cases l[j];rfl
     have ih:=ih l[j] (List.getElem_mem hj) (σ++[.box [.int .i64 6, .int .i64 n, .str s, .slice ld, .slice sd, .int .i64 tail]]++τ++[.box l[j].cs]) hT.app.app.app (getO (getO (getO hf)))
     refine ⟨τ++[.box l[j].cs], ?_⟩
     rw [←List.append_assoc]
     have htk: (l.take (j+1)).map (fun t=>t.has p params T set)=(l.take j).map (fun t=>t.has p params T set)++[l[j].has p params T set]:=by
      rw [List.take_succ_eq_append_getElem hj,List.map_append];rfl
     have hlt:=bitsL_lt ((l.take j).map fun t=>t.has p params T set)
     have htl: ((l.take j).map fun t=>t.has p params T set).length=j:=by simp;omega
     rw [htk,bitsL_snoc]
     rw [htl] at hlt ⊢
     unfold Ty.d at h3
     generalize bitsL ((l.take j).map fun t=>t.has p params T set)=own at*
     generalize l[j].has p params T set=b at*
     generalize l[j].cs=xc at*
     generalize σ++[Obj.box [.int .i64 6, .int .i64 n, .str s, .slice ld, .slice sd, .int .i64 tail]]++τ=σ1 at*
     have hp4:2 ^ j≤16:=by
      have:2 ^ j≤2 ^ 4:=Nat.pow_le_pow_right (by omega) (by omega)
      omega
     have hor:=or_fact ⟨j,by omega⟩ ⟨own,by omega⟩ hlt
     have hsh:=shl_fact ⟨j,by omega⟩
     simp only at hor hsh
     have hj0: ¬(j:Int) <0:=by omega
     have e0: ((j:Int)).toNat=j:=by omega
     have ecast: ((2 ^ j:Nat):Int)=2 ^ j:=by simp
     cases b
     ·simp [lp66_0,hj,hjj,hw,h2,h3,y1,y2,y3,getA0,setA0,ih]
     ·simp [lp66_0,hj,hjj,hw,h2,h3,y1,y2,y3,getA0,setA0,ih,arithD,intArith,hj0,hsh,IntKind.bits]
      exact hor) (fun τ=>⟨τ,by simp [lp66_0]⟩) []
  obtain ⟨τ,hit⟩:=hit
  rw [List.find?_eq_none.2 (by simp),List.append_nil,Int.natCast_zero,List.take_zero,List.take_length] at hit
  simp only [List.map_nil,bitsL,Int.natCast_zero] at hit
  rw [hix,tysBits_map]
  have hlt:=bitsL_lt (l.map fun t=>t.has p params T set)
  rw [List.length_map] at hlt
  have hp4:2 ^ l.length≤2 ^ 4:=Nat.pow_le_pow_right (by omega) (by omega)
  have hown:bitsL (l.map fun t=>t.has p params T set) <16:=by omega
  refine ⟨[.box [.int .i64 6, .int .i64 n, .str s, .slice ld, .slice sd, .int .i64 tail]]++τ, ?_⟩
  rw [←List.append_assoc]
  have hT2:IsT (σ++[Obj.box [.int .i64 6, .int .i64 n, .str s, .slice ld, .slice sd, .int .i64 tail]]++τ) tb p m:=hT.app.app
  have h117:=h117 _ hT2
  rw [hi] at h117
  have hf2: (σ++[Obj.box [.int .i64 6, .int .i64 n, .str s, .slice ld, .slice sd, .int .i64 tail]]++τ)[f]? =some (.box (tabC T)):=getO (getO hf)
  have hx2: (σ++[Obj.box [.int .i64 6, .int .i64 n, .str s, .slice ld, .slice sd, .int .i64 tail]]++τ)[σ.length]? =some (.box [.int .i64 6, .int .i64 n, .str s, .slice ld, .slice sd, .int .i64 tail]):=by rw [List.append_assoc];exact getA0
  have hti:=tabC_get T i (bitsL (l.map fun t=>t.has p params T set)) (by omega) hown
  generalize bitsL (l.map fun t=>t.has p params T set)=own at*
  generalize T i own=b at*
  have htl:=tabC_len T
  have q117:qI 117=true:=rfl
  have x117:XB 117=false:=rfl
  have hi12: (i:Int) <12:=by omega
  have ho16: (own:Int) <16:=by omega
  have hi0: (0:Int)≤i:=by omega
  have hhd: (List.drop (i*16+own) (tabC T)).head?=some (.int .i64 (if b then 1 else 0)):=by rw [List.head?_drop];exact hti
  generalize tabC T=tc at*
  generalize σ++[Obj.box [.int .i64 6, .int .i64 n, .str s, .slice ld, .slice sd, .int .i64 tail]]++τ=σ2 at*
  cases b<;>simp [bodyI,af66,getA0,getA,hll,hit,hf2,hx2,h117,hi12,ho16,hi0,hhd,hti,q117,x117,Nat.testBit_eq_decide_div_mod_eq]
termination_by t=>SizeOf.sizeOf t
decreasing_by
 have:=List.sizeOf_lt_of_mem hx
 simp only [Ty.mk.sizeOf_spec]
 omega
def conHas (p:Prg) (params:List Bs) (T:Nat→Nat→Bool) (set:Nat) (c:Con):Bool:=c.args.all fun x=>x.has p params T set
theorem seekM_all {α:Type} (q:α→Bool): ∀ (l:List α) (i:Nat),(l.all q=true∧seekM (fun i a=>if q a then none else some i) l i=none)∨(l.all q=false∧ ∃j,seekM (fun i a=>if q a then none else some i) l i=some j)
 | [],_=> .inl ⟨rfl,rfl⟩
 |a::r,i=>by
  rw [List.all_cons]
  simp only [seekM]
  cases hq:q a
  ·exact .inr ⟨rfl,i,by simp⟩
  ·simp only [if_true,Bool.true_and]
   exact seekM_all q r (i+1)
abbrev b67 (tb n0 dq:Nat) (v4 v6 v8 v24 v25 v26 v34 v35 v39 v40 v41:D):Env:=[(0, .ptr tb 0),(3, .ptr n0 0),(4,v4),(6,v6),(7, .ptr dq 0),(8,v8),(24,v24),(25,v25),(26,v26),(34,v34),(35,v35),(39,v39),(40,v40),(41,v41)]
set_option maxHeartbeats 2000000 in
theorem it67_0 (p:Prg) (m:CMap) (hdl:p.data.length≤12) (T:Nat→Nat→Bool) (params:List Bs) (hpl:params.length≤4) (set:Nat) (hset:set<16) (tb n0 dq:Nat) (dn:Bs) (dc:D) (v4 v6 v24 v25 v26 v34 v35 v39 v40 v41:D)
 (l:List Ty) (hl:l.length≤4) (hls: ∀x ∈ l,x.small∧x.ord p params=0) (σ:St) (hT:IsT σ tb p m) (hn:σ[n0]? =some (.box (tabC T))) (hd:σ[dq]? =some (.box [.str dn,slD params,dc])):
 (l.all (fun x=>x.has p params T set)=true∧ ∃τ,iterI (evalI CI XB GI 67 false lp67_0) (b67 tb n0 dq v4 v6 (.int .i64 set) v24 v25 v26 v34 v35 v39 v40 v41++[(46, .slice (l.map Ty.d)),(47, .int .i64 l.length),(48, .int .i64 (0:Nat))]) σ=
   some (.exit 8,b67 tb n0 dq v4 v6 (.int .i64 set) v24 v25 v26 v34 v35 v39 v40 v41++[(46, .slice (l.map Ty.d)),(47, .int .i64 l.length),(48, .int .i64 l.length),(49, .bool false)],σ++τ))∨
 (l.all (fun x=>x.has p params T set)=false∧ ∃τ,∃j:Nat,iterI (evalI CI XB GI 67 false lp67_0) (b67 tb n0 dq v4 v6 (.int .i64 set) v24 v25 v26 v34 v35 v39 v40 v41++[(46, .slice (l.map Ty.d)),(47, .int .i64 l.length),(48, .int .i64 (0:Nat))]) σ=
   some (.exit 7,b67 tb n0 dq v4 v6 (.int .i64 set) v24 v25 v26 v34 v35 v39 v40 v41++[(46, .slice (l.map Ty.d)),(47, .int .i64 l.length),(48, .int .i64 j),(58, .bool true)],σ++τ)):=by
 obtain ⟨ld,hld,hll,hlg⟩:=opq Ty.d l
 rw [hld]
 have hit:=loop_seekM (f:=evalI CI XB GI 67 false lp67_0) (σ:=σ) l (fun i=>b67 tb n0 dq v4 v6 (.int .i64 set) v24 v25 v26 v34 v35 v39 v40 v41++[(46, .slice ld),(47, .int .i64 l.length),(48, .int .i64 (i:Nat))]) (fun i a=>if a.has p params T set then none else some i)
  (fun j=>(.exit 7,b67 tb n0 dq v4 v6 (.int .i64 set) v24 v25 v26 v34 v35 v39 v40 v41++[(46, .slice ld),(47, .int .i64 l.length),(48, .int .i64 (j:Nat)),(58, .bool true)]))
  (.exit 8,b67 tb n0 dq v4 v6 (.int .i64 set) v24 v25 v26 v34 v35 v39 v40 v41++[(46, .slice ld),(47, .int .i64 l.length),(48, .int .i64 l.length),(49, .bool false)]) (by simp) (by simp)
  (fun j hj τ=>by
    have hw:=wrap_nat (n:=j) (by omega)
    obtain ⟨h2,h3⟩:=hlg j hj
    have hjj: (j:Int) <l.length:=by omega
    have y1:=l[j].cs_len
    have y2:=l[j].cs_take
    have y3:l[j].cs.all D.one=true:=by cases l[j];rfl
    obtain ⟨hsm,hord⟩:=hls l[j] (List.getElem_mem hj)
    have h66:=c66 p m hdl T params hpl (slD params) (.inl rfl) set hset tb n0 l[j] hsm hord (σ++τ++[.box l[j].cs]) hT.app.app (getO (getO hn))
    have y4:eqbL l[j].cs l[j].cs=true:=eqbL_tree _ l[j].plain.1
    have p4: (slD params).eqb (slD params)=true:=D.eqb_tree _ (plain_strs _).1
    have g1: ∀y,(σ++τ++y)[dq]? =some (.box [.str dn,slD params,dc]):=fun y=>getO (getO hd)
    refine ⟨τ++[.box l[j].cs], ?_⟩
    rw [←List.append_assoc]
    unfold Ty.d at h3
    have x66:XB 66=false:=rfl
    have q66:qI 66=false:=rfl
    generalize slD params=pd at*
    generalize l[j].cs=xc at*
    generalize σ++τ=σ1 at*
    generalize l[j].has p params T set=b at*
    cases b<;>simp [lp67_0,hj,hjj,hw,hll,h2,h3,y1,y2,y3,getA0,getA,setA0,setA,h66,g1,x66,q66,y4,p4,Nat.testBit_eq_decide_div_mod_eq]) (fun τ=>⟨τ,by simp [lp67_0]⟩) []
 obtain ⟨τ,hit⟩:=hit
 rw [List.append_nil] at hit
 rcases seekM_all (fun x:Ty=>x.has p params T set) l 0 with ⟨h1,h2⟩ | ⟨h1,j,h2⟩
 ·rw [h2] at hit
  exact .inl ⟨h1,τ,hit⟩
 ·rw [h2] at hit
  exact .inr ⟨h1,τ,j,hit⟩
def setT (T:Nat→Nat→Bool) (i s:Nat):Nat→Nat→Bool:=fun a b=>if a=i∧b=s then true else T a b
theorem setT_setT (T:Nat→Nat→Bool) (i s:Nat):setT (setT T i s) i s=setT T i s:=by
 funext a b;unfold setT;split<;>rfl
theorem tabC_at (T:Nat→Nat→Bool) (j:Nat) (hj:j<192): (tabC T)[j]? =some (.int .i64 (if T (j / 16) (j % 16)=true then 1 else 0)):=by
 unfold tabC
 rw [List.getElem?_map,List.getElem?_range hj]
 rfl
theorem tabC_set (T:Nat→Nat→Bool) (i s:Nat) (hi:i<12) (hs:s<16): (tabC T).take (i*16+s)++D.int .i64 1::(tabC T).drop (i*16+s+1)=tabC (setT T i s):=by
 have hl:=tabC_len T
 have h: (tabC T).take (i*16+s)++D.int .i64 1::(tabC T).drop (i*16+s+1)=(tabC T).set (i*16+s) (.int .i64 1):=by
  rw [List.set_eq_take_append_cons_drop,if_pos (by omega)]
 rw [h]
 apply List.ext_getElem?
 intro j
 rw [List.getElem?_set]
 by_cases hj:j<192
 ·rw [tabC_at _ j hj,tabC_at _ j hj]
  unfold setT
  split
  ·rename_i he
   rw [if_pos (by omega),if_pos (show j / 16=i∧j % 16=s by omega),if_pos rfl]
  ·rename_i he
   rw [if_neg (c:=j / 16=i∧j % 16=s) (by omega)]
 ·rw [if_neg (by omega),List.getElem?_eq_none (by rw [tabC_len];omega),List.getElem?_eq_none (by rw [tabC_len];omega)]
def S67 (σ:St) (bl:Obj) (τ0:St) (T:Nat→Nat→Bool):St:=σ++Obj.box (tabC T)::bl::τ0
theorem S67_get {σ:St} {bl:Obj} {τ0:St} {T:Nat→Nat→Bool} (y:St): (S67 σ bl τ0 T++y)[σ.length]? =some (.box (tabC T)):=by
 unfold S67;simp
theorem S67_set {σ:St} {bl:Obj} {τ0:St} {T T':Nat→Nat→Bool} (y:St): (S67 σ bl τ0 T++y).set σ.length (.box (tabC T'))=S67 σ bl τ0 T'++y:=by
 unfold S67;simp
theorem S67_isT {σ:St} {bl:Obj} {τ0:St} {T:Nat→Nat→Bool} {tb:Nat} {p:Prg} {m:CMap} (h:IsT σ tb p m):IsT (S67 σ bl τ0 T) tb p m:=h.app
def conStep (p:Prg) (params:List Bs) (i set:Nat) (T:Nat→Nat→Bool) (c:Con):Nat→Nat→Bool:=if conHas p params T set c then setT T i set else T
set_option maxHeartbeats 4000000 in
theorem rnd67_1 (p:Prg) (m:CMap) (hdl:p.data.length≤12) (T:Nat→Nat→Bool) (params:List Bs) (hpl:params.length≤4) (set di:Nat) (hset:set<16) (hdi:di<12) (tb dq:Nat) (dn:Bs) (dc:D) (v4 v24 v25 v26 v34 v35:D)
 (l:List Con) (hll:l.length≤100) (hls: ∀c ∈ l,c.args.length≤4∧ ∀x ∈ c.args,x.small∧x.ord p params=0) (σ:St) (bl:Obj) (τ0:St) (hT:IsT σ tb p m) (hd: ∀T y,(S67 σ bl τ0 T++y)[dq]? =some (.box [.str dn,slD params,dc])) (k:Nat) (hk:k<l.length) (τ:St):
 ∃τ',evalI CI XB GI 67 false lp67_1 (b67 tb σ.length dq v4 (.int .i64 di) (.int .i64 set) v24 v25 v26 v34 v35 (.slice (l.map Con.d)) (.int .i64 l.length) (.int .i64 (k:Nat))) (S67 σ bl τ0 T++τ)=
  some (.normal,b67 tb σ.length dq v4 (.int .i64 di) (.int .i64 set) v24 v25 v26 v34 v35 (.slice (l.map Con.d)) (.int .i64 l.length) (.int .i64 (k+1:Nat)),S67 σ bl τ0 (conStep p params di set T l[k])++τ'):=by
 have hw:=wrap_nat (n:=k) (by omega)
 obtain ⟨ld,hld,hlen,hlg⟩:=opq Con.d l
 rw [hld]
 obtain ⟨h2,h3⟩:=hlg k hk
 have hkk: (k:Int) <l.length:=by omega
 obtain ⟨ha4,has⟩:=hls l[k] (List.getElem_mem hk)
 have hS:=it67_0 p m hdl T params hpl set hset tb σ.length dq dn dc v4 (.int .i64 di) v24 v25 v26 v34 v35 (.slice ld) (.int .i64 l.length) (.int .i64 (k:Nat)) l[k].args ha4 has (S67 σ bl τ0 T++τ++[.box l[k].cs]) (S67_isT hT).app.app (getO (S67_get _)) (getO (hd _ _))
 have hcd:l[k].d= .agg [.str l[k].name, .slice (l[k].args.map Ty.d)]:=by unfold Con.d Con.cs;rw [tysD_map]
 have hcs:l[k].cs=[.str l[k].name, .slice (l[k].args.map Ty.d)]:=by unfold Con.cs;rw [tysD_map]
 rw [hcd] at h3
 rw [hcs] at hS
 have hal: (l[k].args.map Ty.d).length=l[k].args.length:=List.length_map _
 unfold conStep conHas
 have hg: ∀y,(S67 σ bl τ0 T++τ++y)[σ.length]? =some (.box (tabC T)):=fun y=>getO (S67_get _)
 have hdi16: (di:Int) <12:=by omega
 have hs16: (set:Int) <16:=by omega
 rcases hS with ⟨hall,τ1,hS⟩ | ⟨hall,τ1,j,hS⟩
 ·rw [hall,if_pos rfl]
  refine ⟨τ++([.box [.str l[k].name, .slice (l[k].args.map Ty.d)]]++τ1), ?_⟩
  have hst: ∀y,(S67 σ bl τ0 T++τ++y).set σ.length (.box ((tabC T).take (di*16+set)++D.int .i64 1::(tabC T).drop (di*16+set+1)))=S67 σ bl τ0 (setT T di set)++(τ++y):=fun y=>by
   rw [tabC_set T di set hdi hset,List.append_assoc,S67_set]
  rw [←hst]
  have htl:=tabC_len T
  have hb:di*16+set+1≤192:=by omega
  generalize l[k].args.map Ty.d=ad at*
  generalize l[k].args.length=an at*
  generalize l[k].name=nm at*
  generalize tabC T=tc at*
  generalize S67 σ bl τ0 T++τ=σ1 at*
  simp only [List.append_assoc,List.cons_append,List.nil_append,Int.natCast_zero] at hS
  simp [lp67_1,hk,hkk,hw,hlen,h2,h3,getA0,getA,setA0,setA,hal,hS,hg,hdi16,hs16,htl,hb,putCells]
 ·rw [hall,if_neg (by simp)]
  refine ⟨τ++([.box [.str l[k].name, .slice (l[k].args.map Ty.d)]]++τ1), ?_⟩
  rw [←List.append_assoc]
  generalize l[k].args.map Ty.d=ad at*
  generalize l[k].args.length=an at*
  generalize l[k].name=nm at*
  generalize S67 σ bl τ0 T++τ=σ1 at*
  simp only [List.append_assoc,List.cons_append,List.nil_append,Int.natCast_zero] at hS
  simp [lp67_1,hk,hkk,hw,hlen,h2,h3,getA0,getA,setA0,setA,hal,hS]
theorem foldS_inl {α β γ:Type} (g:β→α→β): ∀ (l:List α) (i:Nat) (b:β),foldS (γ:=γ) (fun _ a b=> .inl (g b a)) l i b= .inl (l.foldl g b)
 | [],_,_=>rfl
 |a::r,i,b=>by simp only [foldS,List.foldl_cons];exact foldS_inl g r _ _
set_option maxHeartbeats 2000000 in
theorem it67_1 (p:Prg) (m:CMap) (hdl:p.data.length≤12) (T:Nat→Nat→Bool) (params:List Bs) (hpl:params.length≤4) (set di:Nat) (hset:set<16) (hdi:di<12) (tb dq:Nat) (dn:Bs) (dc:D) (v4 v24 v25 v26 v34 v35:D)
 (l:List Con) (hll:l.length≤100) (hls: ∀c ∈ l,c.args.length≤4∧ ∀x ∈ c.args,x.small∧x.ord p params=0) (σ:St) (bl:Obj) (τ0:St) (hT:IsT σ tb p m) (hd: ∀T y,(S67 σ bl τ0 T++y)[dq]? =some (.box [.str dn,slD params,dc])) (τ:St):
 ∃τ',iterI (evalI CI XB GI 67 false lp67_1) (b67 tb σ.length dq v4 (.int .i64 di) (.int .i64 set) v24 v25 v26 v34 v35 (.slice (l.map Con.d)) (.int .i64 l.length) (.int .i64 (0:Nat))) (S67 σ bl τ0 T++τ)=
  some (.exit 6,b67 tb σ.length dq v4 (.int .i64 di) (.int .i64 set) v24 v25 v26 v34 v35 (.slice (l.map Con.d)) (.int .i64 l.length) (.int .i64 l.length)++[(42, .bool false)],S67 σ bl τ0 (l.foldl (conStep p params di set) T)++τ'):=by
 have h:=loop_foldS (γ:=Unit) (f:=evalI CI XB GI 67 false lp67_1) l (fun i _=>b67 tb σ.length dq v4 (.int .i64 di) (.int .i64 set) v24 v25 v26 v34 v35 (.slice (l.map Con.d)) (.int .i64 l.length) (.int .i64 (i:Nat)))
  (fun T=>S67 σ bl τ0 T) (fun _ _=>True) (fun _ c T=> .inl (conStep p params di set T c)) (fun _=>(.ret,[])) (fun _=>[]) (fun _=>(.exit 6,b67 tb σ.length dq v4 (.int .i64 di) (.int .i64 set) v24 v25 v26 v34 v35 (.slice (l.map Con.d)) (.int .i64 l.length) (.int .i64 l.length)++[(42, .bool false)]))
  (fun _=>by simp) (fun _=>by simp) (fun _ _ _ _ _ _=>trivial)
  (fun k hk T τ _=>rnd67_1 p m hdl T params hpl set di hset hdi tb dq dn dc v4 v24 v25 v26 v34 v35 l hll hls σ bl τ0 hT hd k hk τ)
  (fun T τ _=>⟨τ,by
    generalize l.map Con.d=ld
    simp [lp67_1]⟩) T τ trivial
 rw [foldS_inl] at h
 exact h
theorem conStep_fold (p:Prg) (params:List Bs) (i s:Nat): ∀ (l:List Con) (T:Nat→Nat→Bool),l.foldl (conStep p params i s) T=if l.any (conHas p params T s) then setT T i s else T
 | [],T=>rfl
 |c::r,T=>by
  rw [List.foldl_cons,conStep_fold p params i s r,List.any_cons]
  unfold conStep
  cases hc:conHas p params T s c
  ·simp
  ·simp [setT_setT]
def plcStep (p:Prg) (d:Dat) (i:Nat) (T:Nat→Nat→Bool) (s:Nat):Nat→Nat→Bool:=d.cons.foldl (conStep p d.params i s) T
def dtStep (p:Prg) (d:Dat) (i:Nat) (T:Nat→Nat→Bool):Nat→Nat→Bool:=(List.range (2 ^ d.params.length)).foldl (plcStep p d i) T
def rndGo (p:Prg):List Dat→Nat→(Nat→Nat→Bool)→Nat→Nat→Bool
 | [],_,T=>T
 |d::r,i,T=>rndGo p r (i+1) (dtStep p d i T)
def Dat.fit (p:Prg) (d:Dat):Prop:=d.params.length≤4∧d.cons.length≤100∧ ∀c ∈ d.cons,c.args.length≤4∧ ∀x ∈ c.args,x.small∧x.ord p d.params=0
abbrev b67a (tb n0 dq:Nat) (v4 v6 v24 v25 v26 v34 v35:D):Env:=[(0, .ptr tb 0),(3, .ptr n0 0),(4,v4),(6,v6),(7, .ptr dq 0),(24,v24),(25,v25),(26,v26),(34,v34),(35,v35)]
set_option maxHeartbeats 2000000 in
theorem rnd67_2 (p:Prg) (m:CMap) (hdl:p.data.length≤12) (T:Nat→Nat→Bool) (d:Dat) (hdf:d.fit p) (di:Nat) (hdi:di<12) (tb dq:Nat) (v4 v24 v25 v26:D) (σ:St) (bl:Obj) (τ0:St) (hT:IsT σ tb p m)
 (hd: ∀T y,(S67 σ bl τ0 T++y)[dq]? =some (.box d.cs)) (s:Nat) (hs:s<2 ^ d.params.length) (τ:St):
 ∃τ',evalI CI XB GI 67 false lp67_2 (b67a tb σ.length dq v4 (.int .i64 di) v24 v25 v26 (.int .i64 (2 ^ d.params.length:Nat)) (.int .i64 (s:Nat))) (S67 σ bl τ0 T++τ)=
  some (.normal,b67a tb σ.length dq v4 (.int .i64 di) v24 v25 v26 (.int .i64 (2 ^ d.params.length:Nat)) (.int .i64 (s+1:Nat)),S67 σ bl τ0 (plcStep p d di T s)++τ'):=by
 obtain ⟨hpl,hcl,hcs⟩:=hdf
 have hp4:2 ^ d.params.length≤2 ^ 4:=Nat.pow_le_pow_right (by omega) hpl
 have hw:=wrap_nat (n:=s) (by omega)
 obtain ⟨τ1,hit⟩:=it67_1 p m hdl T d.params hpl s di (by omega) hdi tb dq d.name (.slice (d.cons.map Con.d)) v4 v24 v25 v26 (.int .i64 (2 ^ d.params.length:Nat)) (.int .i64 (s:Nat)) d.cons hcl hcs σ bl τ0 hT hd τ
 refine ⟨τ1, ?_⟩
 unfold plcStep
 have hd': ∀y,(S67 σ bl τ0 T++y)[dq]? =some (.box [.str d.name,slD d.params, .slice (d.cons.map Con.d)]):=fun y=>hd T y
 have hlen: (d.cons.map Con.d).length=d.cons.length:=List.length_map _
 have hss: (s:Int) < (2 ^ d.params.length:Nat):=by omega
 simp only [Int.natCast_zero] at hit
 generalize d.cons.map Con.d=ld at*
 generalize 2 ^ d.params.length=n at*
 generalize slD d.params=pd at*
 generalize S67 σ bl τ0 (d.cons.foldl (conStep p d.params di s) T)=σ2 at*
 generalize S67 σ bl τ0 T=σ1 at*
 simp [lp67_2,hw,hss,hs,hd',hlen] at hit ⊢
 simp [hit,hw]
set_option maxHeartbeats 2000000 in
theorem it67_2 (p:Prg) (m:CMap) (hdl:p.data.length≤12) (T:Nat→Nat→Bool) (d:Dat) (hdf:d.fit p) (di:Nat) (hdi:di<12) (tb dq:Nat) (v4 v24 v25 v26:D) (σ:St) (bl:Obj) (τ0:St) (hT:IsT σ tb p m)
 (hd: ∀T y,(S67 σ bl τ0 T++y)[dq]? =some (.box d.cs)) (τ:St):
 ∃τ',iterI (evalI CI XB GI 67 false lp67_2) (b67a tb σ.length dq v4 (.int .i64 di) v24 v25 v26 (.int .i64 (2 ^ d.params.length:Nat)) (.int .i64 (0:Nat))) (S67 σ bl τ0 T++τ)=
  some (.exit 4,b67a tb σ.length dq v4 (.int .i64 di) v24 v25 v26 (.int .i64 (2 ^ d.params.length:Nat)) (.int .i64 (2 ^ d.params.length:Nat))++[(36, .bool false)],S67 σ bl τ0 (dtStep p d di T)++τ'):=by
 have hl: (List.range (2 ^ d.params.length)).length=2 ^ d.params.length:=List.length_range
 have h:=loop_foldS (γ:=Unit) (f:=evalI CI XB GI 67 false lp67_2) (List.range (2 ^ d.params.length)) (fun i _=>b67a tb σ.length dq v4 (.int .i64 di) v24 v25 v26 (.int .i64 (2 ^ d.params.length:Nat)) (.int .i64 (i:Nat)))
  (fun T=>S67 σ bl τ0 T) (fun _ _=>True) (fun _ s T=> .inl (plcStep p d di T s)) (fun _=>(.ret,[])) (fun _=>[]) (fun _=>(.exit 4,b67a tb σ.length dq v4 (.int .i64 di) v24 v25 v26 (.int .i64 (2 ^ d.params.length:Nat)) (.int .i64 (2 ^ d.params.length:Nat))++[(36, .bool false)]))
  (fun _=>by simp) (fun _=>by simp) (fun _ _ _ _ _ _=>trivial)
  (fun k hk T τ _=>by
    rw [List.getElem_range]
    exact rnd67_2 p m hdl T d hdf di hdi tb dq v4 v24 v25 v26 σ bl τ0 hT hd k (by rwa [hl] at hk) τ)
  (fun T τ _=>⟨τ,by
    rw [hl]
    generalize 2 ^ d.params.length=n
    simp [lp67_2]⟩) T τ trivial
 rw [foldS_inl] at h
 exact h
abbrev b67b (tb n0:Nat) (v4 v24 v25 v26:D):Env:=[(0, .ptr tb 0),(3, .ptr n0 0),(4,v4),(24,v24),(25,v25),(26,v26)]
theorem S67_len {σ:St} {bl:Obj} {τ0:St} {T:Nat→Nat→Bool} : (S67 σ bl τ0 T).length=σ.length+ (τ0.length+2):=by unfold S67;simp
set_option maxHeartbeats 2000000 in
theorem rnd67_3 (p:Prg) (m:CMap) (hdl:p.data.length≤12) (T:Nat→Nat→Bool) (l:List Dat) (hl:l.length≤12) (hls: ∀d ∈ l,d.fit p) (tb:Nat) (v4:D) (σ:St) (bl:Obj) (hT:IsT σ tb p m) (i:Nat) (hi:i<l.length) (τ:St):
 ∃τ',evalI CI XB GI 67 false lp67_3 (b67b tb σ.length v4 (.slice (l.map Dat.d)) (.int .i64 l.length) (.int .i64 (i:Nat))) (S67 σ bl [] T++τ)=
  some (.normal,b67b tb σ.length v4 (.slice (l.map Dat.d)) (.int .i64 l.length) (.int .i64 (i+1:Nat)),S67 σ bl [] (dtStep p l[i] i T)++τ'):=by
 have hw:=wrap_nat (n:=i) (by omega)
 obtain ⟨ld,hld,hlen,hlg⟩:=opq Dat.d l
 rw [hld]
 obtain ⟨h2,h3⟩:=hlg i hi
 have hii: (i:Int) <l.length:=by omega
 have hdf:=hls l[i] (List.getElem_mem hi)
 have hpl:=hdf.1
 obtain ⟨τ1,hit⟩:=it67_2 p m hdl T l[i] hdf i (by omega) tb (S67 σ bl [] T++τ).length v4 (.slice ld) (.int .i64 l.length) (.int .i64 (i:Nat)) σ bl (τ++[.box l[i].cs]) hT (fun U y=>by
  have:S67 σ bl (τ++[.box l[i].cs]) U++y=S67 σ bl [] U++τ++(.box l[i].cs::y):=by unfold S67;simp
  rw [this]
  have: (S67 σ bl [] T++τ).length=(S67 σ bl [] U++τ).length:=by simp [S67_len]
  rw [this,getA0];rfl) []
 have e1: ∀U y,S67 σ bl (τ++[.box l[i].cs]) U++y=S67 σ bl [] U++(τ++[.box l[i].cs]++y):=fun U y=>by unfold S67;simp
 rw [e1,e1] at hit
 refine ⟨τ++[.box l[i].cs]++τ1, ?_⟩
 have hcd:l[i].d= .agg [.str l[i].name,slD l[i].params, .slice (l[i].cons.map Con.d)]:=rfl
 have hcs:l[i].cs=[.str l[i].name,slD l[i].params, .slice (l[i].cons.map Con.d)]:=rfl
 rw [hcd] at h3
 rw [hcs] at hit ⊢
 have hsl:slD l[i].params= .slice (l[i].params.map D.str):=rfl
 rw [hsl] at hit h3 ⊢
 have hpn: (l[i].params.map D.str).length=l[i].params.length:=List.length_map _
 have hsh:=shl_fact ⟨l[i].params.length,by omega⟩
 simp only at hsh
 have ecast: (2 ^ l[i].params.length:Int)=((2 ^ l[i].params.length:Nat):Int):=by simp
 rw [ecast] at hsh
 have ep: ¬((l[i].params.length:Int) <0):=by omega
 have et: ((l[i].params.length:Int)).toNat=l[i].params.length:=by omega
 simp only [Int.natCast_zero,List.append_nil,←List.append_assoc] at hit
 rw [←List.append_assoc,←List.append_assoc]
 generalize l[i].cons.map Con.d=cd at*
 generalize l[i].params.map D.str=pd at*
 generalize S67 σ bl [] (dtStep p l[i] i T)=σ2 at*
 generalize S67 σ bl [] T++τ=σ1 at*
 generalize 2 ^ l[i].params.length=n at*
 generalize l[i].params.length=pn at*
 generalize l[i].name=nm at*
 simp [lp67_3,hi,hii,hw,hlen,h2,h3,getA0,getA,setA0,setA,hpn,arithD,intArith,IntKind.bits,ep,et,hsh] at hit ⊢
 simp [hit,hw]
theorem foldS_rndGo (p:Prg): ∀ (l:List Dat) (i:Nat) (T:Nat→Nat→Bool),foldS (γ:=Unit) (fun i d T=> .inl (dtStep p d i T)) l i T= .inl (rndGo p l i T)
 | [],_,_=>rfl
 |d::r,i,T=>by simp only [foldS,rndGo];exact foldS_rndGo p r _ _
set_option maxHeartbeats 2000000 in
theorem it67_3 (p:Prg) (m:CMap) (hdl:p.data.length≤12) (T:Nat→Nat→Bool) (l:List Dat) (hl:l.length≤12) (hls: ∀d ∈ l,d.fit p) (tb:Nat) (v4:D) (σ:St) (bl:Obj) (hT:IsT σ tb p m) (τ:St):
 ∃τ',iterI (evalI CI XB GI 67 false lp67_3) (b67b tb σ.length v4 (.slice (l.map Dat.d)) (.int .i64 l.length) (.int .i64 (0:Nat))) (S67 σ bl [] T++τ)=
  some (.exit 2,b67b tb σ.length v4 (.slice (l.map Dat.d)) (.int .i64 l.length) (.int .i64 l.length)++[(27, .bool false)],S67 σ bl [] (rndGo p l 0 T)++τ'):=by
 have h:=loop_foldS (γ:=Unit) (f:=evalI CI XB GI 67 false lp67_3) l (fun i _=>b67b tb σ.length v4 (.slice (l.map Dat.d)) (.int .i64 l.length) (.int .i64 (i:Nat)))
  (fun T=>S67 σ bl [] T) (fun _ _=>True) (fun i d T=> .inl (dtStep p d i T)) (fun _=>(.ret,[])) (fun _=>[]) (fun _=>(.exit 2,b67b tb σ.length v4 (.slice (l.map Dat.d)) (.int .i64 l.length) (.int .i64 l.length)++[(27, .bool false)]))
  (fun _=>by simp) (fun _=>by simp) (fun _ _ _ _ _ _=>trivial)
  (fun k hk T τ _=>rnd67_3 p m hdl T l hl hls tb v4 σ bl hT k hk τ)
  (fun T τ _=>⟨τ,by
    generalize l.map Dat.d=ld
    simp [lp67_3]⟩) T τ trivial
 rw [foldS_rndGo] at h
 exact h
theorem eqChunks_sc: ∀ (n:Nat) (x y:List Int),x.length=n→y.length=n→eqChunks (eqDeep (.sc 1)) (fun l=>(EqC.sc 1).part 1 l) 1 n (x.map (D.int .i64)) (y.map (D.int .i64))=some (x==y)
 |0,x,y,hx,hy=>by
  obtain rfl:=List.length_eq_zero_iff.1 hx
  obtain rfl:=List.length_eq_zero_iff.1 hy
  rfl
 |n+1,[],_,hx,_=>by simp at hx
 |n+1,_::_,[],_,hy=>by simp at hy
 |n+1,a::x,b::y,hx,hy=>by
  have ih:=eqChunks_sc n x y (by simpa using hx) (by simpa using hy)
  show Option.map ((a==b)&& ·) (eqChunks (eqDeep (.sc 1)) (fun l=>(EqC.sc 1).part 1 l) 1 n (x.map (D.int .i64)) (y.map (D.int .i64)))=_
  rw [ih];rfl
theorem eqChunks_arr: ∀ (n:Nat) (x y:List Int),x.length=n*16→y.length=n*16→eqChunks (eqDeep (.arr 16 1 (.sc 1))) (fun l=>(EqC.arr 16 1 (.sc 1)).part 16 l) 16 n (x.map (D.int .i64)) (y.map (D.int .i64))=some (x==y)
 |0,x,y,hx,hy=>by
  obtain rfl:=List.length_eq_zero_iff.1 (by simpa using hx)
  obtain rfl:=List.length_eq_zero_iff.1 (by simpa using hy)
  rfl
 |n+1,x,y,hx,hy=>by
  have ih:=eqChunks_arr n (x.drop 16) (y.drop 16) (by rw [List.length_drop];omega) (by rw [List.length_drop];omega)
  have hx16: (x.take 16).length=16:=by rw [List.length_take];omega
  have hy16: (y.take 16).length=16:=by rw [List.length_take];omega
  have h1:=eqChunks_sc 16 (x.take 16) (y.take 16) hx16 hy16
  rw [List.map_take,List.map_take] at h1
  rw [List.map_drop,List.map_drop] at ih
  have h2:eqDeep (.arr 16 1 (.sc 1)) (.agg ((x.map (D.int .i64)).take 16)) (.agg ((y.map (D.int .i64)).take 16))=some (x.take 16==y.take 16):=by
   rw [←h1]
   show (if _ then _ else _)=_
   rw [if_pos (by rw [List.length_take,List.length_take,List.length_map,List.length_map];omega)]
  show (match eqDeep (.arr 16 1 (.sc 1)) (.agg ((x.map (D.int .i64)).take 16)) (.agg ((y.map (D.int .i64)).take 16)) with
   |some t=>(eqChunks (eqDeep (.arr 16 1 (.sc 1))) (fun l=>(EqC.arr 16 1 (.sc 1)).part 16 l) 16 n ((x.map (D.int .i64)).drop 16) ((y.map (D.int .i64)).drop 16)).map (t&& ·)
   |none=>none)=_
  rw [h2,ih]
  show some _=some _
  congr 1
  rw [Bool.eq_iff_iff,Bool.and_eq_true,beq_iff_eq,beq_iff_eq,beq_iff_eq]
  constructor
  ·intro ⟨ha,hb⟩
   rw [←List.take_append_drop 16 x,ha,hb,List.take_append_drop]
  ·rintro rfl;exact ⟨rfl,rfl⟩
def tabI (T:Nat→Nat→Bool):List Int:=(List.range 192).map fun j=>if T (j / 16) (j % 16) then 1 else 0
theorem tabC_tabI (T:Nat→Nat→Bool):tabC T=(tabI T).map (D.int .i64):=by unfold tabC tabI;rw [List.map_map];rfl
theorem eqD_arr (n m:Nat) (c:EqC) (x y:List D) (h:x.length=n*m∧y.length=n*m∧0<m):eqD (.arr n m c) (.agg x) (.agg y)=eqChunks (eqDeep c) (fun l=>c.part m l) m n x y:=if_pos h
theorem eqD_tab (T U:Nat→Nat→Bool):eqD (.arr 12 16 (.arr 16 1 (.sc 1))) (.agg (tabC T)) (.agg (tabC U))=some (tabI T==tabI U):=by
 have hT: (tabI T).length=12*16:=by simp [tabI]
 have hU: (tabI U).length=12*16:=by simp [tabI]
 rw [tabC_tabI,tabC_tabI,←eqChunks_arr 12 _ _ hT hU]
 exact eqD_arr _ _ _ _ _ (by rw [List.length_map,List.length_map];omega)
def inT (T:Nat→Nat→Bool):Prop:= ∀i s,T i s=true→i<12∧s<16
theorem tabI_inj {T U:Nat→Nat→Bool} (hT:inT T) (hU:inT U) (h:tabI T=tabI U):T=U:=by
 funext i s
 by_cases hi:i<12∧s<16
 ·have h1:=congrArg (fun l=>l[i*16+s]?) h
  unfold tabI at h1
  simp only [List.getElem?_map] at h1
  rw [List.getElem?_range (by omega)] at h1
  have e1: (i*16+s) / 16=i:=by omega
  have e2: (i*16+s) % 16=s:=by omega
  simp only [Option.map_some,e1,e2] at h1
  cases hT1:T i s<;>cases hU1:U i s<;>simp_all
 ·rw [Bool.eq_false_iff.2 fun h=>hi (hT i s h),Bool.eq_false_iff.2 fun h=>hi (hU i s h)]
theorem S67_get1 {σ:St} {bl:Obj} {τ0:St} {T:Nat→Nat→Bool} (y:St): (S67 σ bl τ0 T++y)[σ.length+1]? =some bl:=by
 unfold S67;simp
theorem S67_set1 {σ:St} {bl bl':Obj} {τ0:St} {T:Nat→Nat→Bool} (y:St): (S67 σ bl τ0 T++y).set (σ.length+1) bl'=S67 σ bl' τ0 T++y:=by
 unfold S67;simp
theorem tabC_one (T:Nat→Nat→Bool): (tabC T).all D.one=true:=by
 rw [tabC_tabI,List.all_map];exact List.all_eq_true.2 fun _ _=>rfl
abbrev b67c (tb:Nat) (σ:St):Env:=[(0, .ptr tb 0),(3, .ptr σ.length 0),(4, .ptr (σ.length+1) 0)]
set_option maxHeartbeats 2000000 in
theorem rnd67_4 (p:Prg) (m:CMap) (hdl:p.data.length≤12) (hls: ∀d ∈ p.data,d.fit p) (T L:Nat→Nat→Bool) (tb:Nat) (σ:St) (hT:IsT σ tb p m) (first:Bool) (τ:St):
 ∃τ',evalI CI XB GI 67 false lp67_4 (b67c tb σ++[(5, .bool first)]) (S67 σ (.box (tabC L)) [] T++τ)=
  some (if (first|| !(tabI T==tabI L))=true then (.normal,b67c tb σ++[(5, .bool false)],S67 σ (.box (tabC T)) [] (rndGo p p.data 0 T)++τ') else (.exit 0,b67c tb σ++[(18, .bool false)],S67 σ (.box (tabC L)) [] T++τ')):=by
 obtain ⟨j,hj,_⟩:=hT
 have heq:=eqD_tab T L
 have g0:=S67_get (σ:=σ) (bl:= .box (tabC L)) (τ0:=[]) (T:=T) τ
 have g1:=S67_get1 (σ:=σ) (bl:= .box (tabC L)) (τ0:=[]) (T:=T) τ
 have lT:=tabC_len T
 have lL:=tabC_len L
 have tT: (tabC T).take 192=tabC T:=List.take_of_length_le (by omega)
 have tL: (tabC L).take 192=tabC L:=List.take_of_length_le (by omega)
 have oT:=tabC_one T
 have dL: (tabC L).drop 192=[]:=List.drop_of_length_le (by omega)
 have oL:=tabC_one L
 have hcell: ∀y,(S67 σ (.box (tabC T)) [] T++y)[tb]? =some (.box (p.cs++[.map j])):=fun y=>by unfold S67;rw [List.append_assoc];exact getO hj
 have s1:=S67_set1 (σ:=σ) (bl:= .box (tabC L)) (bl':= .box (tabC T)) (τ0:=[]) (T:=T) τ
 obtain ⟨rest,hrest⟩: ∃rest,p.cs++[D.map j]= .slice (p.data.map Dat.d)::rest:=⟨_,rfl⟩
 rw [hrest] at hcell
 obtain ⟨τ1,hit⟩:=it67_3 p m hdl T p.data hdl hls tb (.ptr (σ.length+1) 0) σ (.box (tabC T)) ⟨j,hj,by assumption⟩ τ
 have hlen: (p.data.map Dat.d).length=p.data.length:=List.length_map _
 simp only [Int.natCast_zero] at hit
 generalize p.data.map Dat.d=ld at*
 generalize S67 σ (.box (tabC T)) [] (rndGo p p.data 0 T)=σ3 at*
 generalize hb: (tabI T==tabI L)=b at*
 by_cases hc: (first|| !b)=true
 ·refine ⟨τ1, ?_⟩
  rw [if_pos hc]
  cases first
  ·have hbf:b=false:=by simpa using hc
   subst hbf
   generalize tabC T=cT at*
   generalize tabC L=cL at*
   generalize S67 σ (.box cT) [] T=σ2 at*
   generalize S67 σ (.box cL) [] T=σ1 at*
   simp [lp67_4,g0,g1,lT,lL,tT,tL,oT,oL,dL,heq,s1,hcell,hlen,putCells] at hit ⊢
   simp [hit]
  ·generalize tabC T=cT at*
   generalize tabC L=cL at*
   generalize S67 σ (.box cT) [] T=σ2 at*
   generalize S67 σ (.box cL) [] T=σ1 at*
   simp [lp67_4,g0,g1,lT,lL,tT,tL,oT,oL,dL,heq,s1,hcell,hlen,putCells] at hit ⊢
   simp [hit]
 ·refine ⟨τ, ?_⟩
  rw [if_neg hc]
  obtain ⟨rfl,rfl⟩:first=false∧b=true:=by revert hc;cases first<;>cases b<;>simp
  generalize tabC T=cT at*
  generalize tabC L=cL at*
  generalize S67 σ (.box cT) [] T=σ2 at*
  generalize S67 σ (.box cL) [] T=σ1 at*
  simp [lp67_4,g0,g1,lT,lL,tT,tL,oT,oL,heq]
end Go.AI
namespace Go.AI
section
variable {α:Type} [DecidableEq α] (L:List α) (F: (α→Bool)→α→Bool)
def leT (A B:α→Bool):Prop:= ∀x ∈ L,A x=true→B x=true
def jac:Nat→α→Bool
 |0=>fun _=>false
 |n+1=>fun x=>F (jac n) x
def upd (T:α→Bool) (x:α):α→Bool:=if F T x then fun y=>if y=x then true else T y else T
def seidel (T:α→Bool):α→Bool:=L.foldl (upd F) T
def closedT (C:α→Bool):Prop:= ∀x ∈ L,F C x=true→C x=true
variable {L F} {M: (α→Bool)→Prop} (mono: ∀A B,leT L A B→M A∨M B→ ∀x ∈ L,F A x=true→F B x=true) (m0:M fun _=>false) (ms: ∀A,M A→M fun x=>F A x)
include m0 ms in
theorem jac_M: ∀n:Nat,M (jac F n):=by
 have _h:= ‹DecidableEq α›
 intro n
 induction n with
 |zero=>exact m0
 |succ n ih=>exact ms _ ih
include mono m0 ms in
theorem jac_up (n:Nat):leT L (jac F n) (jac F (n+1)):=by
 induction n with
 |zero=>intro x _ h;cases h
 |succ n ih=>intro x hx h;exact mono _ _ ih (.inl (jac_M m0 ms n)) x hx h
include mono m0 ms in
theorem jac_le {C:α→Bool} (hC:closedT L F C) (n:Nat):leT L (jac F n) C:=by
 induction n with
 |zero=>intro x _ h;cases h
 |succ n ih=>intro x hx h;exact hC x hx (mono _ _ ih (.inl (jac_M m0 ms n)) x hx h)
include mono in
theorem upd_le {C T:α→Bool} (hC:closedT L F C) (hCM:M C) (hT:leT L T C) (x:α) (hx:x ∈ L):leT L (upd F T x) C:=by
 intro y hy h
 unfold upd at h
 split at h
 ·rename_i hf
  simp only at h
  split at h
  ·rename_i he;subst he;exact hC y hy (mono _ _ hT (.inr hCM) y hy hf)
  ·exact hT y hy h
 ·exact hT y hy h
include mono in
theorem foldl_le {C:α→Bool} (hC:closedT L F C) (hCM:M C): ∀ (N:List α) (T:α→Bool),(∀x ∈ N,x ∈ L)→leT L T C→leT L (N.foldl (upd F) T) C
 | [],_,_,hT=>hT
 |x::N,T,hN,hT=>foldl_le hC hCM N _ (fun y hy=>hN y (List.mem_cons_of_mem _ hy)) (upd_le mono hC hCM hT x (hN x List.mem_cons_self))
include mono in
theorem seidel_le {C T:α→Bool} (hC:closedT L F C) (hCM:M C) (hT:leT L T C):leT L (seidel L F T) C:=foldl_le mono hC hCM L T (fun _ h=>h) hT
theorem jac_stay {n:Nat} (h:leT L (jac F (n+1)) (jac F n)):closedT L F (jac F n):=by
 have _h:= ‹DecidableEq α›
 exact fun x hx hf=>h x hx hf
theorem count_lt {A B:α→Bool} : ∀ (M:List α),(∀x ∈ M,A x=true→B x=true)→(∃x ∈ M,B x=true∧A x=false)→M.countP A<M.countP B
 | [],_,⟨_,hx,_⟩=>by
  have _h:= ‹DecidableEq α›
  cases hx
 |y::M,h,⟨x,hx,hb,ha⟩=>by
  have hle:M.countP A≤M.countP B:=List.countP_mono_left fun z hz hA=>h z (List.mem_cons_of_mem _ hz) hA
  rw [List.countP_cons,List.countP_cons]
  cases hx with
  |head=>simp [hb,ha];omega
  |tail _ hx=>
   have:=count_lt M (fun z hz=>h z (List.mem_cons_of_mem _ hz)) ⟨x,hx,hb,ha⟩
   have hy:=h y List.mem_cons_self
   cases h1:A y<;>cases h2:B y<;>simp_all<;>omega
include mono m0 ms in
theorem jac_grow (n:Nat): (∃m,m≤n∧closedT L F (jac F m))∨n<L.countP (jac F (n+1)):=by
 induction n with
 |zero=>
  by_cases h:leT L (jac F 1) (jac F 0)
  ·exact .inl ⟨0,Nat.le_refl _,jac_stay h⟩
  ·right
   simp only [leT,Classical.not_forall] at h
   obtain ⟨x,hx,h1,h2⟩:=h
   have:=count_lt (A:=jac F 0) (B:=jac F 1) L (fun x hx h=>jac_up mono m0 ms 0 x hx h) ⟨x,hx,h1,by simpa using h2⟩
   show 0<L.countP (jac F 1)
   omega
 |succ n ih=>
  rcases ih with ⟨m,hm,hc⟩ |hlt
  ·exact .inl ⟨m,by omega,hc⟩
  ·by_cases h:leT L (jac F (n+2)) (jac F (n+1))
   ·exact .inl ⟨n+1,Nat.le_refl _,jac_stay h⟩
   ·right
    simp only [leT,Classical.not_forall] at h
    obtain ⟨x,hx,h1,h2⟩:=h
    have:=count_lt (A:=jac F (n+1)) (B:=jac F (n+2)) L (fun x hx h=>jac_up mono m0 ms (n+1) x hx h) ⟨x,hx,h1,by simpa using h2⟩
    show n+1<L.countP (jac F (n+2))
    omega
include mono m0 ms in
theorem jac_mono {m n:Nat} (h:m≤n):leT L (jac F m) (jac F n):=by
 induction h with
 |refl=>exact fun x _ h=>h
 |step _ ih=>exact fun x hx h=>jac_up mono m0 ms _ x hx (ih x hx h)
include mono m0 ms in
theorem jac_closed {n:Nat} (hn:L.length≤n):closedT L F (jac F n):=by
 rcases jac_grow mono m0 ms L.length with ⟨m,hm,hc⟩ |hlt
 ·intro x hx hf
  have h1:=jac_le mono m0 ms hc n
  exact jac_mono mono m0 ms (Nat.le_trans hm hn) x hx (hc x hx (mono _ _ h1 (.inl (jac_M m0 ms n)) x hx hf))
 ·have:=List.countP_le_length (p:=jac F (L.length+1)) (l:=L)
  omega
theorem upd_up (T:α→Bool) (x y:α) (h:T y=true):upd F T x y=true:=by
 unfold upd
 split
 ·simp only;split<;>simp_all
 ·exact h
theorem foldl_up: ∀ (N:List α) (T:α→Bool) (y:α),T y=true→N.foldl (upd F) T y=true
 | [],_,_,h=>h
 |x::N,T,y,h=>foldl_up N _ y (upd_up T x y h)
theorem stay_closed: ∀ (N:List α) (T:α→Bool),N.foldl (upd F) T=T→ ∀x ∈ N,F T x=true→T x=true
 | [],_,_,x,hx,_=>by cases hx
 |y::N,T,hT,x,hx,hf=>by
  have hstep:upd F T y=T:=by
   funext z
   rw [Bool.eq_iff_iff]
   constructor
   ·intro h
    have:=foldl_up (F:=F) N _ z h
    rw [List.foldl_cons] at hT
    rw [hT] at this
    exact this
   ·exact upd_up T y z
  cases hx with
  |head=>
   have:upd F T y y=true:=by unfold upd;rw [if_pos hf];simp
   rw [hstep] at this
   exact this
  |tail _ hx=>
   rw [List.foldl_cons,hstep] at hT
   exact stay_closed N T hT x hx hf
include mono m0 ms in
theorem seidel_jac {T:α→Bool} {n:Nat} (hn:L.length≤n) (hle: ∀C,closedT L F C→M C→leT L T C) (hs:seidel L F T=T): ∀x ∈ L,T x=jac F n x:=by
 have hc:closedT L F T:=fun x hx hf=>stay_closed L T hs x hx hf
 intro x hx
 rw [Bool.eq_iff_iff]
 exact ⟨hle _ (jac_closed mono m0 ms hn) (jac_M m0 ms n) x hx,jac_le mono m0 ms hc n x hx⟩
end
end Go.AI
namespace Go.AI
open Go Go.Proofs Go.Lx
abbrev PT:=Nat × Nat→Bool
abbrev cur (T:PT):Nat→Nat→Bool:=fun a b=>T (a,b)
def plF (p:Prg) (T:PT) (x:Nat × Nat):Bool:=match p.data[x.1]? with
 |some d=>d.cons.any (conHas p d.params (cur T) x.2)
 |none=>false
def plGo:List Dat→Nat→List (Nat × Nat)
 | [],_=>[]
 |d::r,i=>(List.range (2 ^ d.params.length)).map (fun s=>(i,s))++plGo r (i+1)
def places (p:Prg):List (Nat × Nat):=plGo p.data 0
theorem plGo_mem (i s:Nat): ∀ (l:List Dat) (k:Nat),(i,s) ∈ plGo l k↔ ∃d,k≤i∧l[i - k]? =some d∧s<2 ^ d.params.length
 | [],k=>by simp [plGo]
 |d::r,k=>by
  rw [plGo,List.mem_append,plGo_mem i s r (k+1)]
  constructor
  ·rintro (h| ⟨e,h1,h2,h3⟩)
   ·obtain ⟨t,ht,he⟩:=List.mem_map.1 h
    cases he
    exact ⟨d,Nat.le_refl _,by simp,List.mem_range.1 ht⟩
   ·refine ⟨e,by omega, ?_,h3⟩
    rw [show i - k=(i - (k+1)) +1 by omega];simpa using h2
  ·rintro ⟨e,h1,h2,h3⟩
   by_cases hk:i=k
   ·subst hk
    rw [Nat.sub_self] at h2
    simp at h2
    subst h2
    exact .inl (List.mem_map.2 ⟨s,List.mem_range.2 h3,rfl⟩)
   ·right
    refine ⟨e,by omega, ?_,h3⟩
    rw [show i - k=(i - (k+1)) +1 by omega] at h2
    simpa using h2
theorem places_mem {p:Prg} {i s:Nat} : (i,s) ∈ places p↔ ∃d,p.data[i]? =some d∧s<2 ^ d.params.length:=by
 unfold places
 rw [plGo_mem]
 simp
theorem upd_set (p:Prg) (d:Dat) (i s:Nat) (T:PT) (h:p.data[i]? =some d):plcStep p d i (cur T) s=cur (upd (plF p) T (i,s)):=by
 unfold plcStep
 rw [conStep_fold]
 have hF:plF p T (i,s)=d.cons.any (conHas p d.params (cur T) s):=by unfold plF;rw [h]
 unfold upd
 rw [hF]
 cases d.cons.any (conHas p d.params (cur T) s)
 ·rfl
 ·funext a b
  simp only [if_true,setT,cur,Prod.mk.injEq]
theorem dtStep_upd (p:Prg) (d:Dat) (i:Nat) (h:p.data[i]? =some d): ∀ (l:List Nat) (T:PT),l.foldl (plcStep p d i) (cur T)=cur ((l.map fun s=>(i,s)).foldl (upd (plF p)) T)
 | [],_=>rfl
 |s::r,T=>by rw [List.foldl_cons,List.map_cons,List.foldl_cons,upd_set p d i s T h,dtStep_upd p d i h r]
theorem rndGo_upd (p:Prg): ∀ (l:List Dat) (k:Nat) (T:PT),(∀j d,l[j]? =some d→p.data[k+j]? =some d)→rndGo p l k (cur T)=cur ((plGo l k).foldl (upd (plF p)) T)
 | [],_,_,_=>rfl
 |d::r,k,T,h=>by
  have h0:=h 0 d (by simp)
  rw [rndGo,dtStep,dtStep_upd p d k h0,plGo,List.foldl_append]
  refine rndGo_upd p r (k+1) _ fun j e hj=> ?_
  rw [show k+1+j=k+ (j+1) by omega]
  exact h (j+1) e (by simpa using hj)
theorem rnd_seidel (p:Prg) (T:PT):rndGo p p.data 0 (cur T)=cur (seidel (places p) (plF p) T):=
 rndGo_upd p p.data 0 T fun j d h=>by rw [Nat.zero_add];exact h
def subB (s t:Nat):Prop:= ∀j,s / 2 ^ j % 2=1→t / 2 ^ j % 2=1
def MT (T:PT):Prop:= ∀i s t,subB s t→T (i,s)=true→T (i,t)=true
theorem bitsL_bit: ∀ (l:List Bool) (j:Nat),bitsL l / 2 ^ j % 2=1↔l[j]? =some true
 | [],j=>by simp [bitsL]
 |b::r,0=>by
  simp only [bitsL,Nat.pow_zero,Nat.div_one,List.getElem?_cons_zero,Option.some.injEq]
  cases b<;>simp<;>omega
 |b::r,j+1=>by
  rw [List.getElem?_cons_succ,←bitsL_bit r j]
  have:bitsL (b::r) / 2 ^ (j+1)=bitsL r / 2 ^ j:=by
   rw [Nat.pow_succ,Nat.mul_comm,←Nat.div_div_eq_div_mul]
   congr 1
   simp only [bitsL]
   split<;>omega
  rw [this]
theorem bitsL_sub {α:Type} (l:List α) (f g:α→Bool) (h: ∀x ∈ l,f x=true→g x=true):subB (bitsL (l.map f)) (bitsL (l.map g)):=by
 intro j hj
 rw [bitsL_bit] at hj ⊢
 rw [List.getElem?_map] at hj ⊢
 cases hl:l[j]? with
 |none=>rw [hl] at hj;cases hj
 |some x=>
  rw [hl] at hj
  simp only [Option.map_some,Option.some.injEq] at hj ⊢
  exact h x (List.mem_of_getElem? hl) hj
theorem has_mono (p:Prg) (params:List Bs) {A B:PT} (hAB:leT (places p) A B) (hM:MT A∨MT B) {s t:Nat} (hs:subB s t):
 ∀x:Ty,x.ord p params=0→x.has p params (cur A) s=true→x.has p params (cur B) t=true
 | .mk k n nm l ls tail,hord,h=>by
  obtain ⟨ho,hop⟩:=ord_parts hord
  have ih:=fun x (hx:x ∈ l)=>has_mono p params hAB hM hs x (hop x hx)
  simp only [Ty.has] at h ⊢
  by_cases k1:k=1
  ·rw [if_pos k1] at h ⊢
   rw [beq_iff_eq] at h ⊢
   exact hs _ h
  ·rw [if_neg k1] at h ⊢
   by_cases k6:k=6
   ·rw [if_pos k6] at h ⊢
    subst k6
    obtain ⟨i,_,hix,hil,hlen⟩:=ord_data ho
    rw [hix,tysBits_map] at h ⊢
    have hsub:=bitsL_sub l (fun x=>x.has p params (cur A) s) (fun x=>x.has p params (cur B) t) ih
    have hlt (f:Ty→Bool):bitsL (l.map f) <2 ^ p.data[i].params.length:=by
     have:=bitsL_lt (l.map f)
     rw [List.length_map] at this
     rw [hlen];exact this
    have hmem (f:Ty→Bool): (i,bitsL (l.map f)) ∈ places p:=places_mem.2 ⟨p.data[i],by rw [List.getElem?_eq_getElem hil],hlt f⟩
    rcases hM with hM|hM
    ·exact hAB _ (hmem _) (hM _ _ _ hsub h)
    ·exact hM _ _ _ hsub (hAB _ (hmem _) h)
   ·rw [if_neg k6]
termination_by x=>SizeOf.sizeOf x
decreasing_by
 have:=List.sizeOf_lt_of_mem hx
 simp only [Ty.mk.sizeOf_spec]
 omega
theorem any_mono {α:Type} (l:List α) (f g:α→Bool) (h: ∀x ∈ l,f x=true→g x=true):l.any f=true→l.any g=true:=by
 rw [List.any_eq_true,List.any_eq_true]
 rintro ⟨x,hx,hf⟩
 exact ⟨x,hx,h x hx hf⟩
theorem plF_mono2 (p:Prg) (hls: ∀d ∈ p.data,d.fit p) {A B:PT} (hAB:leT (places p) A B) (hM:MT A∨MT B) {s t:Nat} (hs:subB s t) (i:Nat) (h:plF p A (i,s)=true):plF p B (i,t)=true:=by
 unfold plF at h ⊢
 simp only at h ⊢
 cases hd:p.data[i]? with
 |none=>rw [hd] at h;cases h
 |some d=>
  rw [hd] at h
  simp only at h ⊢
  obtain ⟨_,_,hcs⟩:=hls d (List.mem_of_getElem? hd)
  refine any_mono _ _ _ (fun c hc hh=> ?_) h
  unfold conHas at hh ⊢
  rw [List.all_eq_true] at hh ⊢
  exact fun x hx=>has_mono p d.params hAB hM hs x ((hcs c hc).2 x hx).2 (hh x hx)
theorem plF_mono (p:Prg) (hls: ∀d ∈ p.data,d.fit p) (A B:PT) (hAB:leT (places p) A B) (hM:MT A∨MT B) (x:Nat × Nat) (_:x ∈ places p) (h:plF p A x=true):plF p B x=true:=
 plF_mono2 p hls hAB hM (fun _ h=>h) x.1 h
theorem MT_F (p:Prg) (hls: ∀d ∈ p.data,d.fit p) (A:PT) (hA:MT A):MT fun x=>plF p A x:=
 fun i _ _ hs h=>plF_mono2 p hls (fun _ _ h=>h) (.inl hA) hs i h
theorem MT_0:MT fun _=>false:=fun _ _ _ _ h=>by cases h
end Go.AI
namespace Go.AI
open Go Go.Proofs Go.Lx
set_option maxRecDepth 100000
structure Way (p:Prg) (T:PT):Prop where
 inn: ∀x,T x=true→x ∈ places p
 le: ∀C,closedT (places p) (plF p) C→MT C→leT (places p) T C
theorem Way.zero (p:Prg):Way p fun _=>false:=⟨fun _ h=>(by cases h),fun _ _ _ _ _ h=>(by cases h)⟩
theorem upd_inn {p:Prg} : ∀ (N:List (Nat × Nat)) (T:PT),(∀x ∈ N,x ∈ places p)→(∀x,T x=true→x ∈ places p)→ ∀x,N.foldl (upd (plF p)) T x=true→x ∈ places p
 | [],_,_,hT,x,h=>hT x h
 |y::N,T,hN,hT,x,h=>by
  refine upd_inn N _ (fun z hz=>hN z (List.mem_cons_of_mem _ hz)) (fun z hz=> ?_) x h
  unfold upd at hz
  split at hz
  ·simp only at hz
   split at hz
   ·rename_i he;subst he;exact hN _ List.mem_cons_self
   ·exact hT z hz
  ·exact hT z hz
theorem Way.next {p:Prg} (hls: ∀d ∈ p.data,d.fit p) {T:PT} (h:Way p T):Way p (seidel (places p) (plF p) T):=
 ⟨upd_inn _ _ (fun _ h=>h) h.inn,fun C hC hM=>seidel_le (plF_mono p hls) hC hM (h.le C hC hM)⟩
theorem Way.inT {p:Prg} (hdl:p.data.length≤12) (hls: ∀d ∈ p.data,d.fit p) {T:PT} (h:Way p T):inT (cur T):=by
 intro i s hx
 obtain ⟨d,hd,hs⟩:=places_mem.1 (h.inn _ hx)
 have h1:=(hls d (List.mem_of_getElem? hd)).1
 have h2:i<p.data.length:=by
  rcases Nat.lt_or_ge i p.data.length with hlt|hge
  ·exact hlt
  ·rw [List.getElem?_eq_none hge] at hd;cases hd
 have h3:2 ^ d.params.length≤2 ^ 4:=Nat.pow_le_pow_right (by omega) h1
 omega
theorem cur_inj {T U:PT} (h:cur T=cur U):T=U:=by
 funext ⟨a,b⟩;exact congrFun (congrFun h a) b
theorem Way.grow {p:Prg} {T:PT} (hne:seidel (places p) (plF p) T≠T) (hn:Way p (seidel (places p) (plF p) T)): (places p).countP T< (places p).countP (seidel (places p) (plF p) T):=by
 have hup: ∀y,T y=true→seidel (places p) (plF p) T y=true:=fun y h=>foldl_up _ _ y h
 refine count_lt _ (fun x _ h=>hup x h) ?_
 apply Classical.byContradiction
 intro hno
 apply hne
 funext x
 rw [Bool.eq_iff_iff]
 refine ⟨fun h=> ?_,hup x⟩
 apply Classical.byContradiction
 intro hf
 exact hno ⟨x,hn.inn x h,h,by simpa using hf⟩
def fillT (p:Prg):PT:=fun x=>(places p).contains x&&jac (plF p) (places p).length x
theorem Way.fill {p:Prg} (hls: ∀d ∈ p.data,d.fit p) {T:PT} (h:Way p T) (hs:seidel (places p) (plF p) T=T):T=fillT p:=by
 funext x
 unfold fillT
 cases hc: (places p).contains x
 ·rw [Bool.false_and,Bool.eq_false_iff]
  intro hx
  have:=h.inn x hx
  simp [this] at hc
 ·rw [Bool.true_and]
  exact seidel_jac (plF_mono p hls) MT_0 (MT_F p hls) (Nat.le_refl _) h.le hs x (by simpa using hc)
theorem lp67 (p:Prg) (m:CMap) (hdl:p.data.length≤12) (hls: ∀d ∈ p.data,d.fit p) (tb:Nat) (σ:St) (hT:IsT σ tb p m): ∀ (n:Nat) (T:PT) (τ:St),Way p T→(places p).length< (places p).countP T+n→
 ∃τ' L,iterI (evalI CI XB GI 67 false lp67_4) (b67c tb σ++[(5, .bool false)]) (S67 σ (.box (tabC (cur T))) [] (cur (seidel (places p) (plF p) T))++τ)=
  some (.exit 0,b67c tb σ++[(18, .bool false)],S67 σ (.box L) [] (cur (fillT p))++τ')
 |0,T,_,_,hc=>by
  have:=List.countP_le_length (p:=T) (l:=places p)
  omega
 |n+1,T,τ,hW,hc=>by
  have hW2:=hW.next hls
  obtain ⟨τ1,hr⟩:=rnd67_4 p m hdl hls (cur (seidel (places p) (plF p) T)) (cur T) tb σ hT false τ
  by_cases he:tabI (cur (seidel (places p) (plF p) T))=tabI (cur T)
  ·rw [if_neg (by simp [he])] at hr
   have hs:=cur_inj (tabI_inj (hW2.inT hdl hls) (hW.inT hdl hls) he)
   have hf:=hW.fill hls hs
   rw [hs,hf] at hr ⊢
   exact ⟨τ1,_,iterI_end hr (by simp)⟩
  ·rw [if_pos (by simpa using he),rnd_seidel] at hr
   have hne:seidel (places p) (plF p) T≠T:=fun h=>he (by rw [h])
   have hg:=Way.grow hne hW2
   rw [iterI_next hr]
   exact lp67 p m hdl hls tb σ hT n _ τ1 hW2 (by omega)
set_option maxHeartbeats 1000000 in
theorem c67 (p:Prg) (m:CMap) (hdl:p.data.length≤12) (hls: ∀d ∈ p.data,d.fit p) (tb:Nat) (σ:St) (hT:IsT σ tb p m):
 ∃τ,CI (.fn 67) [.ptr tb 0] σ=some (.ret (.ptr σ.length 0),σ++(.box (tabC (cur (fillT p)))::τ)):=by
 obtain ⟨τ1,hr⟩:=rnd67_4 p m hdl hls (cur fun _=>false) (cur fun _=>false) tb σ hT true []
 rw [if_pos (by simp),rnd_seidel] at hr
 obtain ⟨τ2,L,hit⟩:=lp67 p m hdl hls tb σ hT ((places p).length+1) (fun _=>false) τ1 (.zero p) (by omega)
 have h:=(iterI_next hr).trans hit
 rw [List.append_nil] at h
 have e1:S67 σ (.box (tabC (cur fun _=>false))) [] (cur fun _=>false)=σ++[.box z192, .box z192]:=by
  have:tabC (cur fun _=>false)=z192:=rfl
  unfold S67;rw [this]
 have e2:S67 σ (.box L) [] (cur (fillT p))++τ2=σ++(.box (tabC (cur (fillT p))):: .box L::τ2):=by unfold S67;simp
 rw [e1,e2] at h
 refine ⟨.box L::τ2, ?_⟩
 have hτ:bodyI CI XB GI af67 [.ptr tb 0] σ=some (.ret (.ptr σ.length 0),σ++(.box (tabC (cur (fillT p))):: .box L::τ2)):=by
  generalize tabC (cur (fillT p))=ct at*
  simp only [b67c,List.cons_append,List.nil_append] at h
  simp [bodyI,af67,h]
 exact CI_new (i:=0) tab67 hτ rfl
end Go.AI
