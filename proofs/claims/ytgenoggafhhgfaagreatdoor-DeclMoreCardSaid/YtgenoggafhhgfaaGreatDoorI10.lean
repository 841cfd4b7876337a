/- Texts of the proof: what functions of the program compute, step by step. No conditions of its own. -/
import Derived.Test.YtgenoggafhhgfaaGreatDoorI9
import Derived.Test.YtgenoggafhhgfaaGreatDoorI5
import Derived.Test.YtgenoggafhhgfaaGreatDoorI7
set_option linter.unusedVariables false
set_option linter.unusedSimpArgs false
namespace Go.AI
open Go Go.Proofs Go.Lx
set_option maxRecDepth 100000
def ordStep (p:Prg) (x:Ex) (_:Unit):Unit ⊕ Int:=if x.ordErr p=0 then .inl () else .inr (x.ordErr p)
def Ex.ordE (p:Prg) (e:Ex):Int:=match e.walk (ordStep p) () with| .inl _=>0| .inr err=>err
theorem Ex.e_node {k n:Int} {s t:Bs} {names:List Bs} {l:List Ex} {arms:List Arm} (h: (Ex.mk k n s t names l arms).e=0):nodeE k n s t names l.length arms=0∧exsE (Ex.mk k n s t names l arms).parts=0:=by
 rw [Ex.e_eq] at h
 by_cases hz:nodeE k n s t names l.length arms=0
 ·rw [if_pos hz] at h;exact ⟨hz,h⟩
 ·rw [if_neg hz] at h;exact absurd h hz
theorem exsE_mem: ∀ {l:List Ex} {x:Ex},exsE l=0→x ∈ l→x.e=0
 | [],x,_,h=>by cases h
 |a::r,x,h,hx=>by
  simp only [exsE] at h
  by_cases hz:a.e=0
  ·rw [if_pos hz] at h
   cases hx with
   |head=>exact hz
   |tail _ hx=>exact exsE_mem h hx
  ·rw [if_neg hz] at h;exact absurd h hz
theorem Ex.parts_e {e x:Ex} (h:e.e=0) (hx:x ∈ e.parts):x.e=0:=by
 rcases e with ⟨k,n,s,t,names,l,arms⟩
 exact exsE_mem (Ex.e_node h).2 hx
section
variable {β:Type} {step:Ex→β→β ⊕ Int}
mutual
theorem Ex.walk_inr (h: ∀x b c,step x b= .inr c→c≠0): ∀ (e:Ex) (b:β) (c:Int),e.walk step b= .inr c→c≠0
 | .mk k n s t names l arms,b,c,hc=>by
  simp only [Ex.walk] at hc
  split at hc
  ·rename_i e he;cases hc;exact h _ _ _ he
  ·rename_i b1 _
   split at hc
   ·rename_i e he;cases hc;exact exsWalk_inr h l _ _ he
   ·exact armsWalk_inr h arms _ _ hc
theorem exsWalk_inr (h: ∀x b c,step x b= .inr c→c≠0): ∀ (l:List Ex) (b:β) (c:Int),exsWalk step l b= .inr c→c≠0
 | [],b,c,hc=>by simp only [exsWalk] at hc;cases hc
 |x::r,b,c,hc=>by
  simp only [exsWalk] at hc
  split at hc
  ·rename_i e he;cases hc;exact Ex.walk_inr h x _ _ he
  ·exact exsWalk_inr h r _ _ hc
theorem armsWalk_inr (h: ∀x b c,step x b= .inr c→c≠0): ∀ (l:List Arm) (b:β) (c:Int),armsWalk step l b= .inr c→c≠0
 | [],b,c,hc=>by simp only [armsWalk] at hc;cases hc
 | .mk _ _ x::r,b,c,hc=>by
  simp only [armsWalk] at hc
  split at hc
  ·rename_i e he;cases hc;exact Ex.walk_inr h x _ _ he
  ·exact armsWalk_inr h r _ _ hc
end
end
theorem ordStep_ne {p:Prg} {x:Ex} {b:Unit} {c:Int} (h:ordStep p x b= .inr c):c≠0:=by
 unfold ordStep at h
 split at h
 ·cases h
 ·rename_i hz;cases h;exact hz
theorem c150 (x:Ex) (σ:St):CI (.fn 150) [.agg x.cs] σ=some (.ret (.func 191 [] [.ptr σ.length 0]),σ++[.box x.cs]):=by
 have hall:=x.cs_all
 have hτ:bodyI CI XB GI af150 [.agg x.cs] σ=some (.ret (.func 191 [] [.ptr σ.length 0]),σ++[.box x.cs]):=by
  generalize x.cs=xc at*
  simp [bodyI,af150,hall]
 refine CI_fn tab150 hτ ?_
 have ht:trim σ (some (.ret (.func 191 [] [.ptr σ.length 0]),σ++[.box x.cs]))=some (.ret (.func 191 [] [.ptr σ.length 0]),σ++[.box x.cs]):=by
  unfold trim
  have:trimV σ.length (σ++[.box x.cs]) (.ret (.func 191 [] [.ptr σ.length 0]))=none:=by simp [trimV,strip,D.tree,treeL,D.under,underL]
  simp only [this,if_pos keeps_app]
 unfold postI
 rw [ht]
 rfl
theorem c191 (p:Prg) (hok:p.ok) (t i qm jm pe:Nat) (fd:D) (σ:St) (x:Ex) (hx:x.ok) (hw:x.e=0) (hi:σ[i]? =some (loop96 qm fd .ready)) (hq:σ[qm]? =some (.box [.map jm])) (hj:σ[jm]? =some (.map (askM t))) (hT:IsT σ t p p.cm)
 (hpe:σ[pe]? =some (.box x.cs)) (hfd: ∀m,σ.length≤m→fd.under m=true):
 CI (.fn 191) [.yield i, .ptr pe 0] σ=some (match x.walk (ordStep p) () with| .inl _=>(.ret (.tuple []),σ) | .inr err=>(.panic (refD err),σ.set i (loop96 qm fd .busy))):=by
 have hil:=lt_of_get hi
 have hql:=lt_of_get hq
 have hset: ∀σ0:St,σ0=σ++[Obj.box [.yield i], .box [.func 192 [] [.ptr σ.length 0, .ptr (σ.length+1) 0]]]→σ0.set σ.length (.box [.yield i])=σ0:=fun σ0 h=>by
  subst h;rw [setA0];rfl
 have hunder: ∀m,σ.length≤m→(loop96 qm fd .busy).under m:=fun m hm u=>by
  show (getE [(4, .ptr qm 0),(27,fd),(28, .any)] u).under m=true
  simp only [getE]
  split
  ·simp [D.under];omega
  ·split
   ·exact hfd m hm
   ·split<;>rfl
 have h192:=(p192 (β:=Unit) σ.length σ.length (σ.length+1) i (fun _=> .box [.yield i]) (fun _=>True) (ordStep p) (σ++[Obj.box [.yield i], .box [.func 192 [] [.ptr σ.length 0, .ptr (σ.length+1) 0]]])
  (σ.set i (loop96 qm fd .busy)++[Obj.box [.yield i], .box [.func 192 [] [.ptr σ.length 0, .ptr (σ.length+1) 0]]])
  (by simp) (fun _ m hm=>by simp at hm;simp [Obj.under,underL,D.under];omega) (by simp)
  (fun _ j hjl=>by
    rw [hset _ rfl]
    by_cases hji:i=j
    ·subst hji
     right
     exact ⟨_,getSs hil,fun m hm=>hunder m (by simp at hm;omega)⟩
    ·left
     rw [←setO hil,List.getElem?_set_ne hji])
  (fun _=>by rw [hset _ rfl];exact getA0) (fun _=>by rw [hset _ rfl];exact getA)
  (fun y=>y.ok∧y.e=0) (fun e y he hy=>⟨Ex.parts_ok he.1 hy,Ex.parts_e he.2 hy⟩) (fun _ _ _ _ _ _=>trivial)
  (fun e he b τ _=>by
    obtain ⟨τ',h⟩:=rnd96 p hok t i qm jm fd (σ++[Obj.box [.yield i], .box [.func 192 [] [.ptr σ.length 0, .ptr (σ.length+1) 0]]]) e he.1 he.2 (getO hi) (getO hq) (getO hj) hT.app τ
    refine ⟨τ', ?_⟩
    rw [hset _ rfl,h]
    unfold ordStep
    by_cases hz:e.ordErr p=0
    ·simp only [if_pos hz,hset _ rfl]
    ·simp only [if_neg hz,setO hil])
  x hx ⟨hx,hw⟩ () [] trivial).1
 rw [hset _ rfl,List.append_nil] at h192
 have hall:=x.cs_all
 have hcl:=x.cs_len
 have hct:=x.cs_take
 cases hwk:x.walk (ordStep p) () with
 |inl b=>
  rw [hwk] at h192
  simp only [hset _ rfl,List.append_nil] at h192 ⊢
  have hτ:bodyI CI XB GI af191 [.yield i, .ptr pe 0] σ=some (.ret (.tuple []),σ++[Obj.box [.yield i], .box [.func 192 [] [.ptr σ.length 0, .ptr (σ.length+1) 0]]]):=by
   generalize x.cs=xc at*
   simp [bodyI,af191,getA0,getA,setA,getO hpe,hcl,hct,putCells,h192]
  exact CI_tree tab191 hτ rfl rfl
 |inr err=>
  rw [hwk] at h192
  simp only [List.append_nil] at h192 ⊢
  have hτ:bodyI CI XB GI af191 [.yield i, .ptr pe 0] σ=some (.panic (refD err),σ.set i (loop96 qm fd .busy)++[Obj.box [.yield i], .box [.func 192 [] [.ptr σ.length 0, .ptr (σ.length+1) 0]]]):=by
   generalize x.cs=xc at*
   generalize σ.set i (loop96 qm fd .busy)++[Obj.box [.yield i], .box [.func 192 [] [.ptr σ.length 0, .ptr (σ.length+1) 0]]]=σ5 at*
   simp [bodyI,af191,getA0,getA,setA,getO hpe,hcl,hct,putCells,h192]
  exact CI_fn tab191 hτ (postI_same_panic (by simp) (fun j hjl=>by
   by_cases hji:i=j
   ·subst hji
    right
    exact ⟨_,List.getElem?_set_self hil,hunder _ (Nat.le_refl _)⟩
   ·left
    rw [List.getElem?_set_ne hji]) rfl)
theorem evI_rf_ret {n:Nat} {f:AOpd} {ps:List Nat} {as' bd:ACode} {e:Env} {σ σ':St} {g:FuncId} {first captured:List D} {d:D} {m:Nat} {e1:Env} {ps1:List Nat} {as1 bd1:ACode} (hf:lookA GI e f= .func g first captured)
 (h:CI (.fn g) (first++[.yield σ.length]++captured) (σ++[.loop n e ps as' bd .ready none])=some (.ret d,σ')) (hl:σ'[σ.length]? =some (.loop m e1 ps1 as1 bd1 .ready none)):
 evalI CI XB GI n false (.rangeFunc f ps as' bd) e σ=some (.normal,e,σ'.set σ.length (.loop m e1 ps1 as1 bd1 .exhausted none)):=by
 rw [evalI]
 simp only [hf,Bool.false_eq_true,if_false,h,hl]
 rfl
theorem evI_rf_panic {n:Nat} {f:AOpd} {ps:List Nat} {as' bd:ACode} {e:Env} {σ σ':St} {g:FuncId} {first captured:List D} {d:D} (hf:lookA GI e f= .func g first captured)
 (h:CI (.fn g) (first++[.yield σ.length]++captured) (σ++[.loop n e ps as' bd .ready none])=some (.panic d,σ')):
 evalI CI XB GI n false (.rangeFunc f ps as' bd) e σ=some (.panic d,e,σ'):=by
 rw [evalI]
 simp only [hf,Bool.false_eq_true,if_false,h]
set_option maxHeartbeats 1000000 in
theorem c96 (p:Prg) (hok:p.ok) (t:Nat) (σ:St) (x:Ex) (hx:x.ok) (hw:x.e=0) (hT:IsT σ t p p.cm):CI (.fn 96) [.ptr t 0, .agg x.cs] σ=some (outR (x.ordE p),σ):=by
 obtain ⟨τ,hτ⟩: ∃τ,bodyI CI XB GI af96 [.ptr t 0, .agg x.cs] σ=some (outR (x.ordE p),σ++τ):=by
  have h150:=c150 x (σ++[Obj.box x.cs, .map (askM t), .box [.map (σ.length+1)]])
  have hl3: (σ++[Obj.box x.cs, .map (askM t), .box [.map (σ.length+1)]]).length=σ.length+3:=by simp
  have hl4: (σ++[Obj.box x.cs, .map (askM t), .box [.map (σ.length+1)]]++[Obj.box x.cs]).length=σ.length+4:=by simp
  rw [hl3] at h150
  have h191:=c191 p hok t (σ.length+4) (σ.length+2) (σ.length+1) (σ.length+3) (.func 191 [] [.ptr (σ.length+3) 0]) (σ++[Obj.box x.cs, .map (askM t), .box [.map (σ.length+1)]]++[Obj.box x.cs]++[loop96 (σ.length+2) (.func 191 [] [.ptr (σ.length+3) 0]) .ready]) x hx hw
   (by rw [←hl4];exact getA0) (by simp only [List.append_assoc];exact getA) (by simp only [List.append_assoc];exact getA) hT.app.app.app (by rw [←hl3];simp only [List.append_assoc];rw [←List.append_assoc σ];exact getA0)
   (fun m hm=>by simp at hm;simp [D.under,underL];omega)
  have hall:=x.cs_all
  have hcl:=x.cs_len
  have hct:=x.cs_take
  unfold Ex.ordE
  cases hwk:x.walk (ordStep p) () with
  |inl b=>
   rw [hwk] at h191
   have hrf:=evI_rf_ret (n:=40) (f:= .tmp 27) (ps:=[28]) (as':=as96_0) (bd:=bd96_1) (e:=[(4, .ptr (σ.length+2) 0),(27, .func 191 [] [.ptr (σ.length+3) 0]),(28, .any)]) (first:=[]) rfl (by rw [hl4];exact h191) (by rw [getA0];rfl)
   refine ⟨[Obj.box x.cs, .map (askM t), .box [.map (σ.length+1)]]++[Obj.box x.cs]++[loop96 (σ.length+2) (.func 191 [] [.ptr (σ.length+3) 0]) .exhausted], ?_⟩
   rw [setA0] at hrf
   have e1:σ++([Obj.box x.cs, .map (askM t), .box [.map (σ.length+1)]]++[Obj.box x.cs]++[loop96 (σ.length+2) (.func 191 [] [.ptr (σ.length+3) 0]) .exhausted])=σ++[Obj.box x.cs, .map (askM t), .box [.map (σ.length+1)]]++[Obj.box x.cs]++[loop96 (σ.length+2) (.func 191 [] [.ptr (σ.length+3) 0]) .exhausted]:=by simp only [List.append_assoc]
   rw [e1]
   unfold loop96
   simp only [List.set] at hrf
   generalize hσ5:σ++[Obj.box x.cs, .map (askM t), .box [.map (σ.length+1)]]++[Obj.box x.cs]++[Obj.loop 40 [(4, .ptr (σ.length+2) 0),(27, .func 191 [] [.ptr (σ.length+3) 0]),(28, .any)] [28] as96_0 bd96_1 .exhausted none]=σ5 at*
   simp only [askM] at h150 hrf
   generalize x.cs=xc at*
   simp only [List.append_assoc,List.cons_append,List.nil_append] at h150 hrf
   simp [bodyI,af96,getA0,getA,setA0,setA,hall,hcl,hct,putCells,mapSet,D.kindEq,h150,hrf,outR_zero]
  |inr err=>
   rw [hwk] at h191
   have hne:err≠0:=Ex.walk_inr (fun _ _ _ h=>ordStep_ne h) x _ _ hwk
   have hrf:=evI_rf_panic (n:=40) (f:= .tmp 27) (ps:=[28]) (as':=as96_0) (bd:=bd96_1) (e:=[(4, .ptr (σ.length+2) 0),(27, .func 191 [] [.ptr (σ.length+3) 0]),(28, .any)]) (first:=[]) rfl (by rw [hl4];exact h191)
   refine ⟨[Obj.box x.cs, .map (askM t), .box [.map (σ.length+1)]]++[Obj.box x.cs]++[loop96 (σ.length+2) (.func 191 [] [.ptr (σ.length+3) 0]) .busy], ?_⟩
   rw [←hl4,setA0] at hrf
   have e1:σ++([Obj.box x.cs, .map (askM t), .box [.map (σ.length+1)]]++[Obj.box x.cs]++[loop96 (σ.length+2) (.func 191 [] [.ptr (σ.length+3) 0]) .busy])=σ++[Obj.box x.cs, .map (askM t), .box [.map (σ.length+1)]]++[Obj.box x.cs]++[loop96 (σ.length+2) (.func 191 [] [.ptr (σ.length+3) 0]) .busy]:=by simp only [List.append_assoc]
   rw [e1]
   simp only [outR_ne hne]
   unfold loop96 at*
   simp only [List.set] at hrf
   generalize hσ5:σ++[Obj.box x.cs, .map (askM t), .box [.map (σ.length+1)]]++[Obj.box x.cs]++[Obj.loop 40 [(4, .ptr (σ.length+2) 0),(27, .func 191 [] [.ptr (σ.length+3) 0]),(28, .any)] [28] as96_0 bd96_1 .busy none]=σ5 at*
   simp only [askM] at h150 hrf
   generalize x.cs=xc at*
   simp only [List.append_assoc,List.cons_append,List.nil_append] at h150 hrf
   simp [bodyI,af96,getA0,getA,setA0,setA,hall,hcl,hct,putCells,mapSet,D.kindEq,h150,hrf]
 exact CI_out tab96 hτ
def Ex.chk (e:Ex):Int:=if (e.take 1 (3000,0)).1 then e.e else 3
set_option maxHeartbeats 1000000 in
theorem c82 (e:Ex) (hok:e.ok) (σ:St):CI (.fn 82) [.agg e.cs] σ=some (.ret (.tuple [.agg [.int .i64 (e.take 1 (3000,0)).2.1, .int .i64 (e.take 1 (3000,0)).2.2], .int .i64 e.chk]),σ):=by
 have h130:=fun i σ h=>c130 e hok 1 (3000,0) i σ ⟨by simp,by simp⟩ (by omega) (by omega) h
 have h131:=fun σ=>c131 e hok σ
 have q131:qI 131=false:=rfl
 have x131:XB 131=false:=rfl
 obtain ⟨τ,hτ⟩: ∃τ,bodyI CI XB GI af82 [.agg e.cs] σ=some (.ret (.tuple [.agg [.int .i64 (e.take 1 (3000,0)).2.1, .int .i64 (e.take 1 (3000,0)).2.2], .int .i64 e.chk]),σ++τ):=by
  unfold Ex.chk
  have hall:=e.cs_all
  have hcl:=e.cs_len
  have hct:=e.cs_take
  have hee:eqbL e.cs e.cs=true:=eqbL_tree _ e.plain.1
  have h:=h130 (σ.length+2) (σ++[.box e.cs, .box z2, .box [.int .i64 3000, .int .i64 0]]) (by rw [getA];rfl)
  rw [setA] at h
  generalize e.take 1 (3000,0)=q at*
  simp only [mBox,List.set] at h
  refine ⟨[.box e.cs, .box [.int .i64 q.2.1, .int .i64 q.2.2], .box [.int .i64 q.2.1, .int .i64 q.2.2]], ?_⟩
  generalize e.cs=ec at*
  simp only [z2] at h
  cases hq:q.1
  ·rw [hq] at h
   simp [bodyI,af82,getA0,getA,setA,setA0,hall,hcl,hct,fillD,putCells,h]
  ·rw [hq] at h
   simp [bodyI,af82,getA0,getA,setA,setA0,hall,hcl,hct,hee,fillD,putCells,h,h131,q131,x131,Nat.testBit_eq_decide_div_mod_eq]
 exact CI_tree tab82 hτ rfl rfl
theorem c80 (e:Ex) (hok:e.ok) (σ:St):CI (.fn 80) [.agg e.cs] σ=some (.ret (.int .i64 e.chk),σ):=by
 have h82:=fun σ=>c82 e hok σ
 have hτ:bodyI CI XB GI af80 [.agg e.cs] σ=some (.ret (.int .i64 e.chk),σ++[.box e.cs, .box [.int .i64 (e.take 1 (3000,0)).2.1, .int .i64 (e.take 1 (3000,0)).2.2]]):=by
  have hall:=e.cs_all
  have hcl:=e.cs_len
  have hct:=e.cs_take
  generalize e.cs=ec at*
  generalize (e.take 1 (3000,0)).2=q at*
  simp [bodyI,af80,getA0,getA,setA,hall,hcl,hct,putCells,h82]
 exact CI_tree tab80 hτ rfl rfl
theorem Ex.chk_e {e:Ex} (h:e.chk=0):e.e=0∧(e.take 1 (3000,0)).1=true:=by
 unfold Ex.chk at h
 split at h
 ·rename_i ht;exact ⟨h,ht⟩
 ·cases h
def Prg.exprE (p:Prg) (x:Ex):Int:=orE p.decls (orE x.chk (x.ordE p))
theorem c98 (p:Prg) (hok:p.ok) (x:Ex) (hx:x.ok) (a b:Nat) (σ:St) (ha:σ[a]? =some (.box p.cs)) (hb:σ[b]? =some (.box x.cs)):CI (.fn 98) [.ptr a 0, .ptr b 0] σ=some (outR (p.exprE x),σ):=by
 obtain ⟨τ1,h55⟩:=c55 p hok.dl hok.d σ
 have hT:=lookS_T p σ τ1
 have e1:lookS p σ p.cm++τ1=σ++([.box p.cs, .map (kvs p.cm), .box (p.cs++[.map (σ.length+1)])]++τ1):=by unfold lookS;rw [List.append_assoc]
 have hb2: (lookS p σ p.cm++τ1)[b]? =some (.box x.cs):=by rw [e1];exact getO hb
 have h56:=c56 p p.cm hok _ _ hT
 have h80:=fun σ=>c80 x hx σ
 have h96:=fun h=>c96 p hok (σ.length+2) (lookS p σ p.cm++τ1) x hx h hT
 have hpl:=p.cs_len
 have hpt:=p.cs_take
 have hcl:=x.cs_len
 have hct:=x.cs_take
 refine CI_out tab98 (τ:=[.box p.cs, .map (kvs p.cm), .box (p.cs++[.map (σ.length+1)])]++τ1) ?_
 rw [←e1]
 generalize lookS p σ p.cm++τ1=σ2 at*
 clear e1
 unfold Prg.exprE orE
 generalize p.cs=pc at*
 generalize x.cs=xc at*
 by_cases h1:p.decls=0
 ·rw [h1,outR_zero] at h56
  by_cases h2:x.chk=0
  ·have h96:=h96 (Ex.chk_e h2).1
   rw [h2] at h80
   rw [if_pos h1,if_pos h2]
   generalize x.ordE p=e at*
   by_cases h3:e=0
   ·subst h3
    rw [outR_zero] at h96
    simp [bodyI,af98,ha,hb2,hpl,hpt,hcl,hct,h55,h56,h80,h96,c59,outR_zero]
   ·rw [outR_ne h3] at h96
    simp [bodyI,af98,ha,hb2,hpl,hpt,hcl,hct,h55,h56,h80,h96,c59,outR_zero,outR_ne h3]
  ·rw [if_pos h1,if_neg h2]
   generalize x.chk=e at*
   simp [bodyI,af98,ha,hb2,hpl,hpt,hcl,hct,h55,h56,h80,c59,outR_ne h2]
 ·rw [if_neg h1]
  rw [outR_ne h1] at h56
  simp [bodyI,af98,ha,hpl,hpt,h55,h56,outR_ne h1]
theorem c38 (p:Prg) (hok:p.ok) (x:Ex) (hx:x.ok) (σ:St):CI (.fn 38) [.agg p.cs, .agg x.cs] σ=some (.ret (.int .i64 (p.exprE x)),σ):=by
 have h98:=c98 p hok x hx σ.length (σ.length+1) (σ++[.box p.cs, .box x.cs]++[.box [.int .i64 0]]) (by rw [List.append_assoc];exact getA0) (by rw [List.append_assoc];exact getA)
 have h54:=c54 98 [] [.ptr σ.length 0, .ptr (σ.length+1) 0] _ (σ++[Obj.box p.cs,Obj.box x.cs]) h98
 have hτ:bodyI CI XB GI af38 [.agg p.cs, .agg x.cs] σ=some (.ret (.int .i64 (p.exprE x)),σ++[.box p.cs, .box x.cs]):=by
  have h1:=p.cs_all
  have h2:=x.cs_all
  generalize p.exprE x=e at*
  generalize p.cs=pc at*
  generalize x.cs=xc at*
  simp [bodyI,af38,h1,h2,h54]
 exact CI_tree tab38 hτ rfl rfl
def Prg.chk (p:Prg):Int:=orE p.syn (orE p.decls (orE (firstE (p.defs.map fun d=>d.body.ordE p)) (p.main.ordE p)))
theorem Prg.syn_e {p:Prg} (h:p.syn=0): (∀d ∈ p.defs,d.body.e=0)∧p.main.e=0:=by
 obtain ⟨_,_,_,_,_,_,h7,h8⟩:=Prg.syn_data h
 refine ⟨fun d hd=> ?_,h8⟩
 have:=h7 d hd
 unfold dfnE at this
 split at this
 ·exact this
 ·cases this
set_option maxHeartbeats 1000000 in
theorem c94 (p:Prg) (hok:p.ok) (a:Nat) (σ:St) (ha:σ[a]? =some (.box p.cs)):CI (.fn 94) [.ptr a 0] σ=some (outR p.chk,σ):=by
 obtain ⟨τ1,h55⟩:=c55 p hok.dl hok.d σ
 have hT:=lookS_T p σ τ1
 have e1:lookS p σ p.cm++τ1=σ++([.box p.cs, .map (kvs p.cm), .box (p.cs++[.map (σ.length+1)])]++τ1):=by unfold lookS;rw [List.append_assoc]
 have ha2: (lookS p σ p.cm++τ1)[a]? =some (.box p.cs):=by rw [e1];exact getO ha
 have h56:=c56 p p.cm hok _ _ hT
 have h95:=fun σ=>c95 p hok σ
 have hpl:=p.cs_len
 have hpt:=p.cs_take
 obtain ⟨τ,hτ⟩: ∃τ,bodyI CI XB GI af94 [.ptr a 0] σ=some (outR p.chk,σ++τ):=by
  unfold Prg.chk orE
  by_cases h0:p.syn=0
  ·rw [if_pos h0]
   obtain ⟨hd0,hm0⟩:=Prg.syn_e h0
   rw [h0] at h95
   by_cases h1:p.decls=0
   ·rw [if_pos h1]
    rw [h1,outR_zero] at h56
    have hfl:=hok.fl
    obtain ⟨τ2,ev,hit⟩:=loop_seekP (f:=evalI CI XB GI 27 false lp94_0) (σ:=lookS p σ p.cm++τ1) p.defs (fun i=>[(0, .ptr a 0),(1, .ptr (σ.length+2) 0),(12, .slice (p.defs.map Dfn.d)),(13, .int .i64 p.defs.length),(14, .int .i64 (i:Nat))]) (fun d=>d.body.ordE p) (fun e=> .panic (refD e))
     (.exit 0,[(0, .ptr a 0),(1, .ptr (σ.length+2) 0),(12, .slice (p.defs.map Dfn.d)),(13, .int .i64 p.defs.length),(14, .int .i64 p.defs.length),(15, .bool false)]) (by simp) (by simp)
     (fun i hi τ=>by
       have hw:=wrap_nat (n:=i) (by unfold maxL at hfl;omega)
       have h96:=c96 p hok (σ.length+2) (lookS p σ p.cm++τ1++τ++[Obj.box p.defs[i].cs]) p.defs[i].body (hok.f _ (List.getElem_mem hi)) (hd0 _ (List.getElem_mem hi)) hT.app.app
       have hget: (p.defs.map Dfn.d)[i]? =some (Dfn.d p.defs[i]):=by simp [hi]
       have hlen: (p.defs.map Dfn.d).length=p.defs.length:=by simp
       refine ⟨τ++[.box p.defs[i].cs],[(0, .ptr a 0),(1, .ptr (σ.length+2) 0),(3, .ptr (lookS p σ p.cm++τ1++τ).length 0),(12, .slice (p.defs.map Dfn.d)),(13, .int .i64 p.defs.length),(14, .int .i64 (i:Nat)),(19, .ptr (lookS p σ p.cm++τ1++τ).length 1),(20, .agg p.defs[i].body.cs)], ?_⟩
       rw [←List.append_assoc]
       generalize lookS p σ p.cm++τ1++τ=σ3 at*
       generalize p.defs.map Dfn.d=ld at*
       have h2:i<ld.length:=by omega
       have h3:ld[i]=Dfn.d p.defs[i]:=by rw [List.getElem?_eq_getElem h2] at hget;exact Option.some.inj hget
       generalize p.defs[i]=d at*
       rcases d with ⟨dn,body⟩
       have hx1:=body.cs_all
       have hx2:=body.cs_len
       have hx3:=body.cs_take
       have hx4:body.cs.drop 7=[]:=List.drop_eq_nil_of_le (by simp)
       simp only [Dfn.d,Dfn.cs] at*
       generalize body.ordE p=e at*
       generalize body.cs=bc at*
       by_cases he:e=0
       ·rw [if_pos he]
        subst he
        rw [outR_zero] at h96
        simp [lp94_0,hi,hw,h2,h3,getA0,setA0,hx1,hx2,hx3,hx4,putCells,h96]
       ·rw [if_neg he]
        rw [outR_ne he] at h96
        simp [lp94_0,hi,hw,h2,h3,getA0,setA0,hx1,hx2,hx3,hx4,putCells,h96]) (fun τ=>⟨τ,by generalize p.defs.map Dfn.d=ld at*;simp [lp94_0]⟩) []
    rw [List.append_nil,Int.natCast_zero] at hit
    have hh:p.cs[2]? =some (.slice (p.defs.map Dfn.d)):=by rw [p.cs_eq];rfl
    have hh2: ∀h:2<p.cs.length,p.cs[2]= .slice (p.defs.map Dfn.d):=fun h=>by rw [List.getElem?_eq_getElem h] at hh;exact Option.some.inj hh
    have hd3: (p.cs.drop 3).take 7=p.main.cs:=by rw [p.cs_eq];simp
    have hd3':p.cs.drop 3=p.main.cs:=by rw [p.cs_eq];simp
    have hm1:=p.main.cs_len
    have hm2:=p.main.cs_take
    have hlen: (p.defs.map Dfn.d).length=p.defs.length:=by simp
    refine ⟨[.box p.cs, .map (kvs p.cm), .box (p.cs++[.map (σ.length+1)])]++τ1++τ2, ?_⟩
    have e2:σ++([.box p.cs, .map (kvs p.cm), .box (p.cs++[.map (σ.length+1)])]++τ1++τ2)=lookS p σ p.cm++τ1++τ2:=by rw [e1];simp only [List.append_assoc]
    rw [e2]
    have ha3:=getO (τ:=τ2) ha2
    have h96:=c96 p hok (σ.length+2) (lookS p σ p.cm++τ1++τ2) p.main hok.m hm0 hT.app
    generalize lookS p σ p.cm++τ1++τ2=σ3 at*
    generalize lookS p σ p.cm++τ1=σ2 at*
    clear e1 e2
    generalize p.defs.map Dfn.d=ld at*
    generalize firstE (p.defs.map fun d=>d.body.ordE p)=e1 at*
    generalize p.main.ordE p=e2 at*
    generalize p.main.cs=mc at*
    generalize p.cs=pc at*
    by_cases hf:e1=0
    ·rw [if_pos hf] at hit ⊢
     by_cases hm:e2=0
     ·subst hm
      rw [outR_zero] at h96
      simp [bodyI,af94,ha,ha2,ha3,hpl,hpt,hh2,hd3,hd3',hm1,hm2,hlen,h95,h55,h56,h96,hit,c59,outR_zero]
     ·rw [outR_ne hm] at h96
      simp [bodyI,af94,ha,ha2,ha3,hpl,hpt,hh2,hd3,hd3',hm1,hm2,hlen,h95,h55,h56,h96,hit,c59,outR_zero,outR_ne hm]
    ·rw [if_neg hf] at hit ⊢
     simp [bodyI,af94,ha,ha2,ha3,hpl,hpt,hh2,hlen,h95,h55,h56,hit,c59,outR_zero,outR_ne hf]
   ·rw [if_neg h1]
    refine ⟨[.box p.cs, .map (kvs p.cm), .box (p.cs++[.map (σ.length+1)])]++τ1, ?_⟩
    rw [←e1]
    rw [outR_ne h1] at h56
    generalize lookS p σ p.cm++τ1=σ2 at*
    clear e1
    generalize p.cs=pc at*
    simp [bodyI,af94,ha,hpl,hpt,h95,h55,h56,c59,outR_zero,outR_ne h1]
  ·rw [if_neg h0]
   refine ⟨[], ?_⟩
   generalize p.cs=pc at*
   simp [bodyI,af94,ha,hpl,hpt,h95,c59,outR_ne h0]
 exact CI_out tab94 hτ
theorem c36 (p:Prg) (hok:p.ok) (σ:St):CI (.fn 36) [.agg p.cs] σ=some (.ret (.int .i64 p.chk),σ):=by
 have h94:=c94 p hok σ.length (σ++[.box p.cs]++[.box [.int .i64 0]]) (by rw [List.append_assoc];exact getA0)
 have h54:=c54 94 [] [.ptr σ.length 0] _ (σ++[Obj.box p.cs]) h94
 have hτ:bodyI CI XB GI af36 [.agg p.cs] σ=some (.ret (.int .i64 p.chk),σ++[.box p.cs]):=by
  have h1:=p.cs_all
  generalize p.chk=e at*
  generalize p.cs=pc at*
  simp [bodyI,af36,h1,h54]
 exact CI_tree tab36 hτ rfl rfl
mutual
def Ty.left:Ty→Int→Int→Int
 | .mk _ _ _ l ls _,left,d=>if d<1∨24<ls.length then -1 else tysLeft l (left - 1) (d - 1)
def tysLeft:List Ty→Int→Int→Int
 | [],left,_=>left
 |t::r,left,d=>if 0≤left then tysLeft r (t.left left d) d else left
end
theorem tysLeft_neg: ∀ (l:List Ty) (x d:Int),x<0→tysLeft l x d=x
 | [],_,_,_=>rfl
 |_::_,x,d,h=>by
  simp only [tysLeft]
  rw [if_neg (by omega)]
mutual
theorem Ty.take_eq: ∀ (t:Ty) (left d:Int),0≤left→((t.take left d).1=true↔0≤t.left left (201 - d))∧((t.take left d).1=true→(t.take left d).2=t.left left (201 - d))
 | .mk _ _ _ l ls _,left,d,h=>by
  simp only [Ty.take,Ty.left]
  by_cases h1:200<d
  ·rw [if_pos (.inr (.inl h1)),if_pos (.inl (by omega))]
   exact ⟨⟨fun h=>(by cases h),fun h=>(by omega)⟩,fun h=>(by cases h)⟩
  by_cases h2:24<ls.length
  ·rw [if_pos (.inr (.inr h2)),if_pos (.inr h2)]
   exact ⟨⟨fun h=>(by cases h),fun h=>(by omega)⟩,fun h=>(by cases h)⟩
  rw [if_neg (c:=201 - d<1∨24<ls.length) (fun h=>h.elim (by omega) h2)]
  by_cases h3:left - 1<0
  ·rw [if_pos (.inl h3),tysLeft_neg l _ _ h3]
   exact ⟨⟨fun h=>(by cases h),fun h=>(by omega)⟩,fun h=>(by cases h)⟩
  rw [if_neg (fun h=>h.elim h3 (fun h=>h.elim h1 h2))]
  have:=tysTake_eq l (left - 1) (d+1) (by omega)
  have e:201 - d - 1=201 - (d+1):=by omega
  rw [e]
  exact this
theorem tysTake_eq: ∀ (l:List Ty) (left d:Int),0≤left→((tysTake l left d).1=true↔0≤tysLeft l left (201 - d))∧((tysTake l left d).1=true→(tysTake l left d).2=tysLeft l left (201 - d))
 | [],left,d,h=>by
  simp only [tysTake,tysLeft]
  exact ⟨⟨fun _=>h,fun _=>trivial⟩,fun _=>trivial⟩
 |t::r,left,d,h=>by
  obtain ⟨h1,h2⟩:=t.take_eq left d h
  simp only [tysTake,tysLeft]
  rw [if_pos h]
  by_cases ht: (t.take left d).1=true
  ·rw [if_pos ht,h2 ht]
   exact tysTake_eq r _ d (h1.1 ht)
  ·rw [if_neg ht,tysLeft_neg r _ _ (by have:=mt h1.2 ht;omega)]
   have hn:=mt h1.2 ht
   exact ⟨⟨fun h=>(by cases h),fun h=>absurd h hn⟩,fun h=>(by cases h)⟩
end
theorem Ty.chk_left (t:Ty):t.chk=if t.left 3000 200<0 then 3 else t.e:=by
 obtain ⟨h1, -⟩:=t.take_eq 3000 1 (by omega)
 have e: (201:Int) - 1=200:=rfl
 rw [e] at h1
 unfold Ty.chk
 by_cases h: (t.take 3000 1).1=true
 ·rw [if_pos h,if_neg (by have:=h1.1 h;omega)]
 ·rw [if_neg h,if_pos (by have:=mt h1.2 h;omega)]
theorem Ty.chk_e {t:Ty} (h:t.chk=0):t.e=0:=by
 unfold Ty.chk at h
 split at h
 ·exact h
 ·cases h
mutual
def Ex.left:Ex→Int→Int→Int
 | .mk _ _ _ _ _ l arms,left,d=>if d<1 then -1 else armsLeft arms (exsLeft l (left - 1) (d - 1)) (d - 1)
def exsLeft:List Ex→Int→Int→Int
 | [],left,_=>left
 |x::r,left,d=>if 0≤left then exsLeft r (x.left left d) d else left
def armsLeft:List Arm→Int→Int→Int
 | [],left,_=>left
 | .mk _ _ x::r,left,d=>if 0≤left then armsLeft r (x.left left d) d else left
end
theorem exsLeft_neg: ∀ (l:List Ex) (x d:Int),x<0→exsLeft l x d=x
 | [],_,_,_=>rfl
 |_::_,x,d,h=>by
  simp only [exsLeft]
  rw [if_neg (by omega)]
theorem armsLeft_neg: ∀ (l:List Arm) (x d:Int),x<0→armsLeft l x d=x
 | [],_,_,_=>rfl
 | .mk _ _ _::_,x,d,h=>by
  simp only [armsLeft]
  rw [if_neg (by omega)]
mutual
theorem Ex.take_left2: ∀ (t:Ex) (d:Int) (b:Int × Int),0≤b.1→((t.take d b).1=true↔0≤t.left b.1 (201 - d))∧((t.take d b).1=true→(t.take d b).2.1=t.left b.1 (201 - d))
 | .mk _ _ _ _ _ l arms,d,b,h=>by
  simp only [Ex.take,Ex.left]
  by_cases h1:200<d
  ·rw [if_pos (.inr h1),if_pos (c:=201 - d<1) (by omega)]
   exact ⟨⟨fun h=>(by cases h),fun h=>(by omega)⟩,fun h=>(by cases h)⟩
  rw [if_neg (c:=201 - d<1) (by omega)]
  have e:201 - d - 1=201 - (d+1):=by omega
  rw [e]
  by_cases h3:b.1 - 1<0
  ·rw [if_pos (.inl h3),exsLeft_neg l _ _ h3,armsLeft_neg arms _ _ h3]
   exact ⟨⟨fun h=>(by cases h),fun h=>(by omega)⟩,fun h=>(by cases h)⟩
  rw [if_neg (fun h=>h.elim h3 h1)]
  obtain ⟨a1,a2⟩:=exsTake_left2 l (d+1) (b.1 - 1,if d>b.2 then d else b.2) (by simp;omega)
  generalize exsTake l (d+1) (b.1 - 1,if d>b.2 then d else b.2)=q at*
  by_cases ht:q.1=true
  ·rw [if_pos ht]
   have a2:=a2 ht
   have a1:=a1.1 ht
   simp only at a1 a2
   rw [←a2] at a1 ⊢
   exact armsTake_left2 arms (d+1) q.2 a1
  ·rw [if_neg ht]
   have hn:=mt a1.2 ht
   simp only at hn
   rw [armsLeft_neg arms _ _ (by omega)]
   exact ⟨⟨fun h=>(by cases h),fun h=>absurd h hn⟩,fun h=>(by cases h)⟩
theorem exsTake_left2: ∀ (l:List Ex) (d:Int) (b:Int × Int),0≤b.1→((exsTake l d b).1=true↔0≤exsLeft l b.1 (201 - d))∧((exsTake l d b).1=true→(exsTake l d b).2.1=exsLeft l b.1 (201 - d))
 | [],d,b,h=>by
  simp only [exsTake,exsLeft]
  exact ⟨⟨fun _=>h,fun _=>trivial⟩,fun _=>trivial⟩
 |t::r,d,b,h=>by
  obtain ⟨h1,h2⟩:=t.take_left2 d b h
  simp only [exsTake,exsLeft]
  rw [if_pos h]
  by_cases ht: (t.take d b).1=true
  ·rw [if_pos ht,←h2 ht]
   exact exsTake_left2 r d _ (by rw [h2 ht];exact h1.1 ht)
  ·have hn:=mt h1.2 ht
   rw [if_neg ht,exsLeft_neg r _ _ (by omega)]
   exact ⟨⟨fun h=>(by cases h),fun h=>absurd h hn⟩,fun h=>(by cases h)⟩
theorem armsTake_left2: ∀ (l:List Arm) (d:Int) (b:Int × Int),0≤b.1→((armsTake l d b).1=true↔0≤armsLeft l b.1 (201 - d))∧((armsTake l d b).1=true→(armsTake l d b).2.1=armsLeft l b.1 (201 - d))
 | [],d,b,h=>by
  simp only [armsTake,armsLeft]
  exact ⟨⟨fun _=>h,fun _=>trivial⟩,fun _=>trivial⟩
 | .mk _ _ t::r,d,b,h=>by
  obtain ⟨h1,h2⟩:=t.take_left2 d b h
  simp only [armsTake,armsLeft]
  rw [if_pos h]
  by_cases ht: (t.take d b).1=true
  ·rw [if_pos ht,←h2 ht]
   exact armsTake_left2 r d _ (by rw [h2 ht];exact h1.1 ht)
  ·have hn:=mt h1.2 ht
   rw [if_neg ht,armsLeft_neg r _ _ (by omega)]
   exact ⟨⟨fun h=>(by cases h),fun h=>absurd h hn⟩,fun h=>(by cases h)⟩
end
end Go.AI
namespace Go.AI
open Go Go.Proofs Go.Lx
theorem Ex.ordE_zero {p:Prg} {e:Ex} :e.ordE p=0↔e.walk (ordStep p) ()= .inl ():=by
 unfold Ex.ordE
 cases h:e.walk (ordStep p) () with
 |inl u=>simp
 |inr c=>
  have:=Ex.walk_inr (fun _ _ _ h=>ordStep_ne h) e _ _ h
  simp [this]
end Go.AI
namespace Go.AI
open Go Go.Proofs Go.Lx
set_option maxRecDepth 100000
theorem Ex.chk_left (e:Ex):e.chk=if e.left 3000 200<0 then 3 else e.e:=by
 unfold Ex.chk
 obtain ⟨h1,_⟩:=e.take_left2 1 (3000,0) (by simp)
 have e1: (201:Int) - 1=200:=rfl
 simp only [e1] at h1
 by_cases h: (e.take 1 (3000,0)).1=true
 ·rw [if_pos h,if_neg (by have:=h1.1 h;omega)]
 ·rw [if_neg h,if_pos (by have:=mt h1.2 h;omega)]
theorem find_all {α:Type} (l:List α) (Q:α→Bool): (l.find? (fun a=> !Q a)).isNone=l.all Q:=by
 induction l with
 |nil=>rfl
 |cons a r ih=>rw [List.find?_cons,List.all_cons];cases h:Q a<;>simp [ih]
theorem Ty.cl_eq2 (p:Int→Bool) (k n:Int) (s:Bs) (l:List Ty) (ls:List Lab) (tail:Int): (Ty.mk k n s l ls tail).cl p=(!(k==0|| (k==5&&p tail))&&(ls.all (fun x=>x.n==0)&&l.all (fun t=>t.cl p))):=by
 simp only [Ty.cl,tysCl_all,Bool.and_assoc]
set_option maxHeartbeats 1000000 in
theorem c116: ∀ (t:Ty),t.ok→ ∀ (σ:St),CI (.fn 116) [.agg t.cs] σ=some (.ret (.bool (t.cl tailC)),σ)
 | .mk k n s l ls tail,hok,σ=>by
  obtain ⟨hl1,hl2,hl3⟩:=hok
  have ih:=fun x (hx:x ∈ l) σ=>c116 x (tysOk_mem hl3 hx) σ
  obtain ⟨ld,hld,hll,hlg⟩:=opq Ty.d l
  obtain ⟨sd,hsd,hsl,hsg⟩:=opq Lab.d ls
  have hcs: (Ty.mk k n s l ls tail).cs=[.int .i64 k, .int .i64 n, .str s, .slice ld, .slice sd, .int .i64 tail]:=by simp only [Ty.cs,tysD_map,hld,hsd]
  rw [hcs]
  have hit0:=loop_seek (f:=evalI CI XB GI 44 false lp116_0) (σ:=σ++[.box [.int .i64 k, .int .i64 n, .str s, .slice ld, .slice sd, .int .i64 tail]]) ls (fun i=>[(1, .ptr σ.length 0),(23, .slice sd),(24, .int .i64 ls.length),(25, .int .i64 (i:Nat))]) (fun x=> !(x.n==0)) (fun _=>(.ret,[(2, .bool false)])) (.exit 0,[(1, .ptr σ.length 0),(23, .slice sd),(24, .int .i64 ls.length),(25, .int .i64 ls.length),(26, .bool false)]) (by simp) (by simp)
   (fun i hi τ=>by
     have hw:=wrap_nat (n:=i) (by unfold maxL at*;omega)
     obtain ⟨h2,h3⟩:=hsg i hi
     have hii: (i:Int) <ls.length:=by omega
     refine ⟨τ++[.box [.str ls[i].s, .int .i64 ls[i].n]], ?_⟩
     rw [←List.append_assoc]
     unfold Lab.d at h3
     generalize ls[i].s=xs at*
     generalize ls[i].n=xn at*
     generalize σ++[Obj.box [.int .i64 k, .int .i64 n, .str s, .slice ld, .slice sd, .int .i64 tail]]++τ=σ1 at*
     by_cases hx:xn=0
     ·subst hx
      simp [lp116_0,hi,hii,hw,h2,h3,getA0,setA0]
     ·have hx1: (xn==0)=false:=by simpa using hx
      have hx2: (xn != 0)=true:=by simpa using hx
      simp [lp116_0,hi,hii,hw,h2,h3,getA0,setA0,hx,hx1,hx2]) (fun τ=>⟨τ,by simp [lp116_0]⟩)
  have hit1:=loop_seek (f:=evalI CI XB GI 44 false lp116_1) (σ:=σ++[.box [.int .i64 k, .int .i64 n, .str s, .slice ld, .slice sd, .int .i64 tail]]) l (fun i=>[(34, .slice ld),(35, .int .i64 l.length),(36, .int .i64 (i:Nat))]) (fun x=> !(x.cl tailC)) (fun _=>(.ret,[(2, .bool false)])) (.exit 2,[(34, .slice ld),(35, .int .i64 l.length),(36, .int .i64 l.length),(37, .bool false)]) (by simp) (by simp)
   (fun i hi τ=>by
     have hw:=wrap_nat (n:=i) (by unfold maxL at*;omega)
     obtain ⟨h2,h3⟩:=hlg i hi
     have ih:=ih l[i] (List.getElem_mem hi)
     have hii: (i:Int) <l.length:=by omega
     have y1:=l[i].cs_len
     have y2:=l[i].cs_take
     have y3:l[i].cs.all D.one=true:=by cases l[i];rfl
     refine ⟨τ++[.box l[i].cs], ?_⟩
     rw [←List.append_assoc]
     unfold Ty.d at h3
     generalize l[i].cl tailC=b at*
     generalize l[i].cs=xc at*
     generalize σ++[Obj.box [.int .i64 k, .int .i64 n, .str s, .slice ld, .slice sd, .int .i64 tail]]++τ=σ1 at*
     cases b<;>simp [lp116_1,hi,hii,hw,h2,h3,getA0,setA0,y1,y2,y3,ih]) (fun τ=>⟨τ,by simp [lp116_1]⟩)
  rw [Int.natCast_zero] at hit0 hit1
  obtain ⟨τ,hit0⟩:=hit0 []
  rw [List.append_nil] at hit0
  obtain ⟨τ',hit1⟩:=hit1 τ
  have hf0:=find_all ls (fun x=>x.n==0)
  have hf1:=find_all l (fun t=>t.cl tailC)
  obtain ⟨τ2,hτ⟩: ∃τ2,bodyI CI XB GI af116 [.agg [.int .i64 k, .int .i64 n, .str s, .slice ld, .slice sd, .int .i64 tail]] σ=some (.ret (.bool ((Ty.mk k n s l ls tail).cl tailC)),σ++τ2):=by
   rw [Ty.cl_eq2,←hf0,←hf1]
   have rest: (k==0)=false→((k==5)&&(tail != -1))=false→ ∃τ2,bodyI CI XB GI af116 [.agg [.int .i64 k, .int .i64 n, .str s, .slice ld, .slice sd, .int .i64 tail]] σ=some (.ret (.bool ((ls.find? (fun a=> !(a.n==0))).isNone&&(l.find? (fun a=> !(a.cl tailC))).isNone)),σ++τ2):=by
    intro hk hk5
    have hg: ∀y,(σ++[Obj.box [.int .i64 k, .int .i64 n, .str s, .slice ld, .slice sd, .int .i64 tail]]++y)[σ.length]? =some (.box [.int .i64 k, .int .i64 n, .str s, .slice ld, .slice sd, .int .i64 tail]):=fun y=>by rw [List.append_assoc];exact getA0
    have hg0:=hg []
    rw [List.append_nil] at hg0
    cases hc0:ls.find? (fun a=> !(a.n==0)) with
    |some a=>
     rw [hc0] at hit0
     refine ⟨[.box [.int .i64 k, .int .i64 n, .str s, .slice ld, .slice sd, .int .i64 tail]]++τ, ?_⟩
     rw [←List.append_assoc]
     cases h5:k==5
     ·simp [bodyI,af116,getA0,hk,h5,hll,hsl,hit0]
     ·rw [h5] at hk5
      have ht: (tail != -1)=false:=by simpa using hk5
      simp [bodyI,af116,getA0,hk,h5,ht,hll,hsl,hit0]
    |none=>
     rw [hc0] at hit0
     have hg1:=hg τ
     refine ⟨[.box [.int .i64 k, .int .i64 n, .str s, .slice ld, .slice sd, .int .i64 tail]]++τ', ?_⟩
     rw [←List.append_assoc]
     generalize σ++[Obj.box [.int .i64 k, .int .i64 n, .str s, .slice ld, .slice sd, .int .i64 tail]]++τ=σ1 at*
     generalize σ++[Obj.box [.int .i64 k, .int .i64 n, .str s, .slice ld, .slice sd, .int .i64 tail]]++τ'=σ2 at*
     cases hc1:l.find? (fun a=> !(a.cl tailC)) with
     |some a=>
      rw [hc1] at hit1
      cases h5:k==5
      ·simp [bodyI,af116,getA0,hk,h5,hll,hsl,hit0,hg1,hit1]
      ·rw [h5] at hk5
       have ht: (tail != -1)=false:=by simpa using hk5
       simp [bodyI,af116,getA0,hk,h5,ht,hll,hsl,hit0,hg1,hit1]
     |none=>
      rw [hc1] at hit1
      cases h5:k==5
      ·simp [bodyI,af116,getA0,hk,h5,hll,hsl,hit0,hg1,hit1]
      ·rw [h5] at hk5
       have ht: (tail != -1)=false:=by simpa using hk5
       simp [bodyI,af116,getA0,hk,h5,ht,hll,hsl,hit0,hg1,hit1]
   unfold tailC at*
   cases hk:k==0
   ·cases hk5: (k==5)&&(tail != -1)
    ·obtain ⟨τ2,h⟩:=rest hk hk5
     exact ⟨τ2,by rw [h];rfl⟩
    ·obtain ⟨h5,ht⟩:=Bool.and_eq_true_iff.1 hk5
     refine ⟨[.box [.int .i64 k, .int .i64 n, .str s, .slice ld, .slice sd, .int .i64 tail]], ?_⟩
     simp [bodyI,af116,getA0,hk,h5,ht]
   ·refine ⟨[.box [.int .i64 k, .int .i64 n, .str s, .slice ld, .slice sd, .int .i64 tail]], ?_⟩
    simp [bodyI,af116,getA0,hk]
  exact CI_tree tab116 hτ rfl rfl
termination_by t=>SizeOf.sizeOf t
decreasing_by
 have:=List.sizeOf_lt_of_mem hx
 simp only [Ty.mk.sizeOf_spec]
 omega
def Prg.tyE (p:Prg) (t:Ty):Int:=orE p.decls (orE t.chk (if t.cl tailC then t.ord p [] else 1))
theorem c65 (p:Prg) (m:CMap) (hok:p.ok) (t:Ty) (ht:t.ok) (tb:Nat) (σ:St) (hT:IsT σ tb p m):CI (.fn 65) [.ptr tb 0, .agg t.cs] σ=some (outR (p.tyE t),σ):=by
 have hT2:IsT (σ++[.box t.cs]) tb p m:=hT.app
 have h56:=c56 p m hok tb _ hT2
 have h60:=fun σ=>c60 t ht σ
 have h116:=fun σ=>c116 t ht σ
 have h112:=c112 p m hok.dl hok.el [] (by unfold maxL;simp) .empty (.inr ⟨rfl,rfl⟩) tb t ht _ hT2
 have y1:=t.cs_len
 have y2:=t.cs_take
 have y3:t.cs.all D.one=true:=by cases t;rfl
 refine CI_out tab65 (τ:=[.box t.cs]) ?_
 unfold Prg.tyE orE
 generalize p.decls=z1 at*
 generalize t.chk=z2 at*
 generalize t.cl tailC=b at*
 generalize t.ord p []=z3 at*
 generalize t.cs=tc at*
 by_cases h1:z1=0
 ·subst h1
  rw [outR_zero] at h56
  by_cases h2:z2=0
  ·subst h2
   cases b
   ·simp [bodyI,af65,getA0,y1,y2,y3,h56,h60,h116,c58,c59,outR]
   ·by_cases h3:z3=0
    ·subst h3
     rw [outR_zero] at h112
     simp [bodyI,af65,getA0,y1,y2,y3,h56,h60,h116,h112,c59,outR_zero]
    ·rw [outR_ne h3] at h112
     simp [bodyI,af65,getA0,y1,y2,y3,h56,h60,h116,h112,c59,outR_zero,outR_ne h3]
  ·rw [if_pos rfl,if_neg h2]
   simp [bodyI,af65,getA0,y1,y2,y3,h56,h60,c59,outR_ne h2]
 ·rw [if_neg h1]
  rw [outR_ne h1] at h56
  simp [bodyI,af65,getA0,y1,y2,y3,h56,outR_ne h1]
theorem c100 (p:Prg) (hok:p.ok) (t:Ty) (ht:t.ok) (a b:Nat) (σ:St) (ha:σ[a]? =some (.box p.cs)) (hb:σ[b]? =some (.box t.cs)):CI (.fn 100) [.ptr a 0, .ptr b 0] σ=some (outR (p.tyE t),σ):=by
 obtain ⟨τ1,h55⟩:=c55 p hok.dl hok.d σ
 have hT:=lookS_T p σ τ1
 have e1:lookS p σ p.cm++τ1=σ++([.box p.cs, .map (kvs p.cm), .box (p.cs++[.map (σ.length+1)])]++τ1):=by unfold lookS;rw [List.append_assoc]
 have hb2: (lookS p σ p.cm++τ1)[b]? =some (.box t.cs):=by rw [e1];exact getO hb
 have h65:=c65 p p.cm hok t ht _ _ hT
 have hpl:=p.cs_len
 have hpt:=p.cs_take
 have y1:=t.cs_len
 have y2:=t.cs_take
 have e3:eqbL p.cs p.cs=true:=eqbL_tree _ p.plain.1
 have e4:eqbL t.cs t.cs=true:=eqbL_tree _ t.plain.1
 have q55:qI 55=false:=rfl
 have x55:XB 55=false:=rfl
 have q65:qI 65=false:=rfl
 have x65:XB 65=false:=rfl
 refine CI_out tab100 (τ:=[.box p.cs, .map (kvs p.cm), .box (p.cs++[.map (σ.length+1)])]++τ1) ?_
 rw [←e1]
 generalize lookS p σ p.cm++τ1=σ2 at*
 clear e1
 generalize p.cs=pc at*
 generalize t.cs=tc at*
 generalize p.tyE t=e at*
 by_cases h1:e=0
 ·subst h1
  rw [outR_zero] at h65
  simp [bodyI,af100,ha,hb,hb2,e3,e4,hpl,hpt,y1,y2,h55,h65,outR_zero,q55,x55,q65,x65,Nat.testBit_eq_decide_div_mod_eq]
 ·rw [outR_ne h1] at h65
  simp [bodyI,af100,ha,hb,hb2,e3,e4,hpl,hpt,y1,y2,h55,h65,outR_ne h1,q55,x55,q65,x65,Nat.testBit_eq_decide_div_mod_eq]
theorem c40 (p:Prg) (hok:p.ok) (t:Ty) (ht:t.ok) (σ:St):CI (.fn 40) [.agg p.cs, .agg t.cs] σ=some (.ret (.int .i64 (p.tyE t)),σ):=by
 have h100:=c100 p hok t ht σ.length (σ.length+1) (σ++[.box p.cs, .box t.cs]++[.box [.int .i64 0]]) (by rw [List.append_assoc];exact getA0) (by rw [List.append_assoc];exact getA)
 have h54:=c54 100 [] [.ptr σ.length 0, .ptr (σ.length+1) 0] _ (σ++[Obj.box p.cs,Obj.box t.cs]) h100
 have hτ:bodyI CI XB GI af40 [.agg p.cs, .agg t.cs] σ=some (.ret (.int .i64 (p.tyE t)),σ++[.box p.cs, .box t.cs]):=by
  have h1:=p.cs_all
  have h2:t.cs.all D.one=true:=by cases t;rfl
  generalize p.tyE t=e at*
  generalize p.cs=pc at*
  generalize t.cs=xc at*
  simp [bodyI,af40,h1,h2,h54]
 exact CI_tree tab40 hτ rfl rfl
mutual
def Ty.rep (params:List Bs) (args:List Ty):Ty→Ty
 | .mk k n s l ls tail=>if k=1∧0≤indexP params s then args.getD (indexP params s).toNat (.mk k n s l ls tail) else .mk k n s (tysRep params args l) ls tail
def tysRep (params:List Bs) (args:List Ty):List Ty→List Ty
 | []=>[]
 |t::r=>t.rep params args::tysRep params args r
end
theorem tysRep_map (params:List Bs) (args:List Ty): ∀ (l:List Ty),tysRep params args l=l.map (Ty.rep params args)
 | []=>rfl
 |t::r=>by simp only [tysRep,List.map_cons,tysRep_map params args r]
mutual
def Ty.small:Ty→Prop
 | .mk k _ _ l ls _=>l.length≤4∧ls.length≤24∧(k=1→l=[])∧tysSmall l
def tysSmall:List Ty→Prop
 | []=>True
 |t::r=>t.small∧tysSmall r
end
theorem tysSmall_mem: ∀ {l:List Ty} {t:Ty},tysSmall l→t ∈ l→t.small
 |_::_,_,h, .head _=>h.1
 |_::_,_,h, .tail _ hm=>tysSmall_mem h.2 hm
theorem tnode_few {k n:Int} {s:Bs} {len:Nat} {ls:List Lab} {tail:Int} (h:tnodeE k n s len ls tail=0):len≤4∧(k=1→len=0):=by
 unfold tnodeE at h
 split at h
 ·cases h
 split at h
 ·cases h
 split at h
 ·cases h
 rename_i _ _ hr
 rw [Bool.not_eq_true,Bool.not_eq_false'] at hr
 unfold inR mostT leastT at hr
 simp only [Bool.and_eq_true,decide_eq_true_eq] at hr
 constructor
 ·split at hr<;>(try split at hr)<;>omega
 ·intro hk
  subst hk
  simp at hr
  omega
mutual
theorem Ty.small_of: ∀ (t:Ty) (n d:Int),t.e=0→0≤n→0≤t.left n d→t.small
 | .mk k m s l ls tail,n,d,he,hn,hl=>by
  simp only [Ty.e] at he
  simp only [Ty.left] at hl
  split at he
  ·rename_i ht
   obtain ⟨f1,f2⟩:=tnode_few ht
   split at hl
   ·omega
   ·rename_i hd
    refine ⟨f1,by omega,fun hk=>List.length_eq_zero_iff.1 (f2 hk), ?_⟩
    by_cases hz:n - 1<0
    ·rw [tysLeft_neg _ _ _ hz] at hl;omega
    ·exact tysSmall_of2 l (n - 1) (d - 1) he (by omega) hl
  ·rename_i ht;exact absurd he ht
theorem tysSmall_of2: ∀ (l:List Ty) (n d:Int),tysE l=0→0≤n→0≤tysLeft l n d→tysSmall l
 | [],_,_,_,_,_=>trivial
 |t::r,n,d,he,hn,hl=>by
  simp only [tysE] at he
  simp only [tysLeft] at hl
  rw [if_pos hn] at hl
  split at he
  ·rename_i ht
   by_cases hz:t.left n d<0
   ·rw [tysLeft_neg _ _ _ hz] at hl;omega
   ·exact ⟨Ty.small_of t n d ht hn (by omega),tysSmall_of2 r _ d he (by omega) hl⟩
  ·rename_i ht;exact absurd he ht
end
theorem Ty.small_chk {t:Ty} (h:t.chk=0):t.small:=by
 have he:=Ty.chk_e h
 rw [t.chk_left] at h
 split at h
 ·cases h
 ·exact Ty.small_of t 3000 200 he (by omega) (by omega)
mutual
theorem Ty.rep_nil: ∀ (t:Ty),t.rep [] []=t
 | .mk k n s l ls tail=>by
  simp only [Ty.rep]
  have: ¬(k=1∧0≤indexP [] s):=by
   rintro ⟨_,h⟩
   unfold indexP at h
   simp at h
  rw [if_neg this,tysRep_nil l]
theorem tysRep_nil: ∀ (l:List Ty),tysRep [] [] l=l
 | []=>rfl
 |t::r=>by simp only [tysRep,t.rep_nil,tysRep_nil r]
end
theorem k89 {pd:D} {l:List Bs} (h:StrsD pd l) (hl:l.length≤maxL) (s:Bs) (σ:St):CI (.fn 89) [pd, .str s] σ=some (.ret (.int .i64 (indexP l s)),σ):=by
 rcases h with rfl| ⟨rfl,rfl⟩
 ·exact c89 l s σ hl
 ·refine CI_tree0 tab89 (d:= .int .i64 (-1)) ?_ rfl rfl
  have hit:iterI (evalI CI XB GI 19 false lp89_0) [(0, .empty),(1, .str s),(7, .int .i64 0),(8, .int .i64 0)] σ=some (.exit 0,[(0, .empty),(1, .str s),(7, .int .i64 0),(8, .int .i64 0),(9, .bool false)],σ):=iterI_end (by simp [lp89_0]) (by simp)
  simp [bodyI,af89,hit]
theorem indexP_lt (l:List Bs) (s:Bs) (h:0≤indexP l s): ∃i:Nat,indexP l s=i∧i<l.length:=by
 unfold indexP at*
 cases hf:l.findIdx? (· ==s) with
 |none=>rw [hf] at h;simp at h
 |some i=>exact ⟨i,rfl,(List.findIdx?_eq_some_iff_getElem.1 hf).1⟩
def datIx (p:Prg) (s:Bs):Nat:=(idxOf (fun x:Dat=>x.name==s) p.data).toNat
mutual
def Ty.has (p:Prg) (params:List Bs) (T:Nat→Nat→Bool) (set:Nat):Ty→Bool
 | .mk k _ s l _ _=>if k=1 then (set / 2 ^ (indexP params s).toNat) % 2==1 else if k=6 then T (datIx p s) (tysBits p params T set l) else true
def tysBits (p:Prg) (params:List Bs) (T:Nat→Nat→Bool) (set:Nat):List Ty→Nat
 | []=>0
 |t::r=>(if t.has p params T set then 1 else 0) +2*tysBits p params T set r
end
def bitsL:List Bool→Nat
 | []=>0
 |b::r=>(if b then 1 else 0) +2*bitsL r
theorem tysBits_map (p:Prg) (params:List Bs) (T:Nat→Nat→Bool) (set:Nat): ∀ (l:List Ty),tysBits p params T set l=bitsL (l.map fun t=>t.has p params T set)
 | []=>rfl
 |t::r=>by simp only [tysBits,List.map_cons,bitsL,tysBits_map p params T set r]
theorem bitsL_lt: ∀ (l:List Bool),bitsL l<2 ^ l.length
 | []=>by simp [bitsL]
 |b::r=>by
  have:=bitsL_lt r
  simp only [bitsL,List.length_cons,Nat.pow_succ]
  split<;>omega
theorem bitsL_snoc: ∀ (l:List Bool) (b:Bool),bitsL (l++[b])=bitsL l+ (if b then 2 ^ l.length else 0)
 | [],b=>by cases b<;>rfl
 |a::r,b=>by
  simp only [List.cons_append,bitsL,bitsL_snoc r b,List.length_cons,Nat.pow_succ]
  cases b<;>simp<;>omega
def tabC (T:Nat→Nat→Bool):List D:=(List.range 192).map fun j=> .int .i64 (if T (j / 16) (j % 16) then 1 else 0)
theorem tabC_len (T:Nat→Nat→Bool): (tabC T).length=192:=by simp [tabC]
theorem tabC_get (T:Nat→Nat→Bool) (i s:Nat) (hi:i<12) (hs:s<16): (tabC T)[i*16+s]? =some (.int .i64 (if T i s then 1 else 0)):=by
 unfold tabC
 rw [List.getElem?_map,List.getElem?_range (by omega)]
 have h1: (i*16+s) / 16=i:=by omega
 have h2: (i*16+s) % 16=s:=by omega
 simp only [Option.map_some,h1,h2]
theorem or_fact: ∀ (i:Fin 4) (own:Fin 16),own.val<2 ^ i.val→IntKind.i64.wrap ((BitVec.ofNat 64 own.val|||BitVec.ofInt 64 (2 ^ i.val:Int)).toNat:Int)=(own.val:Int) +2 ^ i.val:=by decide+kernel
theorem shl_fact: ∀ (i:Fin 5),IntKind.i64.wrap (2 ^ (min i.val 64))=2 ^ i.val:=by decide+kernel
theorem shr_fact: ∀ (j:Fin 4) (set:Fin 16),IntKind.i64.wrap ((BitVec.ofInt 64 ((set.val:Int).fdiv (2 ^ (min j.val 64)))&&& 1#64).toNat:Int)=((set.val / 2 ^ j.val % 2:Nat):Int):=by decide+kernel
theorem ord_param {p:Prg} {params:List Bs} {s:Bs} {len:Nat} {ls:List Lab} (h:ordN p params 1 s len ls=0):0≤indexP params s:=by
 unfold ordN at h
 simp at h
 have h1:=indexP_ge params s
 rw [show params.contains s=true from h] at h1
 simpa using h1
theorem ord_data {p:Prg} {params:List Bs} {s:Bs} {len:Nat} {ls:List Lab} (h:ordN p params 6 s len ls=0): ∃i:Nat,idxOf (fun x:Dat=>x.name==s) p.data=i∧datIx p s=i∧ ∃hi:i<p.data.length,p.data[i].params.length=len:=by
 unfold ordN at h
 rw [if_neg (by decide),if_pos rfl] at h
 rcases idxOf_find (fun x:Dat=>x.name==s) p.data with ⟨_,hf⟩ | ⟨i,hi,hil,hf,_⟩
 ·rw [hf] at h;cases h
 ·rw [hf] at h
  simp only at h
  refine ⟨i,hi,by unfold datIx;rw [hi];rfl,hil, ?_⟩
  split at h
  ·assumption
  ·cases h
theorem ord_parts {p:Prg} {params:List Bs} {k n:Int} {s:Bs} {l:List Ty} {ls:List Lab} {tail:Int} (h: (Ty.mk k n s l ls tail).ord p params=0):ordN p params k s l.length ls=0∧ ∀t ∈ l,t.ord p params=0:=by
 simp only [Ty.ord] at h
 split at h
 ·rename_i h0
  rw [tysOrd_first,firstE_zero] at h
  exact ⟨h0,fun t ht=>h _ (List.mem_map_of_mem ht)⟩
 ·rename_i h0;exact absurd h h0
set_option maxHeartbeats 1000000 in
theorem c66 (p:Prg) (m:CMap) (hdl:p.data.length≤12) (T:Nat→Nat→Bool) (params:List Bs) (hpl:params.length≤4) (pd:D) (hpd:StrsD pd params) (set:Nat) (hset:set<16) (tb f:Nat):
 ∀ (t:Ty),t.small→t.ord p params=0→ ∀ (σ:St),IsT σ tb p m→σ[f]? =some (.box (tabC T))→CI (.fn 66) [.ptr tb 0, .ptr f 0, .agg t.cs,pd, .int .i64 set] σ=some (.ret (.bool (t.has p params T set)),σ)
 | .mk k n s l ls tail,hsm,hord,σ,hT,hf=>by
  obtain ⟨hl4,_,_,hls⟩:=hsm
  obtain ⟨ho,hop⟩:=ord_parts hord
  have ih:=fun x (hx:x ∈ l) σ=>c66 p m hdl T params hpl pd hpd set hset tb f x (tysSmall_mem hls hx) (hop x hx) σ
  obtain ⟨ld,hld,hll,hlg⟩:=opq Ty.d l
  obtain ⟨sd,hsd,hsl,hsg⟩:=opq Lab.d ls
  have hcs: (Ty.mk k n s l ls tail).cs=[.int .i64 k, .int .i64 n, .str s, .slice ld, .slice sd, .int .i64 tail]:=by simp only [Ty.cs,tysD_map,hld,hsd]
  rw [hcs]
  suffices h: ∃τ,bodyI CI XB GI af66 [.ptr tb 0, .ptr f 0, .agg [.int .i64 k, .int .i64 n, .str s, .slice ld, .slice sd, .int .i64 tail],pd, .int .i64 set] σ=some (.ret (.bool ((Ty.mk k n s l ls tail).has p params T set)),σ++τ) by
   obtain ⟨τ,h⟩:=h
   exact CI_tree tab66 h rfl rfl
  simp only [Ty.has]
  by_cases k1:k=1
  ·subst k1
   obtain ⟨j,hj,hjl⟩:=indexP_lt params s (ord_param ho)
   have h89:=fun σ=>k89 hpd (by unfold maxL;omega) s σ
   rw [hj] at h89
   refine ⟨[.box [.int .i64 1, .int .i64 n, .str s, .slice ld, .slice sd, .int .i64 tail]], ?_⟩
   have hsh:=shr_fact ⟨j,by omega⟩ ⟨set,hset⟩
   have hj0: ¬(j:Int) <0:=by omega
   rw [if_pos rfl,hj]
   simp only at hsh
   have hb: (((set / 2 ^ j % 2:Nat):Int) ==1)=(set / 2 ^ j % 2==1):=by
    rw [Bool.eq_iff_iff,beq_iff_eq,beq_iff_eq];omega
   have e0: ((j:Int)).toNat=j:=by omega
   rw [e0]
   generalize set / 2 ^ j % 2=v at*
   simp [bodyI,af66,getA0,getA,h89,arithD,intArith,hj0,IntKind.bits]
   exact (congrArg (fun z=>z==(1:Int)) hsh).trans hb
  rw [if_neg k1]
  have b1: (k==1)=false:=by simpa using k1
  by_cases k6:k=6
  rotate_left
  ·rw [if_neg k6]
   have b6: (k==6)=false:=by simpa using k6
   refine ⟨[.box [.int .i64 k, .int .i64 n, .str s, .slice ld, .slice sd, .int .i64 tail]], ?_⟩
   simp [bodyI,af66,getA0,getA,b1,b6]
  subst k6
  rw [if_pos rfl]
  obtain ⟨i,hi,hix,hil,_⟩:=ord_data ho
  have h117:=fun σ hT=>c117 p m (by unfold maxL;omega) s tb σ hT
  have hit:=loop_seek (f:=evalI CI XB GI 58 false lp66_0) (σ:=σ++[.box [.int .i64 6, .int .i64 n, .str s, .slice ld, .slice sd, .int .i64 tail]]) l (fun i=>[(0, .ptr tb 0),(1, .ptr f 0),(3,pd),(4, .int .i64 set),(7, .ptr σ.length 0),(11, .int .i64 (bitsL ((l.take i).map fun t=>t.has p params T set):Nat)),(29, .slice ld),(30, .int .i64 l.length),(31, .int .i64 (i:Nat))]) (fun _=>false) (fun _=>(.ret,[]))
   (.exit 1,[(0, .ptr tb 0),(1, .ptr f 0),(3,pd),(4, .int .i64 set),(7, .ptr σ.length 0),(11, .int .i64 (bitsL ((l.take l.length).map fun t=>t.has p params T set):Nat)),(29, .slice ld),(30, .int .i64 l.length),(31, .int .i64 l.length),(32, .bool false)]) (by simp) (by simp)
   (fun j hj τ=>by
     have hw:=wrap_nat (n:=j) (by omega)
     obtain ⟨h2,h3⟩:=hlg j hj
     have hjj: (j:Int) <l.length:=by omega
     have y1:=l[j].cs_len
     have y2:=l[j].cs_take
     have y3:l[j].cs.all D.one=true:=by cases l[j];rfl
     have ih:=ih l[j] (List.getElem_mem hj) (σ++[.box [.int .i64 6, .int .i64 n, .str s, .slice ld, .slice sd, .int .i64 tail]]++τ++[.box l[j].cs]) hT.app.app.app (getO (getO (getO hf)))
     refine ⟨τ++[.box l[j].cs], ?_⟩
     rw [←List.append_assoc]
     have htk: (l.take (j+1)).map (fun t=>t.has p params T set)=(l.take j).map (fun t=>t.has p params T set)++[l[j].has p params T set]:=by
      rw [List.take_succ_eq_append_getElem hj,List.map_append];rfl
     have hlt:=bitsL_lt ((l.take j).map fun t=>t.has p params T set)
     have htl: ((l.take j).map fun t=>t.has p params T set).length=j:=by simp;omega
     rw [htk,bitsL_snoc]
     rw [htl] at hlt ⊢
     unfold Ty.d at h3
     generalize bitsL ((l.take j).map fun t=>t.has p params T set)=own at*
     generalize l[j].has p params T set=b at*
     generalize l[j].cs=xc at*
     generalize σ++[Obj.box [.int .i64 6, .int .i64 n, .str s, .slice ld, .slice sd, .int .i64 tail]]++τ=σ1 at*
     have hp4:2 ^ j≤16:=by
      have:2 ^ j≤2 ^ 4:=Nat.pow_le_pow_right (by omega) (by omega)
      omega
     have hor:=or_fact ⟨j,by omega⟩ ⟨own,by omega⟩ hlt
     have hsh:=shl_fact ⟨j,by omega⟩
     simp only at hor hsh
     have hj0: ¬(j:Int) <0:=by omega
     have e0: ((j:Int)).toNat=j:=by omega
     have ecast: ((2 ^ j:Nat):Int)=2 ^ j:=by simp
     cases b
     ·simp [lp66_0,hj,hjj,hw,h2,h3,y1,y2,y3,getA0,setA0,ih]
     ·simp [lp66_0,hj,hjj,hw,h2,h3,y1,y2,y3,getA0,setA0,ih,arithD,intArith,hj0,hsh,IntKind.bits]
      exact hor) (fun τ=>⟨τ,by simp [lp66_0]⟩) []
  obtain ⟨τ,hit⟩:=hit
  rw [List.find?_eq_none.2 (by simp),List.append_nil,Int.natCast_zero,List.take_zero,List.take_length] at hit
  simp only [List.map_nil,bitsL,Int.natCast_zero] at hit
  rw [hix,tysBits_map]
  have hlt:=bitsL_lt (l.map fun t=>t.has p params T set)
  rw [List.length_map] at hlt
  have hp4:2 ^ l.length≤2 ^ 4:=Nat.pow_le_pow_right (by omega) (by omega)
  have hown:bitsL (l.map fun t=>t.has p params T set) <16:=by omega
  refine ⟨[.box [.int .i64 6, .int .i64 n, .str s, .slice ld, .slice sd, .int .i64 tail]]++τ, ?_⟩
  rw [←List.append_assoc]
  have hT2:IsT (σ++[Obj.box [.int .i64 6, .int .i64 n, .str s, .slice ld, .slice sd, .int .i64 tail]]++τ) tb p m:=hT.app.app
  have h117:=h117 _ hT2
  rw [hi] at h117
  have hf2: (σ++[Obj.box [.int .i64 6, .int .i64 n, .str s, .slice ld, .slice sd, .int .i64 tail]]++τ)[f]? =some (.box (tabC T)):=getO (getO hf)
  have hx2: (σ++[Obj.box [.int .i64 6, .int .i64 n, .str s, .slice ld, .slice sd, .int .i64 tail]]++τ)[σ.length]? =some (.box [.int .i64 6, .int .i64 n, .str s, .slice ld, .slice sd, .int .i64 tail]):=by rw [List.append_assoc];exact getA0
  have hti:=tabC_get T i (bitsL (l.map fun t=>t.has p params T set)) (by omega) hown
  generalize bitsL (l.map fun t=>t.has p params T set)=own at*
  generalize T i own=b at*
  have htl:=tabC_len T
  have q117:qI 117=true:=rfl
  have x117:XB 117=false:=rfl
  have hi12: (i:Int) <12:=by omega
  have ho16: (own:Int) <16:=by omega
  have hi0: (0:Int)≤i:=by omega
  have hhd: (List.drop (i*16+own) (tabC T)).head?=some (.int .i64 (if b then 1 else 0)):=by rw [List.head?_drop];exact hti
  generalize tabC T=tc at*
  generalize σ++[Obj.box [.int .i64 6, .int .i64 n, .str s, .slice ld, .slice sd, .int .i64 tail]]++τ=σ2 at*
  cases b<;>simp [bodyI,af66,getA0,getA,hll,hit,hf2,hx2,h117,hi12,ho16,hi0,hhd,hti,q117,x117,Nat.testBit_eq_decide_div_mod_eq]
termination_by t=>SizeOf.sizeOf t
decreasing_by
 have:=List.sizeOf_lt_of_mem hx
 simp only [Ty.mk.sizeOf_spec]
 omega
def conHas (p:Prg) (params:List Bs) (T:Nat→Nat→Bool) (set:Nat) (c:Con):Bool:=c.args.all fun x=>x.has p params T set
theorem seekM_all {α:Type} (q:α→Bool): ∀ (l:List α) (i:Nat),(l.all q=true∧seekM (fun i a=>if q a then none else some i) l i=none)∨(l.all q=false∧ ∃j,seekM (fun i a=>if q a then none else some i) l i=some j)
 | [],_=> .inl ⟨rfl,rfl⟩
 |a::r,i=>by
  rw [List.all_cons]
  simp only [seekM]
  cases hq:q a
  ·exact .inr ⟨rfl,i,by simp⟩
  ·simp only [if_true,Bool.true_and]
   exact seekM_all q r (i+1)
abbrev b67 (tb n0 dq:Nat) (v4 v6 v8 v24 v25 v26 v34 v35 v39 v40 v41:D):Env:=[(0, .ptr tb 0),(3, .ptr n0 0),(4,v4),(6,v6),(7, .ptr dq 0),(8,v8),(24,v24),(25,v25),(26,v26),(34,v34),(35,v35),(39,v39),(40,v40),(41,v41)]
set_option maxHeartbeats 2000000 in
theorem it67_0 (p:Prg) (m:CMap) (hdl:p.data.length≤12) (T:Nat→Nat→Bool) (params:List Bs) (hpl:params.length≤4) (set:Nat) (hset:set<16) (tb n0 dq:Nat) (dn:Bs) (dc:D) (v4 v6 v24 v25 v26 v34 v35 v39 v40 v41:D)
 (l:List Ty) (hl:l.length≤4) (hls: ∀x ∈ l,x.small∧x.ord p params=0) (σ:St) (hT:IsT σ tb p m) (hn:σ[n0]? =some (.box (tabC T))) (hd:σ[dq]? =some (.box [.str dn,slD params,dc])):
 (l.all (fun x=>x.has p params T set)=true∧ ∃τ,iterI (evalI CI XB GI 67 false lp67_0) (b67 tb n0 dq v4 v6 (.int .i64 set) v24 v25 v26 v34 v35 v39 v40 v41++[(46, .slice (l.map Ty.d)),(47, .int .i64 l.length),(48, .int .i64 (0:Nat))]) σ=
   some (.exit 8,b67 tb n0 dq v4 v6 (.int .i64 set) v24 v25 v26 v34 v35 v39 v40 v41++[(46, .slice (l.map Ty.d)),(47, .int .i64 l.length),(48, .int .i64 l.length),(49, .bool false)],σ++τ))∨
 (l.all (fun x=>x.has p params T set)=false∧ ∃τ,∃j:Nat,iterI (evalI CI XB GI 67 false lp67_0) (b67 tb n0 dq v4 v6 (.int .i64 set) v24 v25 v26 v34 v35 v39 v40 v41++[(46, .slice (l.map Ty.d)),(47, .int .i64 l.length),(48, .int .i64 (0:Nat))]) σ=
   some (.exit 7,b67 tb n0 dq v4 v6 (.int .i64 set) v24 v25 v26 v34 v35 v39 v40 v41++[(46, .slice (l.map Ty.d)),(47, .int .i64 l.length),(48, .int .i64 j),(58, .bool true)],σ++τ)):=by
 obtain ⟨ld,hld,hll,hlg⟩:=opq Ty.d l
 rw [hld]
 have hit:=loop_seekM (f:=evalI CI XB GI 67 false lp67_0) (σ:=σ) l (fun i=>b67 tb n0 dq v4 v6 (.int .i64 set) v24 v25 v26 v34 v35 v39 v40 v41++[(46, .slice ld),(47, .int .i64 l.length),(48, .int .i64 (i:Nat))]) (fun i a=>if a.has p params T set then none else some i)
  (fun j=>(.exit 7,b67 tb n0 dq v4 v6 (.int .i64 set) v24 v25 v26 v34 v35 v39 v40 v41++[(46, .slice ld),(47, .int .i64 l.length),(48, .int .i64 (j:Nat)),(58, .bool true)]))
  (.exit 8,b67 tb n0 dq v4 v6 (.int .i64 set) v24 v25 v26 v34 v35 v39 v40 v41++[(46, .slice ld),(47, .int .i64 l.length),(48, .int .i64 l.length),(49, .bool false)]) (by simp) (by simp)
  (fun j hj τ=>by
    have hw:=wrap_nat (n:=j) (by omega)
    obtain ⟨h2,h3⟩:=hlg j hj
    have hjj: (j:Int) <l.length:=by omega
    have y1:=l[j].cs_len
    have y2:=l[j].cs_take
    have y3:l[j].cs.all D.one=true:=by cases l[j];rfl
    obtain ⟨hsm,hord⟩:=hls l[j] (List.getElem_mem hj)
    have h66:=c66 p m hdl T params hpl (slD params) (.inl rfl) set hset tb n0 l[j] hsm hord (σ++τ++[.box l[j].cs]) hT.app.app (getO (getO hn))
    have y4:eqbL l[j].cs l[j].cs=true:=eqbL_tree _ l[j].plain.1
    have p4: (slD params).eqb (slD params)=true:=D.eqb_tree _ (plain_strs _).1
    have g1: ∀y,(σ++τ++y)[dq]? =some (.box [.str dn,slD params,dc]):=fun y=>getO (getO hd)
    refine ⟨τ++[.box l[j].cs], ?_⟩
    rw [←List.append_assoc]
    unfold Ty.d at h3
    have x66:XB 66=false:=rfl
    have q66:qI 66=false:=rfl
    generalize slD params=pd at*
    generalize l[j].cs=xc at*
    generalize σ++τ=σ1 at*
    generalize l[j].has p params T set=b at*
    cases b<;>simp [lp67_0,hj,hjj,hw,hll,h2,h3,y1,y2,y3,getA0,getA,setA0,setA,h66,g1,x66,q66,y4,p4,Nat.testBit_eq_decide_div_mod_eq]) (fun τ=>⟨τ,by simp [lp67_0]⟩) []
 obtain ⟨τ,hit⟩:=hit
 rw [List.append_nil] at hit
 rcases seekM_all (fun x:Ty=>x.has p params T set) l 0 with ⟨h1,h2⟩ | ⟨h1,j,h2⟩
 ·rw [h2] at hit
  exact .inl ⟨h1,τ,hit⟩
 ·rw [h2] at hit
  exact .inr ⟨h1,τ,j,hit⟩
def setT (T:Nat→Nat→Bool) (i s:Nat):Nat→Nat→Bool:=fun a b=>if a=i∧b=s then true else T a b
theorem setT_setT (T:Nat→Nat→Bool) (i s:Nat):setT (setT T i s) i s=setT T i s:=by
 funext a b;unfold setT;split<;>rfl
theorem tabC_at (T:Nat→Nat→Bool) (j:Nat) (hj:j<192): (tabC T)[j]? =some (.int .i64 (if T (j / 16) (j % 16)=true then 1 else 0)):=by
 unfold tabC
 rw [List.getElem?_map,List.getElem?_range hj]
 rfl
theorem tabC_set (T:Nat→Nat→Bool) (i s:Nat) (hi:i<12) (hs:s<16): (tabC T).take (i*16+s)++D.int .i64 1::(tabC T).drop (i*16+s+1)=tabC (setT T i s):=by
 have hl:=tabC_len T
 have h: (tabC T).take (i*16+s)++D.int .i64 1::(tabC T).drop (i*16+s+1)=(tabC T).set (i*16+s) (.int .i64 1):=by
  rw [List.set_eq_take_append_cons_drop,if_pos (by omega)]
 rw [h]
 apply List.ext_getElem?
 intro j
 rw [List.getElem?_set]
 by_cases hj:j<192
 ·rw [tabC_at _ j hj,tabC_at _ j hj]
  unfold setT
  split
  ·rename_i he
   rw [if_pos (by omega),if_pos (show j / 16=i∧j % 16=s by omega),if_pos rfl]
  ·rename_i he
   rw [if_neg (c:=j / 16=i∧j % 16=s) (by omega)]
 ·rw [if_neg (by omega),List.getElem?_eq_none (by rw [tabC_len];omega),List.getElem?_eq_none (by rw [tabC_len];omega)]
def S67 (σ:St) (bl:Obj) (τ0:St) (T:Nat→Nat→Bool):St:=σ++Obj.box (tabC T)::bl::τ0
theorem S67_get {σ:St} {bl:Obj} {τ0:St} {T:Nat→Nat→Bool} (y:St): (S67 σ bl τ0 T++y)[σ.length]? =some (.box (tabC T)):=by
 unfold S67;simp
theorem S67_set {σ:St} {bl:Obj} {τ0:St} {T T':Nat→Nat→Bool} (y:St): (S67 σ bl τ0 T++y).set σ.length (.box (tabC T'))=S67 σ bl τ0 T'++y:=by
 unfold S67;simp
theorem S67_isT {σ:St} {bl:Obj} {τ0:St} {T:Nat→Nat→Bool} {tb:Nat} {p:Prg} {m:CMap} (h:IsT σ tb p m):IsT (S67 σ bl τ0 T) tb p m:=h.app
def conStep (p:Prg) (params:List Bs) (i set:Nat) (T:Nat→Nat→Bool) (c:Con):Nat→Nat→Bool:=if conHas p params T set c then setT T i set else T
set_option maxHeartbeats 4000000 in
theorem rnd67_1 (p:Prg) (m:CMap) (hdl:p.data.length≤12) (T:Nat→Nat→Bool) (params:List Bs) (hpl:params.length≤4) (set di:Nat) (hset:set<16) (hdi:di<12) (tb dq:Nat) (dn:Bs) (dc:D) (v4 v24 v25 v26 v34 v35:D)
 (l:List Con) (hll:l.length≤100) (hls: ∀c ∈ l,c.args.length≤4∧ ∀x ∈ c.args,x.small∧x.ord p params=0) (σ:St) (bl:Obj) (τ0:St) (hT:IsT σ tb p m) (hd: ∀T y,(S67 σ bl τ0 T++y)[dq]? =some (.box [.str dn,slD params,dc])) (k:Nat) (hk:k<l.length) (τ:St):
 ∃τ',evalI CI XB GI 67 false lp67_1 (b67 tb σ.length dq v4 (.int .i64 di) (.int .i64 set) v24 v25 v26 v34 v35 (.slice (l.map Con.d)) (.int .i64 l.length) (.int .i64 (k:Nat))) (S67 σ bl τ0 T++τ)=
  some (.normal,b67 tb σ.length dq v4 (.int .i64 di) (.int .i64 set) v24 v25 v26 v34 v35 (.slice (l.map Con.d)) (.int .i64 l.length) (.int .i64 (k+1:Nat)),S67 σ bl τ0 (conStep p params di set T l[k])++τ'):=by
 have hw:=wrap_nat (n:=k) (by omega)
 obtain ⟨ld,hld,hlen,hlg⟩:=opq Con.d l
 rw [hld]
 obtain ⟨h2,h3⟩:=hlg k hk
 have hkk: (k:Int) <l.length:=by omega
 obtain ⟨ha4,has⟩:=hls l[k] (List.getElem_mem hk)
 have hS:=it67_0 p m hdl T params hpl set hset tb σ.length dq dn dc v4 (.int .i64 di) v24 v25 v26 v34 v35 (.slice ld) (.int .i64 l.length) (.int .i64 (k:Nat)) l[k].args ha4 has (S67 σ bl τ0 T++τ++[.box l[k].cs]) (S67_isT hT).app.app (getO (S67_get _)) (getO (hd _ _))
 have hcd:l[k].d= .agg [.str l[k].name, .slice (l[k].args.map Ty.d)]:=by unfold Con.d Con.cs;rw [tysD_map]
 have hcs:l[k].cs=[.str l[k].name, .slice (l[k].args.map Ty.d)]:=by unfold Con.cs;rw [tysD_map]
 rw [hcd] at h3
 rw [hcs] at hS
 have hal: (l[k].args.map Ty.d).length=l[k].args.length:=List.length_map _
 unfold conStep conHas
 have hg: ∀y,(S67 σ bl τ0 T++τ++y)[σ.length]? =some (.box (tabC T)):=fun y=>getO (S67_get _)
 have hdi16: (di:Int) <12:=by omega
 have hs16: (set:Int) <16:=by omega
 rcases hS with ⟨hall,τ1,hS⟩ | ⟨hall,τ1,j,hS⟩
 ·rw [hall,if_pos rfl]
  refine ⟨τ++([.box [.str l[k].name, .slice (l[k].args.map Ty.d)]]++τ1), ?_⟩
  have hst: ∀y,(S67 σ bl τ0 T++τ++y).set σ.length (.box ((tabC T).take (di*16+set)++D.int .i64 1::(tabC T).drop (di*16+set+1)))=S67 σ bl τ0 (setT T di set)++(τ++y):=fun y=>by
   rw [tabC_set T di set hdi hset,List.append_assoc,S67_set]
  rw [←hst]
  have htl:=tabC_len T
  have hb:di*16+set+1≤192:=by omega
  generalize l[k].args.map Ty.d=ad at*
  generalize l[k].args.length=an at*
  generalize l[k].name=nm at*
  generalize tabC T=tc at*
  generalize S67 σ bl τ0 T++τ=σ1 at*
  simp only [List.append_assoc,List.cons_append,List.nil_append,Int.natCast_zero] at hS
  simp [lp67_1,hk,hkk,hw,hlen,h2,h3,getA0,getA,setA0,setA,hal,hS,hg,hdi16,hs16,htl,hb,putCells]
 ·rw [hall,if_neg (by simp)]
  refine ⟨τ++([.box [.str l[k].name, .slice (l[k].args.map Ty.d)]]++τ1), ?_⟩
  rw [←List.append_assoc]
  generalize l[k].args.map Ty.d=ad at*
  generalize l[k].args.length=an at*
  generalize l[k].name=nm at*
  generalize S67 σ bl τ0 T++τ=σ1 at*
  simp only [List.append_assoc,List.cons_append,List.nil_append,Int.natCast_zero] at hS
  simp [lp67_1,hk,hkk,hw,hlen,h2,h3,getA0,getA,setA0,setA,hal,hS]
theorem foldS_inl {α β γ:Type} (g:β→α→β): ∀ (l:List α) (i:Nat) (b:β),foldS (γ:=γ) (fun _ a b=> .inl (g b a)) l i b= .inl (l.foldl g b)
 | [],_,_=>rfl
 |a::r,i,b=>by simp only [foldS,List.foldl_cons];exact foldS_inl g r _ _
set_option maxHeartbeats 2000000 in
theorem it67_1 (p:Prg) (m:CMap) (hdl:p.data.length≤12) (T:Nat→Nat→Bool) (params:List Bs) (hpl:params.length≤4) (set di:Nat) (hset:set<16) (hdi:di<12) (tb dq:Nat) (dn:Bs) (dc:D) (v4 v24 v25 v26 v34 v35:D)
 (l:List Con) (hll:l.length≤100) (hls: ∀c ∈ l,c.args.length≤4∧ ∀x ∈ c.args,x.small∧x.ord p params=0) (σ:St) (bl:Obj) (τ0:St) (hT:IsT σ tb p m) (hd: ∀T y,(S67 σ bl τ0 T++y)[dq]? =some (.box [.str dn,slD params,dc])) (τ:St):
 ∃τ',iterI (evalI CI XB GI 67 false lp67_1) (b67 tb σ.length dq v4 (.int .i64 di) (.int .i64 set) v24 v25 v26 v34 v35 (.slice (l.map Con.d)) (.int .i64 l.length) (.int .i64 (0:Nat))) (S67 σ bl τ0 T++τ)=
  some (.exit 6,b67 tb σ.length dq v4 (.int .i64 di) (.int .i64 set) v24 v25 v26 v34 v35 (.slice (l.map Con.d)) (.int .i64 l.length) (.int .i64 l.length)++[(42, .bool false)],S67 σ bl τ0 (l.foldl (conStep p params di set) T)++τ'):=by
 have h:=loop_foldS (γ:=Unit) (f:=evalI CI XB GI 67 false lp67_1) l (fun i _=>b67 tb σ.length dq v4 (.int .i64 di) (.int .i64 set) v24 v25 v26 v34 v35 (.slice (l.map Con.d)) (.int .i64 l.length) (.int .i64 (i:Nat)))
  (fun T=>S67 σ bl τ0 T) (fun _ _=>True) (fun _ c T=> .inl (conStep p params di set T c)) (fun _=>(.ret,[])) (fun _=>[]) (fun _=>(.exit 6,b67 tb σ.length dq v4 (.int .i64 di) (.int .i64 set) v24 v25 v26 v34 v35 (.slice (l.map Con.d)) (.int .i64 l.length) (.int .i64 l.length)++[(42, .bool false)]))
  (fun _=>by simp) (fun _=>by simp) (fun _ _ _ _ _ _=>trivial)
  (fun k hk T τ _=>rnd67_1 p m hdl T params hpl set di hset hdi tb dq dn dc v4 v24 v25 v26 v34 v35 l hll hls σ bl τ0 hT hd k hk τ)
  (fun T τ _=>⟨τ,by
    generalize l.map Con.d=ld
    simp [lp67_1]⟩) T τ trivial
 rw [foldS_inl] at h
 exact h
theorem conStep_fold (p:Prg) (params:List Bs) (i s:Nat): ∀ (l:List Con) (T:Nat→Nat→Bool),l.foldl (conStep p params i s) T=if l.any (conHas p params T s) then setT T i s else T
 | [],T=>rfl
 |c::r,T=>by
  rw [List.foldl_cons,conStep_fold p params i s r,List.any_cons]
  unfold conStep
  cases hc:conHas p params T s c
  ·simp
  ·simp [setT_setT]
def plcStep (p:Prg) (d:Dat) (i:Nat) (T:Nat→Nat→Bool) (s:Nat):Nat→Nat→Bool:=d.cons.foldl (conStep p d.params i s) T
def dtStep (p:Prg) (d:Dat) (i:Nat) (T:Nat→Nat→Bool):Nat→Nat→Bool:=(List.range (2 ^ d.params.length)).foldl (plcStep p d i) T
def rndGo (p:Prg):List Dat→Nat→(Nat→Nat→Bool)→Nat→Nat→Bool
 | [],_,T=>T
 |d::r,i,T=>rndGo p r (i+1) (dtStep p d i T)
def Dat.fit (p:Prg) (d:Dat):Prop:=d.params.length≤4∧d.cons.length≤100∧ ∀c ∈ d.cons,c.args.length≤4∧ ∀x ∈ c.args,x.small∧x.ord p d.params=0
abbrev b67a (tb n0 dq:Nat) (v4 v6 v24 v25 v26 v34 v35:D):Env:=[(0, .ptr tb 0),(3, .ptr n0 0),(4,v4),(6,v6),(7, .ptr dq 0),(24,v24),(25,v25),(26,v26),(34,v34),(35,v35)]
set_option maxHeartbeats 2000000 in
theorem rnd67_2 (p:Prg) (m:CMap) (hdl:p.data.length≤12) (T:Nat→Nat→Bool) (d:Dat) (hdf:d.fit p) (di:Nat) (hdi:di<12) (tb dq:Nat) (v4 v24 v25 v26:D) (σ:St) (bl:Obj) (τ0:St) (hT:IsT σ tb p m)
 (hd: ∀T y,(S67 σ bl τ0 T++y)[dq]? =some (.box d.cs)) (s:Nat) (hs:s<2 ^ d.params.length) (τ:St):
 ∃τ',evalI CI XB GI 67 false lp67_2 (b67a tb σ.length dq v4 (.int .i64 di) v24 v25 v26 (.int .i64 (2 ^ d.params.length:Nat)) (.int .i64 (s:Nat))) (S67 σ bl τ0 T++τ)=
  some (.normal,b67a tb σ.length dq v4 (.int .i64 di) v24 v25 v26 (.int .i64 (2 ^ d.params.length:Nat)) (.int .i64 (s+1:Nat)),S67 σ bl τ0 (plcStep p d di T s)++τ'):=by
 obtain ⟨hpl,hcl,hcs⟩:=hdf
 have hp4:2 ^ d.params.length≤2 ^ 4:=Nat.pow_le_pow_right (by omega) hpl
 have hw:=wrap_nat (n:=s) (by omega)
 obtain ⟨τ1,hit⟩:=it67_1 p m hdl T d.params hpl s di (by omega) hdi tb dq d.name (.slice (d.cons.map Con.d)) v4 v24 v25 v26 (.int .i64 (2 ^ d.params.length:Nat)) (.int .i64 (s:Nat)) d.cons hcl hcs σ bl τ0 hT hd τ
 refine ⟨τ1, ?_⟩
 unfold plcStep
 have hd': ∀y,(S67 σ bl τ0 T++y)[dq]? =some (.box [.str d.name,slD d.params, .slice (d.cons.map Con.d)]):=fun y=>hd T y
 have hlen: (d.cons.map Con.d).length=d.cons.length:=List.length_map _
 have hss: (s:Int) < (2 ^ d.params.length:Nat):=by omega
 simp only [Int.natCast_zero] at hit
 generalize d.cons.map Con.d=ld at*
 generalize 2 ^ d.params.length=n at*
 generalize slD d.params=pd at*
 generalize S67 σ bl τ0 (d.cons.foldl (conStep p d.params di s) T)=σ2 at*
 generalize S67 σ bl τ0 T=σ1 at*
 simp [lp67_2,hw,hss,hs,hd',hlen] at hit ⊢
 simp [hit,hw]
set_option maxHeartbeats 2000000 in
theorem it67_2 (p:Prg) (m:CMap) (hdl:p.data.length≤12) (T:Nat→Nat→Bool) (d:Dat) (hdf:d.fit p) (di:Nat) (hdi:di<12) (tb dq:Nat) (v4 v24 v25 v26:D) (σ:St) (bl:Obj) (τ0:St) (hT:IsT σ tb p m)
 (hd: ∀T y,(S67 σ bl τ0 T++y)[dq]? =some (.box d.cs)) (τ:St):
 ∃τ',iterI (evalI CI XB GI 67 false lp67_2) (b67a tb σ.length dq v4 (.int .i64 di) v24 v25 v26 (.int .i64 (2 ^ d.params.length:Nat)) (.int .i64 (0:Nat))) (S67 σ bl τ0 T++τ)=
  some (.exit 4,b67a tb σ.length dq v4 (.int .i64 di) v24 v25 v26 (.int .i64 (2 ^ d.params.length:Nat)) (.int .i64 (2 ^ d.params.length:Nat))++[(36, .bool false)],S67 σ bl τ0 (dtStep p d di T)++τ'):=by
 have hl: (List.range (2 ^ d.params.length)).length=2 ^ d.params.length:=List.length_range
 have h:=loop_foldS (γ:=Unit) (f:=evalI CI XB GI 67 false lp67_2) (List.range (2 ^ d.params.length)) (fun i _=>b67a tb σ.length dq v4 (.int .i64 di) v24 v25 v26 (.int .i64 (2 ^ d.params.length:Nat)) (.int .i64 (i:Nat)))
  (fun T=>S67 σ bl τ0 T) (fun _ _=>True) (fun _ s T=> .inl (plcStep p d di T s)) (fun _=>(.ret,[])) (fun _=>[]) (fun _=>(.exit 4,b67a tb σ.length dq v4 (.int .i64 di) v24 v25 v26 (.int .i64 (2 ^ d.params.length:Nat)) (.int .i64 (2 ^ d.params.length:Nat))++[(36, .bool false)]))
  (fun _=>by simp) (fun _=>by simp) (fun _ _ _ _ _ _=>trivial)
  (fun k hk T τ _=>by
    rw [List.getElem_range]
    exact rnd67_2 p m hdl T d hdf di hdi tb dq v4 v24 v25 v26 σ bl τ0 hT hd k (by rwa [hl] at hk) τ)
  (fun T τ _=>⟨τ,by
    rw [hl]
    generalize 2 ^ d.params.length=n
    simp [lp67_2]⟩) T τ trivial
 rw [foldS_inl] at h
 exact h
abbrev b67b (tb n0:Nat) (v4 v24 v25 v26:D):Env:=[(0, .ptr tb 0),(3, .ptr n0 0),(4,v4),(24,v24),(25,v25),(26,v26)]
theorem S67_len {σ:St} {bl:Obj} {τ0:St} {T:Nat→Nat→Bool} : (S67 σ bl τ0 T).length=σ.length+ (τ0.length+2):=by unfold S67;simp
set_option maxHeartbeats 2000000 in
theorem rnd67_3 (p:Prg) (m:CMap) (hdl:p.data.length≤12) (T:Nat→Nat→Bool) (l:List Dat) (hl:l.length≤12) (hls: ∀d ∈ l,d.fit p) (tb:Nat) (v4:D) (σ:St) (bl:Obj) (hT:IsT σ tb p m) (i:Nat) (hi:i<l.length) (τ:St):
 ∃τ',evalI CI XB GI 67 false lp67_3 (b67b tb σ.length v4 (.slice (l.map Dat.d)) (.int .i64 l.length) (.int .i64 (i:Nat))) (S67 σ bl [] T++τ)=
  some (.normal,b67b tb σ.length v4 (.slice (l.map Dat.d)) (.int .i64 l.length) (.int .i64 (i+1:Nat)),S67 σ bl [] (dtStep p l[i] i T)++τ'):=by
 have hw:=wrap_nat (n:=i) (by omega)
 obtain ⟨ld,hld,hlen,hlg⟩:=opq Dat.d l
 rw [hld]
 obtain ⟨h2,h3⟩:=hlg i hi
 have hii: (i:Int) <l.length:=by omega
 have hdf:=hls l[i] (List.getElem_mem hi)
 have hpl:=hdf.1
 obtain ⟨τ1,hit⟩:=it67_2 p m hdl T l[i] hdf i (by omega) tb (S67 σ bl [] T++τ).length v4 (.slice ld) (.int .i64 l.length) (.int .i64 (i:Nat)) σ bl (τ++[.box l[i].cs]) hT (fun U y=>by
  have:S67 σ bl (τ++[.box l[i].cs]) U++y=S67 σ bl [] U++τ++(.box l[i].cs::y):=by unfold S67;simp
  rw [this]
  have: (S67 σ bl [] T++τ).length=(S67 σ bl [] U++τ).length:=by simp [S67_len]
  rw [this,getA0];rfl) []
 have e1: ∀U y,S67 σ bl (τ++[.box l[i].cs]) U++y=S67 σ bl [] U++(τ++[.box l[i].cs]++y):=fun U y=>by unfold S67;simp
 rw [e1,e1] at hit
 refine ⟨τ++[.box l[i].cs]++τ1, ?_⟩
 have hcd:l[i].d= .agg [.str l[i].name,slD l[i].params, .slice (l[i].cons.map Con.d)]:=rfl
 have hcs:l[i].cs=[.str l[i].name,slD l[i].params, .slice (l[i].cons.map Con.d)]:=rfl
 rw [hcd] at h3
 rw [hcs] at hit ⊢
 have hsl:slD l[i].params= .slice (l[i].params.map D.str):=rfl
 rw [hsl] at hit h3 ⊢
 have hpn: (l[i].params.map D.str).length=l[i].params.length:=List.length_map _
 have hsh:=shl_fact ⟨l[i].params.length,by omega⟩
 simp only at hsh
 have ecast: (2 ^ l[i].params.length:Int)=((2 ^ l[i].params.length:Nat):Int):=by simp
 rw [ecast] at hsh
 have ep: ¬((l[i].params.length:Int) <0):=by omega
 have et: ((l[i].params.length:Int)).toNat=l[i].params.length:=by omega
 simp only [Int.natCast_zero,List.append_nil,←List.append_assoc] at hit
 rw [←List.append_assoc,←List.append_assoc]
 generalize l[i].cons.map Con.d=cd at*
 generalize l[i].params.map D.str=pd at*
 generalize S67 σ bl [] (dtStep p l[i] i T)=σ2 at*
 generalize S67 σ bl [] T++τ=σ1 at*
 generalize 2 ^ l[i].params.length=n at*
 generalize l[i].params.length=pn at*
 generalize l[i].name=nm at*
 simp [lp67_3,hi,hii,hw,hlen,h2,h3,getA0,getA,setA0,setA,hpn,arithD,intArith,IntKind.bits,ep,et,hsh] at hit ⊢
 simp [hit,hw]
theorem foldS_rndGo (p:Prg): ∀ (l:List Dat) (i:Nat) (T:Nat→Nat→Bool),foldS (γ:=Unit) (fun i d T=> .inl (dtStep p d i T)) l i T= .inl (rndGo p l i T)
 | [],_,_=>rfl
 |d::r,i,T=>by simp only [foldS,rndGo];exact foldS_rndGo p r _ _
set_option maxHeartbeats 2000000 in
theorem it67_3 (p:Prg) (m:CMap) (hdl:p.data.length≤12) (T:Nat→Nat→Bool) (l:List Dat) (hl:l.length≤12) (hls: ∀d ∈ l,d.fit p) (tb:Nat) (v4:D) (σ:St) (bl:Obj) (hT:IsT σ tb p m) (τ:St):
 ∃τ',iterI (evalI CI XB GI 67 false lp67_3) (b67b tb σ.length v4 (.slice (l.map Dat.d)) (.int .i64 l.length) (.int .i64 (0:Nat))) (S67 σ bl [] T++τ)=
  some (.exit 2,b67b tb σ.length v4 (.slice (l.map Dat.d)) (.int .i64 l.length) (.int .i64 l.length)++[(27, .bool false)],S67 σ bl [] (rndGo p l 0 T)++τ'):=by
 have h:=loop_foldS (γ:=Unit) (f:=evalI CI XB GI 67 false lp67_3) l (fun i _=>b67b tb σ.length v4 (.slice (l.map Dat.d)) (.int .i64 l.length) (.int .i64 (i:Nat)))
  (fun T=>S67 σ bl [] T) (fun _ _=>True) (fun i d T=> .inl (dtStep p d i T)) (fun _=>(.ret,[])) (fun _=>[]) (fun _=>(.exit 2,b67b tb σ.length v4 (.slice (l.map Dat.d)) (.int .i64 l.length) (.int .i64 l.length)++[(27, .bool false)]))
  (fun _=>by simp) (fun _=>by simp) (fun _ _ _ _ _ _=>trivial)
  (fun k hk T τ _=>rnd67_3 p m hdl T l hl hls tb v4 σ bl hT k hk τ)
  (fun T τ _=>⟨τ,by
    generalize l.map Dat.d=ld
    simp [lp67_3]⟩) T τ trivial
 rw [foldS_rndGo] at h
 exact h
theorem eqChunks_sc: ∀ (n:Nat) (x y:List Int),x.length=n→y.length=n→eqChunks (eqDeep (.sc 1)) (fun l=>(EqC.sc 1).part 1 l) 1 n (x.map (D.int .i64)) (y.map (D.int .i64))=some (x==y)
 |0,x,y,hx,hy=>by
  obtain rfl:=List.length_eq_zero_iff.1 hx
  obtain rfl:=List.length_eq_zero_iff.1 hy
  rfl
 |n+1,[],_,hx,_=>by simp at hx
 |n+1,_::_,[],_,hy=>by simp at hy
 |n+1,a::x,b::y,hx,hy=>by
  have ih:=eqChunks_sc n x y (by simpa using hx) (by simpa using hy)
  show Option.map ((a==b)&& ·) (eqChunks (eqDeep (.sc 1)) (fun l=>(EqC.sc 1).part 1 l) 1 n (x.map (D.int .i64)) (y.map (D.int .i64)))=_
  rw [ih];rfl
theorem eqChunks_arr: ∀ (n:Nat) (x y:List Int),x.length=n*16→y.length=n*16→eqChunks (eqDeep (.arr 16 1 (.sc 1))) (fun l=>(EqC.arr 16 1 (.sc 1)).part 16 l) 16 n (x.map (D.int .i64)) (y.map (D.int .i64))=some (x==y)
 |0,x,y,hx,hy=>by
  obtain rfl:=List.length_eq_zero_iff.1 (by simpa using hx)
  obtain rfl:=List.length_eq_zero_iff.1 (by simpa using hy)
  rfl
 |n+1,x,y,hx,hy=>by
  have ih:=eqChunks_arr n (x.drop 16) (y.drop 16) (by rw [List.length_drop];omega) (by rw [List.length_drop];omega)
  have hx16: (x.take 16).length=16:=by rw [List.length_take];omega
  have hy16: (y.take 16).length=16:=by rw [List.length_take];omega
  have h1:=eqChunks_sc 16 (x.take 16) (y.take 16) hx16 hy16
  rw [List.map_take,List.map_take] at h1
  rw [List.map_drop,List.map_drop] at ih
  have h2:eqDeep (.arr 16 1 (.sc 1)) (.agg ((x.map (D.int .i64)).take 16)) (.agg ((y.map (D.int .i64)).take 16))=some (x.take 16==y.take 16):=by
   rw [←h1]
   show (if _ then _ else _)=_
   rw [if_pos (by rw [List.length_take,List.length_take,List.length_map,List.length_map];omega)]
  show (match eqDeep (.arr 16 1 (.sc 1)) (.agg ((x.map (D.int .i64)).take 16)) (.agg ((y.map (D.int .i64)).take 16)) with
   |some t=>(eqChunks (eqDeep (.arr 16 1 (.sc 1))) (fun l=>(EqC.arr 16 1 (.sc 1)).part 16 l) 16 n ((x.map (D.int .i64)).drop 16) ((y.map (D.int .i64)).drop 16)).map (t&& ·)
   |none=>none)=_
  rw [h2,ih]
  show some _=some _
  congr 1
  rw [Bool.eq_iff_iff,Bool.and_eq_true,beq_iff_eq,beq_iff_eq,beq_iff_eq]
  constructor
  ·intro ⟨ha,hb⟩
   rw [←List.take_append_drop 16 x,ha,hb,List.take_append_drop]
  ·rintro rfl;exact ⟨rfl,rfl⟩
def tabI (T:Nat→Nat→Bool):List Int:=(List.range 192).map fun j=>if T (j / 16) (j % 16) then 1 else 0
theorem tabC_tabI (T:Nat→Nat→Bool):tabC T=(tabI T).map (D.int .i64):=by unfold tabC tabI;rw [List.map_map];rfl
theorem eqD_arr (n m:Nat) (c:EqC) (x y:List D) (h:x.length=n*m∧y.length=n*m∧0<m):eqD (.arr n m c) (.agg x) (.agg y)=eqChunks (eqDeep c) (fun l=>c.part m l) m n x y:=if_pos h
theorem eqD_tab (T U:Nat→Nat→Bool):eqD (.arr 12 16 (.arr 16 1 (.sc 1))) (.agg (tabC T)) (.agg (tabC U))=some (tabI T==tabI U):=by
 have hT: (tabI T).length=12*16:=by simp [tabI]
 have hU: (tabI U).length=12*16:=by simp [tabI]
 rw [tabC_tabI,tabC_tabI,←eqChunks_arr 12 _ _ hT hU]
 exact eqD_arr _ _ _ _ _ (by rw [List.length_map,List.length_map];omega)
def inT (T:Nat→Nat→Bool):Prop:= ∀i s,T i s=true→i<12∧s<16
theorem tabI_inj {T U:Nat→Nat→Bool} (hT:inT T) (hU:inT U) (h:tabI T=tabI U):T=U:=by
 funext i s
 by_cases hi:i<12∧s<16
 ·have h1:=congrArg (fun l=>l[i*16+s]?) h
  unfold tabI at h1
  simp only [List.getElem?_map] at h1
  rw [List.getElem?_range (by omega)] at h1
  have e1: (i*16+s) / 16=i:=by omega
  have e2: (i*16+s) % 16=s:=by omega
  simp only [Option.map_some,e1,e2] at h1
  cases hT1:T i s<;>cases hU1:U i s<;>simp_all
 ·rw [Bool.eq_false_iff.2 fun h=>hi (hT i s h),Bool.eq_false_iff.2 fun h=>hi (hU i s h)]
theorem S67_get1 {σ:St} {bl:Obj} {τ0:St} {T:Nat→Nat→Bool} (y:St): (S67 σ bl τ0 T++y)[σ.length+1]? =some bl:=by
 unfold S67;simp
theorem S67_set1 {σ:St} {bl bl':Obj} {τ0:St} {T:Nat→Nat→Bool} (y:St): (S67 σ bl τ0 T++y).set (σ.length+1) bl'=S67 σ bl' τ0 T++y:=by
 unfold S67;simp
theorem tabC_one (T:Nat→Nat→Bool): (tabC T).all D.one=true:=by
 rw [tabC_tabI,List.all_map];exact List.all_eq_true.2 fun _ _=>rfl
abbrev b67c (tb:Nat) (σ:St):Env:=[(0, .ptr tb 0),(3, .ptr σ.length 0),(4, .ptr (σ.length+1) 0)]
set_option maxHeartbeats 2000000 in
theorem rnd67_4 (p:Prg) (m:CMap) (hdl:p.data.length≤12) (hls: ∀d ∈ p.data,d.fit p) (T L:Nat→Nat→Bool) (tb:Nat) (σ:St) (hT:IsT σ tb p m) (first:Bool) (τ:St):
 ∃τ',evalI CI XB GI 67 false lp67_4 (b67c tb σ++[(5, .bool first)]) (S67 σ (.box (tabC L)) [] T++τ)=
  some (if (first|| !(tabI T==tabI L))=true then (.normal,b67c tb σ++[(5, .bool false)],S67 σ (.box (tabC T)) [] (rndGo p p.data 0 T)++τ') else (.exit 0,b67c tb σ++[(18, .bool false)],S67 σ (.box (tabC L)) [] T++τ')):=by
 obtain ⟨j,hj,_⟩:=hT
 have heq:=eqD_tab T L
 have g0:=S67_get (σ:=σ) (bl:= .box (tabC L)) (τ0:=[]) (T:=T) τ
 have g1:=S67_get1 (σ:=σ) (bl:= .box (tabC L)) (τ0:=[]) (T:=T) τ
 have lT:=tabC_len T
 have lL:=tabC_len L
 have tT: (tabC T).take 192=tabC T:=List.take_of_length_le (by omega)
 have tL: (tabC L).take 192=tabC L:=List.take_of_length_le (by omega)
 have oT:=tabC_one T
 have dL: (tabC L).drop 192=[]:=List.drop_of_length_le (by omega)
 have oL:=tabC_one L
 have hcell: ∀y,(S67 σ (.box (tabC T)) [] T++y)[tb]? =some (.box (p.cs++[.map j])):=fun y=>by unfold S67;rw [List.append_assoc];exact getO hj
 have s1:=S67_set1 (σ:=σ) (bl:= .box (tabC L)) (bl':= .box (tabC T)) (τ0:=[]) (T:=T) τ
 obtain ⟨rest,hrest⟩: ∃rest,p.cs++[D.map j]= .slice (p.data.map Dat.d)::rest:=⟨_,rfl⟩
 rw [hrest] at hcell
 obtain ⟨τ1,hit⟩:=it67_3 p m hdl T p.data hdl hls tb (.ptr (σ.length+1) 0) σ (.box (tabC T)) ⟨j,hj,by assumption⟩ τ
 have hlen: (p.data.map Dat.d).length=p.data.length:=List.length_map _
 simp only [Int.natCast_zero] at hit
 generalize p.data.map Dat.d=ld at*
 generalize S67 σ (.box (tabC T)) [] (rndGo p p.data 0 T)=σ3 at*
 generalize hb: (tabI T==tabI L)=b at*
 by_cases hc: (first|| !b)=true
 ·refine ⟨τ1, ?_⟩
  rw [if_pos hc]
  cases first
  ·have hbf:b=false:=by simpa using hc
   subst hbf
   generalize tabC T=cT at*
   generalize tabC L=cL at*
   generalize S67 σ (.box cT) [] T=σ2 at*
   generalize S67 σ (.box cL) [] T=σ1 at*
   simp [lp67_4,g0,g1,lT,lL,tT,tL,oT,oL,dL,heq,s1,hcell,hlen,putCells] at hit ⊢
   simp [hit]
  ·generalize tabC T=cT at*
   generalize tabC L=cL at*
   generalize S67 σ (.box cT) [] T=σ2 at*
   generalize S67 σ (.box cL) [] T=σ1 at*
   simp [lp67_4,g0,g1,lT,lL,tT,tL,oT,oL,dL,heq,s1,hcell,hlen,putCells] at hit ⊢
   simp [hit]
 ·refine ⟨τ, ?_⟩
  rw [if_neg hc]
  obtain ⟨rfl,rfl⟩:first=false∧b=true:=by revert hc;cases first<;>cases b<;>simp
  generalize tabC T=cT at*
  generalize tabC L=cL at*
  generalize S67 σ (.box cT) [] T=σ2 at*
  generalize S67 σ (.box cL) [] T=σ1 at*
  simp [lp67_4,g0,g1,lT,lL,tT,tL,oT,oL,heq]
end Go.AI
namespace Go.AI
section
variable {α:Type} [DecidableEq α] (L:List α) (F: (α→Bool)→α→Bool)
def leT (A B:α→Bool):Prop:= ∀x ∈ L,A x=true→B x=true
def jac:Nat→α→Bool
 |0=>fun _=>false
 |n+1=>fun x=>F (jac n) x
def upd (T:α→Bool) (x:α):α→Bool:=if F T x then fun y=>if y=x then true else T y else T
def seidel (T:α→Bool):α→Bool:=L.foldl (upd F) T
def closedT (C:α→Bool):Prop:= ∀x ∈ L,F C x=true→C x=true
variable {L F} {M: (α→Bool)→Prop} (mono: ∀A B,leT L A B→M A∨M B→ ∀x ∈ L,F A x=true→F B x=true) (m0:M fun _=>false) (ms: ∀A,M A→M fun x=>F A x)
include m0 ms in
theorem jac_M: ∀n:Nat,M (jac F n):=by
 have _h:= ‹DecidableEq α›
 intro n
 induction n with
 |zero=>exact m0
 |succ n ih=>exact ms _ ih
include mono m0 ms in
theorem jac_up (n:Nat):leT L (jac F n) (jac F (n+1)):=by
 induction n with
 |zero=>intro x _ h;cases h
 |succ n ih=>intro x hx h;exact mono _ _ ih (.inl (jac_M m0 ms n)) x hx h
include mono m0 ms in
theorem jac_le {C:α→Bool} (hC:closedT L F C) (n:Nat):leT L (jac F n) C:=by
 induction n with
 |zero=>intro x _ h;cases h
 |succ n ih=>intro x hx h;exact hC x hx (mono _ _ ih (.inl (jac_M m0 ms n)) x hx h)
include mono in
theorem upd_le {C T:α→Bool} (hC:closedT L F C) (hCM:M C) (hT:leT L T C) (x:α) (hx:x ∈ L):leT L (upd F T x) C:=by
 intro y hy h
 unfold upd at h
 split at h
 ·rename_i hf
  simp only at h
  split at h
  ·rename_i he;subst he;exact hC y hy (mono _ _ hT (.inr hCM) y hy hf)
  ·exact hT y hy h
 ·exact hT y hy h
include mono in
theorem foldl_le {C:α→Bool} (hC:closedT L F C) (hCM:M C): ∀ (N:List α) (T:α→Bool),(∀x ∈ N,x ∈ L)→leT L T C→leT L (N.foldl (upd F) T) C
 | [],_,_,hT=>hT
 |x::N,T,hN,hT=>foldl_le hC hCM N _ (fun y hy=>hN y (List.mem_cons_of_mem _ hy)) (upd_le mono hC hCM hT x (hN x List.mem_cons_self))
include mono in
theorem seidel_le {C T:α→Bool} (hC:closedT L F C) (hCM:M C) (hT:leT L T C):leT L (seidel L F T) C:=foldl_le mono hC hCM L T (fun _ h=>h) hT
theorem jac_stay {n:Nat} (h:leT L (jac F (n+1)) (jac F n)):closedT L F (jac F n):=by
 have _h:= ‹DecidableEq α›
 exact fun x hx hf=>h x hx hf
theorem count_lt {A B:α→Bool} : ∀ (M:List α),(∀x ∈ M,A x=true→B x=true)→(∃x ∈ M,B x=true∧A x=false)→M.countP A<M.countP B
 | [],_,⟨_,hx,_⟩=>by
  have _h:= ‹DecidableEq α›
  cases hx
 |y::M,h,⟨x,hx,hb,ha⟩=>by
  have hle:M.countP A≤M.countP B:=List.countP_mono_left fun z hz hA=>h z (List.mem_cons_of_mem _ hz) hA
  rw [List.countP_cons,List.countP_cons]
  cases hx with
  |head=>simp [hb,ha];omega
  |tail _ hx=>
   have:=count_lt M (fun z hz=>h z (List.mem_cons_of_mem _ hz)) ⟨x,hx,hb,ha⟩
   have hy:=h y List.mem_cons_self
   cases h1:A y<;>cases h2:B y<;>simp_all<;>omega
include mono m0 ms in
theorem jac_grow (n:Nat): (∃m,m≤n∧closedT L F (jac F m))∨n<L.countP (jac F (n+1)):=by
 induction n with
 |zero=>
  by_cases h:leT L (jac F 1) (jac F 0)
  ·exact .inl ⟨0,Nat.le_refl _,jac_stay h⟩
  ·right
   simp only [leT,Classical.not_forall] at h
   obtain ⟨x,hx,h1,h2⟩:=h
   have:=count_lt (A:=jac F 0) (B:=jac F 1) L (fun x hx h=>jac_up mono m0 ms 0 x hx h) ⟨x,hx,h1,by simpa using h2⟩
   show 0<L.countP (jac F 1)
   omega
 |succ n ih=>
  rcases ih with ⟨m,hm,hc⟩ |hlt
  ·exact .inl ⟨m,by omega,hc⟩
  ·by_cases h:leT L (jac F (n+2)) (jac F (n+1))
   ·exact .inl ⟨n+1,Nat.le_refl _,jac_stay h⟩
   ·right
    simp only [leT,Classical.not_forall] at h
    obtain ⟨x,hx,h1,h2⟩:=h
    have:=count_lt (A:=jac F (n+1)) (B:=jac F (n+2)) L (fun x hx h=>jac_up mono m0 ms (n+1) x hx h) ⟨x,hx,h1,by simpa using h2⟩
    show n+1<L.countP (jac F (n+2))
    omega
include mono m0 ms in
theorem jac_mono {m n:Nat} (h:m≤n):leT L (jac F m) (jac F n):=by
 induction h with
 |refl=>exact fun x _ h=>h
 |step _ ih=>exact fun x hx h=>jac_up mono m0 ms _ x hx (ih x hx h)
include mono m0 ms in
theorem jac_closed {n:Nat} (hn:L.length≤n):closedT L F (jac F n):=by
 rcases jac_grow mono m0 ms L.length with ⟨m,hm,hc⟩ |hlt
 ·intro x hx hf
  have h1:=jac_le mono m0 ms hc n
  exact jac_mono mono m0 ms (Nat.le_trans hm hn) x hx (hc x hx (mono _ _ h1 (.inl (jac_M m0 ms n)) x hx hf))
 ·have:=List.countP_le_length (p:=jac F (L.length+1)) (l:=L)
  omega
theorem upd_up (T:α→Bool) (x y:α) (h:T y=true):upd F T x y=true:=by
 unfold upd
 split
 ·simp only;split<;>simp_all
 ·exact h
theorem foldl_up: ∀ (N:List α) (T:α→Bool) (y:α),T y=true→N.foldl (upd F) T y=true
 | [],_,_,h=>h
 |x::N,T,y,h=>foldl_up N _ y (upd_up T x y h)
theorem stay_closed: ∀ (N:List α) (T:α→Bool),N.foldl (upd F) T=T→ ∀x ∈ N,F T x=true→T x=true
 | [],_,_,x,hx,_=>by cases hx
 |y::N,T,hT,x,hx,hf=>by
  have hstep:upd F T y=T:=by
   funext z
   rw [Bool.eq_iff_iff]
   constructor
   ·intro h
    have:=foldl_up (F:=F) N _ z h
    rw [List.foldl_cons] at hT
    rw [hT] at this
    exact this
   ·exact upd_up T y z
  cases hx with
  |head=>
   have:upd F T y y=true:=by unfold upd;rw [if_pos hf];simp
   rw [hstep] at this
   exact this
  |tail _ hx=>
   rw [List.foldl_cons,hstep] at hT
   exact stay_closed N T hT x hx hf
include mono m0 ms in
theorem seidel_jac {T:α→Bool} {n:Nat} (hn:L.length≤n) (hle: ∀C,closedT L F C→M C→leT L T C) (hs:seidel L F T=T): ∀x ∈ L,T x=jac F n x:=by
 have hc:closedT L F T:=fun x hx hf=>stay_closed L T hs x hx hf
 intro x hx
 rw [Bool.eq_iff_iff]
 exact ⟨hle _ (jac_closed mono m0 ms hn) (jac_M m0 ms n) x hx,jac_le mono m0 ms hc n x hx⟩
end
end Go.AI
namespace Go.AI
open Go Go.Proofs Go.Lx
abbrev PT:=Nat × Nat→Bool
abbrev cur (T:PT):Nat→Nat→Bool:=fun a b=>T (a,b)
def plF (p:Prg) (T:PT) (x:Nat × Nat):Bool:=match p.data[x.1]? with
 |some d=>d.cons.any (conHas p d.params (cur T) x.2)
 |none=>false
def plGo:List Dat→Nat→List (Nat × Nat)
 | [],_=>[]
 |d::r,i=>(List.range (2 ^ d.params.length)).map (fun s=>(i,s))++plGo r (i+1)
def places (p:Prg):List (Nat × Nat):=plGo p.data 0
theorem plGo_mem (i s:Nat): ∀ (l:List Dat) (k:Nat),(i,s) ∈ plGo l k↔ ∃d,k≤i∧l[i - k]? =some d∧s<2 ^ d.params.length
 | [],k=>by simp [plGo]
 |d::r,k=>by
  rw [plGo,List.mem_append,plGo_mem i s r (k+1)]
  constructor
  ·rintro (h| ⟨e,h1,h2,h3⟩)
   ·obtain ⟨t,ht,he⟩:=List.mem_map.1 h
    cases he
    exact ⟨d,Nat.le_refl _,by simp,List.mem_range.1 ht⟩
   ·refine ⟨e,by omega, ?_,h3⟩
    rw [show i - k=(i - (k+1)) +1 by omega];simpa using h2
  ·rintro ⟨e,h1,h2,h3⟩
   by_cases hk:i=k
   ·subst hk
    rw [Nat.sub_self] at h2
    simp at h2
    subst h2
    exact .inl (List.mem_map.2 ⟨s,List.mem_range.2 h3,rfl⟩)
   ·right
    refine ⟨e,by omega, ?_,h3⟩
    rw [show i - k=(i - (k+1)) +1 by omega] at h2
    simpa using h2
theorem places_mem {p:Prg} {i s:Nat} : (i,s) ∈ places p↔ ∃d,p.data[i]? =some d∧s<2 ^ d.params.length:=by
 unfold places
 rw [plGo_mem]
 simp
theorem upd_set (p:Prg) (d:Dat) (i s:Nat) (T:PT) (h:p.data[i]? =some d):plcStep p d i (cur T) s=cur (upd (plF p) T (i,s)):=by
 unfold plcStep
 rw [conStep_fold]
 have hF:plF p T (i,s)=d.cons.any (conHas p d.params (cur T) s):=by unfold plF;rw [h]
 unfold upd
 rw [hF]
 cases d.cons.any (conHas p d.params (cur T) s)
 ·rfl
 ·funext a b
  simp only [if_true,setT,cur,Prod.mk.injEq]
theorem dtStep_upd (p:Prg) (d:Dat) (i:Nat) (h:p.data[i]? =some d): ∀ (l:List Nat) (T:PT),l.foldl (plcStep p d i) (cur T)=cur ((l.map fun s=>(i,s)).foldl (upd (plF p)) T)
 | [],_=>rfl
 |s::r,T=>by rw [List.foldl_cons,List.map_cons,List.foldl_cons,upd_set p d i s T h,dtStep_upd p d i h r]
theorem rndGo_upd (p:Prg): ∀ (l:List Dat) (k:Nat) (T:PT),(∀j d,l[j]? =some d→p.data[k+j]? =some d)→rndGo p l k (cur T)=cur ((plGo l k).foldl (upd (plF p)) T)
 | [],_,_,_=>rfl
 |d::r,k,T,h=>by
  have h0:=h 0 d (by simp)
  rw [rndGo,dtStep,dtStep_upd p d k h0,plGo,List.foldl_append]
  refine rndGo_upd p r (k+1) _ fun j e hj=> ?_
  rw [show k+1+j=k+ (j+1) by omega]
  exact h (j+1) e (by simpa using hj)
theorem rnd_seidel (p:Prg) (T:PT):rndGo p p.data 0 (cur T)=cur (seidel (places p) (plF p) T):=
 rndGo_upd p p.data 0 T fun j d h=>by rw [Nat.zero_add];exact h
def subB (s t:Nat):Prop:= ∀j,s / 2 ^ j % 2=1→t / 2 ^ j % 2=1
def MT (T:PT):Prop:= ∀i s t,subB s t→T (i,s)=true→T (i,t)=true
theorem bitsL_bit: ∀ (l:List Bool) (j:Nat),bitsL l / 2 ^ j % 2=1↔l[j]? =some true
 | [],j=>by simp [bitsL]
 |b::r,0=>by
  simp only [bitsL,Nat.pow_zero,Nat.div_one,List.getElem?_cons_zero,Option.some.injEq]
  cases b<;>simp<;>omega
 |b::r,j+1=>by
  rw [List.getElem?_cons_succ,←bitsL_bit r j]
  have:bitsL (b::r) / 2 ^ (j+1)=bitsL r / 2 ^ j:=by
   rw [Nat.pow_succ,Nat.mul_comm,←Nat.div_div_eq_div_mul]
   congr 1
   simp only [bitsL]
   split<;>omega
  rw [this]
theorem bitsL_sub {α:Type} (l:List α) (f g:α→Bool) (h: ∀x ∈ l,f x=true→g x=true):subB (bitsL (l.map f)) (bitsL (l.map g)):=by
 intro j hj
 rw [bitsL_bit] at hj ⊢
 rw [List.getElem?_map] at hj ⊢
 cases hl:l[j]? with
 |none=>rw [hl] at hj;cases hj
 |some x=>
  rw [hl] at hj
  simp only [Option.map_some,Option.some.injEq] at hj ⊢
  exact h x (List.mem_of_getElem? hl) hj
theorem has_mono (p:Prg) (params:List Bs) {A B:PT} (hAB:leT (places p) A B) (hM:MT A∨MT B) {s t:Nat} (hs:subB s t):
 ∀x:Ty,x.ord p params=0→x.has p params (cur A) s=true→x.has p params (cur B) t=true
 | .mk k n nm l ls tail,hord,h=>by
  obtain ⟨ho,hop⟩:=ord_parts hord
  have ih:=fun x (hx:x ∈ l)=>has_mono p params hAB hM hs x (hop x hx)
  simp only [Ty.has] at h ⊢
  by_cases k1:k=1
  ·rw [if_pos k1] at h ⊢
   rw [beq_iff_eq] at h ⊢
   exact hs _ h
  ·rw [if_neg k1] at h ⊢
   by_cases k6:k=6
   ·rw [if_pos k6] at h ⊢
    subst k6
    obtain ⟨i,_,hix,hil,hlen⟩:=ord_data ho
    rw [hix,tysBits_map] at h ⊢
    have hsub:=bitsL_sub l (fun x=>x.has p params (cur A) s) (fun x=>x.has p params (cur B) t) ih
    have hlt (f:Ty→Bool):bitsL (l.map f) <2 ^ p.data[i].params.length:=by
     have:=bitsL_lt (l.map f)
     rw [List.length_map] at this
     rw [hlen];exact this
    have hmem (f:Ty→Bool): (i,bitsL (l.map f)) ∈ places p:=places_mem.2 ⟨p.data[i],by rw [List.getElem?_eq_getElem hil],hlt f⟩
    rcases hM with hM|hM
    ·exact hAB _ (hmem _) (hM _ _ _ hsub h)
    ·exact hM _ _ _ hsub (hAB _ (hmem _) h)
   ·rw [if_neg k6]
termination_by x=>SizeOf.sizeOf x
decreasing_by
 have:=List.sizeOf_lt_of_mem hx
 simp only [Ty.mk.sizeOf_spec]
 omega
theorem any_mono {α:Type} (l:List α) (f g:α→Bool) (h: ∀x ∈ l,f x=true→g x=true):l.any f=true→l.any g=true:=by
 rw [List.any_eq_true,List.any_eq_true]
 rintro ⟨x,hx,hf⟩
 exact ⟨x,hx,h x hx hf⟩
theorem plF_mono2 (p:Prg) (hls: ∀d ∈ p.data,d.fit p) {A B:PT} (hAB:leT (places p) A B) (hM:MT A∨MT B) {s t:Nat} (hs:subB s t) (i:Nat) (h:plF p A (i,s)=true):plF p B (i,t)=true:=by
 unfold plF at h ⊢
 simp only at h ⊢
 cases hd:p.data[i]? with
 |none=>rw [hd] at h;cases h
 |some d=>
  rw [hd] at h
  simp only at h ⊢
  obtain ⟨_,_,hcs⟩:=hls d (List.mem_of_getElem? hd)
  refine any_mono _ _ _ (fun c hc hh=> ?_) h
  unfold conHas at hh ⊢
  rw [List.all_eq_true] at hh ⊢
  exact fun x hx=>has_mono p d.params hAB hM hs x ((hcs c hc).2 x hx).2 (hh x hx)
theorem plF_mono (p:Prg) (hls: ∀d ∈ p.data,d.fit p) (A B:PT) (hAB:leT (places p) A B) (hM:MT A∨MT B) (x:Nat × Nat) (_:x ∈ places p) (h:plF p A x=true):plF p B x=true:=
 plF_mono2 p hls hAB hM (fun _ h=>h) x.1 h
theorem MT_F (p:Prg) (hls: ∀d ∈ p.data,d.fit p) (A:PT) (hA:MT A):MT fun x=>plF p A x:=
 fun i _ _ hs h=>plF_mono2 p hls (fun _ _ h=>h) (.inl hA) hs i h
theorem MT_0:MT fun _=>false:=fun _ _ _ _ h=>by cases h
end Go.AI
namespace Go.AI
open Go Go.Proofs Go.Lx
set_option maxRecDepth 100000
structure Way (p:Prg) (T:PT):Prop where
 inn: ∀x,T x=true→x ∈ places p
 le: ∀C,closedT (places p) (plF p) C→MT C→leT (places p) T C
theorem Way.zero (p:Prg):Way p fun _=>false:=⟨fun _ h=>(by cases h),fun _ _ _ _ _ h=>(by cases h)⟩
theorem upd_inn {p:Prg} : ∀ (N:List (Nat × Nat)) (T:PT),(∀x ∈ N,x ∈ places p)→(∀x,T x=true→x ∈ places p)→ ∀x,N.foldl (upd (plF p)) T x=true→x ∈ places p
 | [],_,_,hT,x,h=>hT x h
 |y::N,T,hN,hT,x,h=>by
  refine upd_inn N _ (fun z hz=>hN z (List.mem_cons_of_mem _ hz)) (fun z hz=> ?_) x h
  unfold upd at hz
  split at hz
  ·simp only at hz
   split at hz
   ·rename_i he;subst he;exact hN _ List.mem_cons_self
   ·exact hT z hz
  ·exact hT z hz
theorem Way.next {p:Prg} (hls: ∀d ∈ p.data,d.fit p) {T:PT} (h:Way p T):Way p (seidel (places p) (plF p) T):=
 ⟨upd_inn _ _ (fun _ h=>h) h.inn,fun C hC hM=>seidel_le (plF_mono p hls) hC hM (h.le C hC hM)⟩
theorem Way.inT {p:Prg} (hdl:p.data.length≤12) (hls: ∀d ∈ p.data,d.fit p) {T:PT} (h:Way p T):inT (cur T):=by
 intro i s hx
 obtain ⟨d,hd,hs⟩:=places_mem.1 (h.inn _ hx)
 have h1:=(hls d (List.mem_of_getElem? hd)).1
 have h2:i<p.data.length:=by
  rcases Nat.lt_or_ge i p.data.length with hlt|hge
  ·exact hlt
  ·rw [List.getElem?_eq_none hge] at hd;cases hd
 have h3:2 ^ d.params.length≤2 ^ 4:=Nat.pow_le_pow_right (by omega) h1
 omega
theorem cur_inj {T U:PT} (h:cur T=cur U):T=U:=by
 funext ⟨a,b⟩;exact congrFun (congrFun h a) b
theorem Way.grow {p:Prg} {T:PT} (hne:seidel (places p) (plF p) T≠T) (hn:Way p (seidel (places p) (plF p) T)): (places p).countP T< (places p).countP (seidel (places p) (plF p) T):=by
 have hup: ∀y,T y=true→seidel (places p) (plF p) T y=true:=fun y h=>foldl_up _ _ y h
 refine count_lt _ (fun x _ h=>hup x h) ?_
 apply Classical.byContradiction
 intro hno
 apply hne
 funext x
 rw [Bool.eq_iff_iff]
 refine ⟨fun h=> ?_,hup x⟩
 apply Classical.byContradiction
 intro hf
 exact hno ⟨x,hn.inn x h,h,by simpa using hf⟩
def fillT (p:Prg):PT:=fun x=>(places p).contains x&&jac (plF p) (places p).length x
theorem Way.fill {p:Prg} (hls: ∀d ∈ p.data,d.fit p) {T:PT} (h:Way p T) (hs:seidel (places p) (plF p) T=T):T=fillT p:=by
 funext x
 unfold fillT
 cases hc: (places p).contains x
 ·rw [Bool.false_and,Bool.eq_false_iff]
  intro hx
  have:=h.inn x hx
  simp [this] at hc
 ·rw [Bool.true_and]
  exact seidel_jac (plF_mono p hls) MT_0 (MT_F p hls) (Nat.le_refl _) h.le hs x (by simpa using hc)
theorem lp67 (p:Prg) (m:CMap) (hdl:p.data.length≤12) (hls: ∀d ∈ p.data,d.fit p) (tb:Nat) (σ:St) (hT:IsT σ tb p m): ∀ (n:Nat) (T:PT) (τ:St),Way p T→(places p).length< (places p).countP T+n→
 ∃τ' L,iterI (evalI CI XB GI 67 false lp67_4) (b67c tb σ++[(5, .bool false)]) (S67 σ (.box (tabC (cur T))) [] (cur (seidel (places p) (plF p) T))++τ)=
  some (.exit 0,b67c tb σ++[(18, .bool false)],S67 σ (.box L) [] (cur (fillT p))++τ')
 |0,T,_,_,hc=>by
  have:=List.countP_le_length (p:=T) (l:=places p)
  omega
 |n+1,T,τ,hW,hc=>by
  have hW2:=hW.next hls
  obtain ⟨τ1,hr⟩:=rnd67_4 p m hdl hls (cur (seidel (places p) (plF p) T)) (cur T) tb σ hT false τ
  by_cases he:tabI (cur (seidel (places p) (plF p) T))=tabI (cur T)
  ·rw [if_neg (by simp [he])] at hr
   have hs:=cur_inj (tabI_inj (hW2.inT hdl hls) (hW.inT hdl hls) he)
   have hf:=hW.fill hls hs
   rw [hs,hf] at hr ⊢
   exact ⟨τ1,_,iterI_end hr (by simp)⟩
  ·rw [if_pos (by simpa using he),rnd_seidel] at hr
   have hne:seidel (places p) (plF p) T≠T:=fun h=>he (by rw [h])
   have hg:=Way.grow hne hW2
   rw [iterI_next hr]
   exact lp67 p m hdl hls tb σ hT n _ τ1 hW2 (by omega)
set_option maxHeartbeats 1000000 in
theorem c67 (p:Prg) (m:CMap) (hdl:p.data.length≤12) (hls: ∀d ∈ p.data,d.fit p) (tb:Nat) (σ:St) (hT:IsT σ tb p m):
 ∃τ,CI (.fn 67) [.ptr tb 0] σ=some (.ret (.ptr σ.length 0),σ++(.box (tabC (cur (fillT p)))::τ)):=by
 obtain ⟨τ1,hr⟩:=rnd67_4 p m hdl hls (cur fun _=>false) (cur fun _=>false) tb σ hT true []
 rw [if_pos (by simp),rnd_seidel] at hr
 obtain ⟨τ2,L,hit⟩:=lp67 p m hdl hls tb σ hT ((places p).length+1) (fun _=>false) τ1 (.zero p) (by omega)
 have h:=(iterI_next hr).trans hit
 rw [List.append_nil] at h
 have e1:S67 σ (.box (tabC (cur fun _=>false))) [] (cur fun _=>false)=σ++[.box z192, .box z192]:=by
  have:tabC (cur fun _=>false)=z192:=rfl
  unfold S67;rw [this]
 have e2:S67 σ (.box L) [] (cur (fillT p))++τ2=σ++(.box (tabC (cur (fillT p))):: .box L::τ2):=by unfold S67;simp
 rw [e1,e2] at h
 refine ⟨.box L::τ2, ?_⟩
 have hτ:bodyI CI XB GI af67 [.ptr tb 0] σ=some (.ret (.ptr σ.length 0),σ++(.box (tabC (cur (fillT p))):: .box L::τ2)):=by
  generalize tabC (cur (fillT p))=ct at*
  simp only [b67c,List.cons_append,List.nil_append] at h
  simp [bodyI,af67,h]
 exact CI_new (i:=0) tab67 hτ rfl
def Prg.fields (p:Prg) (s:Bs) (args:List Ty):List Ty:=match p.conOf s with
 |none=>[]
 |some (d,c)=>c.args.map (Ty.rep d.params args)
theorem decls_con {p:Prg} (h:p.decls=0) {d:Dat} (hd:d ∈ p.data) {c:Con} (hc:c ∈ d.cons):d.params.length≤4∧c.args.length≤4∧ ∀t ∈ c.args,t.chk=0:=by
 obtain ⟨hs,_⟩:=orE_zero.1 h
 obtain ⟨_,_,_,hs3,_⟩:=Prg.syn_data hs
 obtain ⟨a1,a2,_,_,a5⟩:=datE_cons (hs3 d hd)
 have:=a5 c hc
 unfold conE at this
 split at this
 ·cases this
 ·rename_i h4
  split at this
  ·refine ⟨a1,by omega,fun t ht=> ?_⟩
   unfold declE at this
   rw [firstE_zero] at this
   have h1:=this _ (List.mem_map_of_mem ht)
   unfold declE1 at h1
   split at h1
   ·assumption
   ·rename_i h2;exact absurd h1 h2
  ·cases this
theorem c54g (g:Nat) (first captured:List D) (e:Int) (σ σ':St) (hl:σ'.length=σ.length) (hk: ∀j,j<σ.length→σ'[j]? =σ[j]? ∨ ∃o,σ'[j]? =some o∧o.under σ.length) (h:CI (.fn g) (first++captured) (σ++[.box [.int .i64 0]])=some (outR e,σ'++[.box [.int .i64 0]])):
 CI (.fn 54) [.func g first captured] σ=some (.ret (.int .i64 e),σ'):=by
 have hev:evalCatch CI 154 [.func g first captured] σ=some (.ret (.int .i64 e),σ'++[.box [.int .i64 e]]):=by
  unfold evalCatch
  simp only [h]
  rw [←hl]
  by_cases he:e=0
  ·subst he
   rw [outR_zero]
   simp [getA0,setA0]
  ·rw [outR_ne he]
   simp [refD,getA0,setA0]
 exact callI_catch (ty:=154) postN ext_none rfl rfl hev (postI_same (q:=qI) (f:=54) hl hk rfl rfl)
theorem foldS_each {α β γ:Type} {step:Nat→α→β→β ⊕ γ} : ∀ (l:List α) (i:Nat) (b b':β),foldS step l i b= .inl b'→ ∀a ∈ l,∃j c c',step j a c= .inl c'
 | [],_,_,_,_,a,ha=>by cases ha
 |x::r,i,b,b',h,a,ha=>by
  simp only [foldS] at h
  cases hs:step i x b with
  |inr e=>rw [hs] at h;cases h
  |inl c=>
   rw [hs] at h
   cases ha with
   |head=>exact ⟨i,b,c,hs⟩
   |tail _ ha=>exact foldS_each r (i+1) c b' h a ha
theorem foldS_left {α β γ:Type} {step:Nat→α→β→β ⊕ γ} : ∀ (l:List α) (i:Nat) (b:β) (e:γ),foldS step l i b= .inr e→ ∃a j c,step j a c= .inr e
 | [],_,_,_,h=>by cases h
 |x::r,i,b,e,h=>by
  simp only [foldS] at h
  cases hs:step i x b with
  |inr e'=>rw [hs] at h;cases h;exact ⟨x,i,b,hs⟩
  |inl c=>rw [hs] at h;exact foldS_left r (i+1) c e h
theorem datStep_ne0 {p:Prg} {j:Nat} {d:Dat} {c:List Bs × List Bs} (h:datStep p j d c= .inr 0):False:=by
 unfold datStep at h
 split at h
 ·cases h
 ·split at h
  ·cases h
  ·rename_i z hz
   cases h
   obtain ⟨a,i,b,h⟩:=foldS_left _ _ _ _ hz
   unfold consStep at h
   split at h
   ·cases h
   ·split at h
    ·cases h
    ·rename_i hne
     exact hne (Sum.inr.inj h)
theorem decls_fit {p:Prg} (h:p.decls=0):p.data.length≤12∧ ∀d ∈ p.data,d.fit p:=by
 obtain ⟨hs,ho⟩:=orE_zero.1 h
 obtain ⟨h12,_,_,hs3,_⟩:=Prg.syn_data hs
 refine ⟨h12,fun d hd=> ?_⟩
 obtain ⟨a1,a2,_,_,_⟩:=datE_cons (hs3 d hd)
 refine ⟨a1,by omega,fun c hc=> ?_⟩
 obtain ⟨_,b2,b3⟩:=decls_con h hd hc
 refine ⟨b2,fun x hx=>⟨Ty.small_chk (b3 x hx), ?_⟩⟩
 unfold Prg.ordE at ho
 cases hf:foldS (datStep p) p.data 0 (builtins,[]) with
 |inr e=>
  rw [hf] at ho
  simp only at ho
  subst ho
  obtain ⟨a,j,c,h⟩:=foldS_left _ _ _ _ hf
  exact (datStep_ne0 h).elim
 |inl y=>
  obtain ⟨j,b,b',hst⟩:=foldS_each _ _ _ _ hf d hd
  unfold datStep at hst
  split at hst
  ·cases hst
  ·split at hst
   ·rename_i z hz
    obtain ⟨j2,e,e',hst2⟩:=foldS_each _ _ _ _ hz c hc
    unfold consStep at hst2
    split at hst2
    ·cases hst2
    ·split at hst2
     ·rename_i h0
      rw [firstE_zero] at h0
      exact h0 _ (List.mem_map_of_mem hx)
     ·cases hst2
   ·cases hst
theorem log32:Nat.log2 32=5:=by decide
def Prg.inh (p:Prg) (t:Ty):Bool:=t.has p [] (cur (fillT p)) 0
theorem tyE_zero {p:Prg} {t:Ty} (h:p.tyE t=0):p.decls=0∧t.chk=0∧t.cl tailC=true∧t.ord p []=0:=by
 unfold Prg.tyE at h
 rw [orE_zero,orE_zero] at h
 obtain ⟨h1,h2,h3⟩:=h
 split at h3
 ·rename_i hc;exact ⟨h1,h2,hc,h3⟩
 ·cases h3
set_option maxHeartbeats 2000000 in
theorem c64 (p:Prg) (hok:p.ok) (t:Ty) (ht:t.ok) (a b c:Nat) (σ:St) (ha:σ[a]? =some (.box p.cs)) (hb:σ[b]? =some (.box t.cs)) (hc:σ[c]? =some (.box [.bool false])) (hac:a≠c) (hbc:b≠c):
 CI (.fn 64) [.ptr a 0, .ptr b 0, .ptr c 0] σ=some (outR (p.tyE t),σ.set c (.box [.bool (p.inh t&&p.tyE t==0)])):=by
 obtain ⟨τ1,h55⟩:=c55 p hok.dl hok.d σ
 have hT:=lookS_T p σ τ1
 have e1:lookS p σ p.cm++τ1=σ++([.box p.cs, .map (kvs p.cm), .box (p.cs++[.map (σ.length+1)])]++τ1):=by unfold lookS;rw [List.append_assoc]
 have hb2: (lookS p σ p.cm++τ1)[b]? =some (.box t.cs):=by rw [e1];exact getO hb
 have h65:=c65 p p.cm hok t ht _ _ hT
 have hpl:=p.cs_len
 have hpt:=p.cs_take
 have y1:=t.cs_len
 have y2:=t.cs_take
 have e3:eqbL p.cs p.cs=true:=eqbL_tree _ p.plain.1
 have e4:eqbL t.cs t.cs=true:=eqbL_tree _ t.plain.1
 have q55:qI 55=false:=rfl
 have x55:XB 55=false:=rfl
 have q65:qI 65=false:=rfl
 have x65:XB 65=false:=rfl
 have q67:qI 67=false:=rfl
 have x67:XB 67=false:=rfl
 have q66:qI 66=false:=rfl
 have x66:XB 66=false:=rfl
 have hcl:=lt_of_get hc
 by_cases he:p.tyE t=0
 ·obtain ⟨z1,z2,_,z4⟩:=tyE_zero he
  obtain ⟨hdl,hls⟩:=decls_fit z1
  obtain ⟨τ2,h67⟩:=c67 p p.cm hdl hls _ _ hT
  have h66:=c66 p p.cm hdl (cur (fillT p)) [] (by simp) .empty (.inr ⟨rfl,rfl⟩) 0 (by omega) (σ.length+2) (lookS p σ p.cm++τ1).length t (Ty.small_chk z2) z4 (lookS p σ p.cm++τ1++(.box (tabC (cur (fillT p)))::τ2)) hT.app (by rw [getA0];rfl)
  rw [Int.natCast_zero] at h66
  have hb3: (lookS p σ p.cm++τ1++(.box (tabC (cur (fillT p)))::τ2))[b]? =some (.box t.cs):=getO hb2
  have hc3: (lookS p σ p.cm++τ1++(.box (tabC (cur (fillT p)))::τ2))[c]? =some (.box [.bool false]):=by rw [e1];exact getO (getO hc)
  rw [he] at h65 ⊢
  rw [outR_zero] at h65 ⊢
  have hset: ∀o,(lookS p σ p.cm++τ1++(.box (tabC (cur (fillT p)))::τ2)).set c o=σ.set c o++([.box p.cs, .map (kvs p.cm), .box (p.cs++[.map (σ.length+1)])]++τ1++(.box (tabC (cur (fillT p)))::τ2)):=fun o=>by
   rw [e1,List.append_assoc,setO hcl]
  have hτ:bodyI CI XB GI af64 [.ptr a 0, .ptr b 0, .ptr c 0] σ=some (.ret (.tuple []),σ.set c (.box [.bool (p.inh t)])++([.box p.cs, .map (kvs p.cm), .box (p.cs++[.map (σ.length+1)])]++τ1++(.box (tabC (cur (fillT p)))::τ2))):=by
   rw [←hset]
   unfold Prg.inh
   clear hset e1
   generalize t.has p [] (cur (fillT p)) 0=v at*
   generalize tabC (cur (fillT p))=ct at*
   generalize lookS p σ p.cm++τ1=σ2 at*
   generalize p.cs=pc at*
   generalize t.cs=tc at*
   generalize hσ3:σ2++(.box ct::τ2)=σ3 at*
   simp [bodyI,af64,ha,hb,hb2,hb3,hc3,e3,e4,hpl,hpt,y1,y2,h55,h65,h66,h67,putCells,q55,x55,q65,x65,q66,x66,q67,x67,log32,Nat.testBit_eq_decide_div_mod_eq]
  refine CI_fn tab64 hτ ?_
  rw [postI_set (by simp [Obj.under,underL,D.under]) rfl rfl]
  simp [D.weak,weakL]
 ·rw [outR_ne he] at h65 ⊢
  have hid:σ.set c (.box [.bool (p.inh t&&p.tyE t==0)])=σ:=by
   have hf: (p.inh t&&p.tyE t==0)=false:=by simp [he]
   rw [hf]
   obtain ⟨h1,h2⟩:=List.getElem?_eq_some_iff.1 hc
   rw [←h2];exact List.set_getElem_self h1
  rw [hid]
  refine CI_panic tab64 (τ:=[.box p.cs, .map (kvs p.cm), .box (p.cs++[.map (σ.length+1)])]++τ1) ?_ rfl
  rw [←e1]
  generalize lookS p σ p.cm++τ1=σ2 at*
  clear e1
  generalize p.cs=pc at*
  generalize t.cs=tc at*
  generalize p.tyE t=e at*
  simp [bodyI,af64,ha,hb,hb2,e3,e4,hpl,hpt,y1,y2,h55,h65,q55,x55,q65,x65]
theorem c20 (p:Prg) (hok:p.ok) (t:Ty) (ht:t.ok) (σ:St):CI (.fn 20) [.agg p.cs, .agg t.cs] σ=some (.ret (.tuple [.bool (p.inh t&&p.tyE t==0), .int .i64 (p.tyE t)]),σ):=by
 have h64:=c64 p hok t ht σ.length (σ.length+1) (σ.length+2) (σ++[Obj.box p.cs, .box t.cs, .box [.bool false]]++[Obj.box [.int .i64 0]]) (by rw [List.append_assoc];exact getA0) (by rw [List.append_assoc];exact getA) (by rw [List.append_assoc];exact getA) (by omega) (by omega)
 have hset: ∀o,(σ++[Obj.box p.cs, .box t.cs, .box [.bool false]]++[Obj.box [.int .i64 0]]).set (σ.length+2) o=σ++[Obj.box p.cs, .box t.cs,o]++[Obj.box [.int .i64 0]]:=fun o=>by
  rw [List.append_assoc,setA,List.append_assoc];rfl
 rw [hset] at h64
 have h54:=c54g 64 [] [.ptr σ.length 0, .ptr (σ.length+1) 0, .ptr (σ.length+2) 0] _ (σ++[Obj.box p.cs, .box t.cs, .box [.bool false]]) (σ++[Obj.box p.cs, .box t.cs, .box [.bool (p.inh t&&p.tyE t==0)]]) (by simp) (fun j hj=>by
  by_cases h2:j=σ.length+2
  ·subst h2
   exact .inr ⟨_,by rw [getA];rfl,by simp [Obj.under,underL,D.under]⟩
  ·left
   rcases Nat.lt_or_ge j σ.length with hlt|hge
   ·rw [List.getElem?_append_left hlt,List.getElem?_append_left hlt]
   ·obtain ⟨i,rfl⟩: ∃i,j=σ.length+i:=⟨j - σ.length,by omega⟩
    rw [getA,getA]
    simp at hj
    match i,hj,h2 with
    |0,_,_=>rfl
    |1,_,_=>rfl
    |2,_,h2=>omega) h64
 have hτ:bodyI CI XB GI af20 [.agg p.cs, .agg t.cs] σ=some (.ret (.tuple [.bool (p.inh t&&p.tyE t==0), .int .i64 (p.tyE t)]),σ++[Obj.box p.cs, .box t.cs, .box [.bool (p.inh t&&p.tyE t==0)]]):=by
  have h1:=p.cs_all
  have h2:t.cs.all D.one=true:=by cases t;rfl
  generalize p.tyE t=e at*
  generalize p.cs=pc at*
  generalize t.cs=tc at*
  generalize p.inh t=v at*
  have hee: (v&&e==0)=(if (v&&e==0)=true then e==0 else false):=by cases v<;>simp
  cases hv: (v&&e==0)
  ·rw [hv] at h54
   simp [bodyI,af20,h1,h2,h54,getA,getA0,setA,putCells]
  ·rw [hv] at h54
   have h3:e=0:=by simp at hv;exact hv.2
   subst h3
   simp [bodyI,af20,h1,h2,h54,getA,getA0,setA,putCells]
 exact CI_tree tab20 hτ rfl rfl
def rowB (T:Nat→Nat→Bool) (i n:Nat):List D:=(List.range n).map fun s=> .bool (T i s)
def tabRows (p:Prg) (T:Nat→Nat→Bool):List D:=p.data.mapIdx fun i d=> .slice (rowB T i (2 ^ d.params.length))
def TabD (p:Prg) (T:Nat→Nat→Bool) (σ:St) (td:D):Prop:=td= .slice (tabRows p T)∨ ∃r es,td= .arr r p.data.length 0 p.data.length∧σ[r]? =some (.row 1 es 0)∧es.length=p.data.length∧
 ∀i (hi:i<p.data.length),∃k,es[i]? =some (.arr k (2 ^ p.data[i].params.length) 0 (2 ^ p.data[i].params.length))∧σ[k]? =some (.row 1 (rowB T i (2 ^ p.data[i].params.length)) 0)
theorem TabD.app {p:Prg} {T:Nat→Nat→Bool} {σ τ:St} {td:D} (h:TabD p T σ td):TabD p T (σ++τ) td:=by
 rcases h with h| ⟨r,es,h1,h2,h3,h4⟩
 ·exact .inl h
 ·refine .inr ⟨r,es,h1,getO h2,h3,fun i hi=> ?_⟩
  obtain ⟨k,a,b⟩:=h4 i hi
  exact ⟨k,a,getO b⟩
inductive Mt where
 |mk (t:Ty) (ps:List Bs) (l:List Mt)
mutual
def Mt.cs:Mt→List D
 | .mk t ps l=>t.cs++[slD ps, .slice (mtsD l)]
def mtsD:List Mt→List D
 | []=>[]
 |m::r=> .agg m.cs::mtsD r
end
def Mt.d (m:Mt):D:= .agg m.cs
theorem Mt.cs_len (m:Mt):m.cs.length=8:=by
 rcases m with ⟨t,ps,l⟩
 simp [Mt.cs,t.cs_len]
def inner (ps:List Bs) (l:List Mt) (ts:List Ty):List Mt:=ts.map fun t=> .mk t ps l
mutual
def Mt.now:Mt→Mt
 | .mk (.mk k n s L ls tail) ps l=>if k=1 then nowL l (indexP ps s).toNat else .mk (.mk k n s L ls tail) ps l
def nowL:List Mt→Nat→Mt
 | [],_=> .mk (.mk 0 0 [] [] [] 0) [] []
 |m::_,0=>m.now
 |_::r,i+1=>nowL r i
end
theorem nowL_get: ∀ (l:List Mt) (i:Nat) (h:i<l.length),nowL l i=l[i].now
 |m::_,0,_=>by simp only [nowL];rfl
 |_::r,i+1,h=>by
  have:=nowL_get r i (by simpa using h)
  simp only [nowL,this];rfl
mutual
def Mt.wf (p:Prg):Mt→Prop
 | .mk t ps l=>t.small∧t.ord p ps=0∧ps.length=l.length∧l.length≤4∧mtsWf p l
def mtsWf (p:Prg):List Mt→Prop
 | []=>True
 |m::r=>m.wf p∧mtsWf p r
end
theorem mtsWf_mem {p:Prg} : ∀ {l:List Mt} {m:Mt},mtsWf p l→m ∈ l→m.wf p
 |_::_,_,h, .head _=>h.1
 |_::_,_,h, .tail _ hm=>mtsWf_mem h.2 hm
mutual
theorem Mt.now_wf {p:Prg} : ∀m:Mt,m.wf p→m.now.wf p∧(match m.now with| .mk (.mk k _ _ _ _ _) _ _=>k≠1)
 | .mk (.mk k n s L ls tail) ps l,hwf=>by
  by_cases k1:k=1
  ·subst k1
   have ho:=hwf.2.1
   obtain ⟨ho1,_⟩:=ord_parts ho
   obtain ⟨j,hj,hjl⟩:=indexP_lt ps s (ord_param ho1)
   have hpl:=hwf.2.2.1
   have hnow: (Mt.mk (.mk 1 n s L ls tail) ps l).now=nowL l j:=by
    simp only [Mt.now,if_true,hj];rfl
   rw [hnow]
   exact nowL_wf l hwf.2.2.2.2 j (by omega)
  ·have hnow: (Mt.mk (.mk k n s L ls tail) ps l).now=Mt.mk (.mk k n s L ls tail) ps l:=by
    simp only [Mt.now,if_neg k1]
   rw [hnow]
   exact ⟨hwf,k1⟩
theorem nowL_wf {p:Prg} : ∀ (l:List Mt),mtsWf p l→ ∀j,j<l.length→(nowL l j).wf p∧(match nowL l j with| .mk (.mk k _ _ _ _ _) _ _=>k≠1)
 |m::_,h,0,_=>by
  have:=m.now_wf h.1
  simp only [nowL];exact this
 |_::r,h,j+1,hj=>by
  have:=nowL_wf r h.2 j (by simpa using hj)
  simp only [nowL];exact this
end
theorem inner_wf {p:Prg} {ps:List Bs} {ml:List Mt} (h1:ps.length=ml.length) (h2:ml.length≤4) (h3:mtsWf p ml): ∀ (L:List Ty),(∀t ∈ L,t.small∧t.ord p ps=0)→mtsWf p (inner ps ml L)
 | [],_=>trivial
 |t::r,h=>⟨⟨(h t List.mem_cons_self).1,(h t List.mem_cons_self).2,h1,h2,h3⟩,inner_wf h1 h2 h3 r fun x hx=>h x (List.mem_cons_of_mem _ hx)⟩
theorem inner_len (ps:List Bs) (ml:List Mt) (L:List Ty): (inner ps ml L).length=L.length:=List.length_map _
end Go.AI
namespace Go.AI
open Go Go.Proofs Go.Lx
end Go.AI
namespace Go.AI
open Go Go.Proofs Go.Lx
set_option maxRecDepth 100000
mutual
def Mt.ty:Mt→Ty
 | .mk t ps l=>t.rep ps (mtsTy l)
def mtsTy:List Mt→List Ty
 | []=>[]
 |m::r=>m.ty::mtsTy r
end
theorem mtsTy_map: ∀ (l:List Mt),mtsTy l=l.map Mt.ty
 | []=>rfl
 |m::r=>by rw [mtsTy,mtsTy_map r];rfl
theorem inner_ty (ps:List Bs) (ml:List Mt) (L:List Ty):mtsTy (inner ps ml L)=L.map (Ty.rep ps (mtsTy ml)):=by
 rw [mtsTy_map];unfold inner;rw [List.map_map]
 exact List.map_congr_left fun t _=>by simp only [Function.comp,Mt.ty]
mutual
theorem Mt.now_ty {p:Prg} : ∀m:Mt,m.wf p→m.now.ty=m.ty
 | .mk (.mk k n s L ls tail) ps l,hwf=>by
  by_cases k1:k=1
  ·subst k1
   have ho:=hwf.2.1
   obtain ⟨ho1,_⟩:=ord_parts ho
   obtain ⟨j,hj,hjl⟩:=indexP_lt ps s (ord_param ho1)
   have hpl:=hwf.2.2.1
   have hnow: (Mt.mk (.mk 1 n s L ls tail) ps l).now=nowL l j:=by
    simp only [Mt.now,if_true,hj];rfl
   have hj0: (0:Int)≤j:=by omega
   have hjm:j<l.length:=by omega
   rw [hnow,nowL_ty l hwf.2.2.2.2 j hjm]
   simp only [Mt.ty,Ty.rep,hj,hj0,and_self,if_true]
   rw [mtsTy_map]
   simp [hjm]
  ·have hnow: (Mt.mk (.mk k n s L ls tail) ps l).now=Mt.mk (.mk k n s L ls tail) ps l:=by
    simp only [Mt.now,if_neg k1]
   rw [hnow]
theorem nowL_ty {p:Prg} : ∀ (l:List Mt),mtsWf p l→ ∀j (h:j<l.length),(nowL l j).ty=l[j].ty
 |m::_,h,0,_=>by
  have:=m.now_ty h.1
  simp only [nowL];exact this
 |_::r,h,j+1,hj=>by
  have:=nowL_ty r h.2 j (by simpa using hj)
  simp only [nowL];exact this
end
theorem Ty.rep_np {k n:Int} {s:Bs} {L:List Ty} {ls:List Lab} {tail:Int} (ps:List Bs) (al:List Ty) (h:k≠1): (Ty.mk k n s L ls tail).rep ps al= .mk k n s (L.map (Ty.rep ps al)) ls tail:=by
 simp only [Ty.rep,tysRep_map]
 rw [if_neg (fun hc=>h hc.1)]
def paramT (s:Bs):Ty:= .mk 1 0 s [] [] 0
def dataT (s:Bs) (l:List Ty):Ty:= .mk 6 0 s l [] 0
theorem ordN_np {p:Prg} {ps qs:List Bs} {k:Int} (hk:k≠1) (s:Bs) (n:Nat) (ls:List Lab):ordN p ps k s n ls=ordN p qs k s n ls:=by
 unfold ordN;rw [if_neg hk,if_neg hk]
theorem Ty.rep_ord {p:Prg} {ps:List Bs} {args:List Ty} (hal:args.length=ps.length) (ha: ∀a ∈ args,a.ord p []=0): ∀t:Ty,t.ord p ps=0→(t.rep ps args).ord p []=0
 | .mk k n s l ls tail,h=>by
  obtain ⟨h1,h2⟩:=ord_parts h
  have ih:=fun x (hx:x ∈ l)=>Ty.rep_ord hal ha x (h2 x hx)
  by_cases k1:k=1
  ·subst k1
   obtain ⟨j,hj,hjl⟩:=indexP_lt ps s (ord_param h1)
   simp only [Ty.rep,hj]
   rw [if_pos ⟨trivial,by omega⟩,List.getD_eq_getElem?_getD]
   have hja:j<args.length:=by omega
   have e0: ((j:Int)).toNat=j:=by omega
   rw [e0,List.getElem?_eq_getElem hja]
   exact ha _ (List.getElem_mem hja)
  ·rw [Ty.rep_np _ _ k1]
   simp only [Ty.ord,List.length_map]
   rw [ordN_np (qs:=ps) k1,h1,if_pos rfl,tysOrd_first,firstE_zero]
   intro e he
   obtain ⟨y,hy,rfl⟩:=List.mem_map.1 he
   obtain ⟨x,hx,rfl⟩:=List.mem_map.1 hy
   exact ih x hx
termination_by x=>SizeOf.sizeOf x
decreasing_by
 have:=List.sizeOf_lt_of_mem hx
 simp only [Ty.mk.sizeOf_spec]
 omega
theorem any_same {α:Type} {f g:α→Bool} : ∀ {l:List α},(∀x ∈ l,f x=g x)→l.any f=l.any g
 | [],_=>rfl
 |a::r,h=>by rw [List.any_cons,List.any_cons,h a List.mem_cons_self,any_same fun x hx=>h x (List.mem_cons_of_mem _ hx)]
theorem all_same {α:Type} {f g:α→Bool} : ∀ {l:List α},(∀x ∈ l,f x=g x)→l.all f=l.all g
 | [],_=>rfl
 |a::r,h=>by rw [List.all_cons,List.all_cons,h a List.mem_cons_self,all_same fun x hx=>h x (List.mem_cons_of_mem _ hx)]
def rowsAt (σ:St) (n:Nat) (ad:D) (dl:List D):Prop:=ad= .slice dl∨(ad= .empty∧dl=[])∨ ∃r q,ad= .arr r dl.length 0 dl.length∧σ[r]? =some (.row n dl q)∧q≤dl.length∧1≤dl.length
mutual
def Mt.at (σ:St):Mt→D→Prop
 | .mk t ps l,d=> ∃w,d= .agg (t.cs++[w])∧((w= .nilptr∧ps=[]∧l=[])∨ ∃a ad dl,w= .ptr a 0∧σ[a]? =some (.box [slD ps,ad])∧rowsAt σ 7 ad dl∧mtsAt σ l dl)
def mtsAt (σ:St):List Mt→List D→Prop
 | [],dl=>dl=[]
 |m::r,dl=> ∃d dl',dl=d::dl'∧m.at σ d∧mtsAt σ r dl'
end
def withAt (σ:St) (ps:List Bs) (l:List Mt) (w:D):Prop:=(w= .nilptr∧ps=[]∧l=[])∨ ∃a ad dl,w= .ptr a 0∧σ[a]? =some (.box [slD ps,ad])∧rowsAt σ 7 ad dl∧mtsAt σ l dl
theorem Mt.at_iff {σ:St} {t:Ty} {ps:List Bs} {l:List Mt} {d:D} : (Mt.mk t ps l).at σ d↔ ∃w,d= .agg (t.cs++[w])∧withAt σ ps l w:=by
 simp only [Mt.at,withAt]
theorem rowsAt.app {σ τ:St} {n:Nat} {ad:D} {dl:List D} (h:rowsAt σ n ad dl):rowsAt (σ++τ) n ad dl:=by
 rcases h with h|h| ⟨r,q,h1,h2,h3,h4⟩
 ·exact .inl h
 ·exact .inr (.inl h)
 ·exact .inr (.inr ⟨r,q,h1,getO h2,h3,h4⟩)
mutual
theorem Mt.at_app {σ τ:St} : ∀ (m:Mt) (d:D),m.at σ d→m.at (σ++τ) d
 | .mk t ps l,d,h=>by
  simp only [Mt.at] at h ⊢
  obtain ⟨w,h1,h2⟩:=h
  refine ⟨w,h1, ?_⟩
  rcases h2 with h2| ⟨a,ad,dl,h3,h4,h5,h6⟩
  ·exact .inl h2
  ·exact .inr ⟨a,ad,dl,h3,getO h4,h5.app,mtsAt_app l dl h6⟩
theorem mtsAt_app {σ τ:St} : ∀ (l:List Mt) (dl:List D),mtsAt σ l dl→mtsAt (σ++τ) l dl
 | [],dl,h=>by simp only [mtsAt] at h ⊢;exact h
 |m::r,dl,h=>by
  simp only [mtsAt] at h ⊢
  obtain ⟨d,dl',h1,h2,h3⟩:=h
  exact ⟨d,dl',h1,m.at_app d h2,mtsAt_app r dl' h3⟩
end
theorem withAt.app {σ τ:St} {ps:List Bs} {l:List Mt} {w:D} (h:withAt σ ps l w):withAt (σ++τ) ps l w:=by
 rcases h with h2| ⟨a,ad,dl,h3,h4,h5,h6⟩
 ·exact .inl h2
 ·exact .inr ⟨a,ad,dl,h3,getO h4,h5.app,mtsAt_app l dl h6⟩
theorem mtsAt_len {σ:St} : ∀ {l:List Mt} {dl:List D},mtsAt σ l dl→dl.length=l.length
 | [],dl,h=>by simp only [mtsAt] at h;subst h;rfl
 |m::r,dl,h=>by
  simp only [mtsAt] at h
  obtain ⟨d,dl',rfl,_,h3⟩:=h
  simp [mtsAt_len h3]
theorem mtsAt_get {σ:St} : ∀ {l:List Mt} {dl:List D},mtsAt σ l dl→ ∀ (i:Nat) (h1:i<l.length) (h2:i<dl.length),l[i].at σ dl[i]
 |m::r,dl,h,0,_,_=>by
  simp only [mtsAt] at h
  obtain ⟨d,dl',rfl,h2,_⟩:=h
  exact h2
 |m::r,dl,h,i+1,h1,h2=>by
  simp only [mtsAt] at h
  obtain ⟨d,dl',rfl,_,h3⟩:=h
  exact mtsAt_get h3 i (by simpa using h1) (by simpa using h2)
theorem mtsAt_snoc {σ:St} : ∀ {l:List Mt} {dl:List D} {m:Mt} {d:D},mtsAt σ l dl→m.at σ d→mtsAt σ (l++[m]) (dl++[d])
 | [],dl,m,d,h,hm=>by
  simp only [mtsAt] at h
  subst h
  simp only [List.nil_append,mtsAt]
  exact ⟨d,[],rfl,hm,rfl⟩
 |m::r,dl,m',d',h,hm=>by
  simp only [mtsAt] at h
  obtain ⟨d,dl',rfl,h2,h3⟩:=h
  simp only [List.cons_append,mtsAt]
  exact ⟨d,dl'++[d'],rfl,h2,mtsAt_snoc h3 hm⟩
theorem Mt.at_agg {σ:St} {m:Mt} {d:D} (h:m.at σ d): ∃cs,d= .agg cs∧cs.length=7∧cs.all D.one=true:=by
 rcases m with ⟨t,ps,l⟩
 obtain ⟨w,rfl,hw⟩:=Mt.at_iff.1 h
 refine ⟨_,rfl,by simp [t.cs_len], ?_⟩
 have:t.cs.all D.one=true:=by cases t;rfl
 rw [List.all_append,this]
 rcases hw with ⟨rfl,_⟩ | ⟨a,ad,dl,rfl,_⟩<;>rfl
theorem eqbL_app {a b:List D} (ha:eqbL a a=true) (hb:eqbL b b=true):eqbL (a++b) (a++b)=true:=by
 induction a with
 |nil=>exact hb
 |cons x r ih=>
  simp only [eqbL,Bool.and_eq_true,List.cons_append] at ha ⊢
  exact ⟨ha.1,ih ha.2⟩
theorem Mt.at_eqb {σ:St} {m:Mt} {cs:List D} (h:m.at σ (.agg cs)):eqbL cs cs=true:=by
 rcases m with ⟨t,ps,l⟩
 obtain ⟨w,hc,hw⟩:=Mt.at_iff.1 h
 cases hc
 refine eqbL_app (eqbL_tree _ t.plain.1) ?_
 rcases hw with ⟨rfl,_⟩ | ⟨a,ad,dl,rfl,_⟩<;>simp
theorem mtsAt_eqb {σ:St} : ∀ {l:List Mt} {dl:List D},mtsAt σ l dl→eqbL dl dl=true
 | [],dl,h=>by simp only [mtsAt] at h;subst h;rfl
 |m::r,dl,h=>by
  simp only [mtsAt] at h
  obtain ⟨d,dl',rfl,h2,h3⟩:=h
  obtain ⟨cs,rfl,_⟩:=Mt.at_agg h2
  simp only [eqbL,D.eqb,Bool.and_eq_true]
  exact ⟨Mt.at_eqb h2,mtsAt_eqb h3⟩
theorem underL_app {n:Nat} {a b:List D} (ha:underL n a=true) (hb:underL n b=true):underL n (a++b)=true:=by
 induction a with
 |nil=>exact hb
 |cons x r ih=>
  simp only [underL,Bool.and_eq_true,List.cons_append] at ha ⊢
  exact ⟨ha.1,ih ha.2⟩
theorem strip_agg (n:Nat) (σ:St) (cs:List D) (h: (D.agg cs).tree=false):strip (n+1) σ (.agg cs)=(cs.mapM (strip n σ)).map .agg:=by
 rw [strip,if_neg (by rw [h];exact Bool.false_ne_true)]
theorem strip_tuple (n:Nat) (σ:St) (cs:List D) (h: (D.tuple cs).tree=false):strip (n+1) σ (.tuple cs)=(cs.mapM (strip n σ)).map .tuple:=by
 rw [strip,if_neg (by rw [h];exact Bool.false_ne_true)]
theorem strip_ptr (n:Nat) (σ:St) (i o:Nat):strip n σ (.ptr i o)=none:=by
 cases n<;>simp [strip,D.tree]
theorem CI_at {f:FuncId} {af:AFunc} (hT:tabT f=some af) {args:List D} {σ τ:St} {m:Mt} {d:D} (h:bodyI CI XB GI af args σ=some (.ret d,σ++τ)) (hm:m.at σ d)
 (hx:okF f:=by exact ⟨⟨rfl,rfl⟩,rfl⟩):CI (.fn f) args σ=some (.ret d,σ):=by
 rcases m with ⟨t,ps,l⟩
 obtain ⟨w,rfl,hw⟩:=Mt.at_iff.1 hm
 rcases hw with ⟨rfl,_⟩ | ⟨a,ad,dl,rfl,ha,_⟩
 ·have hp:=(t.plain.app (b:=[.nilptr]) (.cons ⟨rfl,rfl⟩ .nil)).agg
  exact CI_tree hT h hp.1 hp.2 hx
 ·refine CI_fn hT h (postI_under ?_ ?_) hx
  ·have hn: (D.agg (t.cs++[D.ptr a 0])).tree=false:=by
    rw [D.tree]
    have: ∀ (x:List D),treeL (x++[D.ptr a 0])=false:=fun x=>by
     induction x with
     |nil=>rfl
     |cons y r ih=>simp only [List.cons_append,treeL,ih,Bool.and_false]
    exact this _
   have hs:=strip_ptr 15 (σ++τ) a 0
   rw [strip_agg 15 _ _ hn,List.mapM_append]
   generalize strip 15 (σ++τ)=st at*
   cases t.cs.mapM st with
   |none=>rfl
   |some y=>simp [hs]
  ·have:=lt_of_get ha
   simp only [D.under]
   exact underL_app (treeL_under _ t.plain.1) (by simp [underL,D.under,this])
end Go.AI
