/- Texts of the proof: what functions of the program compute, step by step. No conditions of its own. -/
import Derived.Test.YtgenoggafhhgfaaGreatDoorK9
import Derived.Test.YtgenoggafhhgfaaGreatDoorK8
set_option linter.unusedVariables false
set_option linter.unusedSimpArgs false
namespace Go.AI
open Go Go.Proofs Go.Lx
set_option maxRecDepth 100000
theorem log128b:Nat.log2 128=7:=by decide
noncomputable def Prg.cntE (p:Prg) (t:Ty) (n:Int):Int:=orE (p.tyE t) (if n<0∨7<n then 1 else if p.hasF t then 8 else 0)
def Prg.tot (p:Prg) (t:Ty) (n:Nat):Nat:=sumTo (t.cnt p) (n+1)
theorem cntE_zero {p:Prg} {t:Ty} {n:Int} (h:p.cntE t n=0):p.tyE t=0∧0≤n∧n≤7∧p.hasF t=false:=by
 obtain ⟨h1,h2⟩:=orE_zero.1 h
 split at h2
 ·cases h2
 ·split at h2
  ·cases h2
  ·rename_i h3 h4
   exact ⟨h1,by omega,by omega,by simpa using h4⟩
theorem decls_few {p:Prg} (h:p.decls=0):p.few:=by
 obtain ⟨hs,_⟩:=orE_zero.1 h
 obtain ⟨_,_,_,hs3,_⟩:=Prg.syn_data hs
 intro d hd
 obtain ⟨_,a2,_⟩:=datE_cons (hs3 d hd)
 exact ⟨a2,fun c hc=>(decls_con h hd hc).2.1⟩
theorem sumTo_bound {g:Nat→Nat} {b:Nat} : ∀ (m:Nat),(∀i,i<m→g i≤b)→sumTo g m≤m*b
 |0,_=>by simp [sumTo]
 |m+1,h=>by
  have h1:=sumTo_bound m fun i hi=>h i (by omega)
  have h2:=h m (by omega)
  simp only [sumTo,Nat.succ_mul];omega
theorem tot_le {p:Prg} (h:p.few) (t:Ty) (n:Nat) (hn:n≤7):p.tot t n≤218103808:=by
 obtain ⟨b,hb⟩: ∃b,b=27262976:=⟨_,rfl⟩
 have h1:=sumTo_bound (g:=t.cnt p) (b:=b) (n+1) fun i hi=>hb ▸ Nat.le_trans (cnt_le h t i (by omega)) (cB_le i (by omega))
 have h2: (n+1) *b≤8*b:=Nat.mul_le_mul_right _ (by omega)
 unfold Prg.tot;omega
theorem seen0:seenC (fun _=>false)=[.int .i64 0, .int .i64 0, .int .i64 0, .int .i64 0, .int .i64 0, .int .i64 0, .int .i64 0, .int .i64 0, .int .i64 0, .int .i64 0, .int .i64 0, .int .i64 0]:=rfl
theorem top_wf {p:Prg} {t:Ty} (h:p.tyE t=0): (Mt.mk t [] []).wf p:=by
 obtain ⟨_,z2,_,z4⟩:=tyE_zero h
 exact ⟨Ty.small_chk z2,z4,rfl,by simp,trivial⟩
theorem top_at (t:Ty) (σ:St): (Mt.mk t [] []).at σ (.agg (t.cs++[.nilptr])):=Mt.at_iff.2 ⟨_,rfl, .inl ⟨rfl,rfl,rfl⟩⟩
theorem top_ty (t:Ty): (Mt.mk t [] []).ty=t:=by simp only [Mt.ty,mtsTy,Ty.rep_nil]
set_option maxHeartbeats 4000000 in
theorem c69 (p:Prg) (hok:p.ok) (t:Ty) (ht:t.ok) (n:Int) (σ:St):
 (p.cntE t n=0→ ∃i τ,CI (.fn 69) [.agg p.cs, .agg t.cs, .int .i64 n] σ=some (.ret (.ptr (σ.length+i) 0),σ++τ)∧IsT (σ++τ) (σ.length+i) p p.cm)∧
 (p.cntE t n≠0→CI (.fn 69) [.agg p.cs, .agg t.cs, .int .i64 n] σ=some (.panic (refD (p.cntE t n)),σ)):=by
 have hall:=p.cs_all
 have hpl:=p.cs_len
 have hpt:=p.cs_take
 have y1:=t.cs_len
 have y2:=t.cs_take
 have y3:t.cs.all D.one=true:=by cases t;rfl
 have hl2: (σ++[Obj.box p.cs, .box t.cs]).length=σ.length+2:=by simp
 obtain ⟨τ1,h55⟩:=c55 p hok.dl hok.d (σ++[.box p.cs, .box t.cs])
 have hT:=lookS_T p (σ++[Obj.box p.cs, .box t.cs]) τ1
 have h65:=c65 p p.cm hok t ht _ _ hT
 have e1:lookS p (σ++[Obj.box p.cs, .box t.cs]) p.cm++τ1=σ++([.box p.cs, .box t.cs]++([.box p.cs, .map (kvs p.cm), .box (p.cs++[.map (σ.length+2+1)])]++τ1)):=by
  unfold lookS;simp
 have hb: ∀τ,(lookS p (σ++[Obj.box p.cs, .box t.cs]) p.cm++τ1++τ)[σ.length+1]? =some (.box t.cs):=fun τ=>by rw [e1,List.append_assoc];exact getA
 have h58:=fun e σ=>c58 e σ
 rw [hl2] at h55 h65 hT
 unfold Prg.cntE orE
 by_cases he:p.tyE t=0
 ·rw [if_pos he]
  rw [he,outR_zero] at h65
  obtain ⟨z1,z2,_,z4⟩:=tyE_zero he
  obtain ⟨hdl,hls⟩:=decls_fit z1
  obtain ⟨S',h118⟩:=c118_top p p.cm hdl hls (σ.length+2+2) (lookS p (σ++[Obj.box p.cs, .box t.cs]) p.cm++τ1).length t (Ty.small_chk z2) z4 (lookS p (σ++[Obj.box p.cs, .box t.cs]) p.cm++τ1++[.box (seenC fun _=>false)]) hT.app (by rw [getA0];rfl)
  have hst:stS (lookS p (σ++[Obj.box p.cs, .box t.cs]) p.cm++τ1++[.box (seenC fun _=>false)]) (lookS p (σ++[Obj.box p.cs, .box t.cs]) p.cm++τ1).length S'=lookS p (σ++[Obj.box p.cs, .box t.cs]) p.cm++τ1++[.box (seenC S')]:=by
   unfold stS;rw [setA0];rfl
  rw [hst,seen0] at h118
  have hTS:IsT (lookS p (σ++[Obj.box p.cs, .box t.cs]) p.cm++τ1++[.box (seenC S')]) (σ.length+2+2) p p.cm:=hT.app
  by_cases hn:n<0∨7<n
  ·rw [if_pos hn]
   refine ⟨fun h=>(by cases h),fun _=> ?_⟩
   refine CI_panic tab69 (τ:=([.box p.cs, .box t.cs]++([.box p.cs, .map (kvs p.cm), .box (p.cs++[.map (σ.length+2+1)])]++τ1))) ?_ rfl
   rw [←e1]
   have hb0:=hb []
   rw [List.append_nil] at hb0
   clear h118 hst hTS hT e1 hb
   generalize lookS p (σ++[Obj.box p.cs, .box t.cs]) p.cm++τ1=σ2 at*
   generalize p.cs=pc at*
   generalize t.cs=tc at*
   by_cases h0:n<0
   ·simp [bodyI,af69,getA0,getA,hall,hpl,hpt,y1,y2,y3,h55,h65,hb0,h0,h58,refD]
   ·have h7:7<n:=by omega
    simp [bodyI,af69,getA0,getA,hall,hpl,hpt,y1,y2,y3,h55,h65,hb0,h0,h7,h58,refD]
  ·rw [if_neg hn]
   have h0: ¬n<0:=by omega
   have h7: ¬7<n:=by omega
   cases hf:p.hasF t with
   |true=>
    rw [hf] at h118
    simp only [if_true]
    refine ⟨fun h=>(by cases h),fun _=> ?_⟩
    refine CI_panic tab69 (τ:=([.box p.cs, .box t.cs]++([.box p.cs, .map (kvs p.cm), .box (p.cs++[.map (σ.length+2+1)])]++τ1))++[.box (seenC S')]) ?_ rfl
    rw [←List.append_assoc,←e1]
    have hb0:=hb []
    rw [List.append_nil] at hb0
    clear hst hTS hT e1 hb
    generalize lookS p (σ++[Obj.box p.cs, .box t.cs]) p.cm++τ1=σ2 at*
    generalize p.cs=pc at*
    generalize t.cs=tc at*
    generalize seenC S'=sc at*
    simp [bodyI,af69,getA0,getA,hall,hpl,hpt,y1,y2,y3,h55,h65,hb0,h0,h7,h58,h118,fillD,refD]
   |false=>
    rw [hf] at h118
    refine ⟨fun _=>⟨2+2,([.box p.cs, .box t.cs]++([.box p.cs, .map (kvs p.cm), .box (p.cs++[.map (σ.length+2+1)])]++τ1))++[.box (seenC S')], ?_, ?_⟩,fun h=>absurd rfl h⟩
    rotate_left
    ·rw [←List.append_assoc,←e1,←Nat.add_assoc];exact hTS
    refine CI_new tab69 ?_ rfl
    rw [←List.append_assoc,←e1]
    have hb0:=hb []
    rw [List.append_nil] at hb0
    clear hst hTS hT e1 hb
    generalize lookS p (σ++[Obj.box p.cs, .box t.cs]) p.cm++τ1=σ2 at*
    generalize p.cs=pc at*
    generalize t.cs=tc at*
    generalize seenC S'=sc at*
    simp [bodyI,af69,getA0,getA,hall,hpl,hpt,y1,y2,y3,h55,h65,hb0,h0,h7,h58,h118,fillD]
 ·rw [if_neg he]
  refine ⟨fun h=>absurd h he,fun _=> ?_⟩
  rw [outR_ne he] at h65
  refine CI_panic tab69 (τ:=([.box p.cs, .box t.cs]++([.box p.cs, .map (kvs p.cm), .box (p.cs++[.map (σ.length+2+1)])]++τ1))) ?_ rfl
  rw [←e1]
  have hb0:=hb []
  rw [List.append_nil] at hb0
  clear hT e1 hb
  generalize lookS p (σ++[Obj.box p.cs, .box t.cs]) p.cm++τ1=σ2 at*
  generalize p.tyE t=e at*
  generalize p.cs=pc at*
  generalize t.cs=tc at*
  simp [bodyI,af69,getA0,getA,hall,hpl,hpt,y1,y2,y3,h55,h65,hb0]
set_option maxHeartbeats 2000000 in
theorem it70 (p:Prg) (m:CMap) (hfew:p.few) (t:Ty) (hty: (Mt.mk t [] []).wf p) (tb n:Nat) (hn:n≤7) (h119: ∀j,j≤n→C119 p m tb j) (b:Nat) (σ:St) (hT:IsT σ tb p m) (hb:σ[b]? =some (.box t.cs)): ∀ (k j:Nat),j+k=n+1→
 iterI (evalI CI XB GI 23 false lp70_0) [(0, .ptr tb 0),(4, .ptr b 0),(7, .int .i64 (sumTo (t.cnt p) j:Nat)),(10, .int .i64 ((n:Int) +1)),(11, .int .i64 (j:Nat))] σ=
  some (.exit 0,[(0, .ptr tb 0),(4, .ptr b 0),(7, .int .i64 (p.tot t n:Nat)),(10, .int .i64 ((n:Int) +1)),(11, .int .i64 ((n:Int) +1)),(12, .bool false)],σ)
 |0,j,hj=>by
  obtain rfl:j=n+1:=by omega
  refine iterI_end ?_ (by simp)
  unfold Prg.tot
  generalize sumTo (t.cnt p) (n+1)=S
  simp [lp70_0]
 |k+1,j,hj=>by
  rw [←it70 p m hfew t hty tb n hn h119 b σ hT hb k (j+1) (by omega)]
  refine iterI_next ?_
  have hc:=h119 j (by omega) _ _ σ hty (top_at t σ) hT
  rw [top_ty] at hc
  have hw:=wrap_nat (n:=j) (by omega)
  have hjj: (j:Int) < (n:Int) +1:=by omega
  have h1:=sumTo_mono (t.cnt p) (show j+1≤n+1 by omega)
  have h2:=tot_le hfew t n hn
  unfold Prg.tot at h2
  have h3:sumTo (t.cnt p) (j+1)=sumTo (t.cnt p) j+t.cnt p j:=rfl
  rw [h3] at h1 ⊢
  have w1:IntKind.i64.wrap ((sumTo (t.cnt p) j:Int) + (t.cnt p j:Int))=(sumTo (t.cnt p) j:Int) + (t.cnt p j:Int):=wrap_i64 (by omega) (by omega)
  obtain ⟨k1,n1,s1,a1,b1,t1,htc⟩: ∃k1 n1 s1 a1 b1 t1,t.cs=[.int .i64 k1, .int .i64 n1, .str s1, .slice a1, .slice b1, .int .i64 t1]:=by
   rcases t with ⟨k,n,s,l,ls,tail⟩;exact ⟨_,_,_,_,_,_,by simp only [Ty.cs];rfl⟩
  rw [htc] at hb hc
  simp only [List.cons_append,List.nil_append] at hc
  generalize t.cnt p j=c at*
  generalize sumTo (t.cnt p) j=S at*
  simp [lp70_0,hjj,hw,hb,hc,w1,fillD,putCells]
theorem c70 (p:Prg) (m:CMap) (hdl:p.data.length≤12) (hls: ∀d ∈ p.data,d.fit p) (hfew:p.few) (t:Ty) (hty: (Mt.mk t [] []).wf p) (tb n:Nat) (hn:n≤7) (σ:St) (hT:IsT σ tb p m):
 CI (.fn 70) [.ptr tb 0, .agg t.cs, .int .i64 n] σ=some (.ret (.int .i64 (p.tot t n)),σ):=by
 have hit:=it70 p m hfew t hty tb n hn (fun j hj=>c119 p m hdl hls hfew tb j (by omega)) σ.length (σ++[.box t.cs]) hT.app (by rw [getA0];rfl) (n+1) 0 (by omega)
 have hall:t.cs.all D.one=true:=by cases t;rfl
 have hw:=wrap_nat (n:=n) (by omega)
 simp only [sumTo,Int.natCast_zero] at hit
 have hτ:bodyI CI XB GI af70 [.ptr tb 0, .agg t.cs, .int .i64 n] σ=some (.ret (.int .i64 (p.tot t n)),σ++[.box t.cs]):=by
  generalize t.cs=tc at*
  generalize p.tot t n=v at*
  simp [bodyI,af70,hall,hw,hit]
 exact CI_tree tab70 hτ rfl rfl
noncomputable def Prg.cntV (p:Prg) (t:Ty) (n:Int):Nat:=if p.cntE t n=0 then p.tot t n.toNat else 0
set_option maxHeartbeats 4000000 in
theorem c68 (p:Prg) (hok:p.ok) (t:Ty) (ht:t.ok) (n:Int) (a b q c:Nat) (σ:St) (ha:σ[a]? =some (.box p.cs)) (hb:σ[b]? =some (.box t.cs)) (hq:σ[q]? =some (.box [.int .i64 n])) (hc:σ[c]? =some (.box [.int .i64 0])):
 CI (.fn 68) [.ptr a 0, .ptr b 0, .ptr q 0, .ptr c 0] σ=some (outR (p.cntE t n),σ.set c (.box [.int .i64 (p.cntV t n)])):=by
 obtain ⟨h69a,h69b⟩:=c69 p hok t ht n σ
 have hpl:=p.cs_len
 have hpt:=p.cs_take
 have y1:=t.cs_len
 have y2:=t.cs_take
 have hcl:=lt_of_get hc
 have e3:eqbL p.cs p.cs=true:=eqbL_tree _ p.plain.1
 have e4:eqbL t.cs t.cs=true:=eqbL_tree _ t.plain.1
 have q69:qI 69=false:=rfl
 have x69:XB 69=false:=rfl
 have q70:qI 70=false:=rfl
 have x70:XB 70=false:=rfl
 unfold Prg.cntV
 by_cases he:p.cntE t n=0
 ·obtain ⟨h1,h2,h3,_⟩:=cntE_zero he
  obtain ⟨z1,_,_,_⟩:=tyE_zero h1
  obtain ⟨hdl,hls⟩:=decls_fit z1
  obtain ⟨i,τ,h69,hT⟩:=h69a he
  obtain ⟨k,rfl⟩: ∃k:Nat,n=k:=⟨n.toNat,by omega⟩
  have h70:=c70 p p.cm hdl hls (decls_few z1) t (top_wf h1) (σ.length+i) k (by omega) (σ++τ) hT
  have hb2: (σ++τ)[b]? =some (.box t.cs):=getO hb
  have hq2: (σ++τ)[q]? =some (.box [.int .i64 k]):=getO hq
  have hc2: (σ++τ)[c]? =some (.box [.int .i64 0]):=getO hc
  rw [he,if_pos rfl,outR_zero,Int.toNat_natCast]
  have hset: ∀o,(σ++τ).set c o=σ.set c o++τ:=fun o=>setO hcl
  have hτ:bodyI CI XB GI af68 [.ptr a 0, .ptr b 0, .ptr q 0, .ptr c 0] σ=some (.ret (.tuple []),σ.set c (.box [.int .i64 (p.tot t k)])++τ):=by
   rw [←hset]
   clear hset hT
   generalize p.tot t k=v at*
   generalize σ++τ=σ2 at*
   generalize p.cs=pc at*
   generalize t.cs=tc at*
   simp [bodyI,af68,ha,hb,hq,hb2,hq2,hc2,hpl,hpt,y1,y2,e3,e4,h69,h70,q69,x69,q70,x70,putCells,log128b,Nat.testBit_eq_decide_div_mod_eq]
  refine CI_fn tab68 hτ ?_
  rw [postI_set (by simp [Obj.under,underL,D.under]) rfl rfl]
  simp [D.weak,weakL]
 ·rw [if_neg he]
  have hid:σ.set c (.box [.int .i64 ((0:Nat):Int)])=σ:=by
   obtain ⟨h1,h2⟩:=List.getElem?_eq_some_iff.1 hc
   rw [Int.natCast_zero,←h2];exact List.set_getElem_self h1
  rw [hid,outR_ne he]
  have h69:=h69b he
  refine CI_panic tab68 (τ:=[]) ?_ rfl
  rw [List.append_nil]
  generalize p.cntE t n=e at*
  generalize p.cs=pc at*
  generalize t.cs=tc at*
  simp [bodyI,af68,ha,hb,hq,hpl,hpt,y1,y2,e3,e4,h69,q69,x69,q70,x70,log128b,Nat.testBit_eq_decide_div_mod_eq]
theorem c22 (p:Prg) (hok:p.ok) (t:Ty) (ht:t.ok) (n:Int) (σ:St):CI (.fn 22) [.agg p.cs, .agg t.cs, .int .i64 n] σ=some (.ret (.tuple [.int .i64 (p.cntV t n), .int .i64 (p.cntE t n)]),σ):=by
 have h68:=c68 p hok t ht n σ.length (σ.length+1) (σ.length+2) (σ.length+3) (σ++[Obj.box p.cs, .box t.cs, .box [.int .i64 n], .box [.int .i64 0]]++[Obj.box [.int .i64 0]]) (by rw [List.append_assoc];exact getA0) (by rw [List.append_assoc];exact getA) (by rw [List.append_assoc];exact getA) (by rw [List.append_assoc];exact getA)
 have hset: ∀o,(σ++[Obj.box p.cs, .box t.cs, .box [.int .i64 n], .box [.int .i64 0]]++[Obj.box [.int .i64 0]]).set (σ.length+3) o=σ++[Obj.box p.cs, .box t.cs, .box [.int .i64 n],o]++[Obj.box [.int .i64 0]]:=fun o=>by
  rw [List.append_assoc,setA,List.append_assoc];rfl
 rw [hset] at h68
 have h54:=c54g 68 [] [.ptr σ.length 0, .ptr (σ.length+1) 0, .ptr (σ.length+2) 0, .ptr (σ.length+3) 0] _ (σ++[Obj.box p.cs, .box t.cs, .box [.int .i64 n], .box [.int .i64 0]]) (σ++[Obj.box p.cs, .box t.cs, .box [.int .i64 n], .box [.int .i64 (p.cntV t n)]]) (by simp) (fun j hj=>by
  by_cases h2:j=σ.length+3
  ·subst h2
   exact .inr ⟨_,by rw [getA];rfl,by simp [Obj.under,underL,D.under]⟩
  ·left
   rcases Nat.lt_or_ge j σ.length with hlt|hge
   ·rw [List.getElem?_append_left hlt,List.getElem?_append_left hlt]
   ·obtain ⟨i,rfl⟩: ∃i,j=σ.length+i:=⟨j - σ.length,by omega⟩
    rw [getA,getA]
    simp at hj
    match i,hj,h2 with
    |0,_,_=>rfl
    |1,_,_=>rfl
    |2,_,_=>rfl
    |3,_,h2=>omega) h68
 have hτ:bodyI CI XB GI af22 [.agg p.cs, .agg t.cs, .int .i64 n] σ=some (.ret (.tuple [.int .i64 (p.cntV t n), .int .i64 (p.cntE t n)]),σ++[.box p.cs, .box t.cs, .box [.int .i64 n], .box [.int .i64 (p.cntV t n)]]):=by
  have h1:=p.cs_all
  have h2:t.cs.all D.one=true:=by cases t;rfl
  have hz:p.cntE t n≠0→p.cntV t n=0:=fun h=>by unfold Prg.cntV;rw [if_neg h]
  generalize p.cntE t n=e at*
  generalize p.cntV t n=v at*
  generalize p.cs=pc at*
  generalize t.cs=tc at*
  by_cases he:e=0
  ·subst he
   simp [bodyI,af22,h1,h2,h54,getA,getA0,setA,putCells]
  ·obtain rfl:=hz he
   have he': (e != 0)=true:=by simpa using he
   simp [bodyI,af22,h1,h2,h54,getA,getA0,setA,putCells,he']
 exact CI_tree tab22 hτ rfl rfl
def tyX (k:Int) (s:Bs) (l:List Ty):Ty:= .mk k 0 s l [] 0
def exP:Prg:=⟨[⟨[76,105,115,116],[[97]],[⟨[78,105,108],[]⟩,⟨[67,111,110,115],[tyX 1 [97] [],tyX 6 [76,105,115,116] [tyX 1 [97] []]]⟩]⟩,⟨[86,111,105,100],[],[]⟩,
 ⟨[84,114,101,101],[],[⟨[76,101,97,102],[]⟩,⟨[78,111,100,101],[tyX 6 [84,114,101,101] [],tyX 2 [] [],tyX 6 [84,114,101,101] []]⟩]⟩,⟨[76,111,111,112],[],[⟨[77,111,114,101],[tyX 6 [76,111,111,112] []]⟩]⟩],
 [⟨[83,116,97,116,101],[⟨[103,101,116],tyX 4 [] [],tyX 2 [] [],false⟩,⟨[112,117,116],tyX 2 [] [],tyX 4 [] [],false⟩]⟩,⟨[69,120,99],[⟨[114,97,105,115,101],tyX 4 [] [],tyX 6 [86,111,105,100] [],true⟩]⟩],[],unitE⟩
def loopT:Ty:=tyX 6 [76,111,111,112] []
theorem loop7_eq:loop7=[.agg exP.cs, .agg loopT.cs, .int .i64 7]:=rfl
theorem tyX_ok (k:Int) (s:Bs) {l:List Ty} (hl:l.length≤4) (h:tysOk l): (tyX k s l).ok:=⟨by unfold maxL;omega,by simp [maxL],h⟩
theorem tyX_ok0 (k:Int) (s:Bs): (tyX k s []).ok:=tyX_ok k s (by simp) trivial
theorem tyX_ok1 (k j:Int) (s t:Bs): (tyX k s [tyX j t []]).ok:=tyX_ok k s (by simp) ⟨tyX_ok0 j t,trivial⟩
theorem exP_ok:exP.ok:=by
 refine ⟨by simp [exP,maxL], ?_,by simp [exP,maxL], ?_,by simp [exP,maxL],by simp [exP], ?_⟩
 ·simp only [exP,List.mem_cons,List.not_mem_nil,or_false,forall_eq_or_imp,forall_eq]
  simp [Dat.ok,Con.ok,maxL,tysOk,tyX_ok0,tyX_ok1]
 ·simp only [exP,List.mem_cons,List.not_mem_nil,or_false,forall_eq_or_imp,forall_eq]
  simp [Eff.ok,Opn.ok,maxL,tyX_ok0]
 ·exact ⟨by simp [maxL],by simp [maxL],by simp [maxL],trivial,trivial⟩
theorem loop_ty:exP.tyE loopT=0:=by decide+kernel
theorem loop_tot:exP.tot loopT 7=0:=by decide+kernel
theorem loop_ix:datIx exP [76,111,111,112]=3:=by decide+kernel
theorem loop_nf:noFun exP loopT:=by
 have hf:Ty.ff exP (fun i=>i=3) (tyX 6 [76,111,111,112] []):=by
  simp only [tyX,Ty.ff,tysFf]
  exact ⟨by decide,fun _=>loop_ix,trivial⟩
 refine ⟨fun i=>i=3,fun i hi h=> ?_,hf⟩
 subst h
 intro c hc a ha
 have hd:exP.data[3].cons=[⟨[77,111,114,101],[tyX 6 [76,111,111,112] []]⟩]:=rfl
 rw [hd] at hc
 simp only [List.mem_singleton] at hc
 subst hc
 simp only [List.mem_singleton] at ha
 subst ha
 exact hf
theorem loop_E:exP.cntE loopT 7=0:=by
 unfold Prg.cntE
 have:exP.hasF loopT=false:=by unfold Prg.hasF;simp [loop_nf]
 rw [loop_ty,this]
 simp [orE]
theorem loop_V:exP.cntV loopT 7=0:=by
 unfold Prg.cntV
 rw [if_pos loop_E]
 exact loop_tot
theorem pure_loop7:PureCall Tryz.prog GC 22 loop7 (.tuple [o,o]):=by
 have h:=c22 exP exP_ok loopT (tyX_ok0 6 _) 7 []
 rw [loop_E,loop_V] at h
 have hp:=pure_ofI extRI (f:=22) (r:= .tuple [o,o]) rfl h
 rw [loop7_eq]
 exact fun fx W vs h hG ha=>hp fx W vs h hG ha
end Go.AI
namespace Go.AI
open Go Go.Proofs
set_option maxRecDepth 100000
theorem wc15_0:isAt (extOf W95) 400 15 ((w15[0]?).getD ([],o))=true:=by kernel_rfl
theorem wc15: ∀p ∈ w15,Comp tabT (extOf W95) GC 15 p.1 p.2:=by
 intro p hp
 unfold w15 at hp
 simp only [List.mem_cons,List.not_mem_nil,or_false] at hp
 subst hp
 exact isAt_comp wc15_0
def W15:ExtL:=(15,memo w15)::W95
theorem extW15:ExtR Tryz.prog GC (extOf W15):=ExtR.over extW95 extW95 real15 (memo_comp wc15)
theorem wc20_0:isAt (extOf W95) 400 20 ((w20[0]?).getD ([],o))=true:=by kernel_rfl
theorem wc20_1:isAt (extOf W95) 400 20 ((w20[1]?).getD ([],o))=true:=by kernel_rfl
theorem wc20: ∀p ∈ w20,Comp tabT (extOf W95) GC 20 p.1 p.2:=by
 intro p hp
 unfold w20 at hp
 simp only [List.mem_cons,List.not_mem_nil,or_false] at hp
 rcases hp with rfl|rfl
 ·exact isAt_comp wc20_0
 ·exact isAt_comp wc20_1
def W20:ExtL:=(20,memo w20)::W15
theorem extW20:ExtR Tryz.prog GC (extOf W20):=ExtR.over extW95 extW15 real20 (memo_comp wc20)
theorem wc22_0:isAt (extOf W95) 400 22 ((w22[0]?).getD ([],o))=true:=by kernel_rfl
theorem wc22: ∀p ∈ w22,Comp tabT (extOf W95) GC 22 p.1 p.2:=by
 intro p hp
 unfold w22 at hp
 simp only [List.mem_cons,List.not_mem_nil,or_false] at hp
 subst hp
 exact isAt_comp wc22_0
def W22:ExtL:=(22,fun a=>if eqbL loop7 a then some (.tuple [o,o]) else memo w22 a)::W20
theorem extW22:ExtR Tryz.prog GC (extOf W22):=by
 refine ExtR.cons extW20 real22 fun args r ht hr=> ?_
 split at hr
 ·rename_i he
  cases hr
  rw [←eqbL_eq _ _ he]
  exact ⟨rfl,pure_loop7⟩
 ·obtain ⟨k,d,hd,rfl⟩:=memo_comp wc22 args r hr
  obtain ⟨_,h1,h2⟩:=pure_of_eval extW95 tabR isGC.tree isGC.natR isGC.post mixed hd
  exact ⟨D.weak_tree d h1,fun fx W vs hfx hG ha=>(h2 fx W vs hfx hG ha).mono fun en w hw=>hw.weak⟩
theorem wc24_0:isAt (extOf W95) 400 24 ((w24[0]?).getD ([],o))=true:=by kernel_rfl
theorem wc24: ∀p ∈ w24,Comp tabT (extOf W95) GC 24 p.1 p.2:=by
 intro p hp
 unfold w24 at hp
 simp only [List.mem_cons,List.not_mem_nil,or_false] at hp
 subst hp
 exact isAt_comp wc24_0
def W24:ExtL:=(24,memo w24)::W22
theorem extW24:ExtR Tryz.prog GC (extOf W24):=ExtR.over extW95 extW22 real24 (memo_comp wc24)
theorem wc26_0:isAt (extOf W95) 400 26 ((w26[0]?).getD ([],o))=true:=by kernel_rfl
theorem wc26_1:isAt (extOf W95) 400 26 ((w26[1]?).getD ([],o))=true:=by kernel_rfl
theorem wc26: ∀p ∈ w26,Comp tabT (extOf W95) GC 26 p.1 p.2:=by
 intro p hp
 unfold w26 at hp
 simp only [List.mem_cons,List.not_mem_nil,or_false] at hp
 rcases hp with rfl|rfl
 ·exact isAt_comp wc26_0
 ·exact isAt_comp wc26_1
def W26:ExtL:=(26,memo w26)::W24
theorem extW26:ExtR Tryz.prog GC (extOf W26):=ExtR.over extW95 extW24 real26 (memo_comp wc26)
theorem wc32_0:isAt (extOf W95) 400 32 ((w32[0]?).getD ([],o))=true:=by kernel_rfl
theorem wc32: ∀p ∈ w32,Comp tabT (extOf W95) GC 32 p.1 p.2:=by
 intro p hp
 unfold w32 at hp
 simp only [List.mem_cons,List.not_mem_nil,or_false] at hp
 subst hp
 exact isAt_comp wc32_0
def W32:ExtL:=(32,memo w32)::W26
theorem extW32:ExtR Tryz.prog GC (extOf W32):=ExtR.over extW95 extW26 real32 (memo_comp wc32)
theorem wc34_0:isAt (extOf W95) 400 34 ((w34[0]?).getD ([],o))=true:=by kernel_rfl
theorem wc34_1:isAt (extOf W95) 400 34 ((w34[1]?).getD ([],o))=true:=by kernel_rfl
theorem wc34_2:isAt (extOf W95) 400 34 ((w34[2]?).getD ([],o))=true:=by kernel_rfl
theorem wc34: ∀p ∈ w34,Comp tabT (extOf W95) GC 34 p.1 p.2:=by
 intro p hp
 unfold w34 at hp
 simp only [List.mem_cons,List.not_mem_nil,or_false] at hp
 rcases hp with rfl|rfl|rfl
 ·exact isAt_comp wc34_0
 ·exact isAt_comp wc34_1
 ·exact isAt_comp wc34_2
def W34:ExtL:=(34,memo w34)::W32
theorem extW34:ExtR Tryz.prog GC (extOf W34):=ExtR.over extW95 extW32 real34 (memo_comp wc34)
theorem wc38_0:isAt (extOf W95) 400 38 ((w38[0]?).getD ([],o))=true:=by kernel_rfl
theorem wc38_1:isAt (extOf W95) 400 38 ((w38[1]?).getD ([],o))=true:=by kernel_rfl
theorem wc38_2:isAt (extOf W95) 400 38 ((w38[2]?).getD ([],o))=true:=by kernel_rfl
theorem wc38: ∀p ∈ w38,Comp tabT (extOf W95) GC 38 p.1 p.2:=by
 intro p hp
 unfold w38 at hp
 simp only [List.mem_cons,List.not_mem_nil,or_false] at hp
 rcases hp with rfl|rfl|rfl
 ·exact isAt_comp wc38_0
 ·exact isAt_comp wc38_1
 ·exact isAt_comp wc38_2
def W38:ExtL:=(38,memo w38)::W34
theorem extW38:ExtR Tryz.prog GC (extOf W38):=ExtR.over extW95 extW34 real38 (memo_comp wc38)
theorem wc40_0:isAt (extOf W95) 400 40 ((w40[0]?).getD ([],o))=true:=by kernel_rfl
theorem wc40_1:isAt (extOf W95) 400 40 ((w40[1]?).getD ([],o))=true:=by kernel_rfl
theorem wc40: ∀p ∈ w40,Comp tabT (extOf W95) GC 40 p.1 p.2:=by
 intro p hp
 unfold w40 at hp
 simp only [List.mem_cons,List.not_mem_nil,or_false] at hp
 rcases hp with rfl|rfl
 ·exact isAt_comp wc40_0
 ·exact isAt_comp wc40_1
def W40:ExtL:=(40,memo w40)::W38
theorem extW40:ExtR Tryz.prog GC (extOf W40):=ExtR.over extW95 extW38 real40 (memo_comp wc40)
def W16:ExtL:=(16,g16)::W40
theorem extW16:ExtR Tryz.prog GC (extOf W16):=by
 refine ExtR.cons extW40 real16 fun args r _ h=> ?_
 unfold g16 at h
 split at h
 ·cases h;exact ⟨rfl,pure16⟩
 ·cases h
theorem ev10:fnTree tabT (extOf W16) GC 60 10 []=some (.bool true):=by kernel_rfl
theorem pure10:PureCall Tryz.prog GC 10 [] (.bool true):=(pure_of_eval extW16 tabR isGC.tree isGC.natR isGC.post mixed ev10).2.2
end Go.AI
namespace Go.Proofs.YtgenoggafhhgfaaGreatDoor
open Go Go.AI Go.ChangeShapes Go.WideShapes Go.ChangeAt Go.RowKit
theorem calls_trueP {W:World} {f:FuncId} {ds:List D} {vs:Array Value} (hC:PureCall Tryz.prog GC f ds (.bool true)) (hL:laidMetH Tryz.prog laid3 W) (ha:Rs (bare (oldB W)) W ds vs):
 Calls Tryz.prog f vs W fun e W'=>e= .returned (.bool true)∧Below W.heap.size W W':=by
 have hG:GlobR (bare (oldB W)) W GC:=fun g cs h=>glob_ok hL g cs h
 refine (hC (oldB W) W vs (fun b hb=>hb) hG ha).mono ?_
 rintro e w ⟨fx',v,rfl, -, -,h3,h4,h5,h6,h7,hr⟩
 exact ⟨by rw [hr.bool_inv],⟨h5,h6,h7,h4,h3⟩⟩
end Go.Proofs.YtgenoggafhhgfaaGreatDoor
