/- Texts of the proof: what functions of the program compute, step by step. No conditions of its own. -/
import Derived.Test.YtgenoggafhhgfaaGreatDoorH11
import Derived.Test.YtgenoggafhhgfaaGreatDoorH10
set_option linter.unusedVariables false
set_option linter.unusedSimpArgs false
namespace Go.AI
open Go Go.Proofs Go.Lx
set_option maxRecDepth 100000
noncomputable def Prg.gY (p:Prg) (t:Ty) (n:Int):Int:=orE (p.tyE t) (if n<0\/7<n then 1 else if p.kq t then 8 else 0)
def Prg.tot (p:Prg) (t:Ty) (n:Nat):Nat:=bT (t.cnt p) (n+1)
theorem jR {p:Prg} {t:Ty} {n:Int} (h:p.gY t n=0):p.tyE t=0/\0<=n/\n<=7/\p.kq t=false:=by
 obtain ⟨h1,h2⟩:=eG.1 h
 split at h2
 ·cases h2
 ·split at h2
  ·cases h2
  ·rename_i h3 h4
   exact ⟨h1,by omega,by omega,by simpa using h4⟩
theorem fB {p:Prg} (h:p.decls=0):p.few:=by
 obtain ⟨hs,_⟩:=eG.1 h
 obtain ⟨_,_,_,hs3,_⟩:=Prg.iO hs
 intro d hd
 obtain ⟨_,a2,_⟩:=gE (hs3 d hd)
 exact ⟨a2,fun c hc=>(q5 h hd hc).2.1⟩
theorem r9 {g:Nat->Nat} {b:Nat} : ∀ (m:Nat),(∀i,i<m->g i<=b)->bT g m<=m*b
 |0,_=>by simp [bT]
 |m+1,h=>by
  have h1:=r9 m fun i hi=>h i (by omega)
  have h2:=h m (by omega)
  simp only [bT,Nat.succ_mul];omega
theorem yt {p:Prg} (h:p.few) (t:Ty) (n:Nat) (hn:n<=7):p.tot t n<=218103808:=by
 obtain ⟨b,hb⟩: ∃b,b=27262976:=⟨_,rfl⟩
 have h1:=r9 (g:=t.cnt p) (b:=b) (n+1) fun i hi=>hb ▸ Nat.le_trans (lO h t i (by omega)) (rY i (by omega))
 have h2: (n+1) *b<=8*b:=Nat.mul_le_mul_right _ (by omega)
 unfold Prg.tot;omega
theorem Pn:dQ (fun _=>false)=[.int .i64 0, .int .i64 0, .int .i64 0, .int .i64 0, .int .i64 0, .int .i64 0, .int .i64 0, .int .i64 0, .int .i64 0, .int .i64 0, .int .i64 0, .int .i64 0]:=rfl
theorem uK {p:Prg} {t:Ty} (h:p.tyE t=0): (Mt.mk t [] []).wf p:=by
 obtain ⟨_,z2,_,z4⟩:=gV h
 exact ⟨Ty.mH z2,z4,rfl,by simp,trivial⟩
theorem EJ (t:Ty) (σ:St): (Mt.mk t [] []).at σ (.agg (t.cs++[.bL])):=Mt.gj.2 ⟨_,rfl, .inl ⟨rfl,rfl,rfl⟩⟩
theorem yu (t:Ty): (Mt.mk t [] []).ty=t:=by simp only [Mt.ty,aP,Ty.CN]
set_option maxHeartbeats 4000000 in
theorem c69 (p:Prg) (hok:p.ok) (t:Ty) (ht:t.ok) (n:Int) (σ:St):
 (p.gY t n=0-> ∃i τ,CI (.fn 69) [.agg p.cs, .agg t.cs, .int .i64 n] σ=some (.ret (.ptr (σ.length+i) 0),σ++τ)/\IsT (σ++τ) (σ.length+i) p p.cm)/\
 (p.gY t n≠0->CI (.fn 69) [.agg p.cs, .agg t.cs, .int .i64 n] σ=some (.panic (fH (p.gY t n)),σ)):=by
 have hall:=p.bJ
 have hpl:=p.aL
 have hpt:=p.aM
 have y1:=t.aL
 have y2:=t.aM
 have y3:t.cs.all D.one=true:=by cases t;rfl
 have hl2: (σ++[Obj.box p.cs, .box t.cs]).length=σ.length+2:=by simp
 obtain ⟨τ1,h55⟩:=c55 p hok.dl hok.d (σ++[.box p.cs, .box t.cs])
 have hT:=Ge p (σ++[Obj.box p.cs, .box t.cs]) τ1
 have h65:=c65 p p.cm hok t ht _ _ hT
 have e1:c6 p (σ++[Obj.box p.cs, .box t.cs]) p.cm++τ1=σ++([.box p.cs, .box t.cs]++([.box p.cs, .map (kvs p.cm), .box (p.cs++[.map (σ.length+2+1)])]++τ1)):=by
  unfold c6;simp
 have hb: ∀τ,(c6 p (σ++[Obj.box p.cs, .box t.cs]) p.cm++τ1++τ)[σ.length+1]? =some (.box t.cs):=fun τ=>by rw [e1,List.append_assoc];exact aS
 have h58:=fun e σ=>c58 e σ
 rw [hl2] at h55 h65 hT
 unfold Prg.gY orE
 by_cases he:p.tyE t=0
 ·rw [if_pos he]
  rw [he,cr] at h65
  obtain ⟨z1,z2,_,z4⟩:=gV he
  obtain ⟨hdl,hls⟩:=gF z1
  obtain ⟨S',h118⟩:=EI p p.cm hdl hls (σ.length+2+2) (c6 p (σ++[Obj.box p.cs, .box t.cs]) p.cm++τ1).length t (Ty.mH z2) z4 (c6 p (σ++[Obj.box p.cs, .box t.cs]) p.cm++τ1++[.box (dQ fun _=>false)]) hT.app (by rw [az];rfl)
  have hst:stS (c6 p (σ++[Obj.box p.cs, .box t.cs]) p.cm++τ1++[.box (dQ fun _=>false)]) (c6 p (σ++[Obj.box p.cs, .box t.cs]) p.cm++τ1).length S'=c6 p (σ++[Obj.box p.cs, .box t.cs]) p.cm++τ1++[.box (dQ S')]:=by
   unfold stS;rw [aN];rfl
  rw [hst,Pn] at h118
  have hTS:IsT (c6 p (σ++[Obj.box p.cs, .box t.cs]) p.cm++τ1++[.box (dQ S')]) (σ.length+2+2) p p.cm:=hT.app
  by_cases hn:n<0\/7<n
  ·rw [if_pos hn]
   refine ⟨fun h=>(by cases h),fun _=> ?_⟩
   refine iP CU (τ:=([.box p.cs, .box t.cs]++([.box p.cs, .map (kvs p.cm), .box (p.cs++[.map (σ.length+2+1)])]++τ1))) ?_ rfl
   rw [<-e1]
   have hb0:=hb []
   rw [List.append_nil] at hb0
   clear h118 hst hTS hT e1 hb
   generalize c6 p (σ++[Obj.box p.cs, .box t.cs]) p.cm++τ1=σ2 at*
   generalize p.cs=pc at*
   generalize t.cs=tc at*
   by_cases h0:n<0
   ·simp [ah,Am,az,aS,hall,hpl,hpt,y1,y2,y3,h55,h65,hb0,h0,h58,fH]
   ·have h7:7<n:=by omega
    simp [ah,Am,az,aS,hall,hpl,hpt,y1,y2,y3,h55,h65,hb0,h0,h7,h58,fH]
  ·rw [if_neg hn]
   have h0: ¬n<0:=by omega
   have h7: ¬7<n:=by omega
   cases hf:p.kq t with
   |true=>
    rw [hf] at h118
    simp only [if_true]
    refine ⟨fun h=>(by cases h),fun _=> ?_⟩
    refine iP CU (τ:=([.box p.cs, .box t.cs]++([.box p.cs, .map (kvs p.cm), .box (p.cs++[.map (σ.length+2+1)])]++τ1))++[.box (dQ S')]) ?_ rfl
    rw [<-List.append_assoc,<-e1]
    have hb0:=hb []
    rw [List.append_nil] at hb0
    clear hst hTS hT e1 hb
    generalize c6 p (σ++[Obj.box p.cs, .box t.cs]) p.cm++τ1=σ2 at*
    generalize p.cs=pc at*
    generalize t.cs=tc at*
    generalize dQ S'=sc at*
    simp [ah,Am,az,aS,hall,hpl,hpt,y1,y2,y3,h55,h65,hb0,h0,h7,h58,h118,bQ,fH]
   |false=>
    rw [hf] at h118
    refine ⟨fun _=>⟨2+2,([.box p.cs, .box t.cs]++([.box p.cs, .map (kvs p.cm), .box (p.cs++[.map (σ.length+2+1)])]++τ1))++[.box (dQ S')], ?_, ?_⟩,fun h=>absurd rfl h⟩
    rotate_left
    ·rw [<-List.append_assoc,<-e1,<-Nat.add_assoc];exact hTS
    refine EK CU ?_ rfl
    rw [<-List.append_assoc,<-e1]
    have hb0:=hb []
    rw [List.append_nil] at hb0
    clear hst hTS hT e1 hb
    generalize c6 p (σ++[Obj.box p.cs, .box t.cs]) p.cm++τ1=σ2 at*
    generalize p.cs=pc at*
    generalize t.cs=tc at*
    generalize dQ S'=sc at*
    simp [ah,Am,az,aS,hall,hpl,hpt,y1,y2,y3,h55,h65,hb0,h0,h7,h58,h118,bQ]
 ·rw [if_neg he]
  refine ⟨fun h=>absurd h he,fun _=> ?_⟩
  rw [cG he] at h65
  refine iP CU (τ:=([.box p.cs, .box t.cs]++([.box p.cs, .map (kvs p.cm), .box (p.cs++[.map (σ.length+2+1)])]++τ1))) ?_ rfl
  rw [<-e1]
  have hb0:=hb []
  rw [List.append_nil] at hb0
  clear hT e1 hb
  generalize c6 p (σ++[Obj.box p.cs, .box t.cs]) p.cm++τ1=σ2 at*
  generalize p.tyE t=e at*
  generalize p.cs=pc at*
  generalize t.cs=tc at*
  simp [ah,Am,az,aS,hall,hpl,hpt,y1,y2,y3,h55,h65,hb0]
set_option maxHeartbeats 2000000 in
theorem Po (p:Prg) (m:b9) (cj:p.few) (t:Ty) (hty: (Mt.mk t [] []).wf p) (tb n:Nat) (hn:n<=7) (h119: ∀j,j<=n->DP p m tb j) (b:Nat) (σ:St) (hT:IsT σ tb p m) (hb:σ[b]? =some (.box t.cs)): ∀ (k j:Nat),j+k=n+1->
 aU (aD CI XB GI 23 false yw) [(0, .ptr tb 0),(4, .ptr b 0),(7, .int .i64 (bT (t.cnt p) j:Nat)),(10, .int .i64 ((n:Int) +1)),(11, .int .i64 (j:Nat))] σ=
  some (.exit 0,[(0, .ptr tb 0),(4, .ptr b 0),(7, .int .i64 (p.tot t n:Nat)),(10, .int .i64 ((n:Int) +1)),(11, .int .i64 ((n:Int) +1)),(12, .bool false)],σ)
 |0,j,hj=>by
  obtain rfl:j=n+1:=by omega
  refine aH ?_ (by simp)
  unfold Prg.tot
  generalize bT (t.cnt p) (n+1)=S
  simp [yw]
 |k+1,j,hj=>by
  rw [<-Po p m cj t hty tb n hn h119 b σ hT hb k (j+1) (by omega)]
  refine aO ?_
  have hc:=h119 j (by omega) _ _ σ hty (EJ t σ) hT
  rw [yu] at hc
  have hw:=aI (n:=j) (by omega)
  have hjj: (j:Int) < (n:Int) +1:=by omega
  have h1:=fR (t.cnt p) (show j+1<=n+1 by omega)
  have h2:=yt cj t n hn
  unfold Prg.tot at h2
  have h3:bT (t.cnt p) (j+1)=bT (t.cnt p) j+t.cnt p j:=rfl
  rw [h3] at h1 ⊢
  have w1:IntKind.i64.wrap ((bT (t.cnt p) j:Int) + (t.cnt p j:Int))=(bT (t.cnt p) j:Int) + (t.cnt p j:Int):=wrap_i64 (by omega) (by omega)
  obtain ⟨k1,n1,s1,a1,b1,t1,htc⟩: ∃k1 n1 s1 a1 b1 t1,t.cs=[.int .i64 k1, .int .i64 n1, .str s1, .slice a1, .slice b1, .int .i64 t1]:=by
   rcases t with ⟨k,n,s,l,ls,tail⟩;exact ⟨_,_,_,_,_,_,by simp only [Ty.cs];rfl⟩
  rw [htc] at hb hc
  simp only [List.cons_append,List.nil_append] at hc
  generalize t.cnt p j=c at*
  generalize bT (t.cnt p) j=S at*
  simp [yw,hjj,hw,hb,hc,w1,bQ,aE]
theorem c70 (p:Prg) (m:b9) (hdl:p.data.length<=12) (hls: ∀d ∈ p.data,d.fit p) (cj:p.few) (t:Ty) (hty: (Mt.mk t [] []).wf p) (tb n:Nat) (hn:n<=7) (σ:St) (hT:IsT σ tb p m):
 CI (.fn 70) [.ptr tb 0, .agg t.cs, .int .i64 n] σ=some (.ret (.int .i64 (p.tot t n)),σ):=by
 have hit:=Po p m cj t hty tb n hn (fun j hj=>Kx p m hdl hls cj tb j (by omega)) σ.length (σ++[.box t.cs]) hT.app (by rw [az];rfl) (n+1) 0 (by omega)
 have hall:t.cs.all D.one=true:=by cases t;rfl
 have hw:=aI (n:=n) (by omega)
 simp only [bT,Int.natCast_zero] at hit
 have hτ:ah CI XB GI EL [.ptr tb 0, .agg t.cs, .int .i64 n] σ=some (.ret (.int .i64 (p.tot t n)),σ++[.box t.cs]):=by
  generalize t.cs=tc at*
  generalize p.tot t n=v at*
  simp [ah,EL,hall,hw,hit]
 exact aR Pp hτ rfl rfl
noncomputable def Prg.jS (p:Prg) (t:Ty) (n:Int):Nat:=if p.gY t n=0 then p.tot t n.toNat else 0
set_option maxHeartbeats 4000000 in
theorem c68 (p:Prg) (hok:p.ok) (t:Ty) (ht:t.ok) (n:Int) (a b q c:Nat) (σ:St) (ha:σ[a]? =some (.box p.cs)) (hb:σ[b]? =some (.box t.cs)) (hq:σ[q]? =some (.box [.int .i64 n])) (hc:σ[c]? =some (.box [.int .i64 0])):
 CI (.fn 68) [.ptr a 0, .ptr b 0, .ptr q 0, .ptr c 0] σ=some (gh (p.gY t n),σ.set c (.box [.int .i64 (p.jS t n)])):=by
 obtain ⟨h69a,h69b⟩:=c69 p hok t ht n σ
 have hpl:=p.aL
 have hpt:=p.aM
 have y1:=t.aL
 have y2:=t.aM
 have hcl:=b8 hc
 have e3:bC p.cs p.cs=true:=aG _ p.plain.1
 have e4:bC t.cs t.cs=true:=aG _ t.plain.1
 have q69:qI 69=false:=rfl
 have x69:XB 69=false:=rfl
 have q70:qI 70=false:=rfl
 have x70:XB 70=false:=rfl
 unfold Prg.jS
 by_cases he:p.gY t n=0
 ·obtain ⟨h1,h2,h3,_⟩:=jR he
  obtain ⟨z1,_,_,_⟩:=gV h1
  obtain ⟨hdl,hls⟩:=gF z1
  obtain ⟨i,τ,h69,hT⟩:=h69a he
  obtain ⟨k,rfl⟩: ∃k:Nat,n=k:=⟨n.toNat,by omega⟩
  have h70:=c70 p p.cm hdl hls (fB z1) t (uK h1) (σ.length+i) k (by omega) (σ++τ) hT
  have hb2: (σ++τ)[b]? =some (.box t.cs):=bD hb
  have hq2: (σ++τ)[q]? =some (.box [.int .i64 k]):=bD hq
  have hc2: (σ++τ)[c]? =some (.box [.int .i64 0]):=bD hc
  rw [he,if_pos rfl,cr,Int.toNat_natCast]
  have hset: ∀o,(σ++τ).set c o=σ.set c o++τ:=fun o=>jb hcl
  have hτ:ah CI XB GI DU [.ptr a 0, .ptr b 0, .ptr q 0, .ptr c 0] σ=some (.ret (.tuple []),σ.set c (.box [.int .i64 (p.tot t k)])++τ):=by
   rw [<-hset]
   clear hset hT
   generalize p.tot t k=v at*
   generalize σ++τ=σ2 at*
   generalize p.cs=pc at*
   generalize t.cs=tc at*
   simp [ah,DU,ha,hb,hq,hb2,hq2,hc2,hpl,hpt,y1,y2,e3,e4,h69,h70,q69,x69,q70,x70,aE,tv,Nat.testBit_eq_decide_div_mod_eq]
  refine dj Jf hτ ?_
  rw [iF (by simp [Obj.under,cL,D.under]) rfl rfl]
  simp [D.weak,dU]
 ·rw [if_neg he]
  have hid:σ.set c (.box [.int .i64 ((0:Nat):Int)])=σ:=by
   obtain ⟨h1,h2⟩:=List.getElem?_eq_some_iff.1 hc
   rw [Int.natCast_zero,<-h2];exact List.set_getElem_self h1
  rw [hid,cG he]
  have h69:=h69b he
  refine iP Jf (τ:=[]) ?_ rfl
  rw [List.append_nil]
  generalize p.gY t n=e at*
  generalize p.cs=pc at*
  generalize t.cs=tc at*
  simp [ah,DU,ha,hb,hq,hpl,hpt,y1,y2,e3,e4,h69,q69,x69,q70,x70,tv,Nat.testBit_eq_decide_div_mod_eq]
theorem c22 (p:Prg) (hok:p.ok) (t:Ty) (ht:t.ok) (n:Int) (σ:St):CI (.fn 22) [.agg p.cs, .agg t.cs, .int .i64 n] σ=some (.ret (.tuple [.int .i64 (p.jS t n), .int .i64 (p.gY t n)]),σ):=by
 have h68:=c68 p hok t ht n σ.length (σ.length+1) (σ.length+2) (σ.length+3) (σ++[Obj.box p.cs, .box t.cs, .box [.int .i64 n], .box [.int .i64 0]]++[Obj.box [.int .i64 0]]) (by rw [List.append_assoc];exact az) (by rw [List.append_assoc];exact aS) (by rw [List.append_assoc];exact aS) (by rw [List.append_assoc];exact aS)
 have hset: ∀o,(σ++[Obj.box p.cs, .box t.cs, .box [.int .i64 n], .box [.int .i64 0]]++[Obj.box [.int .i64 0]]).set (σ.length+3) o=σ++[Obj.box p.cs, .box t.cs, .box [.int .i64 n],o]++[Obj.box [.int .i64 0]]:=fun o=>by
  rw [List.append_assoc,bP,List.append_assoc];rfl
 rw [hset] at h68
 have h54:=Pa 68 [] [.ptr σ.length 0, .ptr (σ.length+1) 0, .ptr (σ.length+2) 0, .ptr (σ.length+3) 0] _ (σ++[Obj.box p.cs, .box t.cs, .box [.int .i64 n], .box [.int .i64 0]]) (σ++[Obj.box p.cs, .box t.cs, .box [.int .i64 n], .box [.int .i64 (p.jS t n)]]) (by simp) (fun j hj=>by
  by_cases h2:j=σ.length+3
  ·subst h2
   exact .inr ⟨_,by rw [aS];rfl,by simp [Obj.under,cL,D.under]⟩
  ·left
   rcases Nat.lt_or_ge j σ.length with hlt|hge
   ·rw [List.getElem?_append_left hlt,List.getElem?_append_left hlt]
   ·obtain ⟨i,rfl⟩: ∃i,j=σ.length+i:=⟨j - σ.length,by omega⟩
    rw [aS,aS]
    simp at hj
    match i,hj,h2 with
    |0,_,_=>rfl
    |1,_,_=>rfl
    |2,_,_=>rfl
    |3,_,h2=>omega) h68
 have hτ:ah CI XB GI DV [.agg p.cs, .agg t.cs, .int .i64 n] σ=some (.ret (.tuple [.int .i64 (p.jS t n), .int .i64 (p.gY t n)]),σ++[.box p.cs, .box t.cs, .box [.int .i64 n], .box [.int .i64 (p.jS t n)]]):=by
  have h1:=p.bJ
  have h2:t.cs.all D.one=true:=by cases t;rfl
  have hz:p.gY t n≠0->p.jS t n=0:=fun h=>by unfold Prg.jS;rw [if_neg h]
  generalize p.gY t n=e at*
  generalize p.jS t n=v at*
  generalize p.cs=pc at*
  generalize t.cs=tc at*
  by_cases he:e=0
  ·subst he
   simp [ah,DV,h1,h2,h54,aS,az,bP,aE]
  ·obtain rfl:=hz he
   have he': (e != 0)=true:=by simpa using he
   simp [ah,DV,h1,h2,h54,aS,az,bP,aE,he']
 exact aR Pq hτ rfl rfl
mutual
def Ty.vk:Ty->Prop
 | .mk k _ _ l _ _=>1<=k/\k<=6/\se l
def se:List Ty->Prop
 | []=>True
 |t::r=>t.vk/\se r
end
theorem iG: ∀ {l:List Ty},se l↔ ∀t ∈ l,t.vk
 | []=>by simp [se]
 |t::r=>by simp [se,iG (l:=r)]
mutual
def Mt.ri (p:Prg) (A:Nat->Prop):Mt->Prop
 | .mk t _ l=>t.ff p A/\t.vk/\gk p A l
def gk (p:Prg) (A:Nat->Prop):List Mt->Prop
 | []=>True
 |m::r=>m.ri p A/\gk p A r
end
theorem gH {p:Prg} {A:Nat->Prop} {ps:List Bs} {ml:List Mt} (h3:gk p A ml): ∀ (L:List Ty),(∀t ∈ L,t.ff p A/\t.vk)->gk p A (inner ps ml L)
 | [],_=>trivial
 |t::r,h=>⟨⟨(h t List.mem_cons_self).1,(h t List.mem_cons_self).2,h3⟩,gH h3 r fun x hx=>h x (List.mem_cons_of_mem _ hx)⟩
mutual
theorem Mt.lR {p:Prg} {A:Nat->Prop} : ∀m:Mt,m.wf p->m.ri p A->m.now.ri p A
 | .mk (.mk k n s L ls tail) ps l,hwf,hf=>by
  by_cases k1:k=1
  ·subst k1
   have ho:=hwf.2.1
   obtain ⟨ho1,_⟩:=dM ho
   obtain ⟨j,hj,hjl⟩:=jK ps s (jL ho1)
   have hpl:=hwf.2.2.1
   have hnow: (Mt.mk (.mk 1 n s L ls tail) ps l).now=lf l j:=by
    simp only [Mt.now,if_true,hj];rfl
   rw [hnow]
   exact xq l hwf.2.2.2.2 hf.2.2 j (by omega)
  ·have hnow: (Mt.mk (.mk k n s L ls tail) ps l).now=Mt.mk (.mk k n s L ls tail) ps l:=by
    simp only [Mt.now,if_neg k1]
   rw [hnow]
   exact hf
theorem xq {p:Prg} {A:Nat->Prop} : ∀ (l:List Mt),gB p l->gk p A l-> ∀j,j<l.length->(lf l j).ri p A
 |m::_,h,hf,0,_=>by
  have:=m.lR h.1 hf.1
  simp only [lf];exact this
 |_::r,h,hf,j+1,hj=>by
  have:=xq r h.2 hf.2 j (by simpa using hj)
  simp only [lf];exact this
end
def EM (p:Prg) (A:Nat->Prop) (n:Nat):Prop:= ∀ (m:Mt) (σ:St),m.wf p->m.ri p A->CI (.fn 106) [.agg p.cs, .agg m.cs, .int .i64 n] σ=some (.ret (.int .i64 (m.ty.cnt p n)),σ)
set_option maxHeartbeats 4000000 in
theorem Gf (p:Prg) (A:Nat->Prop) (cj:p.few) (K:Nat) (hK:K<=6) (h106: ∀j,j<=K->EM p A j): ∀ (l:List Mt),l.length<=4->gB p l->gk p A l-> ∀ (M:Nat),M<=K-> ∀ (σ:St),
 CI (.fn 159) [.agg p.cs, .slice (bF l), .int .i64 M] σ=some (.ret (.int .i64 (cp (Ty.cnt p) (aP l) M)),σ)
 | [],_,_,_,M,hM,σ=>by
  have hall:=p.bJ
  have hτ:ah CI XB GI sg [.agg p.cs, .slice [], .int .i64 M] σ=some (.ret (.int .i64 (cp (Ty.cnt p) [] M)),σ++[.box p.cs]):=by
   simp only [cp]
   generalize p.cs=pc at*
   by_cases h0:M=0
   ·subst h0;simp [ah,sg,hall]
   ·have h1: ((M:Int) ==0)=false:=by rw [beq_eq_false_iff_ne];omega
    simp [ah,sg,hall,h0,h1]
  exact aR EN hτ rfl rfl
 |m::rest,hl,hwf,dH,M,hM,σ=>by
  have ih:=fun M hM=>Gf p A cj K hK h106 rest (by simp at hl;omega) hwf.2 dH.2 M hM
  have hcnt:=fun j (hj:j<=K) σ=>h106 j hj m σ hwf.1 dH.1
  have hbound:=q6 cj (aP (m::rest)) (by rw [eH,List.length_map];exact hl) M (by omega)
  simp only [aP,cp] at hbound ⊢
  have hmono:=fun j (hj:j<=M)=>fR (fun i=>m.ty.cnt p (i+1) *cp (Ty.cnt p) (aP rest) (M - (i+1))) hj
  have hall:=p.bJ
  have hpl:=p.aL
  have hpt:=p.aM
  have y1:=m.aL
  have y2:m.cs.take 8=m.cs:=List.take_of_length_le (by omega)
  have e3:bC p.cs p.cs=true:=aG _ p.plain.1
  have e4:bC m.cs m.cs=true:=aG _ m.nR.1
  have e5:bC (bF rest) (bF rest)=true:=aG _ (dY rest).1
  have hr8: (bF rest).all (fun e=>e.cells.length==8)=true:=by
   rw [List.all_eq_true,eP];intro e he
   obtain ⟨x,_,rfl⟩:=List.mem_map.1 he
   simp [Mt.d,D.cells,x.aL]
  simp only [D.cells] at hr8
  have hrl: (bF rest).length=rest.length:=by rw [eP,List.length_map]
  have hmd:bF (m::rest)= .agg m.cs::bF rest:=rfl
  rw [hmd]
  generalize hgd: (fun i=>m.ty.cnt p (i+1) *cp (Ty.cnt p) (aP rest) (M - (i+1)))=g at*
  have hgi: ∀j,g j=m.ty.cnt p (j+1) *cp (Ty.cnt p) (aP rest) (M - (j+1)):=fun j=>by rw [<-hgd]
  clear hgd
  have q106:qI 106=false:=rfl
  have x106:XB 106=false:=rfl
  have q159:qI 159=false:=rfl
  have x159:XB 159=false:=rfl
  have hq: (σ++[Obj.box p.cs])[σ.length]? =some (.box p.cs):=by rw [az];rfl
  have hit: ∀ (k j:Nat),j+k=M->aU (aD CI XB GI 40 false pS) [(1, .slice (.agg m.cs::bF rest)),(2, .int .i64 M),(3, .ptr σ.length 0),(7, .int .i64 (bT g j:Nat)),(8, .int .i64 ((j:Int) +1))] (σ++[.box p.cs])=
   some (.exit 0,[(1, .slice (.agg m.cs::bF rest)),(2, .int .i64 M),(3, .ptr σ.length 0),(7, .int .i64 (bT g M:Nat)),(8, .int .i64 ((M:Int) +1)),(17, .bool false)],σ++[.box p.cs]):=by
   intro k
   induction k with
   |zero=>
    intro j hj
    obtain rfl:j=M:=by omega
    refine aH ?_ (by simp)
    have w3: ¬((j:Int) +1<=(j:Int)):=by omega
    generalize bF rest=rd at*
    generalize m.cs=mc at*
    simp [pS,w3]
   |succ k ihk=>
    intro j hj
    rw [<-ihk (j+1) (by omega)]
    refine aO ?_
    have w3: (j:Int) +1<=(M:Int):=by omega
    have w4:IntKind.i64.wrap ((j:Int) +1+1)=(j:Int) +1+1:=wrap_i64 (by omega) (by omega)
    have w5:IntKind.i64.wrap ((M:Int) - ((j:Int) +1))=((M - (j+1):Nat):Int):=by rw [wrap_i64 (by omega) (by omega)];omega
    have hc1:=hcnt (j+1) (by omega)
    have ih1:=ih (M - (j+1)) (by omega)
    have hle:=hmono (j+1) (by omega)
    have hg:=hgi j
    have e1: ((j+1:Nat):Int)=(j:Int) +1:=by omega
    rw [e1] at hc1 ⊢
    have hsj:bT g (j+1)=bT g j+g j:=rfl
    clear hcnt ih
    generalize hσ1:σ++[Obj.box p.cs]=σ1 at*
    clear hσ1
    generalize bF rest=rd at*
    generalize m.ty.cnt p (j+1)=f at*
    generalize cp (Ty.cnt p) (aP rest) (M - (j+1))=c at*
    rw [hsj,hg] at hle ⊢
    generalize bT g j=S at*
    have hfc:f*c<=27262976:=by omega
    have hcast: ((f*c:Nat):Int)=(f:Int) * (c:Int):=by simp
    have w6:IntKind.i64.wrap ((f:Int) * (c:Int))=(f:Int) * (c:Int):=by rw [<-hcast];exact wrap_i64 (by omega) (by omega)
    have w7:IntKind.i64.wrap ((S:Int) + (f:Int) * (c:Int))=(S:Int) + (f:Int) * (c:Int):=by rw [<-hcast];exact wrap_i64 (by omega) (by omega)
    generalize m.cs=mc at*
    generalize p.cs=pc at*
    by_cases hf:f=0
    ·subst hf
     simp [pS,hq,hpl,hpt,y1,y2,e3,e4,w3,w4,hc1,q106,x106,Nat.testBit_eq_decide_div_mod_eq]
    ·have hf2:0<f:=by omega
     have hr1: (1:Int)<=(rest.length:Int) +1:=by omega
     have htk:rd.take rest.length=rd:=List.take_of_length_le (by omega)
     simp [pS,hq,hpl,hpt,hrl,y1,y2,e3,e4,e5,w3,w4,w5,w6,w7,hc1,ih1,hf,hf2,hr1,htk,hr8,bound,q106,x106,q159,x159,Nat.testBit_eq_decide_div_mod_eq, -List.all_eq_true]
  have hit0:=hit M 0 (by omega)
  have hτ:ah CI XB GI sg [.agg p.cs, .slice (.agg m.cs::bF rest), .int .i64 M] σ=some (.ret (.int .i64 (bT g M:Nat)),σ++[.box p.cs]):=by
   simp only [bT,Int.natCast_zero,Int.zero_add] at hit0
   have w3: (((rest.length:Int) +1) ==0)=false:=by rw [beq_eq_false_iff_ne];omega
   clear hit hq
   generalize bF rest=rd at*
   generalize m.cs=mc at*
   generalize p.cs=pc at*
   simp [ah,sg,hall,hrl,w3,hit0]
  exact aR EN hτ rfl rfl
theorem An:Nat.log2 1024=10:=by decide
set_option maxHeartbeats 4000000 in
theorem Pr (p:Prg) (A:Nat->Prop) (hdl:p.data.length<=12) (cj:p.few) (n:Nat) (hn:n<=6) (h106: ∀j,j<=n->EM p A j) (tn:Int) (ts:Bs) (L:List Ty) (tls:List Lab) (ttl:Int) (hL:L.length<=4) (ps:List Bs) (ml:List Mt) (i:Nat) (hi:i<p.data.length) (hix:idxOf (fun x:Dat=>x.name==ts) p.data=i)
 (hwf: ∀c ∈ p.data[i].cons,gB p (inner p.data[i].params (inner ps ml L) c.args)/\gk p A (inner p.data[i].params (inner ps ml L) c.args))
 (hB: (p.data[i].cons.map fun c=>cp (Ty.cnt p) (aP (inner p.data[i].params (inner ps ml L) c.args)) n).sum<=27262976) (a b d:Nat) (σ:St) (ha:σ[a]? =some (.box p.cs)) (hb:σ[b]? =some (.box (Mt.mk (.mk 6 tn ts L tls ttl) ps ml).cs)) (hd:σ[d]? =some (.box p.data[i].cs)):
 ∃τ',aU (aD CI XB GI 56 false pT) [(2, .int .i64 ((n:Int) +1)),(3, .ptr a 0),(4, .ptr b 0),(7, .int .i64 (0:Nat)),(8, .ptr d 0),(9, .int .i64 (0:Nat))] σ=
  some (.exit 1,[(2, .int .i64 ((n:Int) +1)),(3, .ptr a 0),(4, .ptr b 0),(7, .int .i64 ((p.data[i].cons.map fun c=>cp (Ty.cnt p) (aP (inner p.data[i].params (inner ps ml L) c.args)) n).sum:Nat)),(8, .ptr d 0),(9, .int .i64 p.data[i].cons.length),(42, .bool false)],σ++τ'):=by
 have hfd:=cj _ (List.getElem_mem hi)
 have hpl:=p.aL
 have hpt:=p.aM
 have y1:=(Mt.mk (.mk 6 tn ts L tls ttl) ps ml).aL
 have y2: (Mt.mk (.mk 6 tn ts L tls ttl) ps ml).cs.take 8=(Mt.mk (.mk 6 tn ts L tls ttl) ps ml).cs:=List.take_of_length_le (by omega)
 have e3:bC p.cs p.cs=true:=aG _ p.plain.1
 have e4:bC (Mt.mk (.mk 6 tn ts L tls ttl) ps ml).cs (Mt.mk (.mk 6 tn ts L tls ttl) ps ml).cs=true:=aG _ (Mt.mk (.mk 6 tn ts L tls ttl) ps ml).nR.1
 have q156:qI 156=false:=rfl
 have x156:XB 156=false:=rfl
 have q159:qI 159=false:=rfl
 have x159:XB 159=false:=rfl
 have hdc:p.data[i].cs=[.str p.data[i].name,slD p.data[i].params, .slice (p.data[i].cons.map Con.d)]:=rfl
 have hcl: (p.data[i].cons.map Con.d).length=p.data[i].cons.length:=List.length_map _
 rw [hdc] at hd
 obtain ⟨τ',hit⟩:=cA (γ:=Unit) (f:=aD CI XB GI 56 false pT) p.data[i].cons (fun k (s:Nat)=>[(2, .int .i64 ((n:Int) +1)),(3, .ptr a 0),(4, .ptr b 0),(7, .int .i64 s),(8, .ptr d 0),(9, .int .i64 (k:Nat))])
  (fun _=>σ) (fun k s=>s=((p.data[i].cons.take k).map fun c=>cp (Ty.cnt p) (aP (inner p.data[i].params (inner ps ml L) c.args)) n).sum) (fun _ c s=> .inl (s+cp (Ty.cnt p) (aP (inner p.data[i].params (inner ps ml L) c.args)) n)) (fun _=>(.ret,[])) (fun _=>[])
  (fun s=>(.exit 1,[(2, .int .i64 ((n:Int) +1)),(3, .ptr a 0),(4, .ptr b 0),(7, .int .i64 s),(8, .ptr d 0),(9, .int .i64 p.data[i].cons.length),(42, .bool false)])) (by simp) (by simp)
  (fun k hk s s' hs hst=>by
    cases hst
    rw [de _ _ _ hk,hs])
  (fun k hk s τ hs=>by
    have hwr:=aI (n:=k) (by omega)
    have hkk: (k:Int) <p.data[i].cons.length:=by omega
    have h4:=hfd.2 _ (List.getElem_mem hk)
    obtain ⟨w1,w2⟩:=hwf _ (List.getElem_mem hk)
    have hle:=gX (fun c:Con=>cp (Ty.cnt p) (aP (inner p.data[i].params (inner ps ml L) c.args)) n) p.data[i].cons (k+1)
    rw [de _ _ _ hk,<-hs] at hle
    refine ⟨τ, ?_⟩
    have h156:=Pc p hdl 6 tn ts L tls ttl hL ps ml i hi hix k hk h4
    have h159:=Gf p A cj n hn h106 (inner p.data[i].params (inner ps ml L) p.data[i].cons[k].args) (by rw [eU];exact h4) w1 w2 n (Nat.le_refl _)
    have e5:bC (bF (inner p.data[i].params (inner ps ml L) p.data[i].cons[k].args)) (bF (inner p.data[i].params (inner ps ml L) p.data[i].cons[k].args))=true:=aG _ (dY _).1
    have ha2: (σ++τ)[a]? =some (.box p.cs):=bD ha
    have hb2: (σ++τ)[b]? =some (.box (Mt.mk (.mk 6 tn ts L tls ttl) ps ml).cs):=bD hb
    have hd2: (σ++τ)[d]? =some (.box [.str p.data[i].name,slD p.data[i].params, .slice (p.data[i].cons.map Con.d)]):=bD hd
    clear ha hb hd hs h106
    generalize cp (Ty.cnt p) (aP (inner p.data[i].params (inner ps ml L) p.data[i].cons[k].args)) n=v at*
    generalize bF (inner p.data[i].params (inner ps ml L) p.data[i].cons[k].args)=md at*
    generalize p.data[i].cons.map Con.d=cd at*
    generalize slD p.data[i].params=pd at*
    generalize (Mt.mk (.mk 6 tn ts L tls ttl) ps ml).cs=mc at*
    generalize p.cs=pc at*
    generalize σ++τ=σ1 at*
    have w1:IntKind.i64.wrap ((n:Int) +1 - 1)=(n:Int):=by rw [wrap_i64 (by omega) (by omega)];omega
    have w1':IntKind.i64.wrap (n:Int)=(n:Int):=wrap_i64 (by omega) (by omega)
    have w2:IntKind.i64.wrap ((s:Int) + (v:Int))=(s:Int) + (v:Int):=wrap_i64 (by omega) (by omega)
    simp [pT,hk,hkk,hwr,hcl,ha2,hb2,hd2,hpl,hpt,y1,y2,e3,e4,e5,h156,h159,w1,w1',w2,q156,x156,q159,x159,Nat.testBit_eq_decide_div_mod_eq])
  (fun s τ hs=>⟨τ,by
    have hd2: (σ++τ)[d]? =some (.box [.str p.data[i].name,slD p.data[i].params, .slice (p.data[i].cons.map Con.d)]):=bD hd
    generalize p.data[i].cons.map Con.d=cd at*
    simp [pT,hcl,hd2]⟩) 0 [] (by simp)
 rw [q9,Nat.zero_add,List.append_nil] at hit
 exact ⟨τ',hit⟩
set_option maxHeartbeats 4000000 in
theorem Pt (p:Prg) (A:Nat->Prop) (hdl:p.data.length<=12) (hls: ∀d ∈ p.data,d.fit p) (cj:p.few) (hA:ko p A) (hvk: ∀d ∈ p.data,∀c ∈ d.cons,∀a ∈ c.args,a.vk): ∀ (n:Nat),n<=7->EM p A n:=by
 intro n
 induction n using Nat.strongRecOn with
 |ind n IH=>
 intro hn m σ hwf dH
 have h155:=fun σ=>Pe p m hwf σ
 obtain ⟨nwf,nk⟩:=m.nS hwf
 have nfine:=m.lR hwf dH
 have hty:=m.nT hwf
 have hm1:=m.yl
 have hml:=m.aL
 have hmt:m.cs.take 8=m.cs:=List.take_of_length_le (by omega)
 have hm8:m.cs.drop 8=[]:=List.drop_of_length_le (by omega)
 have hnl:=m.now.aL
 have hall:=p.bJ
 have hpl:=p.aL
 have hpt:=p.aM
 suffices h: ∃τ,ah CI XB GI si [.agg p.cs, .agg m.cs, .int .i64 n] σ=some (.ret (.int .i64 (m.ty.cnt p n)),σ++τ) by
  obtain ⟨τ,h⟩:=h
  exact aR KA h rfl rfl
 rw [<-hty]
 generalize m.now=m' at*
 rcases m' with ⟨⟨tk,tn,ts,L,tls,ttl⟩,ps,ml⟩
 simp only at nk
 have hnc: (Mt.mk (.mk tk tn ts L tls ttl) ps ml).cs=[.int .i64 tk, .int .i64 tn, .str ts, .slice (aT L), .slice (tls.map Lab.d), .int .i64 ttl,slD ps, .slice (bF ml)]:=by simp only [Mt.cs,Ty.cs];rfl
 have hsp:slD ps= .slice (ps.map D.str):=rfl
 rw [hsp] at hnc
 simp only [Mt.ty,Ty.ym _ _ nk]
 obtain ⟨nsm,nord,npl,nm4,nml⟩:=nwf
 obtain ⟨nff,nvk,nfl⟩:=nfine
 simp only [Ty.ff,Ty.vk] at nff nvk
 rcases n with _|n
 ·rw [hnc] at h155
  refine ⟨[.box p.cs, .box [.int .i64 tk, .int .i64 tn, .str ts, .slice (aT L), .slice (tls.map Lab.d), .int .i64 ttl, .slice (ps.map D.str), .slice (bF ml)]], ?_⟩
  rw [pJ]
  generalize m.cs=mc at*
  generalize p.cs=pc at*
  simp [ah,si,az,aS,aN,bP,hall,hm1,hml,hmt,hm8,h155,aE]
 have w0: ¬((n:Int) +1<1):=by omega
 by_cases t6:tk=6
 rotate_left
 ·rw [uF p t6]
  have n6: (tk != 6)=true:=by simpa using t6
  rw [hnc] at h155
  refine ⟨[.box p.cs, .box [.int .i64 tk, .int .i64 tn, .str ts, .slice (aT L), .slice (tls.map Lab.d), .int .i64 ttl, .slice (ps.map D.str), .slice (bF ml)]], ?_⟩
  have hk:tk=2\/tk=3\/tk=4:=by
   have:=nff.1
   omega
  generalize m.cs=mc at*
  generalize p.cs=pc at*
  rcases n with _|n
  ·rcases hk with rfl|rfl|rfl<;>simp [ah,si,az,aS,aN,bP,hall,hm1,hml,hmt,hm8,h155,aE]
  ·have w1: (1:Int) < (n:Int) +1+1:=by omega
   have w2: ¬((n:Int) +1+1<1):=by omega
   rcases hk with rfl|rfl|rfl<;>simp [ah,si,az,aS,aN,bP,hall,hm1,hml,hmt,hm8,h155,aE,w1,w2]
 subst t6
 obtain ⟨nod,nop⟩:=dM nord
 obtain ⟨i,hix,hdx,hi,hlen⟩:=jM nod
 have hdo:=mJ hix hi
 rw [jP p hdo]
 have hin1:=gi npl nm4 nml L (fun y hy=>⟨eM nsm.2.2.2 hy,nop y hy⟩)
 have hin2:=gH (ps:=ps) nfl L (fun y hy=>⟨eV.1 nff.2.2 y hy,iG.1 nvk.2.2 y hy⟩)
 have hdf:=hls _ (List.getElem_mem hi)
 have hAi:A i:=by rw [<-hdx];exact nff.2.1 rfl
 have hT: ∀c:Con,aP (inner p.data[i].params (inner ps ml L) c.args)=c.args.map (Ty.rep p.data[i].params (L.map (Ty.rep ps (aP ml)))):=fun c=>by rw [jO,jO]
 have hB:=Nat.le_trans (lO cj (.mk 6 tn ts (L.map (Ty.rep ps (aP ml))) tls ttl) (n+1) hn) (rY _ hn)
 rw [jP p hdo] at hB
 have hh:p.cs.head?=some (.slice (p.data.map Dat.d)):=by rw [p.dw];rfl
 have hp0:p.cs[0]? =some (.slice (p.data.map Dat.d)):=by rw [<-List.head?_eq_getElem?];exact hh
 obtain ⟨τ',hit⟩:=Pr p A hdl cj n (by omega) (fun j hj=>IH j (by omega) (by omega)) tn ts L tls ttl nsm.1 ps ml i hi hix
  (fun c hc=>⟨gi (p:=p) (ps:=p.data[i].params) (ml:=inner ps ml L) (by rw [eU];exact hlen) (by rw [eU];exact nsm.1) hin1 c.args (hdf.2.2 c hc).2,
    gH (ps:=p.data[i].params) hin2 c.args (fun a ha=>⟨hA i hi hAi c hc a ha,hvk _ (List.getElem_mem hi) c hc a ha⟩)⟩)
  (by simp only [hT];exact hB) σ.length (σ.length+1) (σ.length+2) (σ++[.box p.cs, .box (Mt.mk (.mk 6 tn ts L tls ttl) ps ml).cs, .box p.data[i].cs]) (by rw [az];rfl) (by rw [aS];rfl) (by rw [aS];rfl)
 simp only [hT,Int.natCast_zero] at hit
 refine ⟨[.box p.cs, .box (Mt.mk (.mk 6 tn ts L tls ttl) ps ml).cs, .box p.data[i].cs]++τ', ?_⟩
 rw [<-List.append_assoc]
 have h123:=fun σ=>Ev p (by unfold aQ;omega) ts σ
 simp only [hix] at h123
 obtain ⟨ld,hld,hll,hlg⟩:=opq Dat.d p.data
 obtain ⟨f2,f3⟩:=hlg i hi
 have hii: (i:Int) <p.data.length:=by omega
 have hdc:p.data[i].cs=[.str p.data[i].name, .slice (p.data[i].params.map D.str), .slice (p.data[i].cons.map Con.d)]:=rfl
 have hdd:p.data[i].d= .agg [.str p.data[i].name, .slice (p.data[i].params.map D.str), .slice (p.data[i].cons.map Con.d)]:=rfl
 rw [hdd] at f3
 have q123:qI 123=true:=rfl
 have x123:XB 123=false:=rfl
 have e3:bC p.cs p.cs=true:=aG _ p.plain.1
 have e1:bC ld ld=true:=by rw [<-hld];exact aG _ (bA.map fun x _=>x.plain).1
 have e2:bC (p.data[i].cons.map Con.d) (p.data[i].cons.map Con.d)=true:=aG _ (bA.map fun x _=>x.plain).1
 have e4:bC (p.data[i].params.map D.str) (p.data[i].params.map D.str)=true:=aG _ (bA.map fun x _=>cR x).1
 rw [hdc] at hit ⊢
 rw [hld] at hh hp0
 obtain ⟨w0',hp0e⟩:=List.getElem?_eq_some_iff.1 hp0
 have g0: (D.slice ld).eqb (.slice ld)=true:=by rw [D.eqb];exact e1
 generalize (p.data[i].cons.map fun c=>cp (Ty.cnt p) (c.args.map (Ty.rep p.data[i].params (L.map (Ty.rep ps (aP ml))))) n).sum=v at*
 rw [hnc] at h155 hit ⊢
 generalize p.data[i].cons.map Con.d=cd at*
 generalize p.data[i].params.map D.str=pd at*
 generalize p.data[i].name=dn at*
 generalize m.cs=mc at*
 clear IH hwf dH hB hT hin1 hin2
 generalize p.cs=pc at*
 generalize aT L=LD at*
 generalize tls.map Lab.d=lsd at*
 generalize ps.map D.str=psd at*
 generalize bF ml=mld at*
 generalize hσ3:σ++[Obj.box pc, .box [.int .i64 6, .int .i64 tn, .str ts, .slice LD, .slice lsd, .int .i64 ttl, .slice psd, .slice mld], .box [.str dn, .slice pd, .slice cd]]++τ'=σ3 at*
 simp [ah,si,az,aS,aN,bP,hall,hpl,hpt,hm1,hml,hmt,hm8,h155,aE,w0,hh,hp0,hp0e,g0,hll,h123,hi,hii,f2,f3,e1,e2,e3,e4,q123,x123,An,hit,Nat.testBit_eq_decide_div_mod_eq]
mutual
def Ty.nms:Ty->List Bs
 | .mk k _ s l _ _=>(if k=5 then [[]] else [])++(if k=6 then [s] else [])++bE l
def bE:List Ty->List Bs
 | []=>[]
 |t::r=>t.nms++bE r
end
theorem uL: ∀ {l:List Ty} {x:Bs},x ∈ bE l↔ ∃t ∈ l,x ∈ t.nms
 | [],x=>by simp [bE]
 |t::r,x=>by simp [bE,uL (l:=r)]
mutual
theorem Ty.Ao: ∀ (t:Ty) (n d:Int),0<=n->0<=t.left n d->(t.nms.length:Int) +t.left n d<=n
 | .mk k m s l ls tail,n,d,hn,hl=>by
  simp only [Ty.left] at hl ⊢
  split at hl
  ·omega
  ·rename_i hd
   rw [if_neg hd]
   by_cases hz:n - 1<0
   ·rw [fV _ _ _ hz] at hl;omega
   ·have:=sj l (n - 1) (d - 1) (by omega) hl
    simp only [Ty.nms,List.length_append]
    by_cases k5:k=5
    ·rw [if_pos k5,if_neg (by omega)];simp;omega
    ·rw [if_neg k5]
     split<;>simp<;>omega
theorem sj: ∀ (l:List Ty) (n d:Int),0<=n->0<=cU l n d->((bE l).length:Int) +cU l n d<=n
 | [],n,d,hn,_=>by simp [bE,cU]
 |t::r,n,d,hn,hl=>by
  simp only [cU,bE,List.length_append] at hl ⊢
  rw [if_pos hn] at hl ⊢
  by_cases hz:t.left n d<0
  ·rw [fV _ _ _ hz] at hl;omega
  ·have h1:=t.Ao n d hn (by omega)
   have h2:=sj r (t.left n d) d (by omega) hl
   omega
end
theorem Ty.yx {t:Ty} (h:t.chk=0):t.nms.length<=3000:=by
 rw [t.uj] at h
 split at h
 ·cases h
 ·have:=t.Ao 3000 200 (by omega) (by omega)
  omega
def EO (p:Prg) (A:Nat->Prop) (x:Bs):Prop:=x≠[]/\A (rX p x)
def Prg.U (p:Prg):List Bs:=[]::p.data.map Dat.name
theorem Ap {p:Prg} {params:List Bs} {s:Bs} {len:Nat} {ls:List Lab} (h:iY p params 6 s len ls=0):s ∈ p.data.map Dat.name:=by
 obtain ⟨i,hi,_,hil,_⟩:=jM h
 rcases fk (fun x:Dat=>x.name==s) p.data with ⟨h1,_⟩ | ⟨j,hj,hjl,hf,_⟩
 ·omega
 ·have h2:=List.find?_some hf
  simp only [beq_iff_eq] at h2
  exact List.mem_map.2 ⟨_,List.getElem_mem hjl,h2⟩
mutual
theorem Ty.EP {p:Prg} {params:List Bs} : ∀ (t:Ty),t.ord p params=0-> ∀x ∈ t.nms,x ∈ p.U
 | .mk k n s l ls tail,h,x,hx=>by
  obtain ⟨h1,h2⟩:=dM h
  simp only [Ty.nms,List.mem_append] at hx
  rcases hx with (hx|hx) |hx
  ·split at hx
   ·simp only [List.mem_singleton] at hx;subst hx;exact List.mem_cons_self
   ·cases hx
  ·split at hx
   ·rename_i k6
    subst k6
    simp only [List.mem_singleton] at hx;subst hx
    exact List.mem_cons_of_mem _ (Ap h1)
   ·cases hx
  ·exact pU l h2 x hx
theorem pU {p:Prg} {params:List Bs} : ∀ (l:List Ty),(∀t ∈ l,t.ord p params=0)-> ∀x ∈ bE l,x ∈ p.U
 | [],_,x,hx=>by cases hx
 |t::r,h,x,hx=>by
  simp only [bE,List.mem_append] at hx
  rcases hx with hx|hx
  ·exact t.EP (h t List.mem_cons_self) x hx
  ·exact pU r (fun y hy=>h y (List.mem_cons_of_mem _ hy)) x hx
end
mutual
theorem Ty.rj {p:Prg} {A:Nat->Prop} (hne: ∀d ∈ p.data,d.name≠[]) {params:List Bs} : ∀ (t:Ty),t.ord p params=0->(t.ff p A↔ ∀x ∈ t.nms,EO p A x)
 | .mk k n s l ls tail,h=>by
  obtain ⟨h1,h2⟩:=dM h
  have ih:=mK (A:=A) hne l h2
  simp only [Ty.ff,Ty.nms,ih]
  constructor
  ·rintro ⟨k5,k6,hl⟩ x hx
   rw [if_neg k5,List.nil_append,List.mem_append] at hx
   rcases hx with hx|hx
   ·split at hx
    ·rename_i h6
     simp only [List.mem_singleton] at hx;subst hx
     refine ⟨?_,k6 h6⟩
     subst h6
     obtain ⟨d,hd,hn⟩:=List.mem_map.1 (Ap h1)
     rw [<-hn];exact hne d hd
    ·cases hx
   ·exact hl x hx
  ·intro hx
   refine ⟨fun k5=> ?_,fun k6=> ?_,fun x hm=>hx x (by simp [hm])⟩
   ·exact (hx [] (by simp [k5])).1 rfl
   ·exact (hx s (by simp [k6])).2
theorem mK {p:Prg} {A:Nat->Prop} (hne: ∀d ∈ p.data,d.name≠[]) {params:List Bs} : ∀ (l:List Ty),(∀t ∈ l,t.ord p params=0)->(nq p A l↔ ∀x ∈ bE l,EO p A x)
 | [],_=>by simp [nq,bE]
 |t::r,h=>by
  have h1:=t.rj (A:=A) hne (h t List.mem_cons_self)
  have h2:=mK (A:=A) hne r fun y hy=>h y (List.mem_cons_of_mem _ hy)
  simp only [nq,bE,h1,h2,List.mem_append]
  constructor
  ·rintro ⟨a,b⟩ x (hx|hx)
   ·exact a x hx
   ·exact b x hx
  ·intro hx
   exact ⟨fun x h=>hx x (.inl h),fun x h=>hx x (.inr h)⟩
end
def uM (b:List Bs) (x:Bs):List Bs:=if cV b x then b else b++[x]
def eR (b:List Bs):List Bs->List Bs
 | []=>b
 |x::r=>eR (uM b x) r
theorem Aq: ∀ (l m b:List Bs),eR b (l++m)=eR (eR b l) m
 | [],_,_=>rfl
 |x::r,m,b=>by simp only [List.cons_append,eR,Aq r m]
theorem ER {b:List Bs} {x y:Bs} :y ∈ uM b x↔y ∈ b\/y=x:=by
 unfold uM
 split
 ·rename_i h
  exact ⟨.inl,fun hy=>hy.elim id fun e=>e ▸ iQ.1 h⟩
 ·simp
theorem jT: ∀ {l b:List Bs} {y:Bs},y ∈ eR b l↔y ∈ b\/y ∈ l
 | [],b,y=>by simp [eR]
 |x::r,b,y=>by simp only [eR,jT (l:=r),ER,List.mem_cons,or_assoc]
theorem uN: ∀ (l b:List Bs),∃e,eR b l=b++e
 | [],b=>⟨[],by simp [eR]⟩
 |x::r,b=>by
  obtain ⟨e,he⟩:=uN r (uM b x)
  simp only [eR]
  unfold uM at he ⊢
  split at he
  ·rename_i h;rw [if_pos h];exact ⟨e,he⟩
  ·rename_i h;rw [if_neg h];exact ⟨[x]++e,by rw [he,List.append_assoc]⟩
def lg (U b:List Bs):Nat:=U.countP fun u=> !cV b u
theorem CV {b:List Bs} {x:Bs} (hx:cV b x=false): ∀ (U:List Bs),x ∈ U->lg U (b++[x]) +1<=lg U b
 |u::U,hm=>by
  have hle: ∀ (U:List Bs),lg U (b++[x])<=lg U b:=fun U=>countP_le _ fun a _ ha=>by
   cases hb:cV b a with
   |false=>rfl
   |true=>
    rw [iQ.2 (List.mem_append_left _ (iQ.1 hb))] at ha;cases ha
  unfold lg at hle ⊢
  simp only [List.countP_cons]
  by_cases hu:u=x
  ·subst hu
   have h1:cV (b++[u]) u=true:=iQ.2 (by simp)
   simp only [h1,hx]
   have:=hle U
   simp;exact this
  ·have hm':x ∈ U:=by
    cases hm with
    |head=>exact absurd rfl hu
    |tail _ h=>exact h
   have:=CV hx U hm'
   unfold lg at this
   have h1:cV (b++[x]) u=cV b u:=by
    rw [Bool.eq_iff_iff,iQ,iQ];simp [hu]
   rw [h1]
   omega
theorem Ar {U b:List Bs} {x:Bs} (hx:x ∈ U): (uM b x).length+lg U (uM b x)<=b.length+lg U b:=by
 unfold uM
 cases h:cV b x with
 |true=>simp
 |false=>
  have:=CV h U hx
  simp;omega
theorem pV {U:List Bs} : ∀ (l b:List Bs),(∀x ∈ l,x ∈ U)->(eR b l).length+lg U (eR b l)<=b.length+lg U b
 | [],b,_=>Nat.le_refl _
 |x::r,b,h=>by
  simp only [eR]
  exact Nat.le_trans (pV r (uM b x) fun y hy=>h y (List.mem_cons_of_mem _ hy)) (Ar (h x List.mem_cons_self))
theorem Gg (U b:List Bs):lg U b<=U.length:=List.countP_le_length
def ef (l:List Con):List Bs:=l.flatMap fun c=>bE c.args
theorem Dat.rj {p:Prg} {A:Nat->Prop} (hne: ∀d ∈ p.data,d.name≠[]) {d:Dat} (hf:d.fit p):d.ff p A↔ ∀x ∈ ef d.cons,EO p A x:=by
 unfold Dat.ff ef
 simp only [List.mem_flatMap]
 constructor
 ·rintro h x ⟨c,hc,hx⟩
  exact (mK hne c.args fun t ht=>((hf.2.2 c hc).2 t ht).2).1 (eV.2 (h c hc)) x hx
 ·intro h c hc a ha
  exact eV.1 ((mK hne c.args fun t ht=>((hf.2.2 c hc).2 t ht).2).2 fun x hx=>h x ⟨c,hc,hx⟩) a ha
theorem xu {p:Prg} {x:Bs} {k:Nat} (h:idxOf (fun d:Dat=>d.name==x) p.data=k):rX p x=k:=by
 unfold rX;rw [h];rfl
theorem xw {p:Prg} (hne: ∀d ∈ p.data,d.name≠[]) (hls: ∀d ∈ p.data,d.fit p) {t:Ty} {params:List Bs} (ho:t.ord p params=0) {b:List Bs} (h1: ∀x ∈ t.nms,x ∈ b)
 (h2: ∀x ∈ b,∃k:Nat,∃hk:k<p.data.length,idxOf (fun d:Dat=>d.name==x) p.data=k/\ ∀y ∈ ef p.data[k].cons,y ∈ b):r8 p t:=by
 have hok: ∀x ∈ b,EO p (fun i=> ∃x ∈ b,rX p x=i) x:=fun x hx=>by
  obtain ⟨k,hk,hi,_⟩:=h2 x hx
  refine ⟨fun h0=> ?_,x,hx,rfl⟩
  subst h0
  rcases fk (fun d:Dat=>d.name==[]) p.data with ⟨h1,_⟩ | ⟨j,hj,hjl,hf,_⟩
  ·omega
  ·have h2:=List.find?_some hf
   simp only [beq_iff_eq] at h2
   exact hne _ (List.getElem_mem hjl) h2
 refine ⟨fun i=> ∃x ∈ b,rX p x=i, ?_,(t.rj hne ho).2 fun x hx=>hok x (h1 x hx)⟩
 rintro i hi ⟨x,hx,hxi⟩
 obtain ⟨k,hk,hik,hy⟩:=h2 x hx
 rw [xu hik] at hxi
 subst hxi
 exact (Dat.rj hne (hls _ (List.getElem_mem hi))).2 fun y hyy=>hok y (hy y hyy)
theorem DW {σ:St} {r:Nat} {l:List Bs} (h:σ[r]? =some (aJ l)):rowOf σ (.arr r l.length 0 l.length)=some (l.map .str):=by
 unfold aJ at h
 have: (l.map D.str).take l.length=l.map D.str:=List.take_of_length_le (by simp)
 simp [rowOf,h,this]
set_option maxHeartbeats 4000000 in
theorem KB: ∀ (t:Ty),t.small->t.nms.length<=3000-> ∀ (σ:St),∃r τ,CI (.fn 196) [.agg t.cs] σ=some (.ret (.arr (σ.length+r) t.nms.length 0 t.nms.length),σ++τ)/\τ[r]? =some (aJ t.nms)
 | .mk k n s l ls tail,hsm,hln,σ=>by
  have hsub: ∀t ∈ l,t.nms.length<=(bE l).length:=fun t ht=>by
   have: ∀ (l:List Ty),t ∈ l->t.nms.length<=(bE l).length:=fun l=>by
    induction l with
    |nil=>intro h;cases h
    |cons a r ih=>
     intro h
     simp only [bE,List.length_append]
     cases h with
     |head=>omega
     |tail _ h=>have:=ih h;omega
   exact this l ht
  have hlen: (Ty.mk k n s l ls tail).nms.length=(if k=5 then 1 else 0) + (if k=6 then 1 else 0) + (bE l).length:=by
   simp only [Ty.nms,List.length_append];split<;>split<;>rfl
  have ih:=fun y (hy:y ∈ l) σ=>KB y (eM hsm.2.2.2 hy) (by have:=hsub y hy;omega) σ
  obtain ⟨ld,hld,hll,hlg⟩:=opq Ty.d l
  have hcs: (Ty.mk k n s l ls tail).cs=[.int .i64 k, .int .i64 n, .str s, .slice ld, .slice (ls.map Lab.d), .int .i64 tail]:=by simp only [Ty.cs,bS,hld]
  have hl4:=hsm.1
  have S2: ∀ (b:List Bs) (τ:St) (x:List Bs),(σ++[Obj.box [.int .i64 k, .int .i64 n, .str s, .slice ld, .slice (ls.map Lab.d), .int .i64 tail],aJ b]++τ).set (σ.length+1) (.row 1 (b.map .str++x.map .str) 0)=σ++[Obj.box [.int .i64 k, .int .i64 n, .str s, .slice ld, .slice (ls.map Lab.d), .int .i64 tail],aJ (b++x)]++τ:=fun b τ x=>by
   rw [List.append_assoc,bP,List.append_assoc];simp [aJ]
  have hbl: ∀i,(bE (l.take i)).length<=(bE l).length:=fun i=>by
   have: ∀ (a b:List Ty),bE (a++b)=bE a++bE b:=fun a b=>by
    induction a with
    |nil=>rfl
    |cons x r ih=>simp only [List.cons_append,bE,ih,List.append_assoc]
   have h:=this (l.take i) (l.drop i)
   rw [List.take_append_drop] at h
   rw [h,List.length_append];omega
  have hsnoc: ∀i (hi:i<l.length),bE (l.take (i+1))=bE (l.take i)++l[i].nms:=fun i hi=>by
   have: ∀ (a b:List Ty),bE (a++b)=bE a++bE b:=fun a b=>by
    induction a with
    |nil=>rfl
    |cons x r ih=>simp only [List.cons_append,bE,ih,List.append_assoc]
   rw [List.take_succ_eq_append_getElem hi,this];simp [bE]
  have hit:=fun (b0:List Bs) (hb0:b0.length<=2)=>cA (γ:=Unit) (f:=aD CI XB GI 35 false tw) l (fun i (b:List Bs)=>[(1, .ptr σ.length 0),(3, .arr (σ.length+1) b.length 0 b.length),(4, .int .i64 (i:Nat))])
   (fun b=>σ++[Obj.box [.int .i64 k, .int .i64 n, .str s, .slice ld, .slice (ls.map Lab.d), .int .i64 tail],aJ b]) (fun i b=>b=b0++bE (l.take i)) (fun _ t b=> .inl (b++t.nms)) (fun _=>(.ret,[])) (fun _=>[])
   (fun b=>(.exit 0,[(1, .ptr σ.length 0),(3, .arr (σ.length+1) b.length 0 b.length),(4, .int .i64 l.length),(23, .bool false)])) (by simp) (by simp)
   (fun i hi b b' hb hs=>by
     cases hs
     rw [hsnoc i hi,hb,List.append_assoc])
   (fun i hi b τ hb=>by
     obtain ⟨r,τ1,h1,h2⟩:=ih l[i] (List.getElem_mem hi) (σ++[Obj.box [.int .i64 k, .int .i64 n, .str s, .slice ld, .slice (ls.map Lab.d), .int .i64 tail],aJ b]++τ)
     have hwr:=aI (n:=i) (by omega)
     obtain ⟨g2,g3⟩:=hlg i hi
     have hii: (i:Int) <l.length:=by omega
     have y1:=l[i].aL
     have y2:=l[i].aM
     have hbn:=hsub _ (List.getElem_mem hi)
     have hbb:=hbl i
     have hbl2:b.length<=2+3000:=by rw [hb,List.length_append];omega
     have hba: (b.length+l[i].nms.length) *16<=140737488355328:=by omega
     refine ⟨τ++τ1, ?_⟩
     have hS:=S2 b (τ++τ1) l[i].nms
     simp only
     rw [<-hS]
     have hg0: (σ++[Obj.box [.int .i64 k, .int .i64 n, .str s, .slice ld, .slice (ls.map Lab.d), .int .i64 tail],aJ b]++τ)[σ.length]? =some (Obj.box [.int .i64 k, .int .i64 n, .str s, .slice ld, .slice (ls.map Lab.d), .int .i64 tail]):=by rw [List.append_assoc];exact az
     have hg1: (σ++[Obj.box [.int .i64 k, .int .i64 n, .str s, .slice ld, .slice (ls.map Lab.d), .int .i64 tail],aJ b]++τ++τ1)[σ.length+1]? =some (aJ b):=by rw [List.append_assoc,List.append_assoc];exact aS
     have hrow:=DW (σ:=σ++[Obj.box [.int .i64 k, .int .i64 n, .str s, .slice ld, .slice (ls.map Lab.d), .int .i64 tail],aJ b]++τ++τ1) (l:=l[i].nms) (r:=(σ++[Obj.box [.int .i64 k, .int .i64 n, .str s, .slice ld, .slice (ls.map Lab.d), .int .i64 tail],aJ b]++τ).length+r) (by rw [aS];exact h2)
     have hall: ((l[i].nms.map D.str).all fun e=>e.cells.length==1&&e.cells.all D.one)=true:=by
      rw [List.all_eq_true];intro e he
      obtain ⟨x,_,rfl⟩:=List.mem_map.1 he
      rfl
     simp only [D.cells,D.one] at hall
     have hnl: (l[i].nms.map D.str).length=l[i].nms.length:=List.length_map _
     have hbm: (b.map D.str).length=b.length:=List.length_map _
     clear hS h2 hb
     rw [<-List.append_assoc]
     generalize hσ2:σ++[Obj.box [.int .i64 k, .int .i64 n, .str s, .slice ld, .slice (ls.map Lab.d), .int .i64 tail],aJ b]++τ++τ1=σ2 at*
     generalize hσ1:σ++[Obj.box [.int .i64 k, .int .i64 n, .str s, .slice ld, .slice (ls.map Lab.d), .int .i64 tail],aJ b]++τ=σ1 at*
     clear hσ1 hσ2
     unfold aJ at hg1
     unfold Ty.d at g3
     generalize l[i].cs=tc at*
     rw [List.length_append]
     generalize l[i].nms.length=nl at*
     generalize l[i].nms.map D.str=nd at*
     generalize σ1.length+r=R at*
     simp [tw,hi,hii,hwr,hll,g2,g3,y1,y2,hg0,hg1,h1,hrow,hall,hnl,hbm,hba, -List.all_eq_true])
   (fun b τ hb=>⟨τ,by
     have hg0: (σ++[Obj.box [.int .i64 k, .int .i64 n, .str s, .slice ld, .slice (ls.map Lab.d), .int .i64 tail],aJ b]++τ)[σ.length]? =some (Obj.box [.int .i64 k, .int .i64 n, .str s, .slice ld, .slice (ls.map Lab.d), .int .i64 tail]):=by rw [List.append_assoc];exact az
     generalize σ++[Obj.box [.int .i64 k, .int .i64 n, .str s, .slice ld, .slice (ls.map Lab.d), .int .i64 tail],aJ b]++τ=σ1 at*
     simp [tw,hg0,hll]⟩) b0 [] (by simp [bE])
  have hfold: ∀ (l:List Ty) (i:Nat) (b:List Bs),bf (γ:=Unit) (fun _ (t:Ty) b=> .inl (b++t.nms)) l i b= .inl (b++bE l):=fun l=>by
   induction l with
   |nil=>intro i b;simp [bf,bE]
   |cons a r ih=>intro i b;simp only [bf,ih,bE,List.append_assoc]
  simp only [hfold,List.append_nil,Int.natCast_zero] at hit
  refine ⟨1, ?_⟩
  rw [hcs]
  by_cases k5:k=5
  ·subst k5
   obtain ⟨τ,hit⟩:=hit [[]] (by simp)
   refine ⟨[Obj.box [.int .i64 5, .int .i64 n, .str s, .slice ld, .slice (ls.map Lab.d), .int .i64 tail],aJ ([[]]++bE l)]++τ, ?_, ?_⟩
   ·have hnm: (Ty.mk 5 n s l ls tail).nms=[[]]++bE l:=by simp only [Ty.nms];rfl
    rw [hnm,<-List.append_assoc]
    refine yy BN ?_
    generalize σ++[Obj.box [.int .i64 5, .int .i64 n, .str s, .slice ld, .slice (ls.map Lab.d), .int .i64 tail],aJ ([[]]++bE l)]++τ=σ2 at*
    simp only [aJ,List.map_cons,List.map_nil,List.length_cons,List.length_nil] at hit
    simp [ah,xx,az,aS,aN,bP,bw,rowOf,hit]
   ·have hnm: (Ty.mk 5 n s l ls tail).nms=[[]]++bE l:=by simp only [Ty.nms];rfl
    rw [hnm];rfl
  ·by_cases k6:k=6
   ·subst k6
    obtain ⟨τ,hit⟩:=hit [s] (by simp)
    have hnm: (Ty.mk 6 n s l ls tail).nms=[s]++bE l:=by simp only [Ty.nms];rfl
    refine ⟨[Obj.box [.int .i64 6, .int .i64 n, .str s, .slice ld, .slice (ls.map Lab.d), .int .i64 tail],aJ ([s]++bE l)]++τ, ?_,by rw [hnm];rfl⟩
    rw [hnm,<-List.append_assoc]
    refine yy BN ?_
    generalize σ++[Obj.box [.int .i64 6, .int .i64 n, .str s, .slice ld, .slice (ls.map Lab.d), .int .i64 tail],aJ ([s]++bE l)]++τ=σ2 at*
    simp only [aJ,List.map_cons,List.map_nil,List.length_cons,List.length_nil] at hit
    simp [ah,xx,az,aS,aN,bP,bw,rowOf,hit]
   ·have b5: (k==5)=false:=by simpa using k5
    have b6: (k==6)=false:=by simpa using k6
    obtain ⟨τ,hit⟩:=hit [] (by simp)
    have hnm: (Ty.mk k n s l ls tail).nms=[]++bE l:=by simp only [Ty.nms,if_neg k5,if_neg k6];rfl
    refine ⟨[Obj.box [.int .i64 k, .int .i64 n, .str s, .slice ld, .slice (ls.map Lab.d), .int .i64 tail],aJ ([]++bE l)]++τ, ?_,by rw [hnm];rfl⟩
    rw [hnm,<-List.append_assoc]
    refine yy BN ?_
    generalize σ++[Obj.box [.int .i64 k, .int .i64 n, .str s, .slice ld, .slice (ls.map Lab.d), .int .i64 tail],aJ ([]++bE l)]++τ=σ2 at*
    simp only [aJ,List.map_cons,List.map_nil,List.length_cons,List.length_nil] at hit
    simp [ah,xx,az,aS,aN,bP,bw,rowOf,b5,b6,hit]
termination_by t=>SizeOf.sizeOf t
decreasing_by
 have:=List.sizeOf_lt_of_mem hy
 simp only [Ty.mk.sizeOf_spec]
 omega
abbrev stM (σ:St) (r:Nat) (b:List Bs):St:=σ.set r (aJ b)
abbrev pW (r:Nat) (b:List Bs):D:= .arr r b.length 0 b.length
theorem yz {σ τ:St} {r:Nat} {b:List Bs} (hr:r<σ.length): (stM σ r b++τ)[r]? =some (aJ b):=nr hr
theorem Gh {σ τ:St} {r:Nat} {b:List Bs} (hr:r<σ.length) (x:Bs): (stM σ r b++τ).set r (.row 1 (b.map .str++[.str x]) 0)=stM σ r (b++[x])++τ:=by
 have:Obj.row 1 (b.map .str++[.str x]) 0=aJ (b++[x]):=by simp [aJ]
 rw [this];exact Ak hr
theorem Gi {σ τ:St} {r:Nat} {b:List Bs} {k:Nat} : (stM σ r b++τ)[σ.length+k]? =τ[k]? :=pX
set_option maxHeartbeats 2000000 in
theorem CW (U ml:List Bs) (hml: ∀x ∈ ml,x ∈ U) (hmn:ml.length<=3000) (d2 d6 d7 d8 d9:D) (r r2:Nat) (σ τ:St) (hr:r<σ.length) (h2:τ[r2]? =some (aJ ml)):
 ∀ (k j:Nat) (b:List Bs),j+k=ml.length->b.length+lg U b<=4000->
  aU (aD CI XB GI 88 false pY) [(2,d2),(5,pW r b),(6,d6),(7,d7),(8,d8),(9,d9),(10,pW (σ.length+r2) ml),(11, .int .i64 (j:Nat))] (stM σ r b++τ)=
   some (.exit 6,[(2,d2),(5,pW r (eR b (ml.drop j))),(6,d6),(7,d7),(8,d8),(9,d9),(10,pW (σ.length+r2) ml),(11, .int .i64 ml.length),(71, .bool false)],stM σ r (eR b (ml.drop j))++τ)
 |0,j,b,hj,hb=>by
  obtain rfl:j=ml.length:=by omega
  rw [List.drop_length]
  simp only [eR]
  refine aH ?_ (by simp)
  generalize stM σ r b++τ=σ1
  simp [pY]
 |k+1,j,b,hj,hb=>by
  have hlt:j<ml.length:=by omega
  have hx:=hml _ (List.getElem_mem hlt)
  have h1:=Ar (b:=b) hx
  rw [List.drop_eq_getElem_cons hlt]
  simp only [eR]
  rw [<-CW U ml hml hmn d2 d6 d7 d8 d9 r r2 σ τ hr h2 k (j+1) (uM b ml[j]) (by omega) (by omega)]
  refine aO ?_
  have hw:=aI (n:=j) (by omega)
  have hjj: (j:Int) <ml.length:=by omega
  have dO:=zG b ml[j] r (stM σ r b++τ) (yz hr) (by unfold aQ;omega)
  have hg:=yz (τ:=τ) (b:=b) hr
  have hg2: (stM σ r b++τ)[σ.length+r2]? =some (aJ ml):=Gi.trans h2
  have hs:=Gh (τ:=τ) (b:=b) hr ml[j]
  obtain ⟨md,hmd,hmlen,hmg⟩:=opq D.str ml
  obtain ⟨m2,m3⟩:=hmg j hlt
  have hblen: (b.map D.str).length=b.length:=List.length_map _
  unfold aJ at hg hg2
  rw [hmd] at hg2
  have hba: (b.length+1) *16<=140737488355328:=by omega
  unfold uM
  cases hh:cV b ml[j] with
  |true=>
   rw [hh] at dO
   simp only [if_true]
   generalize stM σ r b++τ=σ1 at*
   simp [pY,hlt,hjj,hw,hg2,m2,m3,hmlen,dO]
  |false=>
   rw [hh] at dO
   simp only [Bool.false_eq_true,if_false]
   rw [<-hs]
   generalize stM σ r b++τ=σ1 at*
   generalize b.map D.str=bd at*
   simp [pY,hlt,hjj,hw,hg,hg2,m2,m3,hmlen,hblen,hba,dO,bw,rowOf]
theorem nW {α:Type} (g:α->List Bs): ∀ (l:List α) (i:Nat) (b:List Bs),bf (γ:=Unit) (fun _ c b=> .inl (eR b (g c))) l i b= .inl (eR b (l.flatMap g))
 | [],i,b=>by simp [bf,eR]
 |a::r,i,b=>by simp only [bf,nW g r,List.flatMap_cons,Aq]
set_option maxHeartbeats 4000000 in
theorem Gj (p:Prg) (U:List Bs) (kk cc:Nat) (hk:kk<p.data.length) (hdl:p.data.length<=12) (hc:cc<p.data[kk].cons.length) (hcl8:p.data[kk].cons.length<=100) (hargs:p.data[kk].cons[cc].args.length<=4) (hok: ∀t ∈ p.data[kk].cons[cc].args,t.small/\t.nms.length<=3000/\ ∀x ∈ t.nms,x ∈ U) (d6:D) (r q:Nat) (σ:St) (hr:r<σ.length)
 (hq: ∀b τ,(stM σ r b++τ)[q]? =some (.box p.cs)) (b:List Bs) (hb:b.length+lg U b<=4000) (τ:St):
 ∃τ',aU (aD CI XB GI 88 false pZ) [(2, .ptr q 0),(5,pW r b),(6,d6),(7, .int .i64 kk),(8, .int .i64 cc),(9, .int .i64 (0:Nat))] (stM σ r b++τ)=
  some (.exit 4,[(2, .ptr q 0),(5,pW r (eR b (bE p.data[kk].cons[cc].args))),(6,d6),(7, .int .i64 kk),(8, .int .i64 cc),(9, .int .i64 p.data[kk].cons[cc].args.length),(51, .bool false)],stM σ r (eR b (bE p.data[kk].cons[cc].args))++τ'):=by
 have hfl: ∀l:List Ty,bE l=l.flatMap Ty.nms:=fun l=>by
  induction l with
  |nil=>rfl
  |cons a r ih=>simp only [bE,List.flatMap_cons,ih]
 rw [hfl]
 obtain ⟨ld,hld,hll,hlg⟩:=opq Dat.d p.data
 obtain ⟨f2,f3⟩:=hlg kk hk
 have hkk: (kk:Int) <p.data.length:=by omega
 have hh:p.cs.head?=some (.slice ld):=by rw [p.dw,<-hld];rfl
 have hdd:p.data[kk].d= .agg [.str p.data[kk].name, .slice (p.data[kk].params.map D.str), .slice (p.data[kk].cons.map Con.d)]:=rfl
 rw [hdd] at f3
 obtain ⟨cd,hcd,hcl,hcg⟩:=opq Con.d p.data[kk].cons
 obtain ⟨g2,g3⟩:=hcg cc hc
 have hcc: (cc:Int) <p.data[kk].cons.length:=by omega
 have hcd1:p.data[kk].cons[cc].d= .agg [.str p.data[kk].cons[cc].name, .slice (p.data[kk].cons[cc].args.map Ty.d)]:=by unfold Con.d Con.cs;rw [bS]
 rw [hcd1] at g3
 rw [hcd] at f3
 obtain ⟨ad,had,hal,hag⟩:=opq Ty.d p.data[kk].cons[cc].args
 rw [had] at g3
 generalize p.data[kk].cons[cc].args=args at*
 obtain ⟨τ',hit⟩:=cA (γ:=Unit) (f:=aD CI XB GI 88 false pZ) args (fun i (b:List Bs)=>[(2, .ptr q 0),(5,pW r b),(6,d6),(7, .int .i64 kk),(8, .int .i64 cc),(9, .int .i64 (i:Nat))])
  (fun b=>stM σ r b) (fun i b=>b.length+lg U b<=4000) (fun _ t b=> .inl (eR b t.nms)) (fun _=>(.ret,[])) (fun _=>[])
  (fun b=>(.exit 4,[(2, .ptr q 0),(5,pW r b),(6,d6),(7, .int .i64 kk),(8, .int .i64 cc),(9, .int .i64 args.length),(51, .bool false)])) (by simp) (by simp)
  (fun i hi b b' hb hs=>by
    cases hs
    exact Nat.le_trans (pV _ _ (hok _ (List.getElem_mem hi)).2.2) hb)
  (fun i hi b τ hb=>by
    obtain ⟨o1,o2,o3⟩:=hok _ (List.getElem_mem hi)
    obtain ⟨r',τ1,h196,hr1⟩:=KB args[i] o1 o2 (stM σ r b++τ)
    have hlen: (stM σ r b++τ).length+r'=σ.length+ (τ.length+r'):=by simp;omega
    rw [hlen] at h196
    have h0:=CW U args[i].nms o3 o2 (.ptr q 0) d6 (.int .i64 kk) (.int .i64 cc) (.int .i64 (i:Nat)) r (τ.length+r') σ (τ++τ1) hr (by rw [List.getElem?_append_right (by omega),Nat.add_sub_cancel_left];exact hr1) args[i].nms.length 0 b (by omega) hb
    rw [List.drop_zero,Int.natCast_zero] at h0
    refine ⟨τ++τ1, ?_⟩
    have hwr:=aI (n:=i) (by omega)
    obtain ⟨a2,a3⟩:=hag i hi
    have hii: (i:Int) <args.length:=by omega
    have y1:=args[i].aL
    have y2:=args[i].aM
    have hq1:=hq b τ
    have hq2:=hq b (τ++τ1)
    simp only
    rw [<-List.append_assoc] at h0 hq2
    unfold Ty.d at a3
    clear hok hq hr1 hb o3 hlen
    generalize stM σ r (eR b args[i].nms)++(τ++τ1)=σ3 at*
    generalize stM σ r b++τ=σ1 at*
    generalize args[i].cs=tc at*
    generalize eR b args[i].nms=b' at*
    generalize args[i].nms=nm at*
    generalize p.cs=pc at*
    simp [pZ,hq1,hq2,hh,hll,hk,hkk,f2,f3,hc,hcc,hcl,g2,g3,hal,hi,hii,hwr,a2,a3,y1,y2,h196,h0])
  (fun b τ hb=>⟨τ,by
    have hq1:=hq b τ
    generalize stM σ r b++τ=σ1 at*
    generalize p.cs=pc at*
    simp [pZ,hq1,hh,hll,hk,hkk,f2,f3,hc,hcc,hcl,g2,g3,hal]⟩) b τ hb
 rw [nW] at hit
 exact ⟨τ',hit⟩
set_option maxHeartbeats 4000000 in
theorem Gk (p:Prg) (U:List Bs) (kk:Nat) (hk:kk<p.data.length) (hdl:p.data.length<=12) (hcl8:p.data[kk].cons.length<=100) (hok: ∀c ∈ p.data[kk].cons,c.args.length<=4/\ ∀t ∈ c.args,t.small/\t.nms.length<=3000/\ ∀x ∈ t.nms,x ∈ U) (d6:D) (r q:Nat) (σ:St) (hr:r<σ.length)
 (hq: ∀b τ,(stM σ r b++τ)[q]? =some (.box p.cs)) (b:List Bs) (hb:b.length+lg U b<=4000) (τ:St):
 ∃τ',aU (aD CI XB GI 88 false p4) [(2, .ptr q 0),(5,pW r b),(6,d6),(7, .int .i64 kk),(8, .int .i64 (0:Nat))] (stM σ r b++τ)=
  some (.exit 2,[(2, .ptr q 0),(5,pW r (eR b (ef p.data[kk].cons))),(6,d6),(7, .int .i64 kk),(8, .int .i64 p.data[kk].cons.length),(36, .bool false)],stM σ r (eR b (ef p.data[kk].cons))++τ'):=by
 obtain ⟨ld,hld,hll,hlg⟩:=opq Dat.d p.data
 obtain ⟨f2,f3⟩:=hlg kk hk
 have hkk: (kk:Int) <p.data.length:=by omega
 have hh:p.cs.head?=some (.slice ld):=by rw [p.dw,<-hld];rfl
 have hdd:p.data[kk].d= .agg [.str p.data[kk].name, .slice (p.data[kk].params.map D.str), .slice (p.data[kk].cons.map Con.d)]:=rfl
 rw [hdd] at f3
 have hcl: (p.data[kk].cons.map Con.d).length=p.data[kk].cons.length:=List.length_map _
 have hU: ∀c ∈ p.data[kk].cons,∀x ∈ bE c.args,x ∈ U:=fun c hc x hx=>by
  obtain ⟨t,ht,hxt⟩:=uL.1 hx
  exact ((hok c hc).2 t ht).2.2 x hxt
 unfold ef
 obtain ⟨τ',hit⟩:=cA (γ:=Unit) (f:=aD CI XB GI 88 false p4) p.data[kk].cons (fun i (b:List Bs)=>[(2, .ptr q 0),(5,pW r b),(6,d6),(7, .int .i64 kk),(8, .int .i64 (i:Nat))])
  (fun b=>stM σ r b) (fun i b=>b.length+lg U b<=4000) (fun _ c b=> .inl (eR b (bE c.args))) (fun _=>(.ret,[])) (fun _=>[])
  (fun b=>(.exit 2,[(2, .ptr q 0),(5,pW r b),(6,d6),(7, .int .i64 kk),(8, .int .i64 p.data[kk].cons.length),(36, .bool false)])) (by simp) (by simp)
  (fun i hi b b' hb hs=>by
    cases hs
    exact Nat.le_trans (pV _ _ (hU _ (List.getElem_mem hi))) hb)
  (fun i hi b τ hb=>by
    obtain ⟨o1,o2⟩:=hok _ (List.getElem_mem hi)
    obtain ⟨τ1,h1⟩:=Gj p U kk i hk hdl hi hcl8 o1 o2 d6 r q σ hr hq b hb τ
    rw [Int.natCast_zero] at h1
    refine ⟨τ1, ?_⟩
    have hwr:=aI (n:=i) (by omega)
    have hii: (i:Int) <p.data[kk].cons.length:=by omega
    have hq1:=hq b τ
    simp only
    clear hok hq hb o2 hU
    generalize stM σ r (eR b (bE p.data[kk].cons[i].args))++τ1=σ3 at*
    generalize stM σ r b++τ=σ1 at*
    generalize eR b (bE p.data[kk].cons[i].args)=b' at*
    generalize p.data[kk].cons.map Con.d=cd at*
    generalize p.cs=pc at*
    simp [p4,hq1,hh,hll,hk,hkk,f2,f3,hcl,hi,hii,hwr,h1])
  (fun b τ hb=>⟨τ,by
    have hq1:=hq b τ
    generalize stM σ r b++τ=σ1 at*
    generalize p.data[kk].cons.map Con.d=cd at*
    generalize p.cs=pc at*
    simp [p4,hq1,hh,hll,hk,hkk,f2,f3,hcl]⟩) b τ hb
 rw [nW] at hit
 exact ⟨τ',hit⟩
structure Met (p:Prg) (t:Ty) (b:List Bs) (i:Nat):Prop where
 top: ∀x ∈ t.nms,x ∈ b
 done: ∀j (hj:j<b.length),j<i-> ∃k:Nat,∃hk:k<p.data.length,idxOf (fun d:Dat=>d.name==b[j]) p.data=k/\ ∀y ∈ ef p.data[k].cons,y ∈ b
 all: ∀A,ko p A->t.ff p A-> ∀x ∈ b,EO p A x
 u: ∀x ∈ b,x ∈ p.U
theorem Met.next {p:Prg} (hne: ∀d ∈ p.data,d.name≠[]) (hls: ∀d ∈ p.data,d.fit p) {t:Ty} {b:List Bs} {i:Nat} (h:Met p t b i) (hi:i<b.length) {k:Nat} (hk:k<p.data.length) (hx:idxOf (fun d:Dat=>d.name==b[i]) p.data=k):Met p t (eR b (ef p.data[k].cons)) (i+1):=by
 obtain ⟨e,he⟩:=uN (ef p.data[k].cons) b
 have bq: ∀j (hj:j< (eR b (ef p.data[k].cons)).length),j<b.length-> ∃h2:j<b.length,(eR b (ef p.data[k].cons))[j]=b[j]:=fun j hj hjb=>⟨hjb,by
  simp only [he];rw [List.getElem_append_left hjb]⟩
 refine ⟨fun x hx=>jT.2 (.inl (h.top x hx)),fun j hj hji=> ?_,fun A hA hf x hx2=> ?_,fun x hx2=> ?_⟩
 ·by_cases hji2:j=i
  ·subst hji2
   obtain ⟨_,h2⟩:=bq j hj hi
   rw [h2]
   exact ⟨k,hk,hx,fun y hy=>jT.2 (.inr hy)⟩
  ·obtain ⟨hjb,h2⟩:=bq j hj (by omega)
   rw [h2]
   obtain ⟨k2,hk2,h3,h4⟩:=h.done j hjb (by omega)
   exact ⟨k2,hk2,h3,fun y hy=>jT.2 (.inl (h4 y hy))⟩
 ·rcases jT.1 hx2 with hx2|hx2
  ·exact h.all A hA hf x hx2
  ·have h1:=(h.all A hA hf _ (List.getElem_mem hi)).2
   rw [xu hx] at h1
   exact (Dat.rj hne (hls _ (List.getElem_mem hk))).1 (hA k hk h1) x hx2
 ·rcases jT.1 hx2 with hx2|hx2
  ·exact h.u x hx2
  ·obtain ⟨c,hc,hxc⟩:=List.mem_flatMap.1 hx2
   exact pU c.args (fun t ht=>(((hls _ (List.getElem_mem hk)).2.2 c hc).2 t ht).2) x hxc
theorem Met.bad {p:Prg} {t:Ty} {b:List Bs} {i:Nat} (h:Met p t b i) (hi:i<b.length) (hx:idxOf (fun d:Dat=>d.name==b[i]) p.data<0): ¬r8 p t:=by
 rintro ⟨A,hA,hf⟩
 have h1:=(h.all A hA hf _ (List.getElem_mem hi)).1
 have h2:=h.u _ (List.getElem_mem hi)
 unfold Prg.U at h2
 rcases List.mem_cons.1 h2 with h2|h2
 ·exact h1 h2
 ·obtain ⟨d,hd,hn⟩:=List.mem_map.1 h2
  rcases fk (fun d:Dat=>d.name==b[i]) p.data with ⟨_,hf⟩ | ⟨j,hj,_⟩
  ·have:=List.find?_eq_none.1 hf d hd
   simp [hn] at this
  ·omega
set_option maxHeartbeats 4000000 in
theorem Gm (p:Prg) (hne: ∀d ∈ p.data,d.name≠[]) (hdl:p.data.length<=12) (hls: ∀d ∈ p.data,d.fit p) (hnm: ∀d ∈ p.data,∀c ∈ d.cons,∀t ∈ c.args,t.nms.length<=3000) (t:Ty) (ho:t.ord p []=0) (r q:Nat) (σ:St) (hr:r<σ.length)
 (hq: ∀b τ,(stM σ r b++τ)[q]? =some (.box p.cs)): ∀ (μ i:Nat) (b:List Bs) (τ:St),lg p.U b+ (b.length - i)<=μ->i<=b.length->b.length+lg p.U b<=4000->Met p t b i->
 ∃b' τ',aU (aD CI XB GI 88 false mL) [(2, .ptr q 0),(5,pW r b),(6, .int .i64 (i:Nat))] (stM σ r b++τ)=some (if p.kq t then (.ret,[(4, .bool true)],stM σ r b'++τ') else (.exit 0,[(2, .ptr q 0),(5,pW r b'),(6, .int .i64 b'.length),(17, .bool false)],stM σ r b'++τ')):=by
 intro μ
 induction μ with
 |zero=>
  intro i b τ hμ hib hb hm
  obtain rfl:i=b.length:=by omega
  have hv:p.kq t=false:=by
   have:r8 p t:=xw hne hls ho hm.top fun x hx=>by
    obtain ⟨j,hj,rfl⟩:=List.getElem_of_mem hx
    exact hm.done j hj hj
   unfold Prg.kq;simp [this]
  refine ⟨b,τ, ?_⟩
  rw [hv]
  refine aH ?_ (by simp)
  generalize stM σ r b++τ=σ1
  simp [mL]
 |succ μ ihμ=>
  intro i b τ hμ hib hb hm
  by_cases hend:i=b.length
  ·subst hend
   have hv:p.kq t=false:=by
    have:r8 p t:=xw hne hls ho hm.top fun x hx=>by
     obtain ⟨j,hj,rfl⟩:=List.getElem_of_mem hx
     exact hm.done j hj hj
    unfold Prg.kq;simp [this]
   refine ⟨b,τ, ?_⟩
   rw [hv]
   refine aH ?_ (by simp)
   generalize stM σ r b++τ=σ1
   simp [mL]
  have hi:i<b.length:=by omega
  have hii: (i:Int) <b.length:=by omega
  have hw:=aI (n:=i) (by omega)
  have hpl:=p.aL
  have hpt:=p.aM
  have h123:=fun σ=>Ev p (by unfold aQ;omega) b[i] σ
  have q123:qI 123=true:=rfl
  have x123:XB 123=false:=rfl
  have e3:bC p.cs p.cs=true:=aG _ p.plain.1
  have hq1:=hq b τ
  have hg:=yz (τ:=τ) (b:=b) hr
  unfold aJ at hg
  obtain ⟨bd,hbd,hbl,hbg⟩:=opq D.str b
  obtain ⟨b2,b3⟩:=hbg i hi
  rw [hbd] at hg
  rcases fk (fun d:Dat=>d.name==b[i]) p.data with ⟨hx,_⟩ | ⟨k,hx,hk,_⟩
  ·have hv:p.kq t=true:=by
    have:=hm.bad hi (by omega)
    unfold Prg.kq;simp [this]
   rw [hv]
   refine ⟨b,τ,aH ?_ (by simp)⟩
   obtain ⟨z,hz⟩: ∃z,idxOf (fun d:Dat=>d.name==b[i]) p.data=z:=⟨_,rfl⟩
   rw [hz] at hx
   simp only [hz] at h123
   simp only [if_true]
   generalize stM σ r b++τ=σ1 at*
   generalize p.cs=pc at*
   simp [mL,hi,hii,hq1,hg,hbl,b2,b3,hpl,hpt,e3,h123,hx,q123,x123,Nat.testBit_eq_decide_div_mod_eq]
  ·have hk0: ¬((k:Int) <0):=by omega
   have hdf:=hls _ (List.getElem_mem hk)
   have hnx:=hm.next hne hls hi hk hx
   have hab:=pV (U:=p.U) (ef p.data[k].cons) b fun x hx=>by
    obtain ⟨c,hc,hxc⟩:=List.mem_flatMap.1 hx
    exact pU c.args (fun t ht=>((hdf.2.2 c hc).2 t ht).2) x hxc
   obtain ⟨e,he⟩:=uN (ef p.data[k].cons) b
   have hle:b.length<=(eR b (ef p.data[k].cons)).length:=by rw [he,List.length_append];omega
   obtain ⟨τ1,h2⟩:=Gk p p.U k hk hdl hdf.2.1 (fun c hc=>⟨(hdf.2.2 c hc).1,fun t ht=>⟨((hdf.2.2 c hc).2 t ht).1,hnm _ (List.getElem_mem hk) c hc t ht,t.EP ((hdf.2.2 c hc).2 t ht).2⟩⟩) (.int .i64 (i:Nat)) r q σ hr hq b hb τ
   rw [Int.natCast_zero] at h2
   obtain ⟨b',τ',h3⟩:=ihμ (i+1) (eR b (ef p.data[k].cons)) τ1 (by omega) (by omega) (by omega) hnx
   refine ⟨b',τ', ?_⟩
   rw [<-h3]
   refine aO ?_
   simp only [hx] at h123
   clear h3 hm hnx hq
   generalize stM σ r (eR b (ef p.data[k].cons))++τ1=σ3 at*
   generalize stM σ r b++τ=σ1 at*
   generalize eR b (ef p.data[k].cons)=b5 at*
   generalize p.cs=pc at*
   simp [mL,hi,hii,hw,hq1,hg,hbl,b2,b3,hpl,hpt,e3,h123,q123,x123,hk0,h2,Nat.testBit_eq_decide_div_mod_eq]
theorem ES {p:Prg} (h:p.decls=0): ∀d ∈ p.data,d.name≠[]:=fun d hd he=>by
 obtain ⟨hs,_⟩:=eG.1 h
 obtain ⟨_,_,_,hs3,_⟩:=Prg.iO hs
 obtain ⟨_,_,a3,_⟩:=gE (hs3 d hd)
 rw [he] at a3
 cases a3
theorem ET {p:Prg} (h:p.decls=0): ∀d ∈ p.data,∀c ∈ d.cons,∀t ∈ c.args,t.nms.length<=3000:=fun d hd c hc t ht=>Ty.yx ((q5 h hd hc).2.2 t ht)
set_option maxHeartbeats 2000000 in
theorem RB (p:Prg) (t:Ty) (he:p.tyE t=0) (σ:St):CI (.fn 158) [.agg p.cs, .agg t.cs] σ=some (.ret (.bool (p.kq t)),σ):=by
 obtain ⟨z1,z2,_,z4⟩:=gV he
 obtain ⟨hdl,hls⟩:=gF z1
 have hne:=ES z1
 obtain ⟨r,τ0,h196,hr⟩:=KB t (Ty.mH z2) (Ty.yx z2) (σ++[.box p.cs, .box t.cs])
 have hl2: (σ++[Obj.box p.cs, .box t.cs]).length=σ.length+2:=by simp
 rw [hl2] at h196
 have hrl:=b8 hr
 have hR:σ.length+2+r< (σ++[Obj.box p.cs, .box t.cs]++τ0).length:=by simp;omega
 have hg: (σ++[Obj.box p.cs, .box t.cs]++τ0)[σ.length+2+r]? =some (aJ t.nms):=by
  rw [<-hl2,aS];exact hr
 have hself:stM (σ++[Obj.box p.cs, .box t.cs]++τ0) (σ.length+2+r) t.nms=σ++[Obj.box p.cs, .box t.cs]++τ0:=by
  obtain ⟨h1,h2⟩:=List.getElem?_eq_some_iff.1 hg
  unfold stM
  rw [<-h2];exact List.set_getElem_self h1
 have hq: ∀b τ,(stM (σ++[Obj.box p.cs, .box t.cs]++τ0) (σ.length+2+r) b++τ)[σ.length]? =some (.box p.cs):=fun b τ=>by
  refine bD ?_
  rw [List.getElem?_set_ne (by omega),List.append_assoc];exact az
 have hU:p.U.length<=13:=by unfold Prg.U;simp;omega
 have ha:=Gg p.U t.nms
 have hnl:=Ty.yx z2
 obtain ⟨b',τ',hit⟩:=Gm p hne hdl hls (ET z1) t z4 (σ.length+2+r) σ.length (σ++[Obj.box p.cs, .box t.cs]++τ0) hR hq _ 0 t.nms [] (Nat.le_refl _) (by omega) (by omega)
  ⟨fun x hx=>hx,fun j hj h0=>by omega,fun A hA hf=>(t.rj hne z4).1 hf,t.EP z4⟩
 rw [hself,List.append_nil,Int.natCast_zero] at hit
 have hall:=p.bJ
 have y1:=t.aL
 have y2:=t.aM
 have y3:t.cs.all D.one=true:=by cases t;rfl
 obtain ⟨τ3,h3⟩: ∃τ3,stM (σ++[Obj.box p.cs, .box t.cs]++τ0) (σ.length+2+r) b'++τ'=σ++τ3:=by
  refine ⟨([Obj.box p.cs, .box t.cs]++τ0).set (2+r) (aJ b')++τ', ?_⟩
  unfold stM
  rw [List.append_assoc,Nat.add_assoc,bP,List.append_assoc]
 rw [h3] at hit
 have hτ:ah CI XB GI As [.agg p.cs, .agg t.cs] σ=some (.ret (.bool (p.kq t)),σ++τ3):=by
  clear hself hq h3 hg hR
  generalize σ++[Obj.box p.cs, .box t.cs]++τ0=σ1 at*
  generalize σ++τ3=σ3 at*
  generalize p.cs=pc at*
  generalize t.cs=tc at*
  cases hv:p.kq t<;>rw [hv] at hit<;>simp [ah,As,az,aS,hall,y1,y2,y3,h196,hit]
 exact aR KC hτ rfl rfl
mutual
theorem Ty.At (f:Int->Bool): ∀ (t:Ty),t.e=0->t.cl f=true->t.vk
 | .mk k n s l ls tail,he,hc=>by
  simp only [Ty.e] at he
  simp only [Ty.cl,Bool.and_eq_true] at hc
  split at he
  ·rename_i ht
   have hk:inR k 0 6=true:=by
    unfold bR at ht
    cases hh:inR k 0 6 with
    |true=>rfl
    |false=>rw [hh] at ht;simp at ht
   unfold inR at hk
   simp only [Bool.and_eq_true,decide_eq_true_eq] at hk
   have hk0:k≠0:=by
    rintro rfl
    simp at hc
   exact ⟨by omega,by omega,Au f l he hc.2⟩
  ·rename_i ht;exact absurd he ht
theorem Au (f:Int->Bool): ∀ (l:List Ty),j8 l=0->o7 f l=true->se l
 | [],_,_=>trivial
 |t::r,he,hc=>by
  simp only [j8] at he
  simp only [o7,Bool.and_eq_true] at hc
  split at he
  ·rename_i ht
   exact ⟨t.At f ht hc.1,Au f r he hc.2⟩
  ·rename_i ht;exact absurd he ht
end
theorem uO {p:Prg} (h:p.decls=0): ∀d ∈ p.data,∀c ∈ d.cons,∀a ∈ c.args,a.vk:=fun d hd c hc a ha=>by
 obtain ⟨hs,_⟩:=eG.1 h
 obtain ⟨_,_,_,hs3,_⟩:=Prg.iO hs
 obtain ⟨_,_,_,_,a5⟩:=gE (hs3 d hd)
 have:=a5 c hc
 unfold qU at this
 split at this
 ·cases this
 ·split at this
  ·unfold gA at this
   rw [dK] at this
   have h1:=this _ (List.mem_map_of_mem ha)
   unfold eF at h1
   split at h1
   ·rename_i hk
    split at h1
    ·rename_i hcl
     exact a.At je (Ty.rU hk) hcl
    ·cases h1
   ·rename_i h2;exact absurd h1 h2
  ·cases this
theorem nX {p:Prg} {t:Ty} (h:p.kq t=false):r8 p t:=by
 unfold Prg.kq at h
 simpa using h
set_option maxHeartbeats 2000000 in
theorem RD (p:Prg) (hok:p.ok) (t:Ty) (ht:t.ok) (n:Int) (σ:St):CI (.fn 105) [.agg p.cs, .agg t.cs, .int .i64 n] σ=some (.ret (.int .i64 (p.gY t n)),σ):=by
 have h23:=fun σ=>c23 p hok t ht σ
 have h158:=fun h σ=>RB p t h σ
 have h157:=fun σ=>p5 n 0 7 σ
 have hall:=p.bJ
 have hpl:=p.aL
 have hpt:=p.aM
 have y1:=t.aL
 have y2:=t.aM
 have y3:t.cs.all D.one=true:=by cases t;rfl
 have hτ:ah CI XB GI uP [.agg p.cs, .agg t.cs, .int .i64 n] σ=some (.ret (.int .i64 (p.gY t n)),σ++[.box p.cs, .box t.cs]):=by
  unfold Prg.gY orE
  by_cases he:p.tyE t=0
  ·have h158:=h158 he
   rw [he] at h23 ⊢
   rw [if_pos rfl]
   generalize p.kq t=v at*
   generalize p.cs=pc at*
   generalize t.cs=tc at*
   by_cases hn:n<0\/7<n
   ·rw [if_pos hn]
    have hv: (decide (0<=n)&&decide (n<=7))=false:=by simp;omega
    rw [hv] at h157
    simp [ah,uP,az,aS,hall,hpl,hpt,y1,y2,y3,h23,h157]
   ·rw [if_neg hn]
    have hv: (decide (0<=n)&&decide (n<=7))=true:=by simp;omega
    rw [hv] at h157
    cases v<;>simp [ah,uP,az,aS,hall,hpl,hpt,y1,y2,y3,h23,h157,h158]
  ·rw [if_neg he]
   have hb: (p.tyE t==0)=false:=by simpa using he
   generalize p.tyE t=e at*
   clear h158
   generalize p.cs=pc at*
   generalize t.cs=tc at*
   simp [ah,uP,az,aS,hall,hpl,hpt,y1,y2,y3,h23,hb]
 exact aR KD hτ rfl rfl
set_option maxHeartbeats 2000000 in
theorem Pu (p:Prg) (A:Nat->Prop) (cj:p.few) (t:Ty) (hwf: (Mt.mk t [] []).wf p) (dH: (Mt.mk t [] []).ri p A) (n:Nat) (hn:n<=7) (h106: ∀j,j<=n->EM p A j) (a b:Nat) (σ:St) (ha:σ[a]? =some (.box p.cs)) (hb:σ[b]? =some (.box t.cs)): ∀ (k j:Nat),j+k=n+1->
 aU (aD CI XB GI 31 false yA) [(2, .int .i64 n),(3, .ptr a 0),(4, .ptr b 0),(9, .int .i64 (bT (t.cnt p) j:Nat)),(10, .int .i64 (j:Nat))] σ=
  some (.exit 0,[(2, .int .i64 n),(3, .ptr a 0),(4, .ptr b 0),(9, .int .i64 (p.tot t n:Nat)),(10, .int .i64 ((n:Int) +1)),(20, .bool false)],σ)
 |0,j,hj=>by
  obtain rfl:j=n+1:=by omega
  refine aH ?_ (by simp)
  unfold Prg.tot
  have w: ¬((n:Int) +1<=(n:Int)):=by omega
  generalize bT (t.cnt p) (n+1)=S
  simp [yA,w]
 |k+1,j,hj=>by
  rw [<-Pu p A cj t hwf dH n hn h106 a b σ ha hb k (j+1) (by omega)]
  refine aO ?_
  have hc:=fun σ=>h106 j (by omega) _ σ hwf dH
  rw [yu] at hc
  have hw:=aI (n:=j) (by omega)
  have hjj: (j:Int)<=(n:Int):=by omega
  have h1:=fR (t.cnt p) (show j+1<=n+1 by omega)
  have h2:=yt cj t n hn
  unfold Prg.tot at h2
  have h3:bT (t.cnt p) (j+1)=bT (t.cnt p) j+t.cnt p j:=rfl
  rw [h3] at h1 ⊢
  have w1:IntKind.i64.wrap ((bT (t.cnt p) j:Int) + (t.cnt p j:Int))=(bT (t.cnt p) j:Int) + (t.cnt p j:Int):=wrap_i64 (by omega) (by omega)
  have hpl:=p.aL
  have hpt:=p.aM
  obtain ⟨k1,n1,s1,a1,b1,t1,htc⟩: ∃k1 n1 s1 a1 b1 t1,t.cs=[.int .i64 k1, .int .i64 n1, .str s1, .slice a1, .slice b1, .int .i64 t1]:=by
   rcases t with ⟨k,n,s,l,ls,tail⟩;exact ⟨_,_,_,_,_,_,by simp only [Ty.cs];rfl⟩
  have hmc: (Mt.mk t [] []).cs=[.int .i64 k1, .int .i64 n1, .str s1, .slice a1, .slice b1, .int .i64 t1, .slice [], .slice []]:=by simp only [Mt.cs,htc];rfl
  rw [hmc] at hc
  rw [htc] at hb
  generalize t.cnt p j=c at*
  generalize bT (t.cnt p) j=S at*
  generalize p.cs=pc at*
  simp [yA,hjj,hw,ha,hb,hpl,hpt,hc,w1,bQ,aE]
theorem c44 (p:Prg) (hok:p.ok) (t:Ty) (ht:t.ok) (n:Int) (σ:St):CI (.fn 44) [.agg p.cs, .agg t.cs, .int .i64 n] σ=some (.ret (.tuple [.int .i64 (p.jS t n), .int .i64 (p.gY t n)]),σ):=by
 have h105:=fun σ=>RD p hok t ht n σ
 have hall:=p.bJ
 have hpl:=p.aL
 have hpt:=p.aM
 have y1:=t.aL
 have y2:=t.aM
 have y3:t.cs.all D.one=true:=by cases t;rfl
 have hτ:ah CI XB GI DX [.agg p.cs, .agg t.cs, .int .i64 n] σ=some (.ret (.tuple [.int .i64 (p.jS t n), .int .i64 (p.gY t n)]),σ++[.box p.cs, .box t.cs]):=by
  unfold Prg.jS
  by_cases he:p.gY t n=0
  ·obtain ⟨h1,h2,h3,h4⟩:=jR he
   obtain ⟨z1,z2,z3,_⟩:=gV h1
   obtain ⟨hdl,hls⟩:=gF z1
   obtain ⟨A,hA,hff⟩:=nX h4
   have hvk:=t.At dF (Ty.rU z2) z3
   obtain ⟨k,rfl⟩: ∃k:Nat,n=k:=⟨n.toNat,by omega⟩
   have hit:=Pu p A (fB z1) t (uK h1) ⟨hff,hvk,trivial⟩ k (by omega) (fun j hj=>Pt p A hdl hls (fB z1) hA (uO z1) j (by omega)) σ.length (σ.length+1) (σ++[.box p.cs, .box t.cs]) (by rw [az];rfl) (by rw [aS];rfl) k 1 (by omega)
   have e0:bT (t.cnt p) 1=0:=by simp [bT,pJ]
   rw [e0,Int.natCast_zero] at hit
   rw [he] at h105 ⊢
   rw [if_pos rfl,Int.toNat_natCast]
   simp only [Int.natCast_one] at hit
   generalize p.tot t k=v at*
   generalize p.cs=pc at*
   generalize t.cs=tc at*
   simp [ah,DX,az,aS,hall,hpl,hpt,y1,y2,y3,h105,hit]
  ·rw [if_neg he]
   have hb: (p.gY t n != 0)=true:=by simpa using he
   generalize p.gY t n=e at*
   generalize p.cs=pc at*
   generalize t.cs=tc at*
   simp [ah,DX,az,aS,hall,hpl,hpt,y1,y2,y3,h105,hb]
 exact aR Pv hτ rfl rfl
def eK (base:Nat) (τ:St):List D->List (List Ex)->Prop
 | [],xss=>xss=[]
 |d::r,xss=> ∃xs rest k q,xss=xs::rest/\d= .arr (base+k) xs.length 0 xs.length/\τ[k]? =some (.row 7 (aX xs) q)/\q<=xs.length/\eK base τ r rest
theorem eK.app {base:Nat} {τ τ':St} : ∀ {ds:List D} {xss:List (List Ex)},eK base τ ds xss->eK base (τ++τ') ds xss
 | [],_,h=>h
 |d::r,xss,h=>by
  obtain ⟨xs,rest,k,q,h1,h2,h3,h4,h5⟩:=h
  exact ⟨xs,rest,k,q,h1,h2,bD h3,h4,h5.app⟩
theorem eK.snoc {base:Nat} {τ:St} {d:D} {xs:List Ex} {k q:Nat} (hd:d= .arr (base+k) xs.length 0 xs.length) (hk:τ[k]? =some (.row 7 (aX xs) q)) (hq:q<=xs.length): ∀ {ds:List D} {xss:List (List Ex)},eK base τ ds xss->eK base τ (ds++[d]) (xss++[xs])
 | [],xss,h=>by
  obtain rfl:xss=[]:=h
  exact ⟨xs,[],k,q,rfl,hd,hk,hq,rfl⟩
 |e::r,xss,h=>by
  obtain ⟨xs',rest,k',q',rfl,h2,h3,h4,h5⟩:=h
  exact ⟨xs',rest++[xs],k',q',rfl,h2,h3,h4,h5.snoc hd hk hq⟩
theorem eK.len {base:Nat} {τ:St} : ∀ {ds:List D} {xss:List (List Ex)},eK base τ ds xss->ds.length=xss.length
 | [],xss,h=>by obtain rfl:xss=[]:=h;rfl
 |d::r,xss,h=>by
  obtain ⟨xs,rest,k,q,rfl,_,_,_,h5⟩:=h
  simp [h5.len]
theorem yB (xs:List Ex): ((aX xs).all fun e=>e.cells.length==7&&e.cells.all D.one)=true:=by
 rw [List.all_eq_true,bI];intro e he
 obtain ⟨x,_,rfl⟩:=List.mem_map.1 he
 have h1:x.d.cells=x.cs:=rfl
 rw [h1,x.aL,x.bJ];rfl
def cO (xss:List (List Ex)):List D:=xss.map fun xs=> .slice (aX xs)
abbrev S2 (σ:St) (bp:Obj) (ds:List D) (τ:St):St:=σ++[bp, .row 1 ds 0]++τ
theorem RF {σ:St} {bp:Obj} {ds:List D} {τ:St} : (S2 σ bp ds τ)[σ.length]? =some bp:=by unfold S2;rw [List.append_assoc];exact az
theorem Pw {σ:St} {bp:Obj} {ds:List D} {τ:St} : (S2 σ bp ds τ)[σ.length+1]? =some (.row 1 ds 0):=by unfold S2;rw [List.append_assoc];exact aS
theorem KE {σ:St} {bp:Obj} {ds ds':List D} {τ:St} : (S2 σ bp ds τ).set (σ.length+1) (.row 1 ds' 0)=S2 σ bp ds' τ:=by unfold S2;rw [List.append_assoc,bP,List.append_assoc];rfl
theorem KF {σ:St} {bp:Obj} {ds:List D} {τ:St} : (S2 σ bp ds τ).length=σ.length+2+τ.length:=by simp;omega
set_option maxHeartbeats 8000000 in
theorem CX (d1 d2 d8:D) (first:List Ex) (rest:List (List Ex)) (i:Nat) (hi:i<first.length) (hfl:first.length<=27262976) (hrl:rest.length<=27262976) (hr4: ∀xs ∈ rest,xs.length<=4) (bp:Obj) (σ:St):
 ∀ (k j:Nat),j+k=rest.length-> ∀ (ds:List D) (xss:List (List Ex)) (τ:St),eK (σ.length+2) τ ds xss->ds.length+k<=27262976->
  ∃ds' τ',eK (σ.length+2) τ' ds' (xss++(rest.drop j).map fun xs=>first[i]::xs)/\
   aU (aD CI XB GI 69 false tA) [(1,d1),(2,d2),(3, .ptr σ.length 0),(7, .arr (σ.length+1) ds.length 0 ds.length),(8,d8),(9, .slice (cO rest)),(10, .slice (aX first)),(11, .int .i64 i),(12, .int .i64 (j:Nat))] (S2 σ bp ds τ)=
    some (.exit 4,[(1,d1),(2,d2),(3, .ptr σ.length 0),(7, .arr (σ.length+1) ds'.length 0 ds'.length),(8,d8),(9, .slice (cO rest)),(10, .slice (aX first)),(11, .int .i64 i),(12, .int .i64 rest.length),(52, .bool false)],S2 σ bp ds' τ')
 |0,j,hj,ds,xss,τ,hR,hB=>by
  obtain rfl:j=rest.length:=by omega
  rw [List.drop_length,List.map_nil,List.append_nil]
  refine ⟨ds,τ,hR,aH ?_ (by simp)⟩
  have hl: (cO rest).length=rest.length:=List.length_map _
  generalize cO rest=rd at*
  generalize S2 σ bp ds τ=σ1
  simp [tA,hl]
 |k+1,j,hj,ds,xss,τ,hR,hB=>by
  have hlt:j<rest.length:=by omega
  rw [List.drop_eq_getElem_cons hlt,List.map_cons]
  have hx4:=hr4 _ (List.getElem_mem hlt)
  have hk0: (τ++[Obj.row 7 (aX (first[i]::rest[j])) 0])[τ.length]? =some (.row 7 (aX (first[i]::rest[j])) 0):=by rw [az];rfl
  have hR2:eK (σ.length+2) (τ++[.row 7 (aX (first[i]::rest[j])) 0]) (ds++[.arr (σ.length+2+τ.length) (rest[j].length+1) 0 (rest[j].length+1)]) (xss++[first[i]::rest[j]]):=
   hR.app.snoc (k:=τ.length) (q:=0) (xs:=first[i]::rest[j]) rfl hk0 (Nat.zero_le _)
  obtain ⟨ds',τ',h1,h2⟩:=CX d1 d2 d8 first rest i hi hfl hrl hr4 bp σ k (j+1) (by omega) _ _ _ hR2 (by simp;omega)
  rw [List.append_assoc] at h1
  refine ⟨ds',τ',h1, ?_⟩
  rw [<-h2]
  refine aO ?_
  clear h1 h2 hR2 hR
  have hw:=aI (n:=j) (by omega)
  have hjj: (j:Int) <rest.length:=by omega
  have hii: (i:Int) <first.length:=by omega
  have hs:S2 σ bp (ds++[.arr (σ.length+2+τ.length) (rest[j].length+1) 0 (rest[j].length+1)]) (τ++[.row 7 (aX (first[i]::rest[j])) 0])=
   (S2 σ bp ds τ).set (σ.length+1) (.row 1 (ds++[.arr (σ.length+2+τ.length) (rest[j].length+1) 0 (rest[j].length+1)]) 0)++[.row 7 (aX (first[i]::rest[j])) 0]:=by
   rw [KE];unfold S2;rw [<-List.append_assoc]
  rw [hs]
  have g1:=Pw (σ:=σ) (bp:=bp) (ds:=ds) (τ:=τ)
  have gl:=KF (σ:=σ) (bp:=bp) (ds:=ds) (τ:=τ)
  have hlt1:σ.length+1< (S2 σ bp ds τ).length:=by rw [gl];omega
  obtain ⟨rd,hrd,hrdl,hrg⟩:=opq (fun xs=>D.slice (aX xs)) rest
  obtain ⟨r2,r3⟩:=hrg j hlt
  obtain ⟨fd,hfd,hfdl,hfg⟩:=opq Ex.d first
  obtain ⟨f2,f3⟩:=hfg i hi
  have e3:bC rd rd=true:=by rw [<-hrd];exact aG _ (bA.map fun xs _=>(bu xs).slice).1
  have e4:bC fd fd=true:=by rw [<-hfd,<-bI];exact aG _ (bu _).1
  have hfe:aX first=fd:=by rw [bI,hfd]
  have hre:cO rest=rd:=hrd
  have hex:aX (first[i]::rest[j])= .agg first[i].cs::aX rest[j]:=rfl
  rw [hfe,hre,hex]
  have hxl:=cu rest[j]
  have hxa:=yB rest[j]
  simp only [D.cells,D.one] at hxa
  unfold Ex.d at f3
  have x1:=first[i].aL
  have x2:=first[i].aM
  have x3:=first[i].bJ
  have e1:bC first[i].cs first[i].cs=true:=aG _ first[i].plain.1
  have e2:bC (aX rest[j]) (aX rest[j])=true:=aG _ (bu _).1
  have hb1: (1+rest[j].length) *120<=140737488355328:=by omega
  have hb2: (ds.length+1) *24<=140737488355328:=by omega
  generalize aX rest[j]=xd at*
  generalize rest[j].length=xl at*
  generalize first[i].cs=fc at*
  have s1: ∀o τ',(S2 σ bp ds τ++τ').set (σ.length+1) o=(S2 σ bp ds τ).set (σ.length+1) o++τ':=fun o τ'=>jb hlt1
  have g1': ∀τ',(S2 σ bp ds τ++τ')[σ.length+1]? =some (.row 1 ds 0):=fun τ'=>bD g1
  clear hs hlt1
  generalize S2 σ bp ds τ=σ1 at*
  simp [tA,hlt,hjj,hi,hii,hw,hrdl,hfdl,r2,r3,f2,f3,g1',s1,gl,az,aS,aN,bP,hxl,hxa,x1,x2,x3,e1,e2,e3,e4,hb1,hb2,bw,rowOf, -List.all_eq_true,Nat.testBit_eq_decide_div_mod_eq]
  rw [Nat.add_comm 1 xl]
set_option maxHeartbeats 4000000 in
theorem CY (d1 d2 d8:D) (first:List Ex) (rest:List (List Ex)) (hfl:first.length<=27262976) (hrl:rest.length<=27262976) (hr4: ∀xs ∈ rest,xs.length<=4) (bp:Obj) (σ:St):
 ∀ (k i:Nat),i+k=first.length-> ∀ (ds:List D) (xss:List (List Ex)) (τ:St),eK (σ.length+2) τ ds xss->xss.length+ ((first.drop i).flatMap fun x=>rest.map fun xs=>x::xs).length<=27262976->
  ∃ds' τ',eK (σ.length+2) τ' ds' (xss++(first.drop i).flatMap fun x=>rest.map fun xs=>x::xs)/\
   aU (aD CI XB GI 69 false tC) [(1,d1),(2,d2),(3, .ptr σ.length 0),(7, .arr (σ.length+1) ds.length 0 ds.length),(8,d8),(9, .slice (cO rest)),(10, .slice (aX first)),(11, .int .i64 (i:Nat))] (S2 σ bp ds τ)=
    some (.exit 2,[(1,d1),(2,d2),(3, .ptr σ.length 0),(7, .arr (σ.length+1) ds'.length 0 ds'.length),(8,d8),(9, .slice (cO rest)),(10, .slice (aX first)),(11, .int .i64 first.length),(46, .bool false)],S2 σ bp ds' τ')
 |0,i,hi,ds,xss,τ,hR,hB=>by
  obtain rfl:i=first.length:=by omega
  rw [List.drop_length,List.flatMap_nil,List.append_nil]
  refine ⟨ds,τ,hR,aH ?_ (by simp)⟩
  have hl:=cu first
  generalize aX first=fd at*
  generalize S2 σ bp ds τ=σ1
  simp [tC,hl]
 |k+1,i,hi,ds,xss,τ,hR,hB=>by
  have hlt:i<first.length:=by omega
  rw [List.drop_eq_getElem_cons hlt,List.flatMap_cons] at hB ⊢
  have hdl:=hR.len
  simp only [List.length_append,List.length_map] at hB
  obtain ⟨ds1,τ1,r1,h1⟩:=CX d1 d2 d8 first rest i hlt hfl hrl hr4 bp σ rest.length 0 (by omega) ds xss τ hR (by omega)
  rw [List.drop_zero] at r1
  obtain ⟨ds',τ',r2,h2⟩:=CY d1 d2 d8 first rest hfl hrl hr4 bp σ k (i+1) (by omega) ds1 _ τ1 r1 (by simp only [List.length_append,List.length_map];omega)
  rw [List.append_assoc] at r2
  refine ⟨ds',τ',r2, ?_⟩
  rw [<-h2]
  refine aO ?_
  rw [Int.natCast_zero] at h1
  have hw:=aI (n:=i) (by omega)
  have hii: (i:Int) <first.length:=by omega
  have hl:=cu first
  clear h2 r1 r2 hR
  generalize aX first=fd at*
  generalize S2 σ bp ds τ=σ1 at*
  generalize S2 σ bp ds1 τ1=σ2 at*
  simp [tC,hlt,hii,hw,hl,h1]
def Gn (p:Prg) (A:Nat->Prop) (n:Nat):Prop:= ∀ (m:Mt) (σ:St),m.wf p->m.ri p A->CI (.fn 107) [.agg p.cs, .agg m.cs, .int .i64 n] σ=some (.ret (.slice (aX (m.ty.val p n))),σ)
def EU (p:Prg) (M:Nat) (l:List Mt):Prop:= ∀ (σ:St),CI (.fn 160) [.agg p.cs, .slice (bF l), .int .i64 M] σ=some (.ret (.slice (cO (bG (Ty.val p) (aP l) M))),σ)
theorem nY {f:Ty->Nat->List Ex} : ∀ (l:List Ty) (m:Nat),∀xs ∈ bG f l m,xs.length=l.length
 | [],m,xs,h=>by
  simp only [bG] at h
  split at h
  ·simp at h;subst h;rfl
  ·cases h
 |t::r,m,xs,h=>by
  simp only [bG,List.mem_flatMap,List.mem_map] at h
  obtain ⟨i,_,x,_,ys,hy,rfl⟩:=h
  simp [nY r _ ys hy]
set_option maxHeartbeats 4000000 in
theorem yC (p:Prg) (A:Nat->Prop) (cj:p.few) (K:Nat) (hK:K<=6) (m:Mt) (lr:List Mt) (hl:lr.length<=3) (hwf:m.wf p) (dH:m.ri p A) (h107: ∀j,1<=j->j<=K->Gn p A j) (M:Nat) (hM:M<=K) (h160: ∀j,j<=M->EU p j lr) (σ:St) (hB:cp (Ty.cnt p) (aP (m::lr)) M<=27262976):
 ∀ (k j:Nat),j+k=M-> ∀ (ds:List D) (xss:List (List Ex)) (τ:St),eK (σ.length+2) τ ds xss->
  xss.length+ (((List.range M).drop j).flatMap fun i=>(m.ty.val p (i+1)).flatMap fun x=>(bG (Ty.val p) (aP lr) (M - (i+1))).map fun xs=>x::xs).length<=27262976->
  ∃ds' τ',eK (σ.length+2) τ' ds' (xss++((List.range M).drop j).flatMap fun i=>(m.ty.val p (i+1)).flatMap fun x=>(bG (Ty.val p) (aP lr) (M - (i+1))).map fun xs=>x::xs)/\
   aU (aD CI XB GI 69 false p6) [(1, .slice (bF (m::lr))),(2, .int .i64 M),(3, .ptr σ.length 0),(7, .arr (σ.length+1) ds.length 0 ds.length),(8, .int .i64 ((j:Int) +1))] (S2 σ (.box p.cs) ds τ)=
    some (.exit 0,[(1, .slice (bF (m::lr))),(2, .int .i64 M),(3, .ptr σ.length 0),(7, .arr (σ.length+1) ds'.length 0 ds'.length),(8, .int .i64 ((M:Int) +1)),(24, .bool false)],S2 σ (.box p.cs) ds' τ')
 |0,j,hj,ds,xss,τ,hR,hB2=>by
  obtain rfl:j=M:=by omega
  rw [List.drop_of_length_le (by simp),List.flatMap_nil,List.append_nil]
  refine ⟨ds,τ,hR,aH ?_ (by simp)⟩
  have w: ¬((j:Int) +1<=(j:Int)):=by omega
  generalize bF (m::lr)=md at*
  generalize S2 σ (.box p.cs) ds τ=σ1
  simp [p6,w]
 |k+1,j,hj,ds,xss,τ,hR,hB2=>by
  have hlt:j<M:=by omega
  have hdr: (List.range M).drop j=j::(List.range M).drop (j+1):=by
   rw [List.drop_eq_getElem_cons (by simpa using hlt),List.getElem_range]
  rw [hdr,List.flatMap_cons] at hB2 ⊢
  rw [List.length_append] at hB2
  have hc107:=fun σ=>h107 (j+1) (by omega) (by omega) m σ hwf dH
  have hc160:=h160 (M - (j+1)) (by omega)
  have hr4: ∀xs ∈ bG (Ty.val p) (aP lr) (M - (j+1)),xs.length<=4:=fun xs hx=>by
   rw [nY _ _ xs hx,eH,List.length_map];omega
  have hrl: (bG (Ty.val p) (aP lr) (M - (j+1))).length<=27262976:=by
   rw [gW];exact q6 cj _ (by rw [eH,List.length_map];omega) _ (by omega)
  have hfl: (m.ty.val p (j+1)).length<=27262976:=by
   rw [tq];exact Nat.le_trans (lO cj _ _ (by omega)) (rY _ (by omega))
  have w3: (j:Int) +1<=(M:Int):=by omega
  have w4:IntKind.i64.wrap ((j:Int) +1+1)=(j:Int) +1+1:=wrap_i64 (by omega) (by omega)
  have w5:IntKind.i64.wrap ((M:Int) - ((j:Int) +1))=((M - (j+1):Nat):Int):=by rw [wrap_i64 (by omega) (by omega)];omega
  have e0: ((j+1:Nat):Int)=(j:Int) +1:=by omega
  unfold EU at hc160
  rw [e0] at hc107
  have hpl:=p.aL
  have hpt:=p.aM
  have y1:=m.aL
  have y2:m.cs.take 8=m.cs:=List.take_of_length_le (by omega)
  have e3:bC p.cs p.cs=true:=aG _ p.plain.1
  have e4:bC m.cs m.cs=true:=aG _ m.nR.1
  have e5:bC (bF lr) (bF lr)=true:=aG _ (dY lr).1
  have hr8: (bF lr).all (fun e=>e.cells.length==8)=true:=by
   rw [List.all_eq_true,eP];intro e he
   obtain ⟨x,_,rfl⟩:=List.mem_map.1 he
   simp [Mt.d,D.cells,x.aL]
  simp only [D.cells] at hr8
  have hrl2: (bF lr).length=lr.length:=by rw [eP,List.length_map]
  have hr1: (1:Int)<=(lr.length:Int) +1:=by omega
  have htk: (bF lr).take lr.length=bF lr:=List.take_of_length_le (by omega)
  have hmd:bF (m::lr)= .agg m.cs::bF lr:=rfl
  have q107:qI 107=false:=rfl
  have x107:XB 107=false:=rfl
  have q160:qI 160=false:=rfl
  have x160:XB 160=false:=rfl
  have g0:=RF (σ:=σ) (bp:= .box p.cs) (ds:=ds) (τ:=τ)
  have hrD: (cO (bG (Ty.val p) (aP lr) (M - (j+1)))).length=(bG (Ty.val p) (aP lr) (M - (j+1))).length:=List.length_map _
  generalize hrest:bG (Ty.val p) (aP lr) (M - (j+1))=rest at*
  generalize m.ty.val p (j+1)=first at*
  have e6:bC (cO rest) (cO rest)=true:=aG _ (bA.map fun xs _=>(bu xs).slice).1
  have e7:bC (aX first) (aX first)=true:=aG _ (bu _).1
  by_cases hz:rest=[]
  ·subst hz
   have hn: (first.flatMap fun x=>([]:List (List Ex)).map fun xs=>x::xs)=[]:=by simp
   rw [hn] at hB2 ⊢
   rw [List.nil_append]
   obtain ⟨ds',τ',r2,h2⟩:=yC p A cj K hK m lr hl hwf dH h107 M hM h160 σ hB k (j+1) (by omega) ds xss τ hR (by simpa using hB2)
   refine ⟨ds',τ',r2, ?_⟩
   rw [e0] at h2
   rw [<-h2]
   refine aO ?_
   rw [hmd]
   clear h2 hrest
   generalize S2 σ (.box p.cs) ds τ=σ1 at*
   generalize bF lr=lrd at*
   generalize m.cs=mc at*
   generalize p.cs=pc at*
   simp [p6,w3,w4,w5,g0,hpl,hpt,hrl2,hr1,htk,hr8,y1,e3,e4,e5,hc160,cO,bound,q160,x160,Nat.testBit_eq_decide_div_mod_eq, -List.all_eq_true]
  ·have hdl:=hR.len
   obtain ⟨ds1,τ1,r1,h1⟩:=CY (.slice (bF (m::lr))) (.int .i64 M) (.int .i64 ((j:Int) +1)) first rest hfl hrl hr4 (.box p.cs) σ first.length 0 (by omega) ds xss τ hR (by rw [List.drop_zero];omega)
   rw [List.drop_zero] at r1
   obtain ⟨ds',τ',r2,h2⟩:=yC p A cj K hK m lr hl hwf dH h107 M hM h160 σ hB k (j+1) (by omega) ds1 _ τ1 r1 (by rw [List.length_append];omega)
   rw [List.append_assoc] at r2
   refine ⟨ds',τ',r2, ?_⟩
   rw [e0] at h2
   rw [<-h2]
   refine aO ?_
   rw [Int.natCast_zero] at h1
   rw [hmd] at h1 ⊢
   have hzl: (cO rest).length≠0:=by rw [hrD];intro h;exact hz (List.length_eq_zero_iff.1 h)
   have hzl2: (((cO rest).length:Int) ==0)=false:=by rw [beq_eq_false_iff_ne];omega
   have hzl3: ¬cO rest=[]:=fun h=>hzl (by rw [h];rfl)
   clear h2 hrest r1 r2
   generalize S2 σ (.box p.cs) ds1 τ1=σ2 at*
   generalize S2 σ (.box p.cs) ds τ=σ1 at*
   generalize bF lr=lrd at*
   generalize cO rest=rd at*
   generalize aX first=fd at*
   generalize m.cs=mc at*
   generalize p.cs=pc at*
   simp [p6,w3,w4,w5,g0,hpl,hpt,hrl2,hr1,htk,hr8,y1,y2,e3,e4,e5,e6,e7,hc160,hc107,hzl2,hzl3,h1,bound,q160,x160,q107,x107,Nat.testBit_eq_decide_div_mod_eq, -List.all_eq_true]
theorem eK.get {base:Nat} {τ:St} : ∀ {ds:List D} {xss:List (List Ex)},eK base τ ds xss-> ∀j (h1:j<ds.length) (h2:j<xss.length),∃k q,ds[j]= .arr (base+k) xss[j].length 0 xss[j].length/\τ[k]? =some (.row 7 (aX xss[j]) q)/\q<=xss[j].length
 |d::r,xss,h,0,_,_=>by
  obtain ⟨xs,rest,k,q,rfl,h2,h3,h4,_⟩:=h
  exact ⟨k,q,h2,h3,h4⟩
 |d::r,xss,h,j+1,h1,h2=>by
  obtain ⟨xs,rest,k,q,rfl,_,_,_,h5⟩:=h
  exact h5.get j (by simpa using h1) (by simpa using h2)
theorem mM (xss:List (List Ex)): (cO xss).length=xss.length:=List.length_map _
theorem sk (xss:List (List Ex)):bA (cO xss):=bA.map fun xs _=>(bu xs).slice
theorem uQ {σ τ:St} {r since:Nat} {ds:List D} {xss:List (List Ex)} (base n0:Nat) (hrow:σ[r]? =some (.row 1 ds since)) (hs:since<=ds.length) (hk: ∀k,σ[base+k]? =τ[k]?) (hR:eK base τ ds xss) (hb:n0<=base) (hr:n0<=r):
 strip 16 σ (.arr r ds.length 0 ds.length)=some (.slice (cO xss))/\ ∀i ∈ leads 16 σ (.arr r ds.length 0 ds.length),n0<=i:=by
 have hl:=hR.len
 have hro:rowOf σ (.arr r ds.length 0 ds.length)=some ds:=by simp [rowOf,hrow,hs]
 have hst: ∀j (h:j<ds.length),strip 15 σ ds[j]=some (.slice (aX (xss[j]'(by omega))))/\ ∀i ∈ leads 15 σ ds[j],n0<=i:=fun j h=>by
  obtain ⟨k,q,a1,a2,a3⟩:=hR.get j h (by omega)
  obtain ⟨s1,s2⟩:=jN ((hk k).trans a2) (by rw [cu];exact a3) (bu _).1 14
  rw [cu] at s1 s2
  rw [a1,s1,s2]
  exact ⟨rfl,fun i hi=>by simp at hi;omega⟩
 constructor
 ·unfold strip
  simp only [D.tree,Bool.false_eq_true,if_false,hro]
  rw [zW _ ds (cO xss) (by rw [mM];exact hl) fun j h1 h2=>by
   rw [(hst j h1).1];simp [cO]]
  rfl
 ·unfold leads
  simp only [D.tree,Bool.false_eq_true,if_false,hro]
  intro i hi
  rcases List.mem_cons.1 hi with rfl|hi
  ·exact hr
  ·obtain ⟨d,hd,hi⟩:=List.mem_flatMap.1 hi
   obtain ⟨j,hj,rfl⟩:=List.getElem_of_mem hd
   exact (hst j hj).2 i hi
set_option maxHeartbeats 4000000 in
theorem Px (p:Prg) (A:Nat->Prop) (cj:p.few) (K:Nat) (hK:K<=6) (h106: ∀j,j<=K->EM p A j) (h107: ∀j,1<=j->j<=K->Gn p A j): ∀ (l:List Mt),l.length<=4->gB p l->gk p A l-> ∀ (M:Nat),M<=K->EU p M l
 | [],_,_,_,M,hM=>fun σ=>by
  have h159:=fun σ=>Gf p A cj K hK h106 [] (by simp) trivial trivial M hM σ
  have hall:=p.bJ
  have hpl:=p.aL
  have hpt:=p.aM
  have hmd:bF []=[]:=rfl
  rw [hmd] at h159 ⊢
  by_cases h0:M=0
  ·subst h0
   have hτ:ah CI XB GI lS [.agg p.cs, .slice [], .int .i64 ((0:Nat):Int)] σ=some (.ret (.slice [.empty]),σ++[.box p.cs]):=by
    simp only [aP,cp,if_true,Int.natCast_zero,Int.natCast_one] at h159
    generalize p.cs=pc at*
    simp [ah,lS,az,hall,hpl,hpt,h159,bw]
   exact aR yD hτ rfl rfl
  ·have hτ:ah CI XB GI lS [.agg p.cs, .slice [], .int .i64 M] σ=some (.ret .empty,σ++[.box p.cs]):=by
    simp only [aP,cp,if_neg h0] at h159
    generalize p.cs=pc at*
    simp [ah,lS,az,hall,hpl,hpt,h159]
   have hv:bG (Ty.val p) (aP []) M=[]:=by simp only [aP,bG,if_neg h0]
   rw [hv]
   exact aR yD hτ rfl rfl
 |m::lr,hl,hwf,dH,M,hM=>fun σ=>by
  have ih:=fun M hM=>Px p A cj K hK h106 h107 lr (by simp at hl;omega) hwf.2 dH.2 M hM
  have h159:=fun σ=>Gf p A cj K hK h106 (m::lr) hl hwf dH M hM σ
  have hall:=p.bJ
  have hpl:=p.aL
  have hpt:=p.aM
  have hrl:=gW p (aP (m::lr)) M
  by_cases h0:cp (Ty.cnt p) (aP (m::lr)) M=0
  ·rw [h0] at h159 hrl
   have hτ:ah CI XB GI lS [.agg p.cs, .slice (bF (m::lr)), .int .i64 M] σ=some (.ret .empty,σ++[.box p.cs]):=by
    generalize bF (m::lr)=md at*
    generalize p.cs=pc at*
    simp [ah,lS,az,hall,hpl,hpt,h159]
   rw [List.length_eq_zero_iff.1 hrl]
   exact aR yD hτ rfl rfl
  ·have hB:=q6 cj (aP (m::lr)) (by rw [eH,List.length_map];exact hl) M (by omega)
   obtain ⟨ds,τ,r1,hit⟩:=yC p A cj K hK m lr (by simp at hl;omega) hwf.1 dH.1 h107 M hM (fun j hj=>ih j (by omega)) σ hB M 0 (by omega) [] [] [] rfl (by
    rw [List.drop_zero]
    simp only [aP,bG] at hrl
    simp only [List.length_nil,Nat.zero_add]
    rw [hrl];exact hB)
   rw [List.drop_zero,List.nil_append] at r1
   have hrr: ((List.range M).flatMap fun i=>(m.ty.val p (i+1)).flatMap fun x=>(bG (Ty.val p) (aP lr) (M - (i+1))).map fun xs=>x::xs)=bG (Ty.val p) (aP (m::lr)) M:=by simp only [aP,bG]
   rw [hrr] at r1
   have hτ:ah CI XB GI lS [.agg p.cs, .slice (bF (m::lr)), .int .i64 M] σ=some (.ret (.arr (σ.length+1) ds.length 0 ds.length),S2 σ (.box p.cs) ds τ):=by
    have hb0: ((cp (Ty.cnt p) (aP (m::lr)) M:Int) ==0)=false:=by rw [beq_eq_false_iff_ne];omega
    have hlm: (bF (m::lr)).length=lr.length+1:=by rw [eP];simp
    have hlz: ((lr.length:Int) +1==0)=false:=by rw [beq_eq_false_iff_ne];omega
    simp only [Int.natCast_zero,Int.zero_add,List.length_nil] at hit
    have hS2:S2 σ (.box p.cs) [] []=σ++[.box p.cs, .row 1 [] 0]:=by unfold S2;rw [List.append_nil]
    rw [hS2] at hit
    clear r1 hrr hrl ih hB
    generalize S2 σ (.box p.cs) ds τ=σ2 at*
    generalize cp (Ty.cnt p) (aP (m::lr)) M=tg at*
    generalize bF (m::lr)=md at*
    generalize p.cs=pc at*
    simp [ah,lS,az,hall,hpl,hpt,h159,h0,hb0,hlm,hlz,hit]
   have e1:S2 σ (.box p.cs) ds τ=σ++([.box p.cs, .row 1 ds 0]++τ):=by unfold S2;rw [List.append_assoc]
   obtain ⟨s1,s2⟩:=uQ (σ.length+2) σ.length (Pw (σ:=σ) (bp:= .box p.cs) (ds:=ds) (τ:=τ)) (Nat.zero_le _) (fun k=>by
    unfold S2
    have: (σ++[Obj.box p.cs, .row 1 ds 0]).length=σ.length+2:=by simp
    rw [<-this,aS]) r1 (by omega) (by omega)
   rw [e1] at hτ s1 s2
   refine dj yD hτ ?_
   rw [gG s1 s2,(sk _).slice.2]
abbrev S4 (σ:St) (x y z:Obj) (b:List Ex):St:=σ++[x,y,z, .row 7 (aX b) 0]
theorem RG {σ τ:St} {x y z:Obj} {b:List Ex} : (S4 σ x y z b++τ)[σ.length+1]? =some y:=by unfold S4;rw [List.append_assoc];exact aS
theorem RH {σ τ:St} {x y z:Obj} {b:List Ex} : (S4 σ x y z b++τ)[σ.length]? =some x:=by unfold S4;rw [List.append_assoc];exact az
theorem KG {σ τ:St} {x y z:Obj} {b:List Ex} : (S4 σ x y z b++τ)[σ.length+2]? =some z:=by unfold S4;rw [List.append_assoc];exact aS
theorem RI {σ τ:St} {x y z:Obj} {b:List Ex} : (S4 σ x y z b++τ)[σ.length+3]? =some (.row 7 (aX b) 0):=by unfold S4;rw [List.append_assoc];exact aS
theorem KH {σ τ:St} {x y z:Obj} {b:List Ex} (e:Ex): (S4 σ x y z b++τ).set (σ.length+3) (.row 7 (aX b++[.agg e.cs]) 0)=S4 σ x y z (b++[e])++τ:=by
 have:aX (b++[e])=aX b++[.agg e.cs]:=by rw [lI];rfl
 unfold S4;rw [this,List.append_assoc,bP,List.append_assoc];rfl
theorem lT {α β:Type} (g:α->List β): ∀ (l:List α) (i:Nat) (b:List β),bf (γ:=Unit) (fun _ t b=> .inl (b++g t)) l i b= .inl (b++l.flatMap g)
 | [],i,b=>by simp [bf]
 |a::r,i,b=>by simp only [bf,lT g r];simp
set_option maxHeartbeats 4000000 in
theorem Gp (d2:D) (bp bm:Obj) (d:Dat) (k:Nat) (hk:k<d.cons.length) (ll:List (List Ex)) (b0:List Ex) (hB:b0.length+ll.length<=27262976) (σ τ:St):
 ∃τ',aU (aD CI XB GI 80 false p7) [(2,d2),(3, .ptr σ.length 0),(4, .ptr (σ.length+1) 0),(7, .ptr (σ.length+2) 0),(8, .arr (σ.length+3) b0.length 0 b0.length),(9, .int .i64 k),(10, .slice (cO ll)),(11, .int .i64 (0:Nat))] (S4 σ bp bm (.box d.cs) b0++τ)=
  some (.exit 3,[(2,d2),(3, .ptr σ.length 0),(4, .ptr (σ.length+1) 0),(7, .ptr (σ.length+2) 0),(8, .arr (σ.length+3) (b0++ll.map (ee d.cons[k].name)).length 0 (b0++ll.map (ee d.cons[k].name)).length),(9, .int .i64 k),(10, .slice (cO ll)),(11, .int .i64 ll.length),(62, .bool false)],S4 σ bp bm (.box d.cs) (b0++ll.map (ee d.cons[k].name))++τ'):=by
 obtain ⟨ld,hld,hll,hlg⟩:=opq (fun xs=>D.slice (aX xs)) ll
 have hre:cO ll=ld:=hld
 rw [hre]
 have hdc:d.cs=[.str d.name,slD d.params, .slice (d.cons.map Con.d)]:=rfl
 obtain ⟨cd,hcd,hcl,hcg⟩:=opq Con.d d.cons
 obtain ⟨g2,g3⟩:=hcg k hk
 have hcc: (k:Int) <d.cons.length:=by omega
 have hcd1:d.cons[k].d= .agg [.str d.cons[k].name, .slice (aT d.cons[k].args)]:=rfl
 rw [hcd1] at g3
 rw [hcd] at hdc
 have e0:bC cd cd=true:=by rw [<-hcd];exact aG _ (bA.map fun x _=>x.plain).1
 have e1:bC ld ld=true:=by rw [<-hld];exact aG _ (bA.map fun xs _=>(bu xs).slice).1
 have e2:bC (aT d.cons[k].args) (aT d.cons[k].args)=true:=aG _ (iE _).1
 obtain ⟨τ',hit⟩:=cA (γ:=Unit) (f:=aD CI XB GI 80 false p7) ll (fun i (b:List Ex)=>[(2,d2),(3, .ptr σ.length 0),(4, .ptr (σ.length+1) 0),(7, .ptr (σ.length+2) 0),(8, .arr (σ.length+3) b.length 0 b.length),(9, .int .i64 k),(10, .slice ld),(11, .int .i64 (i:Nat))])
  (fun b=>S4 σ bp bm (.box d.cs) b) (fun i b=>b.length=b0.length+i) (fun _ xs b=> .inl (b++[ee d.cons[k].name xs])) (fun _=>(.ret,[])) (fun _=>[])
  (fun b=>(.exit 3,[(2,d2),(3, .ptr σ.length 0),(4, .ptr (σ.length+1) 0),(7, .ptr (σ.length+2) 0),(8, .arr (σ.length+3) b.length 0 b.length),(9, .int .i64 k),(10, .slice ld),(11, .int .i64 ll.length),(62, .bool false)])) (by simp) (by simp)
  (fun i hi b b' hb hs=>by cases hs;rw [List.length_append,hb];rfl)
  (fun i hi b τ hb=>by
    have hwr:=aI (n:=i) (by omega)
    obtain ⟨f2,f3⟩:=hlg i hi
    have hii: (i:Int) <ll.length:=by omega
    refine ⟨τ, ?_⟩
    have hs:=KH (σ:=σ) (τ:=τ) (x:=bp) (y:=bm) (z:= .box d.cs) (b:=b) (ee d.cons[k].name ll[i])
    simp only
    rw [<-hs]
    have q2: (S4 σ bp bm (.box d.cs) b++τ)[σ.length+2]? =some (.box [.str d.name,slD d.params, .slice cd]):=by rw [KG,hdc]
    have q3:=RI (σ:=σ) (τ:=τ) (x:=bp) (y:=bm) (z:= .box d.cs) (b:=b)
    have hbl:=cu b
    have hba: (b.length+1) *120<=140737488355328:=by omega
    have hvc: (ee d.cons[k].name ll[i]).cs=[.int .i64 10, .int .i64 0, .str d.cons[k].name, .str [], .slice [], .slice (aX ll[i]), .slice []]:=by unfold ee;simp only [Ex.cs];rfl
    have e3:bC (aX ll[i]) (aX ll[i])=true:=aG _ (bu _).1
    rw [hvc]
    rw [List.length_append]
    clear hs hvc
    generalize aX ll[i]=xd at*
    generalize aX b=bd at*
    generalize S4 σ bp bm (.box d.cs) b++τ=σ1 at*
    generalize d.cons[k].name=cn at*
    generalize aT d.cons[k].args=ad at*
    generalize slD d.params=pd at*
    simp [p7,hi,hii,hwr,hll,hk,hcc,hcl,f2,f3,g2,g3,q2,q3,hbl,hba,e0,e1,e2,e3,bQ,bw,rowOf,aE,Nat.testBit_eq_decide_div_mod_eq])
  (fun b τ hb=>⟨τ,by
    generalize S4 σ bp bm (.box d.cs) b++τ=σ1 at*
    simp [p7,hll]⟩) b0 τ rfl
 rw [lN] at hit
 exact ⟨τ',hit⟩
set_option maxHeartbeats 4000000 in
theorem Gq (p:Prg) (hdl:p.data.length<=12) (cj:p.few) (n:Nat) (hn:n<=6) (tn:Int) (ts:Bs) (L:List Ty) (tls:List Lab) (ttl:Int) (hL:L.length<=4) (ps:List Bs) (ml:List Mt) (i:Nat) (hi:i<p.data.length) (hix:idxOf (fun x:Dat=>x.name==ts) p.data=i)
 (h160: ∀c ∈ p.data[i].cons,EU p n (inner p.data[i].params (inner ps ml L) c.args))
 (hB: (p.data[i].cons.map fun c=>cp (Ty.cnt p) (aP (inner p.data[i].params (inner ps ml L) c.args)) n).sum<=27262976) (σ:St):
 ∃τ',aU (aD CI XB GI 80 false p8) [(2, .int .i64 ((n:Int) +1)),(3, .ptr σ.length 0),(4, .ptr (σ.length+1) 0),(7, .ptr (σ.length+2) 0),(8, .arr (σ.length+3) 0 0 0),(9, .int .i64 (0:Nat))] (S4 σ (.box p.cs) (.box (Mt.mk (.mk 6 tn ts L tls ttl) ps ml).cs) (.box p.data[i].cs) [])=
  some (.exit 1,[(2, .int .i64 ((n:Int) +1)),(3, .ptr σ.length 0),(4, .ptr (σ.length+1) 0),(7, .ptr (σ.length+2) 0),(8, .arr (σ.length+3) (p.data[i].cons.flatMap fun c=>(bG (Ty.val p) (aP (inner p.data[i].params (inner ps ml L) c.args)) n).map (ee c.name)).length 0 (p.data[i].cons.flatMap fun c=>(bG (Ty.val p) (aP (inner p.data[i].params (inner ps ml L) c.args)) n).map (ee c.name)).length),(9, .int .i64 p.data[i].cons.length),(48, .bool false)],
   S4 σ (.box p.cs) (.box (Mt.mk (.mk 6 tn ts L tls ttl) ps ml).cs) (.box p.data[i].cs) (p.data[i].cons.flatMap fun c=>(bG (Ty.val p) (aP (inner p.data[i].params (inner ps ml L) c.args)) n).map (ee c.name))++τ'):=by
 have hfd:=cj _ (List.getElem_mem hi)
 have hpl:=p.aL
 have hpt:=p.aM
 have y1:=(Mt.mk (.mk 6 tn ts L tls ttl) ps ml).aL
 have y2: (Mt.mk (.mk 6 tn ts L tls ttl) ps ml).cs.take 8=(Mt.mk (.mk 6 tn ts L tls ttl) ps ml).cs:=List.take_of_length_le (by omega)
 have e3:bC p.cs p.cs=true:=aG _ p.plain.1
 have e4:bC (Mt.mk (.mk 6 tn ts L tls ttl) ps ml).cs (Mt.mk (.mk 6 tn ts L tls ttl) ps ml).cs=true:=aG _ (Mt.mk (.mk 6 tn ts L tls ttl) ps ml).nR.1
 have q156:qI 156=false:=rfl
 have x156:XB 156=false:=rfl
 have q160:qI 160=false:=rfl
 have x160:XB 160=false:=rfl
 have hdc:p.data[i].cs=[.str p.data[i].name,slD p.data[i].params, .slice (p.data[i].cons.map Con.d)]:=rfl
 have hcl: (p.data[i].cons.map Con.d).length=p.data[i].cons.length:=List.length_map _
 obtain ⟨τ',hit⟩:=cA (γ:=Unit) (f:=aD CI XB GI 80 false p8) p.data[i].cons (fun k (b:List Ex)=>[(2, .int .i64 ((n:Int) +1)),(3, .ptr σ.length 0),(4, .ptr (σ.length+1) 0),(7, .ptr (σ.length+2) 0),(8, .arr (σ.length+3) b.length 0 b.length),(9, .int .i64 (k:Nat))])
  (fun b=>S4 σ (.box p.cs) (.box (Mt.mk (.mk 6 tn ts L tls ttl) ps ml).cs) (.box p.data[i].cs) b) (fun k b=>b.length=((p.data[i].cons.take k).map fun c=>cp (Ty.cnt p) (aP (inner p.data[i].params (inner ps ml L) c.args)) n).sum)
  (fun _ c b=> .inl (b++(bG (Ty.val p) (aP (inner p.data[i].params (inner ps ml L) c.args)) n).map (ee c.name))) (fun _=>(.ret,[])) (fun _=>[])
  (fun b=>(.exit 1,[(2, .int .i64 ((n:Int) +1)),(3, .ptr σ.length 0),(4, .ptr (σ.length+1) 0),(7, .ptr (σ.length+2) 0),(8, .arr (σ.length+3) b.length 0 b.length),(9, .int .i64 p.data[i].cons.length),(48, .bool false)])) (by simp) (by simp)
  (fun k hk b b' hb hst=>by
    cases hst
    rw [de _ _ _ hk,List.length_append,List.length_map,gW,hb])
  (fun k hk b τ hb=>by
    have hwr:=aI (n:=k) (by omega)
    have hkk: (k:Int) <p.data[i].cons.length:=by omega
    have h4:=hfd.2 _ (List.getElem_mem hk)
    have hle:=gX (fun c:Con=>cp (Ty.cnt p) (aP (inner p.data[i].params (inner ps ml L) c.args)) n) p.data[i].cons (k+1)
    rw [de _ _ _ hk,<-hb] at hle
    have h156:=Pc p hdl 6 tn ts L tls ttl hL ps ml i hi hix k hk h4
    have h160:=h160 _ (List.getElem_mem hk)
    unfold EU at h160
    obtain ⟨τ1,h0⟩:=Gp (.int .i64 ((n:Int) +1)) (.box p.cs) (.box (Mt.mk (.mk 6 tn ts L tls ttl) ps ml).cs) p.data[i] k hk (bG (Ty.val p) (aP (inner p.data[i].params (inner ps ml L) p.data[i].cons[k].args)) n) b (by rw [gW];omega) σ τ
    rw [Int.natCast_zero] at h0
    refine ⟨τ1, ?_⟩
    have e5:bC (bF (inner p.data[i].params (inner ps ml L) p.data[i].cons[k].args)) (bF (inner p.data[i].params (inner ps ml L) p.data[i].cons[k].args))=true:=aG _ (dY _).1
    have g0:=RH (σ:=σ) (τ:=τ) (x:= .box p.cs) (y:= .box (Mt.mk (.mk 6 tn ts L tls ttl) ps ml).cs) (z:= .box p.data[i].cs) (b:=b)
    have g1:=RG (σ:=σ) (τ:=τ) (x:= .box p.cs) (y:= .box (Mt.mk (.mk 6 tn ts L tls ttl) ps ml).cs) (z:= .box p.data[i].cs) (b:=b)
    have g2: (S4 σ (.box p.cs) (.box (Mt.mk (.mk 6 tn ts L tls ttl) ps ml).cs) (.box p.data[i].cs) b++τ)[σ.length+2]? =some (.box [.str p.data[i].name,slD p.data[i].params, .slice (p.data[i].cons.map Con.d)]):=by rw [KG,hdc]
    simp only
    clear hB hb hle
    have w1:IntKind.i64.wrap ((n:Int) +1 - 1)=(n:Int):=by rw [wrap_i64 (by omega) (by omega)];omega
    have w1':IntKind.i64.wrap (n:Int)=(n:Int):=wrap_i64 (by omega) (by omega)
    generalize bG (Ty.val p) (aP (inner p.data[i].params (inner ps ml L) p.data[i].cons[k].args)) n=rs at*
    generalize S4 σ (.box p.cs) (.box (Mt.mk (.mk 6 tn ts L tls ttl) ps ml).cs) (.box p.data[i].cs) (b++rs.map (ee p.data[i].cons[k].name))++τ1=σ2 at*
    generalize S4 σ (.box p.cs) (.box (Mt.mk (.mk 6 tn ts L tls ttl) ps ml).cs) (.box p.data[i].cs) b++τ=σ1 at*
    generalize b++rs.map (ee p.data[i].cons[k].name)=b' at*
    generalize bF (inner p.data[i].params (inner ps ml L) p.data[i].cons[k].args)=md at*
    generalize p.data[i].cons.map Con.d=cd at*
    generalize slD p.data[i].params=pd at*
    generalize (Mt.mk (.mk 6 tn ts L tls ttl) ps ml).cs=mc at*
    generalize p.cs=pc at*
    simp [p8,hk,hkk,hwr,hcl,g0,g1,g2,hpl,hpt,y1,y2,e3,e4,e5,h156,h160,h0,w1,w1',q156,x156,q160,x160,Nat.testBit_eq_decide_div_mod_eq])
  (fun b τ hb=>⟨τ,by
    have g2: (S4 σ (.box p.cs) (.box (Mt.mk (.mk 6 tn ts L tls ttl) ps ml).cs) (.box p.data[i].cs) b++τ)[σ.length+2]? =some (.box [.str p.data[i].name,slD p.data[i].params, .slice (p.data[i].cons.map Con.d)]):=by rw [KG,hdc]
    generalize S4 σ (.box p.cs) (.box (Mt.mk (.mk 6 tn ts L tls ttl) ps ml).cs) (.box p.data[i].cs) b++τ=σ1 at*
    generalize p.data[i].cons.map Con.d=cd at*
    simp [p8,hcl,g2]⟩) [] [] (by simp)
 rw [lT,List.append_nil,List.nil_append] at hit
 exact ⟨τ',hit⟩
set_option maxHeartbeats 4000000 in
theorem RJ (p:Prg) (A:Nat->Prop) (hdl:p.data.length<=12) (hls: ∀d ∈ p.data,d.fit p) (cj:p.few) (hA:ko p A) (hvk: ∀d ∈ p.data,∀c ∈ d.cons,∀a ∈ c.args,a.vk): ∀ (n:Nat),1<=n->n<=7->Gn p A n:=by
 intro n
 induction n using Nat.strongRecOn with
 |ind n IH=>
 intro hn1 hn m σ hwf dH
 have h155:=fun σ=>Pe p m hwf σ
 obtain ⟨nwf,nk⟩:=m.nS hwf
 have nfine:=m.lR hwf dH
 have hty:=m.nT hwf
 have hm1:=m.yl
 have hml:=m.aL
 have hmt:m.cs.take 8=m.cs:=List.take_of_length_le (by omega)
 have hm8:m.cs.drop 8=[]:=List.drop_of_length_le (by omega)
 have hall:=p.bJ
 have hpl:=p.aL
 have hpt:=p.aM
 rw [<-hty]
 generalize m.now=m' at*
 rcases m' with ⟨⟨tk,tn,ts,L,tls,ttl⟩,ps,ml⟩
 simp only at nk
 have hnc: (Mt.mk (.mk tk tn ts L tls ttl) ps ml).cs=[.int .i64 tk, .int .i64 tn, .str ts, .slice (aT L), .slice (tls.map Lab.d), .int .i64 ttl,slD ps, .slice (bF ml)]:=by simp only [Mt.cs,Ty.cs];rfl
 have hsp:slD ps= .slice (ps.map D.str):=rfl
 rw [hsp] at hnc
 simp only [Mt.ty,Ty.ym _ _ nk]
 obtain ⟨nsm,nord,npl,nm4,nml⟩:=nwf
 obtain ⟨nff,nvk,nfl⟩:=nfine
 simp only [Ty.ff,Ty.vk] at nff nvk
 obtain ⟨n,rfl⟩: ∃n',n=n'+1:=⟨n - 1,by omega⟩
 by_cases t6:tk=6
 rotate_left
 ·rw [pM p t6]
  have n6: (tk != 6)=true:=by simpa using t6
  rw [hnc] at h155
  have hk:tk=2\/tk=3\/tk=4:=by
   have:=nff.1
   omega
  suffices h: ∃d,ah CI XB GI nu [.agg p.cs, .agg m.cs, .int .i64 ((n+1:Nat):Int)] σ=some (.ret d,σ++[.box p.cs, .box [.int .i64 tk, .int .i64 tn, .str ts, .slice (aT L), .slice (tls.map Lab.d), .int .i64 ttl, .slice (ps.map D.str), .slice (bF ml)]])/\d.tree=true/\d.weak= .slice (aX (if n+1=1 then pK tk else [])) by
   obtain ⟨d,h1,h2,h3⟩:=h
   exact aR EV h1 h2 h3
  generalize m.cs=mc at*
  generalize p.cs=pc at*
  rcases n with _|n
  ·rcases hk with rfl|rfl|rfl
   ·refine ⟨.slice [.agg [.int .i64 1, .int .i64 0, .str [], .str [], .slice [], .slice [], .slice []], .agg [.int .i64 1, .int .i64 1, .str [], .str [], .slice [], .slice [], .slice []]], ?_,rfl,rfl⟩
    simp [ah,nu,az,aS,aN,bP,hall,hm1,hml,hmt,hm8,h155,aE,bQ,bw]
   ·refine ⟨.slice [.agg [.int .i64 2, .int .i64 0, .str [], .str [], .slice [], .slice [], .slice []], .agg [.int .i64 2, .int .i64 1, .str [], .str [], .slice [], .slice [], .slice []]], ?_,rfl,rfl⟩
    simp [ah,nu,az,aS,aN,bP,hall,hm1,hml,hmt,hm8,h155,aE,bQ,bw]
   ·refine ⟨.slice [.agg [.int .i64 3, .int .i64 0, .str [], .str [], .slice [], .slice [], .slice []]], ?_,rfl,rfl⟩
    simp [ah,nu,az,aS,aN,bP,hall,hm1,hml,hmt,hm8,h155,aE,bQ,bw]
  ·have w1: (((n+1+1:Nat):Int) != 1)=true:=by simp;omega
   have w2: ((n:Int) +1+1 != 1)=true:=by simp;omega
   refine ⟨.empty, ?_,rfl, ?_⟩
   ·simp [ah,nu,az,aS,aN,bP,hall,hm1,hml,hmt,hm8,h155,aE,n6,w2]
   ·rw [if_neg (by omega)];rfl
 subst t6
 obtain ⟨nod,nop⟩:=dM nord
 obtain ⟨i,hix,hdx,hi,hlen⟩:=jM nod
 have hdo:=mJ hix hi
 rw [pL p hdo]
 have hin1:=gi npl nm4 nml L (fun y hy=>⟨eM nsm.2.2.2 hy,nop y hy⟩)
 have hin2:=gH (ps:=ps) nfl L (fun y hy=>⟨eV.1 nff.2.2 y hy,iG.1 nvk.2.2 y hy⟩)
 have hdf:=hls _ (List.getElem_mem hi)
 have hfd:=cj _ (List.getElem_mem hi)
 have hAi:A i:=by rw [<-hdx];exact nff.2.1 rfl
 have hT: ∀c:Con,aP (inner p.data[i].params (inner ps ml L) c.args)=c.args.map (Ty.rep p.data[i].params (L.map (Ty.rep ps (aP ml)))):=fun c=>by rw [jO,jO]
 have hB:=Nat.le_trans (lO cj (.mk 6 tn ts (L.map (Ty.rep ps (aP ml))) tls ttl) (n+1) hn) (rY _ hn)
 rw [jP p hdo] at hB
 have hh:p.cs.head?=some (.slice (p.data.map Dat.d)):=by rw [p.dw];rfl
 have hp0:p.cs[0]? =some (.slice (p.data.map Dat.d)):=by rw [<-List.head?_eq_getElem?];exact hh
 obtain ⟨τ',hit⟩:=Gq p hdl cj n (by omega) tn ts L tls ttl nsm.1 ps ml i hi hix
  (fun c hc=>Px p A cj n (by omega) (fun j hj=>Pt p A hdl hls cj hA hvk j (by omega)) (fun j h1 hj=>IH j (by omega) h1 (by omega)) _ (by rw [eU];exact hfd.2 c hc)
    (gi (p:=p) (ps:=p.data[i].params) (ml:=inner ps ml L) (by rw [eU];exact hlen) (by rw [eU];exact nsm.1) hin1 c.args (hdf.2.2 c hc).2)
    (gH (ps:=p.data[i].params) hin2 c.args (fun a ha=>⟨hA i hi hAi c hc a ha,hvk _ (List.getElem_mem hi) c hc a ha⟩)) n (Nat.le_refl _))
  (by simp only [hT];exact hB) σ
 simp only [hT,Int.natCast_zero] at hit
 have h123:=fun σ=>Ev p (by unfold aQ;omega) ts σ
 simp only [hix] at h123
 obtain ⟨ld,hld,hll,hlg⟩:=opq Dat.d p.data
 obtain ⟨f2,f3⟩:=hlg i hi
 have hii: (i:Int) <p.data.length:=by omega
 have hdc:p.data[i].cs=[.str p.data[i].name, .slice (p.data[i].params.map D.str), .slice (p.data[i].cons.map Con.d)]:=rfl
 have hdd:p.data[i].d= .agg [.str p.data[i].name, .slice (p.data[i].params.map D.str), .slice (p.data[i].cons.map Con.d)]:=rfl
 rw [hdd] at f3
 have q123:qI 123=true:=rfl
 have x123:XB 123=false:=rfl
 have e3:bC p.cs p.cs=true:=aG _ p.plain.1
 have e1:bC ld ld=true:=by rw [<-hld];exact aG _ (bA.map fun x _=>x.plain).1
 have e2:bC (p.data[i].cons.map Con.d) (p.data[i].cons.map Con.d)=true:=aG _ (bA.map fun x _=>x.plain).1
 have e4:bC (p.data[i].params.map D.str) (p.data[i].params.map D.str)=true:=aG _ (bA.map fun x _=>cR x).1
 rw [hld] at hh hp0
 obtain ⟨w0',hp0e⟩:=List.getElem?_eq_some_iff.1 hp0
 have g0: (D.slice ld).eqb (.slice ld)=true:=by rw [D.eqb];exact e1
 generalize hvs: (p.data[i].cons.flatMap fun c=>(bG (Ty.val p) (c.args.map (Ty.rep p.data[i].params (L.map (Ty.rep ps (aP ml))))) n).map (ee c.name))=vs at*
 have hvl: (aX vs).length=vs.length:=cu vs
 have hvp:=bu vs
 have hτ:ah CI XB GI nu [.agg p.cs, .agg m.cs, .int .i64 ((n+1:Nat):Int)] σ=some (.ret (.arr (σ.length+3) vs.length 0 vs.length),σ++([.box p.cs, .box (Mt.mk (.mk 6 tn ts L tls ttl) ps ml).cs, .box p.data[i].cs, .row 7 (aX vs) 0]++τ')):=by
  rw [<-List.append_assoc]
  have hx:aX []=[]:=rfl
  unfold S4 at hit
  rw [hx] at hit
  rw [hdc] at hit ⊢
  rw [hnc] at h155 hit ⊢
  clear IH hwf dH hB hT hin1 hin2 hvs hvp
  generalize p.data[i].cons.map Con.d=cd at*
  generalize p.data[i].params.map D.str=pd at*
  generalize p.data[i].name=dn at*
  generalize m.cs=mc at*
  generalize p.cs=pc at*
  generalize aT L=LD at*
  generalize tls.map Lab.d=lsd at*
  generalize ps.map D.str=psd at*
  generalize bF ml=mld at*
  generalize aX vs=vd at*
  generalize hσ3:σ++[Obj.box pc, .box [.int .i64 6, .int .i64 tn, .str ts, .slice LD, .slice lsd, .int .i64 ttl, .slice psd, .slice mld], .box [.str dn, .slice pd, .slice cd], .row 7 vd 0]++τ'=σ3 at*
  simp [ah,nu,az,aS,aN,bP,hall,hpl,hpt,hm1,hml,hmt,hm8,h155,aE,hh,hp0,hp0e,g0,hll,h123,hi,hii,f2,f3,e1,e2,e3,e4,q123,x123,An,hit,Nat.testBit_eq_decide_div_mod_eq]
 refine dj EV hτ ?_
 have hr: (σ++([Obj.box p.cs, .box (Mt.mk (.mk 6 tn ts L tls ttl) ps ml).cs, .box p.data[i].cs, .row 7 (aX vs) 0]++τ'))[σ.length+3]? =some (.row 7 (aX vs) 0):=aS
 have:=jH (q:=qI) (f:=107) hr (by omega) (Nat.zero_le _) hvp.1
 rw [hvl,hvp.2] at this
 exact this
theorem uR {q:FuncId->Bool} {f:FuncId} {σ τ:St} {r since:Nat} {b:List Ex} {e:Int} (hr: (σ++τ)[r]? =some (.row 7 (aX b) since)) (hs:since<=b.length) (hn:σ.length<=r):
 eA q f σ (some (.ret (.tuple [.arr r b.length 0 b.length, .int .i64 e]),σ++τ))=some (.ret (.tuple [.slice (aX b), .int .i64 e]),σ):=by
 have hbl:=cu b
 obtain ⟨p1,p2⟩:=jN hr (by rw [hbl];exact hs) (bu b).1 14
 rw [hbl] at p1 p2
 have q1:strip 16 (σ++τ) (.tuple [.arr r b.length 0 b.length, .int .i64 e])=some (.tuple [.slice (aX b), .int .i64 e]):=by
  unfold strip
  simp only [D.tree,bW,Bool.and_true,Bool.false_eq_true,if_false]
  simp only [List.mapM_cons,List.mapM_nil,p1,jU 15 (σ++τ) (.int .i64 _) rfl]
  rfl
 have q2:leads 16 (σ++τ) (.tuple [.arr r b.length 0 b.length, .int .i64 e])=[r]:=by
  unfold leads
  simp only [D.tree,bW,Bool.and_true,Bool.false_eq_true,if_false]
  simp only [List.flatMap_cons,List.flatMap_nil,p2,jV 15 (σ++τ) (.int .i64 _) rfl]
  rfl
 rw [gG q1 (by rw [q2];intro j hj;simp at hj;omega)]
 have hw: (D.tuple [.slice (aX b), .int .i64 e]).weak= .tuple [.slice (aX b), .int .i64 e]:=by
  have:=(bu b).slice.2
  simp only [D.weak,dU]
  rw [D.weak] at this
  rw [this]
 rw [hw]
noncomputable def Prg.p9 (p:Prg) (t:Ty) (n:Int):Int:=orE (p.gY t n) (if 500<p.jS t n then 3 else 0)
def Prg.all (p:Prg) (t:Ty) (n:Nat):List Ex:=(List.range (n+1)).flatMap (t.val p)
noncomputable def Prg.rq (p:Prg) (t:Ty) (n:Int):List Ex:=if p.p9 t n=0 then p.all t n.toNat else []
theorem lU (p:Prg) (t:Ty) (j:Nat): (List.range (j+1)).flatMap (t.val p)=(List.range j).flatMap (t.val p)++t.val p j:=by
 rw [List.range_succ,List.flatMap_append];simp
theorem tD (p:Prg) (t:Ty): ∀ (j:Nat),((List.range j).flatMap (t.val p)).length=bT (t.cnt p) j
 |0=>rfl
 |j+1=>by rw [lU,List.length_append,tD p t j,tq];rfl
set_option maxHeartbeats 2000000 in
theorem Py (p:Prg) (A:Nat->Prop) (cj:p.few) (t:Ty) (hwf: (Mt.mk t [] []).wf p) (dH: (Mt.mk t [] []).ri p A) (n:Nat) (hn:n<=7) (h107: ∀j,1<=j->j<=n->Gn p A j) (σ:St): ∀ (k j:Nat),1<=j->j+k=n+1->
 aU (aD CI XB GI 41 false yE) [(2, .int .i64 n),(3, .ptr σ.length 0),(4, .ptr (σ.length+1) 0),(10, .arr (σ.length+2) ((List.range j).flatMap (t.val p)).length 0 ((List.range j).flatMap (t.val p)).length),(11, .int .i64 (j:Nat))] (σ++[.box p.cs, .box t.cs, .row 7 (aX ((List.range j).flatMap (t.val p))) 0])=
  some (.exit 0,[(2, .int .i64 n),(3, .ptr σ.length 0),(4, .ptr (σ.length+1) 0),(10, .arr (σ.length+2) (p.all t n).length 0 (p.all t n).length),(11, .int .i64 ((n:Int) +1)),(30, .bool false)],σ++[.box p.cs, .box t.cs, .row 7 (aX (p.all t n)) 0])
 |0,j,_,hj=>by
  obtain rfl:j=n+1:=by omega
  refine aH ?_ (by simp)
  unfold Prg.all
  have w: ¬((n:Int) +1<=(n:Int)):=by omega
  generalize (List.range (n+1)).flatMap (t.val p)=b
  generalize σ++[Obj.box p.cs, .box t.cs, .row 7 (aX b) 0]=σ1
  simp [yE,w]
 |k+1,j,hj1,hj=>by
  rw [<-Py p A cj t hwf dH n hn h107 σ k (j+1) (by omega) (by omega)]
  refine aO ?_
  have hc:=fun σ=>h107 j hj1 (by omega) _ σ hwf dH
  rw [yu] at hc
  have hw:=aI (n:=j) (by omega)
  have hjj: (j:Int)<=(n:Int):=by omega
  have h1:=fR (t.cnt p) (show j+1<=n+1 by omega)
  have h2:=yt cj t n hn
  unfold Prg.tot at h2
  have hl:=tD p t (j+1)
  rw [lU,List.length_append] at hl
  rw [lU,List.length_append]
  have hpl:=p.aL
  have hpt:=p.aM
  obtain ⟨k1,n1,s1,a1,b1,t1,htc⟩: ∃k1 n1 s1 a1 b1 t1,t.cs=[.int .i64 k1, .int .i64 n1, .str s1, .slice a1, .slice b1, .int .i64 t1]:=by
   rcases t with ⟨k,n,s,l,ls,tail⟩;exact ⟨_,_,_,_,_,_,by simp only [Ty.cs];rfl⟩
  have hmc: (Mt.mk t [] []).cs=[.int .i64 k1, .int .i64 n1, .str s1, .slice a1, .slice b1, .int .i64 t1, .slice [], .slice []]:=by simp only [Mt.cs,htc];rfl
  rw [hmc] at hc
  rw [htc]
  have hva:=yB (t.val p j)
  simp only [D.cells,D.one] at hva
  have hvl:=cu (t.val p j)
  have hbl:=cu ((List.range j).flatMap (t.val p))
  rw [lI]
  generalize (List.range j).flatMap (t.val p)=b at*
  generalize t.val p j=v at*
  have hba: (b.length+v.length) *120<=140737488355328:=by omega
  generalize aX v=vd at*
  generalize aX b=bd at*
  generalize p.cs=pc at*
  simp [yE,hjj,hw,az,aS,aN,bP,hpl,hpt,hc,hva,hvl,hbl,hba,rowOf,bQ,aE, -List.all_eq_true]
theorem c45 (p:Prg) (hok:p.ok) (t:Ty) (ht:t.ok) (n:Int) (σ:St):CI (.fn 45) [.agg p.cs, .agg t.cs, .int .i64 n] σ=some (.ret (.tuple [.slice (aX (p.rq t n)), .int .i64 (p.p9 t n)]),σ):=by
 have h44:=fun σ=>c44 p hok t ht n σ
 have hall:=p.bJ
 have hpl:=p.aL
 have hpt:=p.aM
 have y1:=t.aL
 have y2:=t.aM
 have y3:t.cs.all D.one=true:=by cases t;rfl
 unfold Prg.rq
 by_cases he:p.p9 t n=0
 ·rw [if_pos he,he]
  obtain ⟨hc,hv⟩:=eG.1 he
  obtain ⟨h1,h2,h3,h4⟩:=jR hc
  obtain ⟨z1,z2,z3,_⟩:=gV h1
  obtain ⟨hdl,hls⟩:=gF z1
  obtain ⟨A,hA,hff⟩:=nX h4
  have hvk:=t.At dF (Ty.rU z2) z3
  have hv5: ¬500<p.jS t n:=by
   split at hv
   ·cases hv
   ·assumption
  obtain ⟨k,rfl⟩: ∃k:Nat,n=k:=⟨n.toNat,by omega⟩
  have hit:=Py p A (fB z1) t (uK h1) ⟨hff,hvk,trivial⟩ k (by omega) (fun j h1 hj=>RJ p A hdl hls (fB z1) hA (uO z1) j h1 (by omega)) σ k 1 (Nat.le_refl _) (by omega)
  have e0: (List.range 1).flatMap (t.val p)=[]:=rfl
  rw [e0] at hit
  simp only [Int.natCast_one,List.length_nil] at hit
  have hx:aX []=[]:=rfl
  rw [hx] at hit
  rw [Int.toNat_natCast]
  have hv6: ¬(500:Int) < (p.jS t k:Int):=by omega
  have hτ:ah CI XB GI Av [.agg p.cs, .agg t.cs, .int .i64 k] σ=some (.ret (.tuple [.arr (σ.length+2) (p.all t k).length 0 (p.all t k).length, .int .i64 0]),σ++[.box p.cs, .box t.cs, .row 7 (aX (p.all t k)) 0]):=by
   rw [hc] at h44
   generalize p.jS t k=v at*
   generalize aX (p.all t k)=vd at*
   generalize (p.all t k).length=vl at*
   generalize p.cs=pc at*
   generalize t.cs=tc at*
   simp [ah,Av,az,aS,hall,hpl,hpt,y1,y2,y3,h44,hv6,hit]
  refine dj Jg hτ ?_
  exact uR (r:=σ.length+2) aS (Nat.zero_le _) (by omega)
 ·rw [if_neg he]
  have hx:aX []=[]:=rfl
  rw [hx]
  have hτ:ah CI XB GI Av [.agg p.cs, .agg t.cs, .int .i64 n] σ=some (.ret (.tuple [.empty, .int .i64 (p.p9 t n)]),σ++[.box p.cs, .box t.cs]):=by
   unfold Prg.p9 orE at he ⊢
   generalize p.jS t n=v at*
   generalize p.gY t n=e at*
   generalize p.cs=pc at*
   generalize t.cs=tc at*
   by_cases hz:e=0
   ·subst hz
    rw [if_pos rfl] at he ⊢
    have hv:500<v:=by
     by_cases h:500<v
     ·exact h
     ·rw [if_neg h] at he;exact absurd rfl he
    have hv6: (500:Int) < (v:Int):=by omega
    rw [if_pos hv]
    simp [ah,Av,az,aS,hall,hpl,hpt,y1,y2,y3,h44,hv6]
   ·rw [if_neg hz]
    have hb: (e==0)=false:=by simpa using hz
    have hb2: (e != 0)=true:=by simpa using hz
    simp [ah,Av,az,aS,hall,hpl,hpt,y1,y2,y3,h44,hb,hb2]
  exact aR Jg hτ rfl rfl
end Go.AI
