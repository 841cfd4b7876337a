/- Texts of the proof: what functions of the program compute, step by step. No conditions of its own. -/
import Derived.Test.YtgenoggafhhgfaaGreatDoorH13
import Derived.Test.YtgenoggafhhgfaaGreatDoorH11
import Derived.Test.YtgenoggafhhgfaaGreatDoorH10
import Derived.Test.YtgenoggafhhgfaaGreatDoorH8
set_option linter.unusedVariables false
set_option linter.unusedSimpArgs false
namespace Go.AI
open Go Go.Proofs Go.Lx
set_option maxRecDepth 100000
def dN (σ:St) (r q:Nat) (b:List Ex):St:=(σ.set r (.row 7 (aX b) b.length)).set q (.box [.arr r b.length 0 b.length])
theorem fM {σ:St} {r q:Nat} {b:List Ex} : (dN σ r q b).length=σ.length:=by simp [dN]
theorem BV {σ:St} {r q:Nat} {b:List Ex} (hq:q<σ.length): (dN σ r q b)[q]? =some (.box [.arr r b.length 0 b.length]):=by
 unfold dN;rw [List.getElem?_set_self (by simpa using hq)]
theorem BW {σ:St} {r q:Nat} {b:List Ex} (hr:r<σ.length) (hne:q≠r): (dN σ r q b)[r]? =some (.row 7 (aX b) b.length):=by
 unfold dN;rw [List.getElem?_set_ne hne,List.getElem?_set_self hr]
theorem BX {σ:St} {r q j:Nat} {b:List Ex} (h1:q≠j) (h2:r≠j): (dN σ r q b)[j]? =σ[j]? :=by
 unfold dN;rw [List.getElem?_set_ne h1,List.getElem?_set_ne h2]
theorem E8 {σ X:St} {r q:Nat} {b:List Ex} (hr:r<σ.length) (hq:q<σ.length):dN (σ++X) r q b=dN σ r q b++X:=by
 unfold dN
 rw [List.set_append_left _ _ hr,List.set_append_left _ _ (by simpa using hq)]
theorem E9 {σ:St} {r q:Nat} (hr:σ[r]? =some (.row 7 [] 0)) (hq:σ[q]? =some (.box [.arr r 0 0 0])):dN σ r q []=σ:=by
 have e1:σ.set r (.row 7 [] 0)=σ:=by
  obtain ⟨h1,h2⟩:=List.getElem?_eq_some_iff.1 hr
  rw [<-h2];exact List.set_getElem_self h1
 have e2:σ.set q (.box [.arr r 0 0 0])=σ:=by
  obtain ⟨h1,h2⟩:=List.getElem?_eq_some_iff.1 hq
  rw [<-h2];exact List.set_getElem_self h1
 unfold dN
 show (σ.set r (.row 7 [] 0)).set q (.box [.arr r 0 0 0])=σ
 rw [e1,e2]
theorem oh {σ:St} {r q:Nat} {b:List Ex} (hr:r<σ.length) (hne:q≠r): ∀j,j<σ.length->(dN σ r q b)[j]? =σ[j]? \/ ∃o,(dN σ r q b)[j]? =some o/\o.under σ.length:=by
 intro j hj
 by_cases h1:q=j
 ·subst h1
  exact .inr ⟨_,BV hj,by simp [Obj.under,cL,D.under,hr]⟩
 ·by_cases h2:r=j
  ·subst h2
   exact .inr ⟨_,BW hj hne,fm _ (bu b).1⟩
  ·exact .inl (BX h1 h2)
theorem Gw {f:FuncId} {af:aF} (hT:aW f=some af) {args:List D} {σ τ:St} {r q:Nat} {b:List Ex} (hr:r<σ.length) (hne:q≠r) (hqf:qI f=false) {e:Int} (h:ah CI XB GI af args σ=some (gh e,dN σ r q b++τ))
 (hx:okF f:=by exact ⟨⟨rfl,rfl⟩,rfl⟩):CI (.fn f) args σ=some (gh e,dN σ r q b):=by
 by_cases he:e=0
 ·subst he
  rw [cr] at h ⊢
  exact dj hT h (nO fM (oh hr hne) rfl hqf) hx
 ·rw [cG he] at h ⊢
  exact dj hT h (jW fM (oh hr hne) rfl) hx
theorem IsT.dN {σ τ:St} {i r q:Nat} {b:List Ex} {p:Prg} {m:b9} (h:IsT (σ++τ) (σ.length+i) p m) (hr:σ[r]? =some (.row 7 [] 0)) (hq:σ[q]? =some (.box [.arr r 0 0 0])) (y:St):IsT (AI.dN σ r q b++τ++y) (σ.length+i) p m:=by
 obtain ⟨j,h1,h2⟩:=h
 have hk: ∀k,σ.length<=k->(AI.dN σ r q b++τ)[k]? =(σ++τ)[k]? :=fun k hk=>by
  rw [List.getElem?_append_right (by rw [fM];exact hk),List.getElem?_append_right hk,fM]
 refine ⟨j,bD ?_,bD ?_⟩
 ·rw [hk _ (by omega)];exact h1
 ·by_cases hj:σ.length<=j
  ·rw [hk _ hj];exact h2
  ·have hjl:j<σ.length:=by omega
   rw [List.getElem?_append_left hjl] at h2
   rw [List.getElem?_append_left (by rw [fM];exact hjl),BX ?_ ?_]
   ·exact h2
   ·rintro rfl;rw [hq] at h2;cases h2
   ·rintro rfl;rw [hr] at h2;cases h2
theorem KS:Nat.log2 64=6:=by decide
set_option maxHeartbeats 4000000 in
theorem Fa (b tb:Nat) (d20 d21:D) (σ:St) (r q:Nat) (hrl:r<σ.length) (hql:q<σ.length) (hne:q≠r) (pre v:List Ex) (hv: ∀x ∈ v,x.isV) (hvl:pre.length+v.length<=30000000): ∀ (m i:Nat),i+m=v.length-> ∀τ,∃τ',
 aU (aD CI XB GI 48 false yO) [(1, .ptr b 0),(3, .ptr q 0),(4, .ptr tb 0),(20,d20),(21,d21),(33, .slice (v.map Ex.d)),(34, .int .i64 v.length),(35, .int .i64 (i:Nat))] (dN σ r q (pre++v.take i)++τ)=
  some (.exit 2,[(1, .ptr b 0),(3, .ptr q 0),(4, .ptr tb 0),(20,d20),(21,d21),(33, .slice (v.map Ex.d)),(34, .int .i64 v.length),(35, .int .i64 v.length),(36, .bool false)],dN σ r q (pre++v)++(τ++τ'))
 |0,i,hi,τ=>by
  obtain rfl:i=v.length:=by omega
  rw [List.take_length]
  refine ⟨[],aH ?_ (by simp)⟩
  rw [List.append_nil]
  generalize v.map Ex.d=vd
  generalize dN σ r q (pre++v)++τ=σ1
  simp [yO]
 |m+1,i,hi,τ=>by
  have hlt:i<v.length:=by omega
  obtain ⟨τ',h2⟩:=Fa b tb d20 d21 σ r q hrl hql hne pre v hv hvl m (i+1) (by omega) (τ++[.box v[i].cs])
  refine ⟨[.box v[i].cs]++τ', ?_⟩
  rw [<-List.append_assoc τ,<-h2]
  refine aO ?_
  clear h2
  have htk:pre++v.take (i+1)=pre++v.take i++[v[i]]:=by rw [List.take_succ_eq_append_getElem hlt,List.append_assoc]
  rw [htk]
  have hbl0: (pre++v.take i).length<=30000000:=by rw [List.length_append,List.length_take];omega
  generalize pre++v.take i=bb at*
  have h78:=fun σ=>c78 v[i] (hv _ (List.getElem_mem hlt)) σ
  have hwr:=aI (n:=i) (by omega)
  have hii: (i:Int) <v.length:=by omega
  obtain ⟨ld,hld,hll,hlg⟩:=opq Ex.d v
  obtain ⟨g2,g3⟩:=hlg i hlt
  unfold Ex.d at g3
  have y1:=v[i].aL
  have y2:=v[i].aM
  have y3:=v[i].bJ
  have y4:bC v[i].cs v[i].cs=true:=aG _ (Ex.plain _).1
  have q78:qI 78=false:=rfl
  have x78:XB 78=false:=rfl
  have hbl:=cu bb
  have hba: (bb.length+1) *120<=140737488355328:=by omega
  have g1: ∀y,(dN σ r q bb++τ++y)[q]? =some (.box [.arr r bb.length 0 bb.length]):=fun y=>bD (bD (BV hql))
  have gr: ∀y,(dN σ r q bb++τ++y)[r]? =some (.row 7 (aX bb) bb.length):=fun y=>bD (bD (BW hrl hne))
  have hsr: ∀y o,((dN σ r q bb++τ++y).set r o)[r]? =some o:=fun y o=>List.getElem?_set_self (by simp [fM];omega)
  have hsq: ∀y o,((dN σ r q bb++τ++y).set r o)[q]? =some (.box [.arr r bb.length 0 bb.length]):=fun y o=>by rw [List.getElem?_set_ne hne.symm];exact g1 y
  have e8: ∀y,((dN σ r q bb++τ++y).set r (.row 7 (aX bb++[.agg v[i].cs]) (bb.length+1))).set q (.box [.arr r (bb.length+1) 0 (bb.length+1)])=dN σ r q (bb++[v[i]])++(τ++y):=fun y=>by
   rw [List.append_assoc,List.set_append_left _ _ (by rw [fM];exact hrl),List.set_append_left _ _ (by simp [fM];exact hql)]
   unfold dN
   rw [List.set_comm _ _ hne,List.set_set,List.set_set,lI]
   simp only [List.length_append,List.length_cons,List.length_nil,aX,Nat.zero_add]
  have hrq: ∀y o ob,(((dN σ r q bb++τ++y).set r o).set q ob)[r]? =some o:=fun y o ob=>by rw [List.getElem?_set_ne hne];exact hsr y o
  have hqq: ∀y o ob,(((dN σ r q bb++τ++y).set r o).set q ob)[q]? =some ob:=fun y o ob=>List.getElem?_set_self (by simp [fM];omega)
  have hltb: (bb.length:Int) < (bb.length:Int) +1:=by omega
  have hat: (aX bb++[D.agg z7a])[bb.length]? =some (.agg z7a):=by rw [<-hbl,List.getElem?_append_right (Nat.le_refl _)];simp
  have hst: ∀d,(aX bb++[D.agg z7a]).set bb.length d=aX bb++[d]:=fun d=>by rw [<-hbl,List.set_append_right _ _ (Nat.le_refl _)];simp
  rw [<-e8,hld]
  clear e8
  generalize v[i].cs=xc at*
  generalize hσ1:dN σ r q bb++τ=σ1 at*
  simp [yO,hlt,hii,hwr,hll,g2,g3,y1,y2,y3,y4,az,aS,aN,bP,g1,gr,h78,hbl,hba,rowOf,bw,bQ,aE,q78,x78,KS,hsr,hsq,hrq,hqq,hne,hne.symm,hltb,hat,hst,Nat.testBit_eq_decide_div_mod_eq]
theorem Fb {i k:Nat} {c:Con} {m:b9} {v:Bs × Nat × Nat} (h:v ∈ yP i k c m):v ∈ m\/v.2.2=k:=by
 unfold yP at h
 split at h
 ·exact .inl h
 ·rcases List.mem_append.1 h with h|h
  ·exact .inl h
  ·simp only [List.mem_singleton] at h;subst h;exact .inr rfl
theorem xA {i:Nat} {v:Bs × Nat × Nat} : ∀ {l:List Con} {k:Nat} {m:b9},v ∈ kU i l k m->v ∈ m\/v.2.2<k+l.length
 | [],k,m,h=> .inl h
 |c::r,k,m,h=>by
  rcases xA (l:=r) h with h|h
  ·rcases Fb h with h|h
   ·exact .inl h
   ·right;rw [h,List.length_cons];omega
  ·right;rw [List.length_cons];omega
theorem xB {v:Bs × Nat × Nat} {B:Nat} : ∀ {l:List Dat} {i:Nat} {m:b9},(∀d ∈ l,d.cons.length<=B)->v ∈ sw l i m->v ∈ m\/v.2.2<=B
 | [],_,_,_,h=> .inl h
 |d::r,i,m,hl,h=>by
  rcases xB (l:=r) (fun x hx=>hl x (List.mem_cons_of_mem _ hx)) h with h|h
  ·rcases xA h with h|h
   ·exact .inl h
   ·right;have:=hl d List.mem_cons_self;omega
  ·exact .inr h
theorem PR {p:Prg} (h:p.decls=0): ∀v ∈ p.cm,v.2.2<=1000:=fun v hv=>by
 rcases xB (B:=8) (fun d hd=>(fB h d hd).1) hv with h|h
 ·cases h
 ·omega
set_option maxHeartbeats 4000000 in
theorem Fc (p:Prg) (A:Nat->Prop) (hok:p.ok) (hdc:p.decls=0) (hA:ko p A) (t:Ty) (hwf: (Mt.mk t [] []).wf p) (dH: (Mt.mk t [] []).ri p A) (n:Nat) (hn:n<=7) (htot:p.tot t n<=500) (b i r q:Nat) (σ τ:St) (hT:IsT (σ++τ) (σ.length+i) p p.cm)
 (hb:σ[b]? =some (.box t.cs)) (hr:σ[r]? =some (.row 7 [] 0)) (hq:σ[q]? =some (.box [.arr r 0 0 0])) (hne:q≠r): ∀ (k j:Nat),j+k=n+1-> ∀y,∃y',
 aU (aD CI XB GI 48 false yQ) [(1, .ptr b 0),(3, .ptr q 0),(4, .ptr (σ.length+i) 0),(20, .int .i64 ((n:Int) +1)),(21, .int .i64 (j:Nat))] (dN σ r q ((List.range j).flatMap (t.val p))++τ++y)=
  some (.exit 0,[(1, .ptr b 0),(3, .ptr q 0),(4, .ptr (σ.length+i) 0),(20, .int .i64 ((n:Int) +1)),(21, .int .i64 ((n:Int) +1)),(22, .bool false)],dN σ r q (p.all t n)++τ++y')
 |0,j,hj,y=>by
  obtain rfl:j=n+1:=by omega
  refine ⟨y,aH ?_ (by simp)⟩
  unfold Prg.all
  generalize dN σ r q ((List.range (n+1)).flatMap (t.val p))++τ++y=σ1
  simp [yQ]
 |k+1,j,hj,y=>by
  obtain ⟨hdl,hls⟩:=gF hdc
  have cj:=fB hdc
  have hvks:=uO hdc
  have hcn:=(Prg.Gx hdc).cn
  have hT1:=fun b' y=>hT.dN (b:=b') hr hq y
  have hrl:=b8 hr
  have hql:=b8 hq
  have hqb:q≠b:=fun he=>by
   rw [he,hb] at hq
   have:=congrArg List.length (Obj.box.inj (Option.some.inj hq))
   rw [t.aL] at this;simp at this
  have hrb:r≠b:=fun he=>by rw [he,hb] at hr;cases hr
  have hbb: ∀b' y,(dN σ r q b'++τ++y)[b]? =some (.box t.cs):=fun b' y=>bD (bD ((BX hqb hrb).trans hb))
  have h75:=c75 p A p.cm hdl hls cj hA hvks (σ.length+i) j (by omega) (.mk t [] []) (t.cs++[.bL]) (dN σ r q ((List.range j).flatMap (t.val p))++τ++y) hwf dH (EJ t _) (hT1 _ _)
  rw [yu] at h75
  have hvI:=fun x hx=>C9 cj j t x hx
  have hsz:=fun x hx=>n9 p j t x hx
  have hl1:=tD p t (j+1)
  have hmono:=fR (t.cnt p) (show j+1<=n+1 by omega)
  unfold Prg.tot at htot
  rw [lU,List.length_append] at hl1
  have hup:Up (σ.length+i) (t.val p j) (dN σ r q ((List.range j).flatMap (t.val p))++τ++y):=fun i1 i2 h12 h2=>by
   have hm1:=List.getElem_mem (show i1< (t.val p j).length by omega)
   have hm2:=List.getElem_mem h2
   have hvk:t.vk:=dH.2.1
   have hasc:=List.pairwise_iff_getElem.1 (Gv hcn hvks j t hvk) i1 i2 (by omega) h2 h12
   refine ⟨_,by omega,c77 p p.cm (fun v hv=> ?_) (σ.length+i) (t.val p j)[i2] (t.val p j)[i1] (Ex.BT _ (hvI _ hm2)) (Ex.BT _ (hvI _ hm1)) (by rw [hsz _ hm2];omega) (by rw [hsz _ hm1];omega) (DZ hcn hvks j j t _ _ hvk hm2 hm1) _ (hT1 _ _)⟩
   exact PR hdc v hv
  have hc76:=RN (t.val p j) (by omega) (σ.length+i) _ hup
  obtain ⟨y2,h0⟩:=Fa b (σ.length+i) (.int .i64 ((n:Int) +1)) (.int .i64 (j:Nat)) σ r q hrl hql hne ((List.range j).flatMap (t.val p)) (t.val p j) hvI (by omega) (t.val p j).length 0 (by omega) (τ++y)
  rw [List.take_zero,List.append_nil,Int.natCast_zero,<-List.append_assoc,<-lU] at h0
  rw [List.append_assoc τ,<-List.append_assoc (dN σ r q ((List.range (j+1)).flatMap (t.val p)))] at h0
  obtain ⟨y',h2⟩:=Fc p A hok hdc hA t hwf dH n hn htot b i r q σ τ hT hb hr hq hne k (j+1) (by omega) (y++y2)
  refine ⟨y', ?_⟩
  rw [<-h2]
  refine aO ?_
  clear h2
  have hw:=aI (n:=j) (by omega)
  have hjj: (j:Int) < (n:Int) +1:=by omega
  obtain ⟨k1,n1,s1,a1,b1,t1,htc⟩: ∃k1 n1 s1 a1 b1 t1,t.cs=[.int .i64 k1, .int .i64 n1, .str s1, .slice a1, .slice b1, .int .i64 t1]:=by
   rcases t with ⟨k,n,s,l,ls,tail⟩;exact ⟨_,_,_,_,_,_,by simp only [Ty.cs];rfl⟩
  have hbS:=hbb ((List.range j).flatMap (t.val p)) y
  rw [htc] at hbS h75
  rw [bI] at h75
  simp only [List.cons_append,List.nil_append] at h75
  have hll: ((t.val p j).map Ex.d).length=(t.val p j).length:=List.length_map _
  clear hup hT1 hbb hT hvI hsz hwf dH
  generalize (t.val p j).map Ex.d=vd at*
  generalize (t.val p j).length=vl at*
  generalize dN σ r q ((List.range j).flatMap (t.val p))++τ++y=S0 at*
  generalize dN σ r q ((List.range (j+1)).flatMap (t.val p))++τ++(y++y2)=S1 at*
  simp [yQ,hjj,hw,hbS,h75,hc76,hll,h0,bQ,aE]
theorem PS:gh 3= .panic (fH 3):=rfl
set_option maxHeartbeats 4000000 in
theorem c74 (p:Prg) (hok:p.ok) (t:Ty) (ht:t.ok) (n:Int) (a b c r q:Nat) (σ:St) (ha:σ[a]? =some (.box p.cs)) (hb:σ[b]? =some (.box t.cs)) (hc:σ[c]? =some (.box [.int .i64 n])) (hr:σ[r]? =some (.row 7 [] 0)) (hq:σ[q]? =some (.box [.arr r 0 0 0])) (hne:q≠r):
 CI (.fn 74) [.ptr a 0, .ptr b 0, .ptr c 0, .ptr q 0] σ=some (gh (p.p9 t n),dN σ r q (p.rq t n)):=by
 obtain ⟨h69a,h69b⟩:=c69 p hok t ht n σ
 have hrl:=b8 hr
 have hpl:=p.aL
 have hpt:=p.aM
 have y1:=t.aL
 have y2:=t.aM
 have hnil:=E9 hr hq
 suffices h: ∃τ,ah CI XB GI BY [.ptr a 0, .ptr b 0, .ptr c 0, .ptr q 0] σ=some (gh (p.p9 t n),dN σ r q (p.rq t n)++τ) by
  obtain ⟨τ,h⟩:=h
  exact Gw PT hrl hne rfl h
 unfold Prg.rq
 unfold Prg.p9 orE
 by_cases he:p.gY t n=0
 rotate_left
 ·have h69:=h69b he
  refine ⟨[], ?_⟩
  rw [if_neg he,if_neg he,hnil,List.append_nil,cG he]
  generalize p.gY t n=e at*
  generalize p.cs=pc at*
  generalize t.cs=tc at*
  simp [ah,BY,ha,hb,hc,hpl,hpt,y1,y2,h69]
 obtain ⟨i,τ,h69,hT⟩:=h69a he
 obtain ⟨h1,hn0,hn7,h4⟩:=jR he
 obtain ⟨z1,z2,z3,_⟩:=gV h1
 obtain ⟨hdl,hls⟩:=gF z1
 obtain ⟨k,rfl⟩: ∃k:Nat,n=k:=⟨n.toNat,by omega⟩
 have h70:=c70 p p.cm hdl hls (fB z1) t (uK h1) (σ.length+i) k (by omega) (σ++τ) hT
 have hcv:p.jS t k=p.tot t k:=by unfold Prg.jS;rw [if_pos he,Int.toNat_natCast]
 rw [if_pos he,hcv]
 have hb2: (σ++τ)[b]? =some (.box t.cs):=bD hb
 have hc2: (σ++τ)[c]? =some (.box [.int .i64 k]):=bD hc
 have hw:=aI (n:=k) (by omega)
 by_cases hv:500<p.tot t k
 ·rw [if_pos hv]
  refine ⟨τ, ?_⟩
  have hv6: (500:Int) < (p.tot t k:Int):=by omega
  rw [if_neg (by decide),hnil,PS]
  have h58:=fun σ=>c58 3 σ
  clear hT
  generalize p.tot t k=v at*
  generalize σ++τ=σ2 at*
  generalize p.cs=pc at*
  generalize t.cs=tc at*
  simp [ah,BY,ha,hb,hc,hb2,hc2,hpl,hpt,y1,y2,h69,h70,hv6,h58]
 ·rw [if_neg hv,if_pos rfl,cr,Int.toNat_natCast]
  obtain ⟨A,hA,hff⟩:=nX h4
  have hvk:=t.At dF (Ty.rU z2) z3
  obtain ⟨y',hit⟩:=Fc p A hok z1 hA t (uK h1) ⟨hff,hvk,trivial⟩ k (by omega) (by omega) b i r q σ τ hT hb hr hq hne (k+1) 0 (by omega) []
  have e0: (List.range 0).flatMap (t.val p)=[]:=rfl
  rw [e0,hnil,List.append_nil,Int.natCast_zero,List.append_assoc] at hit
  refine ⟨τ++y', ?_⟩
  have hv6: ¬(500:Int) < (p.tot t k:Int):=by omega
  clear hT hnil
  generalize dN σ r q (p.all t k)++(τ++y')=S2 at*
  generalize p.tot t k=v at*
  generalize σ++τ=σ2 at*
  generalize p.cs=pc at*
  generalize t.cs=tc at*
  simp [ah,BY,ha,hb,hc,hb2,hc2,hpl,hpt,y1,y2,h69,h70,hv6,hw,hit]
theorem c24 (p:Prg) (hok:p.ok) (t:Ty) (ht:t.ok) (n:Int) (σ:St):CI (.fn 24) [.agg p.cs, .agg t.cs, .int .i64 n] σ=some (.ret (.tuple [.slice (aX (p.rq t n)), .int .i64 (p.p9 t n)]),σ):=by
 have hL: ∀y,(σ++[Obj.box p.cs, .box t.cs, .box [.int .i64 n], .row 7 [] 0, .box [.arr (σ.length+3) 0 0 0]]++y)[σ.length+3]? =some (.row 7 [] 0):=fun y=>by rw [List.append_assoc];exact aS
 have h74:=c74 p hok t ht n σ.length (σ.length+1) (σ.length+2) (σ.length+3) (σ.length+4) (σ++[.box p.cs, .box t.cs, .box [.int .i64 n], .row 7 [] 0, .box [.arr (σ.length+3) 0 0 0]]++[.box [.int .i64 0]])
  (by rw [List.append_assoc];exact az) (by rw [List.append_assoc];exact aS) (by rw [List.append_assoc];exact aS) (hL _) (by rw [List.append_assoc];exact aS) (by omega)
 have hlr:σ.length+3< (σ++[Obj.box p.cs, .box t.cs, .box [.int .i64 n], .row 7 [] 0, .box [.arr (σ.length+3) 0 0 0]]).length:=by simp
 have hlq:σ.length+4< (σ++[Obj.box p.cs, .box t.cs, .box [.int .i64 n], .row 7 [] 0, .box [.arr (σ.length+3) 0 0 0]]).length:=by simp
 rw [E8 hlr hlq] at h74
 have h54:=Pa 74 [] [.ptr σ.length 0, .ptr (σ.length+1) 0, .ptr (σ.length+2) 0, .ptr (σ.length+4) 0] _ _ _ fM (oh hlr (by omega)) h74
 obtain ⟨b,hbv⟩: ∃b,p.rq t n=b:=⟨_,rfl⟩
 rw [hbv] at h54 ⊢
 have hall:=p.bJ
 have y3:t.cs.all D.one=true:=by cases t;rfl
 have hrow:=BW (b:=b) hlr (show σ.length+4≠σ.length+3 by omega)
 have hcell:=BV (r:=σ.length+3) (b:=b) hlq
 have hex: ∃τ,dN (σ++[.box p.cs, .box t.cs, .box [.int .i64 n], .row 7 [] 0, .box [.arr (σ.length+3) 0 0 0]]) (σ.length+3) (σ.length+4) b=σ++τ:=⟨_,by
  unfold dN
  rw [bP,bP]⟩
 obtain ⟨τ,hex⟩:=hex
 rw [hex] at h54 hrow hcell
 have hqs: ∀o,∃τ',(σ++τ).set (σ.length+4) o=σ++τ':=fun o=>⟨_,bP⟩
 have hq5: ∀o,((σ++τ).set (σ.length+4) o)[σ.length+4]? =some o:=fun o=>List.getElem?_set_self (b8 hcell)
 have hid: (σ++τ).set (σ.length+4) (.box [.arr (σ.length+3) b.length 0 b.length])=σ++τ:=by
  obtain ⟨h1,h2⟩:=List.getElem?_eq_some_iff.1 hcell
  rw [<-h2];exact List.set_getElem_self h1
 by_cases he:p.p9 t n=0
 ·rw [he] at h54 ⊢
  have hbl:=cu b
  have hτ:ah CI XB GI BZ [.agg p.cs, .agg t.cs, .int .i64 n] σ=some (.ret (.tuple [.arr (σ.length+3) b.length 0 b.length, .int .i64 0]),σ++τ):=by
   generalize p.cs=pc at*
   generalize t.cs=tc at*
   simp [ah,BZ,hall,y3,h54,hcell,hid,aE]
  refine dj Jl hτ ?_
  have hbt:=(bu b)
  have hrow': (σ++τ)[σ.length+3]? =some (.row 7 (aX b) b.length):=hrow
  exact uR hrow' (Nat.le_refl _) (by omega)
 ·have hb0:b=[]:=by rw [<-hbv];unfold Prg.rq;rw [if_neg he]
  obtain ⟨τ',hτ'⟩:=hqs (.box [.empty])
  have hne: (p.p9 t n != 0)=true:=by simpa using he
  have hτ:ah CI XB GI BZ [.agg p.cs, .agg t.cs, .int .i64 n] σ=some (.ret (.tuple [.empty, .int .i64 (p.p9 t n)]),σ++τ'):=by
   rw [<-hτ']
   generalize p.p9 t n=z at*
   generalize p.cs=pc at*
   generalize t.cs=tc at*
   simp [ah,BZ,hall,y3,h54,hcell,hne,aE,hq5]
   exact bP (i:=4)
  rw [hb0]
  exact aR Jl hτ rfl rfl
theorem PU (σ:St):CI (.fn 108) [.slice [], .slice []] σ=some (.ret (.bool true),σ):=by
 have hit:aU (aD CI XB GI 26 false yR) [(0, .slice []),(1, .slice []),(5, .int .i64 0)] σ=some (.exit 0,[(0, .slice []),(1, .slice []),(5, .int .i64 0),(14, .bool false)],σ):=by
  refine aH ?_ (by simp)
  simp [yR]
 refine br KT (d:= .bool true) ?_ rfl rfl
 simp [ah,Da,hit]
set_option maxHeartbeats 4000000 in
theorem PV: ∀ (x:Ex),x.isV-> ∀ (σ:St),CI (.fn 51) [.agg x.cs, .agg x.cs] σ=some (.ret (.bool true),σ)
 | .mk k n s t nm l ar,hv,σ=>by
  obtain ⟨_,_,rfl,rfl,rfl,hl,hvl⟩:=hv
  have ih:=fun x (hx:x ∈ l)=>PV x (oe hvl hx)
  have h108:=fun σ=>PU σ
  obtain ⟨ld,hld,hll,hlg⟩:=opq Ex.d l
  have v2:bC ld ld=true:=by rw [<-hld,<-bI];exact aG _ (bu _).1
  have hcs: (Ex.mk k n s [] [] l []).cs=[.int .i64 k, .int .i64 n, .str s, .str [], .slice [], .slice ld, .slice []]:=by simp only [Ex.cs,bI,slD,dx,hld];rfl
  rw [hcs]
  have hit:=cK (f:=aD CI XB GI 130 false yS) (σ:=σ++[.box [.int .i64 k, .int .i64 n, .str s, .str [], .slice [], .slice ld, .slice []], .box [.int .i64 k, .int .i64 n, .str s, .str [], .slice [], .slice ld, .slice []]]) l (fun i=>[(2, .ptr σ.length 0),(3, .ptr (σ.length+1) 0),(5, .int .i64 (i:Nat))]) (fun _=>false) (fun _=>(.ret,[],σ)) (.exit 0,[(2, .ptr σ.length 0),(3, .ptr (σ.length+1) 0),(5, .int .i64 l.length),(63, .bool false)],σ++[.box [.int .i64 k, .int .i64 n, .str s, .str [], .slice [], .slice ld, .slice []], .box [.int .i64 k, .int .i64 n, .str s, .str [], .slice [], .slice ld, .slice []]]) (by simp) (by simp)
   (fun i hi=>by
     have hw:=aI (n:=i) (by omega)
     obtain ⟨h2,h3⟩:=hlg i hi
     have ih:=ih l[i] (List.getElem_mem hi)
     have hii: (i:Int) <l.length:=by omega
     have y1:=l[i].aL
     have y2:=l[i].aM
     have y4:bC l[i].cs l[i].cs=true:=aG _ l[i].plain.1
     have q51:qI 51=false:=rfl
     have x51:XB 51=false:=rfl
     unfold Ex.d at h3
     generalize l[i].cs=xc at*
     simp [yS,az,aS,hi,hii,hw,hll,h2,h3,y1,y2,y4,v2,ih,q51,x51,Nat.testBit_eq_decide_div_mod_eq]) (by simp [yS,az,aS,hll])
  rw [wW,Int.natCast_zero] at hit
  have hit2:aU (aD CI XB GI 130 false B0) [(2, .ptr σ.length 0),(3, .ptr (σ.length+1) 0),(6, .int .i64 0)] (σ++[.box [.int .i64 k, .int .i64 n, .str s, .str [], .slice [], .slice ld, .slice []], .box [.int .i64 k, .int .i64 n, .str s, .str [], .slice [], .slice ld, .slice []]])=
   some (.exit 2,[(2, .ptr σ.length 0),(3, .ptr (σ.length+1) 0),(6, .int .i64 0),(82, .bool false)],σ++[.box [.int .i64 k, .int .i64 n, .str s, .str [], .slice [], .slice ld, .slice []], .box [.int .i64 k, .int .i64 n, .str s, .str [], .slice [], .slice ld, .slice []]]):=by
   refine aH ?_ (by simp)
   simp [B0,az,aS]
  have hτ:ah CI XB GI Fe [.agg [.int .i64 k, .int .i64 n, .str s, .str [], .slice [], .slice ld, .slice []], .agg [.int .i64 k, .int .i64 n, .str s, .str [], .slice [], .slice ld, .slice []]] σ=some (.ret (.bool true),σ++[.box [.int .i64 k, .int .i64 n, .str s, .str [], .slice [], .slice ld, .slice []], .box [.int .i64 k, .int .i64 n, .str s, .str [], .slice [], .slice ld, .slice []]]):=by
   simp [ah,Fe,az,aS,hll,h108,hit,hit2]
  exact aR PW hτ rfl rfl
termination_by x=>SizeOf.sizeOf x
decreasing_by
 have:=List.sizeOf_lt_of_mem hx
 simp only [Ex.mk.sizeOf_spec]
 omega
theorem c25 (l:List Ex) (hl:l.length<=aQ) (hok: ∀x ∈ l,x.isV) (σ:St):CI (.fn 25) [.slice (l.map Ex.d), .slice (l.map Ex.d)] σ=some (.ret (.bool true),σ):=by
 obtain ⟨ld,hld,hll,hlg⟩:=opq Ex.d l
 have v2:bC ld ld=true:=by rw [<-hld,<-bI];exact aG _ (bu _).1
 rw [hld]
 have hit:=cK (f:=aD CI XB GI 31 false yT) (σ:=σ) l (fun i=>[(0, .slice ld),(1, .slice ld),(5, .bool true),(6, .int .i64 (i:Nat))]) (fun _=>false) (fun _=>(.ret,[],σ)) (.exit 0,[(0, .slice ld),(1, .slice ld),(5, .bool true),(6, .int .i64 l.length),(18, .bool false)],σ) (by simp) (by simp)
  (fun i hi=>by
    have hw:=aI (n:=i) (by unfold aQ at*;omega)
    obtain ⟨h2,h3⟩:=hlg i hi
    have h51:=fun σ=>PV l[i] (hok _ (List.getElem_mem hi)) σ
    have hii: (i:Int) <l.length:=by omega
    have y1:=l[i].aL
    have y2:=l[i].aM
    have y4:bC l[i].cs l[i].cs=true:=aG _ l[i].plain.1
    have q51:qI 51=false:=rfl
    have x51:XB 51=false:=rfl
    unfold Ex.d at h3
    generalize l[i].cs=xc at*
    simp [yT,hi,hii,hw,hll,h2,h3,y1,y2,y4,v2,h51,q51,x51,Nat.testBit_eq_decide_div_mod_eq]) (by simp [yT,hll])
 rw [wW,Int.natCast_zero] at hit
 refine br PX (d:= .bool true) ?_ rfl rfl
 simp [ah,Gy,hll,hit]
theorem Gz (p:Prg) (t:Ty) (n:Int): (p.rq t n).length<=aQ/\ ∀x ∈ p.rq t n,x.isV:=by
 unfold Prg.rq
 split
 ·rename_i h
  obtain ⟨hc,hv⟩:=eG.1 h
  obtain ⟨h1,h2,h3,_⟩:=jR hc
  obtain ⟨z1,_,_,_⟩:=gV h1
  have cj:=fB z1
  constructor
  ·unfold Prg.all
   rw [tD]
   have:=yt cj t n.toNat (by omega)
   unfold Prg.tot at this
   unfold aQ;omega
  ·intro x hx
   unfold Prg.all at hx
   obtain ⟨j,_,hj⟩:=List.mem_flatMap.1 hx
   exact C9 cj j t x hj
 ·exact ⟨by unfold aQ;simp,fun x hx=>by cases hx⟩
theorem RO (p:Prg) (hok:p.ok) (t:Ty) (ht:t.ok) (n:Int) (σ:St):CI (.fn 9) [.agg p.cs, .agg t.cs, .int .i64 n] σ=some (.ret (.bool true),σ):=by
 have h22:=fun σ=>c22 p hok t ht n σ
 have h44:=fun σ=>c44 p hok t ht n σ
 have h24:=fun σ=>c24 p hok t ht n σ
 have h45:=fun σ=>c45 p hok t ht n σ
 obtain ⟨v1,v2⟩:=Gz p t n
 have h25:=fun σ=>c25 (p.rq t n) v1 v2 σ
 rw [<-bI] at h25
 have h16:=fun σ=>k16 σ
 have hall:=p.bJ
 have hpl:=p.aL
 have hpt:=p.aM
 have y1:=t.aL
 have y2:=t.aM
 have y3:t.cs.all D.one=true:=by cases t;rfl
 have hτ:ah CI XB GI af9 [.agg p.cs, .agg t.cs, .int .i64 n] σ=some (.ret (.bool true),σ++[.box p.cs, .box t.cs]):=by
  generalize aX (p.rq t n)=vd at*
  generalize p.p9 t n=ve at*
  generalize p.jS t n=cv at*
  generalize p.gY t n=ce at*
  generalize p.cs=pc at*
  generalize t.cs=tc at*
  simp [ah,af9,az,aS,hall,hpl,hpt,y1,y2,y3,h22,h44,h24,h45,h25,h16]
 exact aR RP hτ rfl rfl
end Go.AI
