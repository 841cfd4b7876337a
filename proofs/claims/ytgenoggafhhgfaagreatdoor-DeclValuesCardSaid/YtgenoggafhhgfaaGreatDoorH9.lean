/- Texts of the proof: what functions of the program compute, step by step. No conditions of its own. -/
import Derived.Test.YtgenoggafhhgfaaGreatDoorH8
import Derived.Test.YtgenoggafhhgfaaGreatDoorH5
set_option linter.unusedVariables false
set_option linter.unusedSimpArgs false
namespace Go.AI
open Go Go.Proofs Go.Lx
set_option maxRecDepth 100000
def fH (e:Int):D:= .iface 154 (.agg [.int .i64 e])
def gh (e:Int):dJ:=if e=0 then .ret (.tuple []) else .panic (fH e)
theorem iP {f:FuncId} {af:aF} (hT:aW f=some af) {args:List D} {σ τ:St} {d:D} (h:ah CI XB GI af args σ=some (.panic d,σ++τ)) (hd:d.tree=true)
 (hx:okF f:=by exact ⟨⟨rfl,rfl⟩,rfl⟩):CI (.fn f) args σ=some (.panic d,σ):=
 dj hT h (A7 hd) hx
theorem yj {f:FuncId} {af:aF} (hT:aW f=some af) {args:List D} {σ τ:St} {e:Int} (h:ah CI XB GI af args σ=some (gh e,σ++τ))
 (hx:okF f:=by exact ⟨⟨rfl,rfl⟩,rfl⟩):CI (.fn f) args σ=some (gh e,σ):=by
 unfold gh at*
 by_cases he:e=0
 ·rw [if_pos he] at h ⊢;exact aR hT h rfl rfl hx
 ·rw [if_neg he] at h ⊢;exact iP hT h rfl hx
theorem cr:gh 0= .ret (.tuple []):=rfl
theorem cG {e:Int} (h: ¬e=0):gh e= .panic (fH e):=by unfold gh;rw [if_neg h]
theorem c58 (e:Int) (σ:St):CI (.fn 58) [.int .i64 e] σ=some (.panic (fH e),σ):=by
 refine iP QL (τ:=[]) ?_ rfl
 simp [ah,GO,bQ,aE,fH]
theorem c59 (e:Int) (σ:St):CI (.fn 59) [.int .i64 e] σ=some (gh e,σ):=by
 refine yj QM (τ:=[]) ?_
 rw [List.append_nil]
 by_cases h:e=0
 ·subst h
  simp [ah,FE,cr]
 ·have h': (e != 0)=true:=by simpa using h
  rw [cG h]
  simp [ah,FE,h,h',c58]
def idxOf {α:Type} (Q:α->Bool) (l:List α):Int:=match l.findIdx? Q with|some i=>i|none=> -1
theorem SC (l:List Eff) (f:Nat) (caps:List D) (Q:Eff->Bool) (σ:St) (hl:l.length<=aQ) (h: ∀x ∈ l,CI (.fn f) (.agg x.cs::caps) σ=some (.ret (.bool (Q x)),σ)):
 CI (.fn 139) [.slice (l.map Eff.d), .func f [] caps] σ=some (.ret (.int .i64 (idxOf Q l)),σ):=by
 unfold aQ at hl
 have hlen: (l.map Eff.d).length=l.length:=by simp
 have hit:=cK (f:=aD CI XB GI 19 false tP) (σ:=σ) l (fun i=>[(0, .slice (l.map Eff.d)),(1, .func f [] caps),(7, .int .i64 l.length),(8, .int .i64 (i:Nat))]) Q (fun i=>(.ret,[(4, .int .i64 (i:Nat))],σ)) (.exit 0,[(0, .slice (l.map Eff.d)),(1, .func f [] caps),(7, .int .i64 l.length),(8, .int .i64 l.length),(9, .bool false)],σ) (by simp) (by simp)
  (fun i hi=>by
    have hw:=aI (n:=i) (by omega)
    have hc:=h l[i] (List.getElem_mem hi)
    have bq: (l.map Eff.d)[i]? =some (.agg l[i].cs):=by simp [hi];rfl
    generalize l.map Eff.d=ld at*
    have h2:i<ld.length:=by omega
    have h3:ld[i]= .agg l[i].cs:=by rw [List.getElem?_eq_getElem h2] at bq;exact Option.some.inj bq
    have hxl:l[i].cs.length=2:=by first|rfl|simp
    have hxt:l[i].cs.take 2=l[i].cs:=by first|rfl|simp
    generalize l[i].cs=xc at*
    cases hb:Q l[i]<;>rw [hb] at hc<;>simp [tP,hi,hw,h2,h3,hc,hxl,hxt]) (by
    generalize l.map Eff.d=ld at*
    simp [tP])
 rw [Int.natCast_zero] at hit
 generalize l.map Eff.d=ld at*
 unfold idxOf
 cases hf:l.findIdx? Q with
 |none=>
  rw [hf] at hit
  refine br FI (d:= .int .i64 (-1)) ?_ rfl rfl
  simp [ah,Bd,hlen,hit]
 |some i=>
  rw [hf] at hit
  refine br FI (d:= .int .i64 i) ?_ rfl rfl
  simp [ah,Bd,hlen,hit]
theorem p92 (l:List Eff) (f:Nat) (caps:List D) (Q:Eff->Bool) (σ:St) (hl:l.length<=aQ) (h: ∀x ∈ l,CI (.fn f) (.agg x.cs::caps) σ=some (.ret (.bool (Q x)),σ)):
 CI (.fn 92) [.slice (l.map Eff.d), .func f [] caps] σ=some (.ret (.int .i64 (idxOf Q l)),σ):=by
 refine br QO (d:= .int .i64 (idxOf Q l)) ?_ rfl rfl
 have:=SC l f caps Q σ hl h
 generalize l.map Eff.d=ld at*
 simp [ah,GP,this]
theorem SD (l:List Dat) (f:Nat) (caps:List D) (Q:Dat->Bool) (σ:St) (hl:l.length<=aQ) (h: ∀x ∈ l,CI (.fn f) (.agg x.cs::caps) σ=some (.ret (.bool (Q x)),σ)):
 CI (.fn 201) [.slice (l.map Dat.d), .func f [] caps] σ=some (.ret (.int .i64 (idxOf Q l)),σ):=by
 unfold aQ at hl
 have hlen: (l.map Dat.d).length=l.length:=by simp
 have hit:=cK (f:=aD CI XB GI 19 false tQ) (σ:=σ) l (fun i=>[(0, .slice (l.map Dat.d)),(1, .func f [] caps),(7, .int .i64 l.length),(8, .int .i64 (i:Nat))]) Q (fun i=>(.ret,[(4, .int .i64 (i:Nat))],σ)) (.exit 0,[(0, .slice (l.map Dat.d)),(1, .func f [] caps),(7, .int .i64 l.length),(8, .int .i64 l.length),(9, .bool false)],σ) (by simp) (by simp)
  (fun i hi=>by
    have hw:=aI (n:=i) (by omega)
    have hc:=h l[i] (List.getElem_mem hi)
    have bq: (l.map Dat.d)[i]? =some (.agg l[i].cs):=by simp [hi];rfl
    generalize l.map Dat.d=ld at*
    have h2:i<ld.length:=by omega
    have h3:ld[i]= .agg l[i].cs:=by rw [List.getElem?_eq_getElem h2] at bq;exact Option.some.inj bq
    have hxl:l[i].cs.length=3:=by first|rfl|simp
    have hxt:l[i].cs.take 3=l[i].cs:=by first|rfl|simp
    generalize l[i].cs=xc at*
    cases hb:Q l[i]<;>rw [hb] at hc<;>simp [tQ,hi,hw,h2,h3,hc,hxl,hxt]) (by
    generalize l.map Dat.d=ld at*
    simp [tQ])
 rw [Int.natCast_zero] at hit
 generalize l.map Dat.d=ld at*
 unfold idxOf
 cases hf:l.findIdx? Q with
 |none=>
  rw [hf] at hit
  refine br FK (d:= .int .i64 (-1)) ?_ rfl rfl
  simp [ah,Bn,hlen,hit]
 |some i=>
  rw [hf] at hit
  refine br FK (d:= .int .i64 i) ?_ rfl rfl
  simp [ah,Bn,hlen,hit]
theorem SE (l:List Dat) (f:Nat) (caps:List D) (Q:Dat->Bool) (σ:St) (hl:l.length<=aQ) (h: ∀x ∈ l,CI (.fn f) (.agg x.cs::caps) σ=some (.ret (.bool (Q x)),σ)):
 CI (.fn 164) [.slice (l.map Dat.d), .func f [] caps] σ=some (.ret (.int .i64 (idxOf Q l)),σ):=by
 refine br MP (d:= .int .i64 (idxOf Q l)) ?_ rfl rfl
 have:=SD l f caps Q σ hl h
 generalize l.map Dat.d=ld at*
 simp [ah,Dl,this]
theorem Rc:Nat.testBit 63 3=true:=by decide
theorem Prg.dw (p:Prg):p.cs= .slice (p.data.map Dat.d):: .slice (p.aA.map Eff.d):: .slice (p.defs.map Dfn.d)::p.main.cs:=by cases p;rfl
theorem Prg.aL (p:Prg):p.cs.length=10:=by rw [p.dw];simp
theorem Prg.aM (p:Prg):p.cs.take 10=p.cs:=List.take_of_length_le (by rw [p.aL];exact Nat.le_refl _)
theorem Prg.bJ (p:Prg):p.cs.all D.one=true:=by rw [p.dw];simp [D.one,Ex.bJ]
theorem c93 (x:Eff) (s:Bs) (q:Nat) (σ:St) (hq:σ[q]? =some (.box [.str s])):CI (.fn 93) [.agg x.cs, .ptr q 0] σ=some (.ret (.bool (x.name==s)),σ):=by
 have hτ:ah CI XB GI FF [.agg x.cs, .ptr q 0] σ=some (.ret (.bool (x.name==s)),σ++[.box x.cs]):=by
  rcases x with ⟨name,ops⟩
  simp only [Eff.cs]
  generalize ops.map Opn.d=od
  simp [ah,FF,az,bD hq]
 exact aR QS hτ rfl rfl
theorem SF (x:Dat) (s:Bs) (q:Nat) (σ:St) (hq:σ[q]? =some (.box [.str s])):CI (.fn 165) [.agg x.cs, .ptr q 0] σ=some (.ret (.bool (x.name==s)),σ):=by
 have hτ:ah CI XB GI Bi [.agg x.cs, .ptr q 0] σ=some (.ret (.bool (x.name==s)),σ++[.box x.cs]):=by
  rcases x with ⟨name,params,cons⟩
  simp only [Dat.cs]
  simp only [slD]
  generalize cons.map Con.d=od
  generalize params.map D.str=pd
  simp [ah,Bi,az,bD hq]
 exact aR MQ hτ rfl rfl
def nIO:Bs:=[73,79]
def gU (l:List Eff) (s:Bs):Int:=if 0<=idxOf (fun x:Eff=>x.name==s) l then idxOf (fun x:Eff=>x.name==s) l else if s==nIO then -1 else 0
def bK (l:List Eff) (s:Bs):Int:=if 0<=idxOf (fun x:Eff=>x.name==s) l then 0 else if s==nIO then 0 else 6
theorem c34 (p:Prg) (hl:p.aA.length<=aQ) (s:Bs) (σ:St):CI (.fn 34) [.agg p.cs, .str s] σ=some (.ret (.tuple [.int .i64 (gU p.aA s), .int .i64 (bK p.aA s)]),σ):=by
 obtain ⟨τ,hτ⟩: ∃τ,ah CI XB GI D9 [.agg p.cs, .str s] σ=some (.ret (.tuple [.int .i64 (gU p.aA s), .int .i64 (bK p.aA s)]),σ++τ):=by
  refine ⟨[.box p.cs, .box [.str s]], ?_⟩
  have h92:=p92 p.aA 93 [.ptr (σ.length+1) 0] (fun x=>x.name==s) (σ++[.box p.cs, .box [.str s]]) hl (fun x _=>c93 x s (σ.length+1) _ (by rw [aS];rfl))
  unfold gU bK
  have hall:=p.bJ
  rw [p.dw] at*
  generalize idxOf (fun x:Eff=>x.name==s) p.aA=k at*
  generalize p.data.map Dat.d=dd at*
  generalize p.aA.map Eff.d=ed at*
  generalize p.defs.map Dfn.d=fd at*
  have hm3:=p.main.bJ
  generalize p.main.cs=mc at*
  by_cases hk:0<=k
  ·simp [ah,D9,az,aS,hall,hm3,h92,hk]
  ·unfold nIO
   cases hs:s==[73,79]<;>simp [ah,D9,az,aS,hall,hm3,h92,hk,hs]
 exact aR QI hτ rfl rfl
abbrev b9:=List (Bs × Nat × Nat)
def plD (x:Nat × Nat):D:= .agg [.int .i64 x.1, .int .i64 x.2]
def kvs (m:b9):List (D × D):=m.map fun x=>(.str x.1,plD x.2)
def IsT (σ:St) (t:Nat) (p:Prg) (m:b9):Prop:= ∃j,σ[t]? =some (.box (p.cs++[.map j]))/\σ[j]? =some (.map (kvs m))
theorem IsT.app {σ τ:St} {t:Nat} {p:Prg} {m:b9} (h:IsT σ t p m):IsT (σ++τ) t p m:=by
 obtain ⟨j,h1,h2⟩:=h
 exact ⟨j,bD h1,bD h2⟩
theorem Kv (p:Prg) (m:b9) (hl:p.data.length<=aQ) (s:Bs) (t:Nat) (σ:St) (h:IsT σ t p m):CI (.fn 117) [.ptr t 0, .str s] σ=some (.ret (.int .i64 (idxOf (fun x:Dat=>x.name==s) p.data)),σ):=by
 obtain ⟨j,h1,_⟩:=h
 have h164:=SE p.data 165 [.ptr σ.length 0] (fun x=>x.name==s) (σ++[.box [.str s]]) hl (fun x _=>SF x s σ.length _ (by rw [az];rfl))
 have hτ:ah CI XB GI Ba [.ptr t 0, .str s] σ=some (.ret (.int .i64 (idxOf (fun x:Dat=>x.name==s) p.data)),σ++[.box [.str s]]):=by
  rw [p.dw] at h1
  generalize idxOf (fun x:Dat=>x.name==s) p.data=k at*
  generalize p.data.map Dat.d=dd at*
  generalize p.aA.map Eff.d=ed at*
  generalize p.defs.map Dfn.d=fd at*
  generalize p.main.cs=mc at*
  simp [ah,Ba,az,bD h1,h164]
 exact aR MC hτ rfl rfl
theorem k8 {α:Type} {f:Env->St->Option (bx × Env × St)} {σ:St} (l:List α) (E:Nat->Env) (e:α->Int) (X:Int->bx) (Y:bx × Env) (hX: ∀b,X b≠ .normal) (hY:Y.1≠ .normal)
 (h: ∀i (hi:i<l.length) (τ:St),∃τ' ev,f (E i) (σ++τ)=some (if e l[i]=0 then (.normal,E (i+1),σ++τ') else (X (e l[i]),ev,σ++τ'))) (hf: ∀τ,∃τ',f (E l.length) (σ++τ)=some (Y.1,Y.2,σ++τ')):
 ∀ (m j:Nat) (τ:St),j+m=l.length-> ∃τ' ev,aU f (E j) (σ++τ)=some (if bn ((l.drop j).map e)=0 then (Y.1,Y.2,σ++τ') else (X (bn ((l.drop j).map e)),ev,σ++τ'))
 |0,j,τ,hj=>by
  obtain rfl:j=l.length:=by omega
  rw [List.drop_length]
  obtain ⟨τ',h1⟩:=hf τ
  exact ⟨τ',[],aH h1 hY⟩
 |m+1,j,τ,hj=>by
  have hlt:j<l.length:=by omega
  obtain ⟨τ1,ev,hb⟩:=h j hlt τ
  rw [List.drop_eq_getElem_cons hlt]
  simp only [List.map_cons,bn]
  by_cases hq:e l[j]=0
  ·rw [if_pos hq] at hb ⊢
   rw [aO hb]
   exact k8 l E e X Y hX hY h hf m (j+1) τ1 (by omega)
  ·simp only [if_neg hq] at hb ⊢
   exact ⟨τ1,ev,aH hb (hX _)⟩
theorem oO {α:Type} {f:Env->St->Option (bx × Env × St)} {σ:St} (l:List α) (E:Nat->Env) (e:α->Int) (X:Int->bx) (Y:bx × Env) (hX: ∀b,X b≠ .normal) (hY:Y.1≠ .normal)
 (h: ∀i (hi:i<l.length) (τ:St),∃τ' ev,f (E i) (σ++τ)=some (if e l[i]=0 then (.normal,E (i+1),σ++τ') else (X (e l[i]),ev,σ++τ'))) (hf: ∀τ,∃τ',f (E l.length) (σ++τ)=some (Y.1,Y.2,σ++τ')) (τ:St):
 ∃τ' ev,aU f (E 0) (σ++τ)=some (if bn (l.map e)=0 then (Y.1,Y.2,σ++τ') else (X (bn (l.map e)),ev,σ++τ')):=by
 have:=k8 l E e X Y hX hY h hf l.length 0 τ (by omega)
 rw [List.drop_zero] at this
 exact this
def CG (pd:D) (l:List Bs):Prop:=pd=slD l\/(pd= .empty/\l=[])
theorem Rd (s:Bs) (σ:St):CI (.fn 111) [.empty, .str s] σ=some (.ret (.bool false),σ):=by
 have h:aU (aD CI XB GI 19 false kI) [(0, .empty),(1, .str s),(7, .int .i64 0),(8, .int .i64 0)] σ=some (.exit 0,[(0, .empty),(1, .str s),(7, .int .i64 0),(8, .int .i64 0),(9, .bool false)],σ):=aH (by simp [kI]) (by simp)
 have h89:CI (.fn 89) [.empty, .str s] σ=some (.ret (.int .i64 (-1)),σ):=by
  refine br FG (d:= .int .i64 (-1)) ?_ rfl rfl
  simp [ah,Eb,h]
 refine br Ci (d:= .bool false) ?_ rfl rfl
 simp [ah,xO,h89]
theorem Re {pd:D} {l:List Bs} (h:CG pd l) (hl:l.length<=aQ) (s:Bs) (σ:St):CI (.fn 111) [pd, .str s] σ=some (.ret (.bool (cV l s)),σ):=by
 rcases h with rfl| ⟨rfl,rfl⟩
 ·exact mw l s σ hl
 ·exact Rd s σ
def iY (p:Prg) (params:List Bs) (k:Int) (s:Bs) (n:Nat) (ls:List Lab):Int:=
 if k=1 then (if cV params s then 0 else 6)
 else if k=6 then (match p.data.find? (fun x:Dat=>x.name==s) with|none=>6|some d=>if d.params.length=n then 0 else 7)
 else if k=5 then bn (ls.map fun x=>bK p.aA x.s) else 0
mutual
def Ty.ord (p:Prg) (params:List Bs):Ty->Int
 | .mk k _ s l ls _=>if iY p params k s l.length ls=0 then fG p params l else iY p params k s l.length ls
def fG (p:Prg) (params:List Bs):List Ty->Int
 | []=>0
 |t::r=>if t.ord p params=0 then fG p params r else t.ord p params
end
theorem ki (p:Prg) (params:List Bs): ∀ (l:List Ty),fG p params l=bn (l.map fun t=>t.ord p params)
 | []=>rfl
 |t::r=>by
  simp only [fG,List.map_cons,bn,ki p params r]
theorem Rf (p:Prg) (m:b9) (hel:p.aA.length<=aQ) (tb:Nat) (pd:D) (ls:List Lab) (hls:ls.length<=aQ) (q:Nat) (σ:St) (hT:IsT σ tb p m):
 ∃τ' ev,aU (aD CI XB GI 82 false mY) [(0, .ptr tb 0),(2,pd),(4, .ptr q 0),(51, .slice (ls.map Lab.d)),(52, .int .i64 ls.length),(53, .int .i64 0)] σ=
  some (if bn (ls.map fun x=>bK p.aA x.s)=0 then (.exit 1,[(0, .ptr tb 0),(2,pd),(4, .ptr q 0),(51, .slice (ls.map Lab.d)),(52, .int .i64 ls.length),(53, .int .i64 ls.length),(54, .bool false)],σ++τ') else (.panic (fH (bn (ls.map fun x=>bK p.aA x.s))),ev,σ++τ')):=by
 unfold aQ at hls
 have:=oO (f:=aD CI XB GI 82 false mY) (σ:=σ) ls (fun i=>[(0, .ptr tb 0),(2,pd),(4, .ptr q 0),(51, .slice (ls.map Lab.d)),(52, .int .i64 ls.length),(53, .int .i64 (i:Nat))]) (fun x=>bK p.aA x.s) (fun e=> .panic (fH e))
  (.exit 1,[(0, .ptr tb 0),(2,pd),(4, .ptr q 0),(51, .slice (ls.map Lab.d)),(52, .int .i64 ls.length),(53, .int .i64 ls.length),(54, .bool false)]) (by simp) (by simp)
  (fun i hi τ=>by
    have hw:=aI (n:=i) (by omega)
    have hT':=hT.app (τ:=τ)
    rcases hx:ls[i] with ⟨s,n⟩
    refine ⟨τ++[.box [.str s, .int .i64 n]],[(0, .ptr tb 0),(2,pd),(4, .ptr q 0),(10, .int .i64 (bK p.aA s)),(51, .slice (ls.map Lab.d)),(52, .int .i64 ls.length),(53, .int .i64 (i:Nat))], ?_⟩
    rw [<-List.append_assoc]
    generalize σ++τ=σ1 at*
    obtain ⟨j,h1,_⟩:=hT'
    have h34:=fun σ=>c34 p hel s σ
    have q34:qI 34=false:=rfl
    have x34:XB 34=false:=rfl
    have hpl:=p.aL
    have hpt:=p.aM
    generalize p.cs=pc at*
    generalize gU p.aA s=fi at*
    generalize bK p.aA s=fe at*
    by_cases he:fe=0
    ·rw [if_pos he]
     subst he
     simp [mY,hi,hw,hx,Lab.d,az,aN,bD h1,hpl,hpt,h34,c59,cr,q34,x34,Rc]
    ·rw [if_neg he]
     simp [mY,hi,hw,hx,Lab.d,az,aN,bD h1,hpl,hpt,h34,c59,cG he,q34,x34,Rc]) (fun τ=>⟨τ,by simp [mY]⟩) []
 simpa using this
theorem fk {α:Type} (Q:α->Bool) (l:List α): (idxOf Q l<0/\l.find? Q=none)\/(∃i,idxOf Q l=(i:Nat)/\ ∃h:i<l.length,l.find? Q=some l[i]/\Q l[i]=true):=by
 unfold idxOf
 cases h:l.findIdx? Q with
 |none=>
  left
  rw [List.findIdx?_eq_none_iff] at h
  exact ⟨by simp,List.find?_eq_none.2 fun x hx=>by simp [h x hx]⟩
 |some i=>
  right
  obtain ⟨h1,h2,h3⟩:=List.findIdx?_eq_some_iff_getElem.1 h
  refine ⟨i,rfl,h1, ?_,h2⟩
  rw [List.find?_eq_some_iff_getElem]
  exact ⟨h2,i,h1,rfl,fun j hj=>by simpa using h3 j hj⟩
set_option maxHeartbeats 1000000 in
theorem ED (p:Prg) (m:b9) (hdl:p.data.length<=aQ) (hel:p.aA.length<=aQ) (params:List Bs) (hpar:params.length<=aQ) (pd:D) (hpd:CG pd params) (tb:Nat):
 ∀ (t:Ty),t.ok-> ∀ (σ:St),IsT σ tb p m->CI (.fn 112) [.ptr tb 0, .agg t.cs,pd] σ=some (gh (t.ord p params),σ)
 | .mk k n s l ls tail,hok,σ,hT=>by
  obtain ⟨hl1,hl2,hl3⟩:=hok
  have htail: ∀τ,∃τ' ev,aU (aD CI XB GI 82 false kJ) [(0, .ptr tb 0),(2,pd),(71, .slice (aT l)),(72, .int .i64 l.length),(73, .int .i64 0)] (σ++[.box (Ty.mk k n s l ls tail).cs]++τ)=
   some (if fG p params l=0 then (.exit 3,[(0, .ptr tb 0),(2,pd),(71, .slice (aT l)),(72, .int .i64 l.length),(73, .int .i64 l.length),(74, .bool false)],σ++[.box (Ty.mk k n s l ls tail).cs]++τ') else (.panic (fH (fG p params l)),ev,σ++[.box (Ty.mk k n s l ls tail).cs]++τ')):=by
   intro τ
   have hlen:=cN l
   have:=oO (f:=aD CI XB GI 82 false kJ) (σ:=σ++[.box (Ty.mk k n s l ls tail).cs]) l (fun i=>[(0, .ptr tb 0),(2,pd),(71, .slice (aT l)),(72, .int .i64 l.length),(73, .int .i64 (i:Nat))]) (fun t=>t.ord p params) (fun e=> .panic (fH e))
    (.exit 3,[(0, .ptr tb 0),(2,pd),(71, .slice (aT l)),(72, .int .i64 l.length),(73, .int .i64 l.length),(74, .bool false)]) (by simp) (by simp)
    (fun i hi τ=>by
      have hw:=aI (n:=i) (by unfold aQ at hl1;omega)
      have ih:=ED p m hdl hel params hpar pd hpd tb l[i] (dX hl3 (List.getElem_mem hi)) (σ++[Obj.box (Ty.mk k n s l ls tail).cs]++τ++[Obj.box l[i].cs]) hT.app.app.app
      have bq: (aT l)[i]? =some (.agg l[i].cs):=by rw [bS];simp [Ty.d,hi]
      refine ⟨τ++[.box l[i].cs],[(0, .ptr tb 0),(2,pd),(12, .ptr (σ++[Obj.box (Ty.mk k n s l ls tail).cs]++τ).length 0),(71, .slice (aT l)),(72, .int .i64 l.length),(73, .int .i64 (i:Nat)),(78, .agg l[i].cs)], ?_⟩
      rw [<-List.append_assoc]
      generalize σ++[.box (Ty.mk k n s l ls tail).cs]++τ=σ1 at*
      generalize aT l=ld at*
      have h2:i<ld.length:=by omega
      have h3:ld[i]= .agg l[i].cs:=by rw [List.getElem?_eq_getElem h2] at bq;exact Option.some.inj bq
      generalize l[i]=x at*
      have hx1:=x.aL
      have hx2:=x.aM
      have hx3:x.cs.all D.one=true:=by cases x;rfl
      have hx4:x.cs.drop 6=[]:=List.drop_eq_nil_of_le (by simp)
      generalize x.cs=xc at*
      by_cases he:x.ord p params=0
      ·rw [if_pos he]
       rw [he,cr] at ih
       simp [kJ,hi,hw,h2,h3,az,aN,hx1,hx2,hx3,hx4,aE,ih]
      ·rw [if_neg he]
       rw [cG he] at ih
       simp [kJ,hi,hw,h2,h3,az,aN,hx1,hx2,hx3,hx4,aE,ih]) (fun τ=>⟨τ,by generalize aT l=ld at*;simp [kJ]⟩) τ
   rw [<-ki,Int.natCast_zero] at this
   exact this
  obtain ⟨τ,hτ⟩: ∃τ,ah CI XB GI gC [.ptr tb 0, .agg (Ty.mk k n s l ls tail).cs,pd] σ=some (gh ((Ty.mk k n s l ls tail).ord p params),σ++τ):=by
   have hlen:=cN l
   have hlsl: (ls.map Lab.d).length=ls.length:=by simp
   have mw:=fun σ=>Re hpd hpar s σ
   have h117:=fun τ=>Kv p m hdl s tb (σ++τ) hT.app
   have it:=Rf p m hel tb pd ls hl2 σ.length (σ++[Obj.box (Ty.mk k n s l ls tail).cs]) hT.app
   simp only [Ty.ord]
   have e8: ∀τ0,(∀τ' r,(∃ev,aU (aD CI XB GI 82 false kJ) [(0, .ptr tb 0),(2,pd),(71, .slice (aT l)),(72, .int .i64 l.length),(73, .int .i64 0)] (σ++[.box (Ty.mk k n s l ls tail).cs]++τ0)=some (if fG p params l=0 then (.exit 3,[(0, .ptr tb 0),(2,pd),(71, .slice (aT l)),(72, .int .i64 l.length),(73, .int .i64 l.length),(74, .bool false)],σ++τ') else (.panic (fH (fG p params l)),ev,σ++τ')))->r=gh (fG p params l)->
    ah CI XB GI gC [.ptr tb 0, .agg (Ty.mk k n s l ls tail).cs,pd] σ=some (r,σ++τ'))-> ∃τ,ah CI XB GI gC [.ptr tb 0, .agg (Ty.mk k n s l ls tail).cs,pd] σ=some (gh (fG p params l),σ++τ):=by
    intro τ0 h
    obtain ⟨τ',ev,h1⟩:=htail τ0
    exact ⟨_,h ([.box (Ty.mk k n s l ls tail).cs]++τ') _ ⟨ev,by rw [h1];simp only [List.append_assoc]⟩ rfl⟩
   clear htail
   by_cases hk1:k=1
   ·subst hk1
    cases hh:cV params s
    ·refine ⟨[.box (Ty.mk 1 n s l ls tail).cs], ?_⟩
     have ho:iY p params 1 s l.length ls=6:=by simp [iY,hh]
     rw [ho,if_neg (by omega)]
     simp only [Ty.cs] at*
     generalize ls.map Lab.d=lsd at*
     generalize aT l=ld at*
     simp [ah,gC,az,mw,hh,c58,gh]
    ·have ho:iY p params 1 s l.length ls=0:=by simp [iY,hh]
     rw [ho,if_pos rfl]
     refine e8 [] fun τ' r ⟨ev,hit⟩ hr=> ?_
     subst hr
     simp only [Ty.cs] at*
     generalize ls.map Lab.d=lsd at*
     generalize aT l=ld at*
     by_cases hz:fG p params l=0
     ·rw [if_pos hz,List.append_nil] at hit
      rw [hz]
      simp [ah,gC,az,mw,hh,hlen,hit,gh]
     ·rw [if_neg hz,List.append_nil] at hit
      rw [cG hz]
      simp [ah,gC,az,mw,hh,hlen,hit]
   have hk1': (k==1)=false:=by simpa using hk1
   by_cases hk6:k=6
   ·subst hk6
    have h117:=h117 [.box (Ty.mk 6 n s l ls tail).cs]
    obtain ⟨j,hj,_⟩:=hT
    rw [p.dw] at hj
    rcases fk (fun x:Dat=>x.name==s) p.data with ⟨hneg,hnone⟩ | ⟨i,hi,hlt,hsome,_⟩
    ·have ho:iY p params 6 s l.length ls=6:=by simp [iY,hnone]
     rw [ho,if_neg (by omega)]
     refine ⟨[.box (Ty.mk 6 n s l ls tail).cs], ?_⟩
     generalize idxOf (fun x:Dat=>x.name==s) p.data=z at*
     simp only [Ty.cs] at*
     generalize ls.map Lab.d=lsd at*
     generalize aT l=ld at*
     simp [ah,gC,az,h117,hneg,c58,gh]
    ·have bq: (p.data.map Dat.d)[i]? =some (.agg p.data[i].cs):=by simp [hlt];rfl
     have hdlen: (p.data.map Dat.d).length=p.data.length:=by simp
     rw [hi] at h117
     have hni: ¬(i:Int) <0:=by omega
     have ho:iY p params 6 s l.length ls=if p.data[i].params.length=l.length then 0 else 7:=by simp only [iY,hsome];rfl
     rw [ho]
     generalize p.data[i]=d at*
     rcases d with ⟨dn,dp,dc⟩
     simp only [Dat.cs,slD] at*
     have hpl: (dp.map D.str).length=dp.length:=by simp
     generalize p.data.map Dat.d=dd at*
     generalize p.aA.map Eff.d=ed at*
     generalize p.defs.map Dfn.d=fd at*
     generalize p.main.cs=mc at*
     have h2:i<dd.length:=by omega
     have h3:dd[i]= .agg [.str dn, .slice (dp.map D.str), .slice (dc.map Con.d)]:=by rw [List.getElem?_eq_getElem h2] at bq;exact Option.some.inj bq
     generalize dc.map Con.d=cd at*
     generalize dp.map D.str=pdd at*
     by_cases hp:dp.length=l.length
     ·rw [if_pos hp,if_pos rfl]
      refine e8 [] fun τ' r ⟨ev,hit⟩ hr=> ?_
      subst hr
      simp only [Ty.cs] at*
      generalize ls.map Lab.d=lsd at*
      generalize aT l=ld at*
      by_cases hz:fG p params l=0
      ·rw [if_pos hz,List.append_nil] at hit
       rw [hz]
       simp [ah,gC,az,h117,hlen,hit,gh,h2,h3,hni,bD hj,hpl,hp]
      ·rw [if_neg hz,List.append_nil] at hit
       rw [cG hz]
       simp [ah,gC,az,h117,hlen,hit,h2,h3,hni,bD hj,hpl,hp]
     ·rw [if_neg hp,if_neg (by omega)]
      refine ⟨[.box (Ty.mk 6 n s l ls tail).cs], ?_⟩
      have hp': ((dp.length:Int) ==(l.length:Int))=false:=by simp;omega
      have hp2: ¬(dp.length:Int)=(l.length:Int):=by omega
      simp only [Ty.cs] at*
      generalize ls.map Lab.d=lsd at*
      generalize aT l=ld at*
      simp [ah,gC,az,h117,hlen,c58,gh,h2,h3,hni,bD hj,hpl,hp,hp',hp2,bne]
   have hk6': (k==6)=false:=by simpa using hk6
   by_cases hk5:k=5
   ·subst hk5
    obtain ⟨τl,evl,hitl⟩:=it
    have ho:iY p params 5 s l.length ls=bn (ls.map fun x=>bK p.aA x.s):=by simp [iY]
    rw [ho]
    generalize bn (ls.map fun x=>bK p.aA x.s)=fe at*
    by_cases hfe:fe=0
    ·rw [if_pos hfe] at hitl ⊢
     have hg: (σ++[.box (Ty.mk 5 n s l ls tail).cs]++τl)[σ.length]? =some (.box (Ty.mk 5 n s l ls tail).cs):=by rw [List.append_assoc];exact az
     refine e8 τl fun τ' r ⟨ev,hit⟩ hr=> ?_
     subst hr
     generalize hσ1:σ++[.box (Ty.mk 5 n s l ls tail).cs]++τl=σ1 at*
     simp only [Ty.cs] at*
     generalize ls.map Lab.d=lsd at*
     generalize aT l=ld at*
     by_cases hz:fG p params l=0
     ·rw [if_pos hz] at hit
      rw [hz]
      simp [ah,gC,az,hg,hlsl,hitl,hlen,hit,gh]
     ·rw [if_neg hz] at hit
      rw [cG hz]
      simp [ah,gC,az,hg,hlsl,hitl,hlen,hit]
    ·rw [if_neg hfe] at hitl ⊢
     refine ⟨[.box (Ty.mk 5 n s l ls tail).cs]++τl, ?_⟩
     rw [<-List.append_assoc,cG hfe]
     generalize hσ1:σ++[.box (Ty.mk 5 n s l ls tail).cs]++τl=σ1 at*
     simp only [Ty.cs] at*
     generalize ls.map Lab.d=lsd at*
     generalize aT l=ld at*
     simp [ah,gC,az,hlsl,hitl]
   have hk5': (k==5)=false:=by simpa using hk5
   have ho:iY p params k s l.length ls=0:=by simp [iY,hk1,hk5,hk6]
   rw [ho,if_pos rfl]
   refine e8 [] fun τ' r ⟨ev,hit⟩ hr=> ?_
   subst hr
   simp only [Ty.cs] at*
   generalize ls.map Lab.d=lsd at*
   generalize aT l=ld at*
   by_cases hz:fG p params l=0
   ·rw [if_pos hz,List.append_nil] at hit
    rw [hz]
    simp [ah,gC,az,hk1',hk5',hk6',hlen,hit,gh]
   ·rw [if_neg hz,List.append_nil] at hit
    rw [cG hz]
    simp [ah,gC,az,hk1',hk5',hk6',hlen,hit]
  exact yj Mz hτ
termination_by t=>SizeOf.sizeOf t
decreasing_by
 have:=List.sizeOf_lt_of_mem (List.getElem_mem hi)
 simp only [Ty.mk.sizeOf_spec]
 omega
theorem lV (s:Bs): ∀ (m:b9),eZ 2 (.str s) (kvs m)=some ((m.find? (fun x=>x.1==s)).map fun x=>plD x.2)
 | []=>rfl
 |x::r=>by
  have:kvs (x::r)=(.str x.1,plD x.2)::kvs r:=rfl
  rw [this]
  simp only [eZ,D.cX,List.find?_cons]
  have hc: (s==x.1)=(x.1==s):=BEq.comm
  rw [hc]
  cases h:x.1==s
  ·exact lV s r
  ·rfl
theorem vY (s:Bs) (v:Nat × Nat): ∀ (m:b9),m.find? (fun x=>x.1==s)=none->gD 2 (.str s) (plD v) (kvs m)=some (kvs (m++[(s,v)]))
 | [],_=>rfl
 |x::r,h=>by
  have:kvs (x::r)=(.str x.1,plD x.2)::kvs r:=rfl
  rw [this]
  rw [List.find?_cons] at h
  simp only [gD,D.cX]
  have hc: (s==x.1)=(x.1==s):=BEq.comm
  rw [hc]
  cases hx:x.1==s
  ·rw [hx] at h
   simp only
   rw [vY s v r h]
   rfl
  ·rw [hx] at h;cases h
def yP (i k:Nat) (c:Con) (m:b9):b9:=match m.find? (fun x=>x.1==c.name) with|some _=>m|none=>m++[(c.name,i,k)]
def kU (i:Nat):List Con->Nat->b9->b9
 | [],_,m=>m
 |c::r,k,m=>kU i r (k+1) (yP i k c m)
def sw:List Dat->Nat->b9->b9
 | [],_,m=>m
 |d::r,i,m=>sw r (i+1) (kU i d.cons 0 m)
def Prg.cm (p:Prg):b9:=sw p.data 0 []
set_option maxHeartbeats 2000000 in
theorem b55 (pc:List D) (hpl:pc.length=10) (tb j:Nat) (m:b9) (σ:St) (htb:σ[tb]? =some (.box (pc++[.map j]))) (hj:σ[j]? =some (.map (kvs m))) (i k:Nat) (cons:List Con) (hk:k<cons.length) (hcl:cons.length<=aQ) (d15:D) (d16:Int):
 ∃τ,aD CI XB GI 54 false oI [(3, .ptr tb 0),(4, .int .i64 i),(15,d15),(16, .int .i64 d16),(17, .int .i64 i),(23, .slice (cons.map Con.d)),(24, .int .i64 cons.length),(25, .int .i64 k)] σ=
  some (.normal,[(3, .ptr tb 0),(4, .int .i64 i),(15,d15),(16, .int .i64 d16),(17, .int .i64 i),(23, .slice (cons.map Con.d)),(24, .int .i64 cons.length),(25, .int .i64 ((k+1:Nat):Int))],σ.set j (.map (kvs (yP i k cons[k] m)))++τ):=by
 have hw:=aI (n:=k) (by unfold aQ at hcl;omega)
 have bq: (cons.map Con.d)[k]? =some (Con.d cons[k]):=by simp [hk]
 have hlen: (cons.map Con.d).length=cons.length:=by simp
 generalize cons.map Con.d=ld at*
 have h2:k<ld.length:=by omega
 have h3:ld[k]=Con.d cons[k]:=by rw [List.getElem?_eq_getElem h2] at bq;exact Option.some.inj bq
 generalize cons[k]=c at*
 rcases c with ⟨cn,args⟩
 simp only [Con.d,Con.cs] at*
 generalize aT args=ad at*
 have hpd:pc.drop 10=[]:=List.drop_eq_nil_of_le (by omega)
 have hmf:=lV cn m
 have hms:=vY cn (i,k) m
 have hjl:=b8 hj
 unfold yP
 cases hf:m.find? (fun x=>x.1==cn) with
 |some v=>
  rw [hf] at hmf
  have hs:σ.set j (.map (kvs m))=σ:=by
   rw [<-(List.getElem?_eq_some_iff.1 hj).2];exact List.set_getElem_self _
  simp only [hs]
  refine ⟨[.box [.str cn, .slice ad], .box [.int .i64 v.2.1, .int .i64 v.2.2]], ?_⟩
  generalize kvs m=km at*
  simp [oI,hk,hw,h2,h3,az,aS,aN,bP,bD htb,bD hj,hpl,hpd,hmf,plD,D.cX,Nat.testBit_eq_decide_div_mod_eq]
 |none=>
  rw [hf] at hmf
  have hms:=hms hf
  refine ⟨[.box [.str cn, .slice ad], .box [.int .i64 0, .int .i64 0]], ?_⟩
  generalize kvs m=km at*
  generalize kvs (m++[(cn,i,k)])=km' at*
  simp only [plD] at hms
  simp [oI,hk,hw,h2,h3,az,aS,aN,bP,jb hjl,bD htb,bD hj,hpl,hpd,hmf,hms,plD,bQ,aE,D.cX,Nat.testBit_eq_decide_div_mod_eq]
theorem vZ (i:Nat): ∀ (l:List Con) (k:Nat) (m:b9),bf (γ:=Unit) (fun k c m=> .inl (yP i k c m)) l k m= .inl (kU i l k m)
 | [],k,m=>rfl
 |c::r,k,m=>by simp only [bf,kU,vZ i r]
theorem v7: ∀ (l:List Dat) (i:Nat) (m:b9),bf (γ:=Unit) (fun i (d:Dat) m=> .inl (kU i d.cons 0 m)) l i m= .inl (sw l i m)
 | [],k,m=>rfl
 |c::r,k,m=>by simp only [bf,sw,v7 r]
def c6 (p:Prg) (σ:St) (m:b9):St:=σ++[.box p.cs, .map (kvs m), .box (p.cs++[.map (σ.length+1)])]
theorem Et (p:Prg) (σ τ:St) (m m':b9): (c6 p σ m++τ).set (σ.length+1) (.map (kvs m'))=c6 p σ m'++τ:=by
 unfold c6
 rw [List.append_assoc,bP];simp
theorem DC (p:Prg) (σ τ:St) (m:b9): (c6 p σ m++τ)[σ.length+1]? =some (.map (kvs m)):=by
 unfold c6;rw [List.append_assoc];exact aS
theorem DD (p:Prg) (σ τ:St) (m:b9): (c6 p σ m++τ)[σ.length+2]? =some (.box (p.cs++[.map (σ.length+1)])):=by
 unfold c6;rw [List.append_assoc];exact aS
theorem Oz (p:Prg) (σ:St) (i:Nat) (cons:List Con) (hcl:cons.length<=aQ) (d15:D) (d16:Int) (m:b9) (τ:St):
 ∃τ',aU (aD CI XB GI 54 false oI) [(3, .ptr (σ.length+2) 0),(4, .int .i64 i),(15,d15),(16, .int .i64 d16),(17, .int .i64 i),(23, .slice (cons.map Con.d)),(24, .int .i64 cons.length),(25, .int .i64 0)] (c6 p σ m++τ)=
  some (.exit 2,[(3, .ptr (σ.length+2) 0),(4, .int .i64 i),(15,d15),(16, .int .i64 d16),(17, .int .i64 i),(23, .slice (cons.map Con.d)),(24, .int .i64 cons.length),(25, .int .i64 cons.length),(26, .bool false)],c6 p σ (kU i cons 0 m)++τ'):=by
 obtain ⟨τ',h⟩:=cA (γ:=Unit) (f:=aD CI XB GI 54 false oI) cons (fun k _=>[(3, .ptr (σ.length+2) 0),(4, .int .i64 i),(15,d15),(16, .int .i64 d16),(17, .int .i64 i),(23, .slice (cons.map Con.d)),(24, .int .i64 cons.length),(25, .int .i64 (k:Nat))])
  (fun m=>c6 p σ m) (fun _ _=>True) (fun k c m=> .inl (yP i k c m)) (fun _=>(.ret,[])) (fun _=>[]) (fun _=>(.exit 2,[(3, .ptr (σ.length+2) 0),(4, .int .i64 i),(15,d15),(16, .int .i64 d16),(17, .int .i64 i),(23, .slice (cons.map Con.d)),(24, .int .i64 cons.length),(25, .int .i64 cons.length),(26, .bool false)]))
  (by simp) (by simp) (fun _ _ _ _ _ _=>trivial)
  (fun k hk m τ _=>by
    obtain ⟨τ1,h1⟩:=b55 p.cs p.aL (σ.length+2) (σ.length+1) m (c6 p σ m++τ) (DD ..) (DC ..) i k cons hk hcl d15 d16
    refine ⟨τ++τ1, ?_⟩
    rw [h1,Et,List.append_assoc])
  (fun m τ _=>⟨τ,by
    generalize cons.map Con.d=ld
    simp [oI]⟩) m τ trivial
 rw [vZ] at h
 exact ⟨τ',h⟩
theorem OA (p:Prg) (hdl:p.data.length<=aQ) (hd: ∀d ∈ p.data,d.ok) (σ:St):
 ∃τ',aU (aD CI XB GI 54 false vI) [(3, .ptr (σ.length+2) 0),(15, .slice (p.data.map Dat.d)),(16, .int .i64 p.data.length),(17, .int .i64 0)] (c6 p σ [])=
  some (.exit 0,[(3, .ptr (σ.length+2) 0),(15, .slice (p.data.map Dat.d)),(16, .int .i64 p.data.length),(17, .int .i64 p.data.length),(18, .bool false)],c6 p σ p.cm++τ'):=by
 obtain ⟨τ',h⟩:=cA (γ:=Unit) (f:=aD CI XB GI 54 false vI) p.data (fun i _=>[(3, .ptr (σ.length+2) 0),(15, .slice (p.data.map Dat.d)),(16, .int .i64 p.data.length),(17, .int .i64 (i:Nat))])
  (fun m=>c6 p σ m) (fun _ _=>True) (fun i d m=> .inl (kU i d.cons 0 m)) (fun _=>(.ret,[])) (fun _=>[]) (fun _=>(.exit 0,[(3, .ptr (σ.length+2) 0),(15, .slice (p.data.map Dat.d)),(16, .int .i64 p.data.length),(17, .int .i64 p.data.length),(18, .bool false)]))
  (by simp) (by simp) (fun _ _ _ _ _ _=>trivial)
  (fun i hi m τ _=>by
    have hw:=aI (n:=i) (by unfold aQ at hdl;omega)
    have hx:=hd _ (List.getElem_mem hi)
    have bq: (p.data.map Dat.d)[i]? =some (Dat.d p.data[i]):=by simp [hi]
    have hlen: (p.data.map Dat.d).length=p.data.length:=by simp
    obtain ⟨τ1,hit⟩:=Oz p σ i p.data[i].cons hx.2.1 (.slice (p.data.map Dat.d)) p.data.length m (τ++[.box p.data[i].cs])
    refine ⟨τ1, ?_⟩
    generalize p.data.map Dat.d=ld at*
    have h2:i<ld.length:=by omega
    have h3:ld[i]=Dat.d p.data[i]:=by rw [List.getElem?_eq_getElem h2] at bq;exact Option.some.inj bq
    generalize p.data[i]=d at*
    rcases d with ⟨dn,dp,dc⟩
    have hcl: (dc.map Con.d).length=dc.length:=by simp
    simp only [Dat.d,Dat.cs,slD] at*
    generalize dc.map Con.d=cd at*
    generalize dp.map D.str=pd at*
    rw [<-List.append_assoc] at hit
    generalize c6 p σ (kU i dc 0 m)++τ1=σ2 at*
    generalize c6 p σ m++τ=σ1 at*
    simp [vI,hi,hw,h2,h3,hcl,az,aN,hit])
  (fun m τ _=>⟨τ,by
    generalize p.data.map Dat.d=ld
    simp [vI]⟩) [] [] trivial
 rw [v7,List.append_nil] at h
 exact ⟨τ',h⟩
theorem EK {f:FuncId} {af:aF} (hT:aW f=some af) {args:List D} {σ τ:St} {i:Nat} (h:ah CI XB GI af args σ=some (.ret (.ptr (σ.length+i) 0),σ++τ)) (hq:qI f=false)
 (hx:okF f:=by exact ⟨⟨rfl,rfl⟩,rfl⟩):CI (.fn f) args σ=some (.ret (.ptr (σ.length+i) 0),σ++τ):=by
 refine dj hT h ?_ hx
 have ht:trim σ (some (.ret (.ptr (σ.length+i) 0),σ++τ))=some (.ret (.ptr (σ.length+i) 0),σ++τ):=by
  unfold trim
  have:fK σ.length (σ++τ) (.ret (.ptr (σ.length+i) 0))=none:=by simp [fK,strip,D.tree,D.under]
  simp only [this,if_pos fX]
 unfold eA
 rw [ht]
 simp [hq]
theorem c55 (p:Prg) (hdl:p.data.length<=aQ) (hd: ∀d ∈ p.data,d.ok) (σ:St): ∃τ,CI (.fn 55) [.agg p.cs] σ=some (.ret (.ptr (σ.length+2) 0),c6 p σ p.cm++τ):=by
 obtain ⟨τ,hit⟩:=OA p hdl hd σ
 refine ⟨τ, ?_⟩
 have hτ:ah CI XB GI FD [.agg p.cs] σ=some (.ret (.ptr (σ.length+2) 0),c6 p σ p.cm++τ):=by
  have hall:=p.bJ
  have hpl:=p.aL
  have hpt:=p.aM
  have hlen: (p.data.map Dat.d).length=p.data.length:=by simp
  generalize c6 p σ p.cm++τ=σ2 at*
  unfold c6 at hit
  have hpd:p.cs.drop 10=[]:=List.drop_eq_nil_of_le (by omega)
  have hg: ∀τ,(σ++ .box p.cs::τ)[σ.length]? =some (.box (.slice (p.data.map Dat.d):: .slice (p.aA.map Eff.d):: .slice (p.defs.map Dfn.d)::p.main.cs)):=fun τ=>by rw [<-p.dw];exact az
  simp only [kvs,List.map_nil] at hit
  have hd11: (p.cs++[D.cH]).drop 11=[]:=List.drop_eq_nil_of_le (by simp [hpl])
  have hh:p.cs.head?=some (.slice (p.data.map Dat.d)):=by rw [p.dw];rfl
  clear hg
  generalize p.data.map Dat.d=dd at*
  generalize p.cs=pc at*
  simp [ah,FD,hall,hpl,hpt,hpd,az,bQ,aE,hh,hlen,hit,hd11]
 have e:c6 p σ p.cm++τ=σ++([.box p.cs, .map (kvs p.cm), .box (p.cs++[.map (σ.length+1)])]++τ):=by unfold c6;rw [List.append_assoc]
 rw [e] at hτ ⊢
 exact EK QJ hτ rfl
theorem Ge (p:Prg) (σ τ:St):IsT (c6 p σ p.cm++τ) (σ.length+2) p p.cm:=⟨_,DD ..,DC ..⟩
def aJ (l:List Bs):Obj:= .row 1 (l.map .str) 0
def dS (r:Nat) (l:List Bs):Obj:= .box [.arr r l.length 0 l.length]
theorem SG (l:List Bs) (s:Bs) (r:Nat) (σ:St) (hr:σ[r]? =some (aJ l)) (hl:l.length<=aQ):CI (.fn 89) [.arr r l.length 0 l.length, .str s] σ=some (.ret (.int .i64 (cT l s)),σ):=by
 unfold aQ at hl
 unfold aJ at hr
 refine br FG (d:= .int .i64 (cT l s)) ?_ rfl rfl
 have hit:=cK (f:=aD CI XB GI 19 false kI) (σ:=σ) l (fun i=>[(0, .arr r l.length 0 l.length),(1, .str s),(7, .int .i64 l.length),(8, .int .i64 (i:Nat))]) (· ==s) (fun i=>(.ret,[(4, .int .i64 (i:Nat))],σ)) (.exit 0,[(0, .arr r l.length 0 l.length),(1, .str s),(7, .int .i64 l.length),(8, .int .i64 l.length),(9, .bool false)],σ) (by simp) (by simp)
  (fun i hi=>by
    have hw:=aI (n:=i) (by omega)
    have hc: (s==l[i])=(l[i] ==s):=BEq.comm
    cases hb:l[i] ==s<;>simp [kI,hi,hw,hb,hc,hr]) (by
    simp [kI])
 rw [Int.natCast_zero] at hit
 unfold cT
 cases hf:l.findIdx? (· ==s)<;>(rw [hf] at hit;simp [ah,Eb,hit])
theorem Rg (l:List Bs) (s:Bs) (r:Nat) (σ:St) (hr:σ[r]? =some (aJ l)) (hl:l.length<=aQ):CI (.fn 111) [.arr r l.length 0 l.length, .str s] σ=some (.ret (.bool (cV l s)),σ):=by
 refine br Ci (d:= .bool (cV l s)) ?_ rfl rfl
 unfold cV
 rw [<-jI]
 simp [ah,xO,SG l s r σ hr hl]
theorem I7 (l:List Bs) (s:Bs) (b r:Nat) (σ:St) (hb:σ[b]? =some (dS r l)) (hr:σ[r]? =some (aJ l)) (hne:b≠r) (hl:l.length<=1000000):
 CI (.fn 110) [.ptr b 0, .str s] σ=some (if cV l s then (.panic (fH 5),σ) else (.ret (.tuple []),(σ.set r (aJ (l++[s]))).set b (dS r (l++[s])))):=by
 have mw:=Rg l s r σ hr (by unfold aQ;omega)
 have hbl:=b8 hb
 have hrl:=b8 hr
 cases hh:cV l s
 ·rw [hh] at mw
  have hτ:ah CI XB GI vL [.ptr b 0, .str s] σ=some (.ret (.tuple []),(σ.set r (aJ (l++[s]))).set b (dS r (l++[s]))):=by
   unfold dS aJ at*
   have hb2: (σ.set r (.row 1 (l.map .str++[.str s]) 0))[b]? =some (.box [.arr r l.length 0 l.length]):=by rw [List.getElem?_set_ne hne.symm];exact hb
   have hlen: (l.map D.str).length=l.length:=by simp
   have hba: ((l.length:Nat) +1) *16<=140737488355328:=by omega
   simp [ah,vL,hb,hr,hb2,mw,rowOf,bw,hba,List.map_append]
  exact dj FH hτ (mX (by simp) rfl rfl rfl)
 ·rw [hh] at mw
  have hτ:ah CI XB GI vL [.ptr b 0, .str s] σ=some (.panic (fH 5),σ++[]):=by
   unfold dS aJ at*
   simp [ah,vL,hb,mw,c58]
  exact iP FH hτ rfl
def bh (σ:St) (a b:List Bs):St:=σ++[aJ a,aJ b,dS σ.length a,dS (σ.length+1) b]
theorem DE (σ τ:St) (a b:List Bs): (bh σ a b++τ)[σ.length]? =some (aJ a):=by unfold bh;rw [List.append_assoc];exact az
theorem BA (σ τ:St) (a b:List Bs): (bh σ a b++τ)[σ.length+1]? =some (aJ b):=by unfold bh;rw [List.append_assoc];exact aS
theorem DF (σ τ:St) (a b:List Bs): (bh σ a b++τ)[σ.length+2]? =some (dS σ.length a):=by unfold bh;rw [List.append_assoc];exact aS
theorem BB (σ τ:St) (a b:List Bs): (bh σ a b++τ)[σ.length+3]? =some (dS (σ.length+1) b):=by unfold bh;rw [List.append_assoc];exact aS
theorem xS (σ τ:St) (a b a':List Bs): ((bh σ a b++τ).set σ.length (aJ a')).set (σ.length+2) (dS σ.length a')=bh σ a' b++τ:=by
 unfold bh;rw [List.append_assoc,aN,bP];simp
theorem v8 (σ τ:St) (a b b':List Bs): ((bh σ a b++τ).set (σ.length+1) (aJ b')).set (σ.length+3) (dS (σ.length+1) b')=bh σ a b'++τ:=by
 unfold bh;rw [List.append_assoc,bP,bP];simp
theorem xT (σ τ:St) (a b:List Bs):bh σ a b++τ=σ++([aJ a,aJ b,dS σ.length a,dS (σ.length+1) b]++τ):=by unfold bh;rw [List.append_assoc]
theorem OB (p:Prg) (m:b9) (hdl:p.data.length<=aQ) (hel:p.aA.length<=aQ) (params:List Bs) (hpar:params.length<=aQ) (dn:Bs) (dc:D) (q tb:Nat) (σ σ1:St) (hT:IsT σ1 tb p m) (hq:σ1[q]? =some (.box [.str dn,slD params,dc]))
 (args:List Ty) (hal:args.length<=aQ) (hok:kQ args) (d37 d38 d39 d48 d49 d50:D):
 ∃τ' ev,aU (aD CI XB GI 110 false rL) [(0, .ptr tb 0),(2, .ptr (σ.length+2) 0),(3, .ptr (σ.length+3) 0),(4, .func 110 [] []),(6, .ptr q 0),(37,d37),(38,d38),(39,d39),(48,d48),(49,d49),(50,d50),(59, .slice (aT args)),(60, .int .i64 args.length),(61, .int .i64 0)] σ1=
  some (if bn (args.map fun t=>t.ord p params)=0 then (.exit 4,[(0, .ptr tb 0),(2, .ptr (σ.length+2) 0),(3, .ptr (σ.length+3) 0),(4, .func 110 [] []),(6, .ptr q 0),(37,d37),(38,d38),(39,d39),(48,d48),(49,d49),(50,d50),(59, .slice (aT args)),(60, .int .i64 args.length),(61, .int .i64 args.length),(62, .bool false)],σ1++τ') else (.panic (fH (bn (args.map fun t=>t.ord p params))),ev,σ1++τ')):=by
 have hlen:=cN args
 have:=oO (f:=aD CI XB GI 110 false rL) (σ:=σ1) args (fun i=>[(0, .ptr tb 0),(2, .ptr (σ.length+2) 0),(3, .ptr (σ.length+3) 0),(4, .func 110 [] []),(6, .ptr q 0),(37,d37),(38,d38),(39,d39),(48,d48),(49,d49),(50,d50),(59, .slice (aT args)),(60, .int .i64 args.length),(61, .int .i64 (i:Nat))]) (fun t=>t.ord p params) (fun e=> .panic (fH e))
  (.exit 4,[(0, .ptr tb 0),(2, .ptr (σ.length+2) 0),(3, .ptr (σ.length+3) 0),(4, .func 110 [] []),(6, .ptr q 0),(37,d37),(38,d38),(39,d39),(48,d48),(49,d49),(50,d50),(59, .slice (aT args)),(60, .int .i64 args.length),(61, .int .i64 args.length),(62, .bool false)]) (by simp) (by simp)
  (fun i hi τ=>by
    have hw:=aI (n:=i) (by unfold aQ at hal;omega)
    have hc:=ED p m hdl hel params hpar (slD params) (.inl rfl) tb args[i] (dX hok (List.getElem_mem hi)) (σ1++τ++[Obj.box args[i].cs]) hT.app.app
    have bq: (aT args)[i]? =some (.agg args[i].cs):=by rw [bS];simp [Ty.d,hi]
    have hq':=bD (τ:=τ) hq
    refine ⟨τ++[.box args[i].cs],[(0, .ptr tb 0),(2, .ptr (σ.length+2) 0),(3, .ptr (σ.length+3) 0),(4, .func 110 [] []),(6, .ptr q 0),(10, .ptr (σ1++τ).length 0),(37,d37),(38,d38),(39,d39),(48,d48),(49,d49),(50,d50),(59, .slice (aT args)),(60, .int .i64 args.length),(61, .int .i64 (i:Nat)),(66, .agg args[i].cs),(67, .ptr q 1),(68,slD params)], ?_⟩
    rw [<-List.append_assoc]
    generalize σ1++τ=σ2 at*
    generalize aT args=ld at*
    have h2:i<ld.length:=by omega
    have h3:ld[i]= .agg args[i].cs:=by rw [List.getElem?_eq_getElem h2] at bq;exact Option.some.inj bq
    generalize args[i]=x at*
    have hx1:=x.aL
    have hx2:=x.aM
    have hx3:x.cs.all D.one=true:=by cases x;rfl
    have hx4:x.cs.drop 6=[]:=List.drop_eq_nil_of_le (by simp)
    generalize x.cs=xc at*
    unfold slD at*
    generalize params.map D.str=pd at*
    by_cases he:x.ord p params=0
    ·rw [if_pos he]
     rw [he,cr] at hc
     simp [rL,hi,hw,h2,h3,az,aN,bD hq',hx1,hx2,hx3,hx4,aE,hc]
    ·rw [if_neg he]
     rw [cG he] at hc
     simp [rL,hi,hw,h2,h3,az,aN,bD hq',hx1,hx2,hx3,hx4,aE,hc]) (fun τ=>⟨τ,by generalize aT args=ld at*;simp [rL]⟩) []
 simpa using this
theorem m6 (σ:St) (a b:List Bs): (bh σ a b).length=σ.length+4:=by simp [bh]
def cx (p:Prg) (params:List Bs) (_:Nat) (c:Con) (b:List Bs):List Bs ⊕ Int:=
 if cV b c.name then .inr 5 else if bn (c.args.map fun t=>t.ord p params)=0 then .inl (b++[c.name]) else .inr (bn (c.args.map fun t=>t.ord p params))
theorem kg {p:Prg} {params:List Bs} {i:Nat} {c:Con} {b b':List Bs} (h:cx p params i c b= .inl b'):b'=b++[c.name]:=by
 unfold cx at h
 split at h
 ·cases h
 ·split at h
  ·cases h;rfl
  ·cases h
theorem iN {p:Prg} {params:List Bs} : ∀ {l:List Con} {i:Nat} {b b':List Bs},bf (cx p params) l i b= .inl b'->b'.length=b.length+l.length
 | [],i,b,b',h=>by cases h;rfl
 |c::r,i,b,b',h=>by
  simp only [bf] at h
  cases hs:cx p params i c b with
  |inl b1=>
   rw [hs] at h
   have h1:=kg hs
   have h2:=iN h
   rw [h2,h1]
   simp only [List.length_append,List.length_cons,List.length_nil]
   omega
  |inr e=>rw [hs] at h;cases h
set_option maxHeartbeats 1000000 in
theorem OC (p:Prg) (m:b9) (hdl:p.data.length<=aQ) (hel:p.aA.length<=aQ) (params:List Bs) (hpar:params.length<=aQ) (dn:Bs) (cons:List Con) (q tb:Nat) (σ τ0:St) (a:List Bs) (hT:IsT σ tb p m)
 (hq: ∀b,(bh σ a b++τ0)[q]? =some (.box [.str dn,slD params, .slice (cons.map Con.d)])) (hcl:cons.length<=aQ) (hok: ∀c ∈ cons,c.ok) (b0:List Bs) (hb0:b0.length+cons.length<=1000000) (d37 d38 d39:D):
 ∃τ' ev,aU (aD CI XB GI 110 false oJ) [(0, .ptr tb 0),(2, .ptr (σ.length+2) 0),(3, .ptr (σ.length+3) 0),(4, .func 110 [] []),(6, .ptr q 0),(37,d37),(38,d38),(39,d39),(48, .slice (cons.map Con.d)),(49, .int .i64 cons.length),(50, .int .i64 0)] (bh σ a b0++τ0)=
  some (match bf (cx p params) cons 0 b0 with| .inl b'=>(.exit 2,[(0, .ptr tb 0),(2, .ptr (σ.length+2) 0),(3, .ptr (σ.length+3) 0),(4, .func 110 [] []),(6, .ptr q 0),(37,d37),(38,d38),(39,d39),(48, .slice (cons.map Con.d)),(49, .int .i64 cons.length),(50, .int .i64 cons.length),(51, .bool false)],bh σ a b'++τ0++τ') | .inr e=>(.panic (fH e),ev,σ++τ')):=by
 have:=gM (f:=aD CI XB GI 110 false oJ) cons (fun k _=>[(0, .ptr tb 0),(2, .ptr (σ.length+2) 0),(3, .ptr (σ.length+3) 0),(4, .func 110 [] []),(6, .ptr q 0),(37,d37),(38,d38),(39,d39),(48, .slice (cons.map Con.d)),(49, .int .i64 cons.length),(50, .int .i64 (k:Nat))]) (fun b=>bh σ a b++τ0) (fun k b=>b.length=b0.length+k) (cx p params) (fun e=> .panic (fH e)) σ (fun _=>(.exit 2,[(0, .ptr tb 0),(2, .ptr (σ.length+2) 0),(3, .ptr (σ.length+3) 0),(4, .func 110 [] []),(6, .ptr q 0),(37,d37),(38,d38),(39,d39),(48, .slice (cons.map Con.d)),(49, .int .i64 cons.length),(50, .int .i64 cons.length),(51, .bool false)])) (by simp) (by simp)
  (fun k hk b b' hb hs=>by rw [kg hs];simp;omega)
  (fun k hk b τ hb=>by
    have hw:=aI (n:=k) (by unfold aQ at hcl;omega)
    have hcok:=hok _ (List.getElem_mem hk)
    have bq: (cons.map Con.d)[k]? =some (Con.d cons[k]):=by simp [hk]
    have hlen: (cons.map Con.d).length=cons.length:=by simp
    have hTT: ∀b x,IsT (bh σ a b++τ0++τ++[x]) tb p m:=fun b x=>by rw [xT,List.append_assoc,List.append_assoc];exact hT.app
    have hqq: ∀b x,(bh σ a b++τ0++τ++[x])[q]? =some (.box [.str dn,slD params, .slice (cons.map Con.d)]):=fun b x=>by rw [List.append_assoc];exact bD (hq b)
    generalize cons.map Con.d=cd at*
    have h2:k<cd.length:=by omega
    have h3:cd[k]=Con.d cons[k]:=by rw [List.getElem?_eq_getElem h2] at bq;exact Option.some.inj bq
    generalize cons[k]=c at*
    rcases c with ⟨cn,args⟩
    have hal:=cN args
    simp only [Con.d,Con.cs] at*
    have h110:=I7 b cn (σ.length+3) (σ.length+1) (bh σ a b++τ0++τ++[Obj.box [.str cn, .slice (aT args)]]) (by simp only [List.append_assoc];exact BB ..) (by simp only [List.append_assoc];exact BA ..) (by omega) (by omega)
    have hset: ((bh σ a b++τ0++τ++[Obj.box [.str cn, .slice (aT args)]]).set (σ.length+1) (aJ (b++[cn]))).set (σ.length+3) (dS (σ.length+1) (b++[cn]))=bh σ a (b++[cn])++τ0++τ++[Obj.box [.str cn, .slice (aT args)]]:=by
     simp only [List.append_assoc];exact v8 ..
    rw [hset] at h110
    have hqc: ∃qc,(bh σ a b++τ0++τ).length=qc:=⟨_,rfl⟩
    obtain ⟨qc,hqc⟩:=hqc
    have hgc: (bh σ a (b++[cn])++τ0++τ++[Obj.box [.str cn, .slice (aT args)]])[qc]? =some (.box [.str cn, .slice (aT args)]):=by
     have:qc=(bh σ a (b++[cn])++τ0++τ).length:=by rw [<-hqc];simp only [List.length_append,m6]
     rw [this];exact az
    obtain ⟨τ1,ev1,hit⟩:=OB p m hdl hel params hpar dn (.slice cd) q tb σ (bh σ a (b++[cn])++τ0++τ++[Obj.box [.str cn, .slice (aT args)]]) (hTT _ _) (hqq _ _) args hcok.1 hcok.2 d37 d38 d39 (.slice cd) (.int .i64 cons.length) (.int .i64 k)
    unfold cx
    cases hh:cV b cn
    ·rw [hh] at h110
     simp only [Bool.false_eq_true,if_false] at h110 ⊢
     have e1: ∀x,bh σ a b++τ0++τ++[x]=σ++([aJ a,aJ b,dS σ.length a,dS (σ.length+1) b]++τ0++τ++[x]):=fun x=>by simp [bh]
     by_cases hz:bn (args.map fun t=>t.ord p params)=0
     ·rw [if_pos hz] at hit
      simp only [hz,if_true]
      refine ⟨τ++[Obj.box [.str cn, .slice (aT args)]]++τ1,[], ?_⟩
      simp only [<-List.append_assoc]
      generalize bh σ a (b++[cn])++τ0++τ++[Obj.box [.str cn, .slice (aT args)]]=σ3 at*
      generalize bh σ a b++τ0++τ=σ2 at*
      subst hqc
      generalize aT args=ad at*
      simp [oJ,hk,hw,h2,h3,az,aN,h110,hgc,hal,hit]
     ·rw [if_neg hz] at hit
      simp only [if_neg hz]
      refine ⟨[aJ a,aJ (b++[cn]),dS σ.length a,dS (σ.length+1) (b++[cn])]++τ0++τ++[Obj.box [.str cn, .slice (aT args)]]++τ1,ev1, ?_⟩
      have e2:σ++([aJ a,aJ (b++[cn]),dS σ.length a,dS (σ.length+1) (b++[cn])]++τ0++τ++[Obj.box [.str cn, .slice (aT args)]]++τ1)=bh σ a (b++[cn])++τ0++τ++[Obj.box [.str cn, .slice (aT args)]]++τ1:=by simp [bh]
      rw [e2]
      generalize bh σ a (b++[cn])++τ0++τ++[Obj.box [.str cn, .slice (aT args)]]=σ3 at*
      generalize bh σ a b++τ0++τ=σ2 at*
      subst hqc
      generalize aT args=ad at*
      simp [oJ,hk,hw,h2,h3,az,aN,h110,hgc,hal,hit]
    ·rw [hh] at h110
     simp only [if_true] at h110 ⊢
     refine ⟨[aJ a,aJ b,dS σ.length a,dS (σ.length+1) b]++τ0++τ++[Obj.box [.str cn, .slice (aT args)]],[(0, .ptr tb 0),(2, .ptr (σ.length+2) 0),(3, .ptr (σ.length+3) 0),(4, .func 110 [] []),(6, .ptr q 0),(8, .ptr qc 0),(37,d37),(38,d38),(39,d39),(48, .slice (cd)),(49, .int .i64 cons.length),(50, .int .i64 (k:Nat)),(55, .ptr qc 0),(56, .str cn)], ?_⟩
     have e2:σ++([aJ a,aJ b,dS σ.length a,dS (σ.length+1) b]++τ0++τ++[Obj.box [.str cn, .slice (aT args)]])=bh σ a b++τ0++τ++[Obj.box [.str cn, .slice (aT args)]]:=by simp [bh]
     rw [e2]
     clear hit hgc
     generalize bh σ a b++τ0++τ=σ2 at*
     subst hqc
     generalize aT args=ad at*
     simp [oJ,hk,hw,h2,h3,az,aN,h110])
  (fun b τ _=>⟨τ,by
    generalize cons.map Con.d=cd
    simp [oJ]⟩) b0 [] (by simp)
 simp only [List.append_nil,Int.natCast_zero] at this
 obtain ⟨τ',ev,h⟩:=this
 refine ⟨τ',ev, ?_⟩
 rw [h]
 cases bf (cx p params) cons 0 b0<;>rfl
def b7 (p:Prg) (_:Nat) (d:Dat) (x:List Bs × List Bs): (List Bs × List Bs) ⊕ Int:=
 if cV x.1 d.name then .inr 5 else match bf (cx p d.params) d.cons 0 x.2 with
  | .inl b=> .inl (x.1++[d.name],b)
  | .inr e=> .inr e
set_option maxHeartbeats 1000000 in
theorem OD (p:Prg) (m:b9) (hdl:p.data.length<=12) (hel:p.aA.length<=aQ) (hok: ∀d ∈ p.data,d.ok/\d.cons.length<=8) (tb:Nat) (σ:St) (hT:IsT σ tb p m) (a0 b0:List Bs) (ha0:a0.length<=10) (hb0:b0.length<=10):
 ∃τ' ev,aU (aD CI XB GI 110 false oK) [(0, .ptr tb 0),(2, .ptr (σ.length+2) 0),(3, .ptr (σ.length+3) 0),(4, .func 110 [] []),(37, .slice (p.data.map Dat.d)),(38, .int .i64 p.data.length),(39, .int .i64 0)] (bh σ a0 b0)=
  some (match bf (b7 p) p.data 0 (a0,b0) with| .inl x=>(.exit 0,[(0, .ptr tb 0),(2, .ptr (σ.length+2) 0),(3, .ptr (σ.length+3) 0),(4, .func 110 [] []),(37, .slice (p.data.map Dat.d)),(38, .int .i64 p.data.length),(39, .int .i64 p.data.length),(40, .bool false)],bh σ x.1 x.2++τ') | .inr e=>(.panic (fH e),ev,σ++τ')):=by
 have:=gM (f:=aD CI XB GI 110 false oK) p.data (fun i _=>[(0, .ptr tb 0),(2, .ptr (σ.length+2) 0),(3, .ptr (σ.length+3) 0),(4, .func 110 [] []),(37, .slice (p.data.map Dat.d)),(38, .int .i64 p.data.length),(39, .int .i64 (i:Nat))]) (fun x=>bh σ x.1 x.2) (fun i x=>x.1.length<=10+i/\x.2.length<=10+8*i) (b7 p) (fun e=> .panic (fH e)) σ (fun _=>(.exit 0,[(0, .ptr tb 0),(2, .ptr (σ.length+2) 0),(3, .ptr (σ.length+3) 0),(4, .func 110 [] []),(37, .slice (p.data.map Dat.d)),(38, .int .i64 p.data.length),(39, .int .i64 p.data.length),(40, .bool false)])) (by simp) (by simp)
  (fun i hi x x' hx hs=>by
    have h8:=(hok _ (List.getElem_mem hi)).2
    unfold b7 at hs
    split at hs
    ·cases hs
    ·split at hs
     ·rename_i b hb
      cases hs
      have:=iN hb
      constructor
      ·simp;omega
      ·simp only;omega
     ·cases hs)
  (fun i hi x τ hx=>by
    have hw:=aI (n:=i) (by omega)
    obtain ⟨hdok,h8⟩:=hok _ (List.getElem_mem hi)
    have bq: (p.data.map Dat.d)[i]? =some (Dat.d p.data[i]):=by simp [hi]
    have hlen: (p.data.map Dat.d).length=p.data.length:=by simp
    have hdl':p.data.length<=aQ:=by unfold aQ;omega
    generalize p.data.map Dat.d=dd at*
    have h2:i<dd.length:=by omega
    have h3:dd[i]=Dat.d p.data[i]:=by rw [List.getElem?_eq_getElem h2] at bq;exact Option.some.inj bq
    generalize p.data[i]=d at*
    rcases d with ⟨dn,params,cons⟩
    rcases x with ⟨a,b⟩
    obtain ⟨hpar,hcl,hcok⟩:=hdok
    simp only [Dat.d,Dat.cs] at*
    have hxl: (cons.map Con.d).length=cons.length:=by simp
    have h110:=I7 a dn (σ.length+2) σ.length (bh σ a b++τ++[Obj.box [.str dn,slD params, .slice (cons.map Con.d)]]) (by simp only [List.append_assoc];exact DF ..) (by simp only [List.append_assoc];exact DE ..) (by omega) (by omega)
    have hset: ((bh σ a b++τ++[Obj.box [.str dn,slD params, .slice (cons.map Con.d)]]).set σ.length (aJ (a++[dn]))).set (σ.length+2) (dS σ.length (a++[dn]))=bh σ (a++[dn]) b++τ++[Obj.box [.str dn,slD params, .slice (cons.map Con.d)]]:=by
     simp only [List.append_assoc];exact xS ..
    rw [hset] at h110
    obtain ⟨qd,hqd⟩: ∃qd,(bh σ a b++τ).length=qd:=⟨_,rfl⟩
    have hgd: ∀b,(bh σ (a++[dn]) b++(τ++[Obj.box [.str dn,slD params, .slice (cons.map Con.d)]]))[qd]? =some (.box [.str dn,slD params, .slice (cons.map Con.d)]):=fun b'=>by
     have:qd=(bh σ (a++[dn]) b'++τ).length:=by rw [<-hqd];simp only [List.length_append,m6]
     rw [this,<-List.append_assoc];exact az
    obtain ⟨τ1,ev1,hit⟩:=OC p m hdl' hel params hpar dn cons qd tb σ (τ++[Obj.box [.str dn,slD params, .slice (cons.map Con.d)]]) (a++[dn]) hT hgd hcl hcok b (by omega) (.slice dd) (.int .i64 p.data.length) (.int .i64 i)
    unfold b7
    cases hh:cV a dn
    ·rw [hh] at h110
     have hgd:=hgd b
     simp only [<-List.append_assoc] at hit hgd
     simp only [Bool.false_eq_true,if_false] at h110 ⊢
     generalize cons.map Con.d=cd at*
     unfold slD at*
     generalize params.map D.str=pd at*
     generalize hσ3:bh σ (a++[dn]) b++τ++[Obj.box [.str dn, .slice pd, .slice cd]]=σ3 at*
     cases hz:bf (cx p params) cons 0 b with
     |inl b'=>
      rw [hz] at hit
      refine ⟨τ++[Obj.box [.str dn, .slice pd, .slice cd]]++τ1,[], ?_⟩
      simp only [<-List.append_assoc] at hit ⊢
      generalize bh σ a b++τ=σ2 at*
      generalize bh σ (a++[dn]) b'++τ++[Obj.box [.str dn, .slice pd, .slice cd]]++τ1=σ4 at*
      subst hqd
      simp [oK,hi,hw,h2,h3,az,aN,h110,hgd,hxl,hit]
     |inr e=>
      rw [hz] at hit
      refine ⟨τ1,ev1, ?_⟩
      generalize bh σ a b++τ=σ2 at*
      subst hqd
      simp [oK,hi,hw,h2,h3,az,aN,h110,hgd,hxl,hit]
    ·rw [hh] at h110
     simp only [if_true] at h110 ⊢
     refine ⟨[aJ a,aJ b,dS σ.length a,dS (σ.length+1) b]++τ++[Obj.box [.str dn,slD params, .slice (cons.map Con.d)]],[(0, .ptr tb 0),(2, .ptr (σ.length+2) 0),(3, .ptr (σ.length+3) 0),(4, .func 110 [] []),(6, .ptr qd 0),(37, .slice (dd)),(38, .int .i64 p.data.length),(39, .int .i64 (i:Nat)),(44, .ptr qd 0),(45, .str dn)], ?_⟩
     have e2:σ++([aJ a,aJ b,dS σ.length a,dS (σ.length+1) b]++τ++[Obj.box [.str dn,slD params, .slice (cons.map Con.d)]])=bh σ a b++τ++[Obj.box [.str dn,slD params, .slice (cons.map Con.d)]]:=by simp [bh]
     rw [e2]
     clear hit hgd
     generalize cons.map Con.d=cd at*
     unfold slD at*
     generalize params.map D.str=pd at*
     generalize bh σ a b++τ=σ2 at*
     subst hqd
     simp [oK,hi,hw,h2,h3,az,aN,h110])
  (fun x τ _=>⟨τ,by
    generalize p.data.map Dat.d=dd
    simp [oK]⟩) (a0,b0) [] (by simp;omega)
 simp only [List.append_nil,Int.natCast_zero] at this
 obtain ⟨τ',ev,h⟩:=this
 refine ⟨τ',ev, ?_⟩
 rw [h]
 cases bf (b7 p) p.data 0 (a0,b0)<;>rfl
def uu (p:Prg) (o:Opn):Int:=if o.arg.ord p []=0 then o.res.ord p [] else o.arg.ord p []
def dy (p:Prg) (_:Nat) (o:Opn) (b:List Bs):List Bs ⊕ Int:=
 if cV b o.name then .inr 5 else if uu p o=0 then .inl (b++[o.name]) else .inr (uu p o)
theorem lM {p:Prg} {i:Nat} {c:Opn} {b b':List Bs} (h:dy p i c b= .inl b'):b'=b++[c.name]:=by
 unfold dy at h
 split at h
 ·cases h
 ·split at h
  ·cases h;rfl
  ·cases h
theorem jv {p:Prg} : ∀ {l:List Opn} {i:Nat} {b b':List Bs},bf (dy p) l i b= .inl b'->b'.length=b.length+l.length
 | [],i,b,b',h=>by cases h;rfl
 |c::r,i,b,b',h=>by
  simp only [bf] at h
  cases hs:dy p i c b with
  |inl b1=>
   rw [hs] at h
   have h1:=lM hs
   have h2:=jv h
   rw [h2,h1]
   simp only [List.length_append,List.length_cons,List.length_nil]
   omega
  |inr e=>rw [hs] at h;cases h
set_option maxHeartbeats 1000000 in
theorem OE (p:Prg) (m:b9) (hdl:p.data.length<=aQ) (hel:p.aA.length<=aQ) (ops:List Opn) (tb:Nat) (σ τ0:St) (a:List Bs) (hT:IsT σ tb p m)
 (hcl:ops.length<=aQ) (hok: ∀o ∈ ops,o.ok) (b0:List Bs) (hb0:b0.length+ops.length<=1000000) (d79 d80 d81:D):
 ∃τ' ev,aU (aD CI XB GI 110 false mo) [(0, .ptr tb 0),(4, .func 110 [] []),(11, .ptr (σ.length+2) 0),(12, .ptr (σ.length+3) 0),(79,d79),(80,d80),(81,d81),(90, .slice (ops.map Opn.d)),(91, .int .i64 ops.length),(92, .int .i64 0)] (bh σ a b0++τ0)=
  some (match bf (dy p) ops 0 b0 with| .inl b'=>(.exit 8,[(0, .ptr tb 0),(4, .func 110 [] []),(11, .ptr (σ.length+2) 0),(12, .ptr (σ.length+3) 0),(79,d79),(80,d80),(81,d81),(90, .slice (ops.map Opn.d)),(91, .int .i64 ops.length),(92, .int .i64 ops.length),(93, .bool false)],bh σ a b'++τ0++τ') | .inr e=>(.panic (fH e),ev,σ++τ')):=by
 have:=gM (f:=aD CI XB GI 110 false mo) ops (fun k _=>[(0, .ptr tb 0),(4, .func 110 [] []),(11, .ptr (σ.length+2) 0),(12, .ptr (σ.length+3) 0),(79,d79),(80,d80),(81,d81),(90, .slice (ops.map Opn.d)),(91, .int .i64 ops.length),(92, .int .i64 (k:Nat))]) (fun b=>bh σ a b++τ0) (fun k b=>b.length=b0.length+k) (dy p) (fun e=> .panic (fH e)) σ (fun _=>(.exit 8,[(0, .ptr tb 0),(4, .func 110 [] []),(11, .ptr (σ.length+2) 0),(12, .ptr (σ.length+3) 0),(79,d79),(80,d80),(81,d81),(90, .slice (ops.map Opn.d)),(91, .int .i64 ops.length),(92, .int .i64 ops.length),(93, .bool false)])) (by simp) (by simp)
  (fun k hk b b' hb hs=>by rw [lM hs];simp;omega)
  (fun k hk b τ hb=>by
    have hw:=aI (n:=k) (by unfold aQ at hcl;omega)
    have hcok:=hok _ (List.getElem_mem hk)
    have bq: (ops.map Opn.d)[k]? =some (Opn.d ops[k]):=by simp [hk]
    have hlen: (ops.map Opn.d).length=ops.length:=by simp
    have hTT: ∀b x,IsT (bh σ a b++τ0++τ++[x]) tb p m:=fun b x=>by rw [xT,List.append_assoc,List.append_assoc];exact hT.app
    generalize ops.map Opn.d=od at*
    have h2:k<od.length:=by omega
    have h3:od[k]=Opn.d ops[k]:=by rw [List.getElem?_eq_getElem h2] at bq;exact Option.some.inj bq
    generalize ops[k]=o at*
    rcases o with ⟨on,arg,res,once⟩
    obtain ⟨hoa,hor⟩:=hcok
    simp only at hoa hor
    simp only [Opn.d,Opn.cs] at*
    have hca:=ED p m hdl hel [] (by unfold aQ;simp) .empty (.inr ⟨rfl,rfl⟩) tb arg hoa _ (hTT (b++[on]) (.box (.str on::(arg.cs++res.cs++[.bool once]))))
    have hcr:=ED p m hdl hel [] (by unfold aQ;simp) .empty (.inr ⟨rfl,rfl⟩) tb res hor _ (hTT (b++[on]) (.box (.str on::(arg.cs++res.cs++[.bool once]))))
    simp only [dy,uu]
    generalize arg.ord p []=ea at*
    generalize res.ord p []=er at*
    rcases arg with ⟨k1,n1,s1,l1,ls1,t1⟩
    rcases res with ⟨k2,n2,s2,l2,ls2,t2⟩
    simp only [Ty.cs,List.cons_append,List.nil_append] at*
    generalize aT l1=ld1 at*
    generalize aT l2=ld2 at*
    generalize ls1.map Lab.d=lsd1 at*
    generalize ls2.map Lab.d=lsd2 at*
    generalize hoc: [D.str on,D.int .i64 k1,D.int .i64 n1,D.str s1,D.slice ld1,D.slice lsd1,D.int .i64 t1,D.int .i64 k2,D.int .i64 n2,D.str s2,D.slice ld2,D.slice lsd2,D.int .i64 t2,D.bool once]=oc at*
    have h110:=I7 b on (σ.length+3) (σ.length+1) (bh σ a b++τ0++τ++[Obj.box oc]) (by simp only [List.append_assoc];exact BB ..) (by simp only [List.append_assoc];exact BA ..) (by omega) (by omega)
    have hset: ((bh σ a b++τ0++τ++[Obj.box oc]).set (σ.length+1) (aJ (b++[on]))).set (σ.length+3) (dS (σ.length+1) (b++[on]))=bh σ a (b++[on])++τ0++τ++[Obj.box oc]:=by
     simp only [List.append_assoc];exact v8 ..
    rw [hset] at h110
    obtain ⟨qo,hqo⟩: ∃qo,(bh σ a b++τ0++τ).length=qo:=⟨_,rfl⟩
    have hgc: (bh σ a (b++[on])++τ0++τ++[Obj.box oc])[qo]? =some (.box oc):=by
     have:qo=(bh σ a (b++[on])++τ0++τ).length:=by rw [<-hqo];simp only [List.length_append,m6]
     rw [this];exact az
    cases hh:cV b on
    ·rw [hh] at h110
     simp only [Bool.false_eq_true,if_false] at h110 ⊢
     have e2:σ++([aJ a,aJ (b++[on]),dS σ.length a,dS (σ.length+1) (b++[on])]++τ0++τ++[Obj.box oc])=bh σ a (b++[on])++τ0++τ++[Obj.box oc]:=by simp [bh]
     by_cases hz1:ea=0
     ·subst hz1
      simp only [if_true]
      rw [cr] at hca
      by_cases hz2:er=0
      ·subst hz2
       simp only [if_true]
       rw [cr] at hcr
       refine ⟨τ++[Obj.box oc],[], ?_⟩
       simp only [<-List.append_assoc]
       generalize bh σ a (b++[on])++τ0++τ++[Obj.box oc]=σ3 at*
       generalize bh σ a b++τ0++τ=σ2 at*
       subst hqo hoc
       simp [mo,hk,hw,h2,h3,az,aN,h110,hgc,hca,hcr]
      ·simp only [if_neg hz2]
       rw [cG hz2] at hcr
       refine ⟨[aJ a,aJ (b++[on]),dS σ.length a,dS (σ.length+1) (b++[on])]++τ0++τ++[Obj.box oc],[(0, .ptr tb 0),(4, .func 110 [] []),(11, .ptr (σ.length+2) 0),(12, .ptr (σ.length+3) 0),(16, .ptr qo 0),(79,d79),(80,d80),(81,d81),(90, .slice (od)),(91, .int .i64 ops.length),(92, .int .i64 (k:Nat)),(105, .ptr qo 7),(106, .agg [.int .i64 k2, .int .i64 n2, .str s2, .slice ld2, .slice lsd2, .int .i64 t2])], ?_⟩
       rw [e2]
       generalize bh σ a (b++[on])++τ0++τ++[Obj.box oc]=σ3 at*
       generalize bh σ a b++τ0++τ=σ2 at*
       subst hqo hoc
       simp [mo,hk,hw,h2,h3,az,aN,h110,hgc,hca,hcr]
     ·simp only [if_neg hz1]
      rw [cG hz1] at hca
      refine ⟨[aJ a,aJ (b++[on]),dS σ.length a,dS (σ.length+1) (b++[on])]++τ0++τ++[Obj.box oc],[(0, .ptr tb 0),(4, .func 110 [] []),(11, .ptr (σ.length+2) 0),(12, .ptr (σ.length+3) 0),(16, .ptr qo 0),(79,d79),(80,d80),(81,d81),(90, .slice (od)),(91, .int .i64 ops.length),(92, .int .i64 (k:Nat)),(101, .ptr qo 1),(102, .agg [.int .i64 k1, .int .i64 n1, .str s1, .slice ld1, .slice lsd1, .int .i64 t1])], ?_⟩
      rw [e2]
      generalize bh σ a (b++[on])++τ0++τ++[Obj.box oc]=σ3 at*
      generalize bh σ a b++τ0++τ=σ2 at*
      subst hqo hoc
      simp [mo,hk,hw,h2,h3,az,aN,h110,hgc,hca]
    ·rw [hh] at h110
     simp only [if_true] at h110 ⊢
     refine ⟨[aJ a,aJ b,dS σ.length a,dS (σ.length+1) b]++τ0++τ++[Obj.box oc],[(0, .ptr tb 0),(4, .func 110 [] []),(11, .ptr (σ.length+2) 0),(12, .ptr (σ.length+3) 0),(16, .ptr qo 0),(79,d79),(80,d80),(81,d81),(90, .slice (od)),(91, .int .i64 ops.length),(92, .int .i64 (k:Nat)),(97, .ptr qo 0),(98, .str on)], ?_⟩
     have e2:σ++([aJ a,aJ b,dS σ.length a,dS (σ.length+1) b]++τ0++τ++[Obj.box oc])=bh σ a b++τ0++τ++[Obj.box oc]:=by simp [bh]
     rw [e2]
     clear hgc
     generalize bh σ a b++τ0++τ=σ2 at*
     subst hqo hoc
     simp [mo,hk,hw,h2,h3,az,aN,h110])
  (fun b τ _=>⟨τ,by
    generalize ops.map Opn.d=cd
    simp [mo]⟩) b0 [] (by simp)
 simp only [List.append_nil,Int.natCast_zero] at this
 obtain ⟨τ',ev,h⟩:=this
 refine ⟨τ',ev, ?_⟩
 rw [h]
 cases bf (dy p) ops 0 b0<;>rfl
def cF (p:Prg) (_:Nat) (d:Eff) (x:List Bs × List Bs): (List Bs × List Bs) ⊕ Int:=
 if cV x.1 d.name then .inr 5 else match bf (dy p) d.ops 0 x.2 with
  | .inl b=> .inl (x.1++[d.name],b)
  | .inr e=> .inr e
set_option maxHeartbeats 1000000 in
theorem OF (p:Prg) (m:b9) (hdl:p.data.length<=aQ) (hel:p.aA.length<=12) (hok: ∀d ∈ p.aA,d.ok/\d.ops.length<=8) (tb:Nat) (σ:St) (hT:IsT σ tb p m) (a0 b0:List Bs) (ha0:a0.length<=10) (hb0:b0.length<=10):
 ∃τ' ev,aU (aD CI XB GI 110 false oL) [(0, .ptr tb 0),(4, .func 110 [] []),(11, .ptr (σ.length+2) 0),(12, .ptr (σ.length+3) 0),(79, .slice (p.aA.map Eff.d)),(80, .int .i64 p.aA.length),(81, .int .i64 0)] (bh σ a0 b0)=
  some (match bf (cF p) p.aA 0 (a0,b0) with| .inl x=>(.exit 6,[(0, .ptr tb 0),(4, .func 110 [] []),(11, .ptr (σ.length+2) 0),(12, .ptr (σ.length+3) 0),(79, .slice (p.aA.map Eff.d)),(80, .int .i64 p.aA.length),(81, .int .i64 p.aA.length),(82, .bool false)],bh σ x.1 x.2++τ') | .inr e=>(.panic (fH e),ev,σ++τ')):=by
 have:=gM (f:=aD CI XB GI 110 false oL) p.aA (fun i _=>[(0, .ptr tb 0),(4, .func 110 [] []),(11, .ptr (σ.length+2) 0),(12, .ptr (σ.length+3) 0),(79, .slice (p.aA.map Eff.d)),(80, .int .i64 p.aA.length),(81, .int .i64 (i:Nat))]) (fun x=>bh σ x.1 x.2) (fun i x=>x.1.length<=10+i/\x.2.length<=10+8*i) (cF p) (fun e=> .panic (fH e)) σ (fun _=>(.exit 6,[(0, .ptr tb 0),(4, .func 110 [] []),(11, .ptr (σ.length+2) 0),(12, .ptr (σ.length+3) 0),(79, .slice (p.aA.map Eff.d)),(80, .int .i64 p.aA.length),(81, .int .i64 p.aA.length),(82, .bool false)])) (by simp) (by simp)
  (fun i hi x x' hx hs=>by
    have h8:=(hok _ (List.getElem_mem hi)).2
    unfold cF at hs
    split at hs
    ·cases hs
    ·split at hs
     ·rename_i b hb
      cases hs
      have:=jv hb
      constructor
      ·simp;omega
      ·simp only;omega
     ·cases hs)
  (fun i hi x τ hx=>by
    have hw:=aI (n:=i) (by omega)
    obtain ⟨hdok,h8⟩:=hok _ (List.getElem_mem hi)
    have bq: (p.aA.map Eff.d)[i]? =some (Eff.d p.aA[i]):=by simp [hi]
    have hlen: (p.aA.map Eff.d).length=p.aA.length:=by simp
    have hel':p.aA.length<=aQ:=by unfold aQ;omega
    generalize p.aA.map Eff.d=dd at*
    have h2:i<dd.length:=by omega
    have h3:dd[i]=Eff.d p.aA[i]:=by rw [List.getElem?_eq_getElem h2] at bq;exact Option.some.inj bq
    generalize p.aA[i]=d at*
    rcases d with ⟨en,ops⟩
    rcases x with ⟨a,b⟩
    obtain ⟨hcl,hcok⟩:=hdok
    simp only [Eff.d,Eff.cs] at*
    have hxl: (ops.map Opn.d).length=ops.length:=by simp
    have h110:=I7 a en (σ.length+2) σ.length (bh σ a b++τ++[Obj.box [.str en, .slice (ops.map Opn.d)]]) (by simp only [List.append_assoc];exact DF ..) (by simp only [List.append_assoc];exact DE ..) (by omega) (by omega)
    have hset: ((bh σ a b++τ++[Obj.box [.str en, .slice (ops.map Opn.d)]]).set σ.length (aJ (a++[en]))).set (σ.length+2) (dS σ.length (a++[en]))=bh σ (a++[en]) b++τ++[Obj.box [.str en, .slice (ops.map Opn.d)]]:=by
     simp only [List.append_assoc];exact xS ..
    rw [hset] at h110
    obtain ⟨qd,hqd⟩: ∃qd,(bh σ a b++τ).length=qd:=⟨_,rfl⟩
    have hgd: ∀b,(bh σ (a++[en]) b++(τ++[Obj.box [.str en, .slice (ops.map Opn.d)]]))[qd]? =some (.box [.str en, .slice (ops.map Opn.d)]):=fun b'=>by
     have:qd=(bh σ (a++[en]) b'++τ).length:=by rw [<-hqd];simp only [List.length_append,m6]
     rw [this,<-List.append_assoc];exact az
    obtain ⟨τ1,ev1,hit⟩:=OE p m hdl hel' ops tb σ (τ++[Obj.box [.str en, .slice (ops.map Opn.d)]]) (a++[en]) hT hcl hcok b (by omega) (.slice dd) (.int .i64 p.aA.length) (.int .i64 i)
    unfold cF
    cases hh:cV a en
    ·rw [hh] at h110
     have hgd:=hgd b
     simp only [<-List.append_assoc] at hit hgd
     simp only [Bool.false_eq_true,if_false] at h110 ⊢
     generalize ops.map Opn.d=cd at*
     generalize hσ3:bh σ (a++[en]) b++τ++[Obj.box [.str en, .slice cd]]=σ3 at*
     cases hz:bf (dy p) ops 0 b with
     |inl b'=>
      rw [hz] at hit
      refine ⟨τ++[Obj.box [.str en, .slice cd]]++τ1,[], ?_⟩
      simp only [<-List.append_assoc] at hit ⊢
      generalize bh σ a b++τ=σ2 at*
      generalize bh σ (a++[en]) b'++τ++[Obj.box [.str en, .slice cd]]++τ1=σ4 at*
      subst hqd
      simp [oL,hi,hw,h2,h3,az,aN,h110,hgd,hxl,hit]
     |inr e=>
      rw [hz] at hit
      refine ⟨τ1,ev1, ?_⟩
      generalize bh σ a b++τ=σ2 at*
      subst hqd
      simp [oL,hi,hw,h2,h3,az,aN,h110,hgd,hxl,hit]
    ·rw [hh] at h110
     simp only [if_true] at h110 ⊢
     refine ⟨[aJ a,aJ b,dS σ.length a,dS (σ.length+1) b]++τ++[Obj.box [.str en, .slice (ops.map Opn.d)]],[(0, .ptr tb 0),(4, .func 110 [] []),(11, .ptr (σ.length+2) 0),(12, .ptr (σ.length+3) 0),(14, .ptr qd 0),(79, .slice (dd)),(80, .int .i64 p.aA.length),(81, .int .i64 (i:Nat)),(86, .ptr qd 0),(87, .str en)], ?_⟩
     have e2:σ++([aJ a,aJ b,dS σ.length a,dS (σ.length+1) b]++τ++[Obj.box [.str en, .slice (ops.map Opn.d)]])=bh σ a b++τ++[Obj.box [.str en, .slice (ops.map Opn.d)]]:=by simp [bh]
     rw [e2]
     clear hit hgd
     generalize ops.map Opn.d=cd at*
     generalize bh σ a b++τ=σ2 at*
     subst hqd
     simp [oL,hi,hw,h2,h3,az,aN,h110])
  (fun x τ _=>⟨τ,by
    generalize p.aA.map Eff.d=dd
    simp [oL]⟩) (a0,b0) [] (by simp;omega)
 simp only [List.append_nil,Int.natCast_zero] at this
 obtain ⟨τ',ev,h⟩:=this
 refine ⟨τ',ev, ?_⟩
 rw [h]
 cases bf (cF p) p.aA 0 (a0,b0)<;>rfl
theorem SH (p:Prg) (hok:p.ok) (h142: ∀σ,CI (.fn 142) [.agg p.cs] σ=some (.ret (.agg (pn p.defs p.main).cs),σ)) (h131: ∀σ,CI (.fn 131) [.agg p.main.cs] σ=some (.ret (.int .i64 p.main.e),σ)) (h131d: ∀d ∈ p.defs,∀σ,CI (.fn 131) [.agg d.body.cs] σ=some (.ret (.int .i64 d.body.e),σ))
 (h130: ∀i σ,σ[i]? =some (eS 3000 0)->CI (.fn 130) [.ptr i 0, .agg (pn p.defs p.main).cs, .int .i64 1] σ=some (.ret (.bool ((pn p.defs p.main).take 1 (3000,0)).1),σ.set i (eS ((pn p.defs p.main).take 1 (3000,0)).2.1 ((pn p.defs p.main).take 1 (3000,0)).2.2))) (σ:St):CI (.fn 95) [.agg p.cs] σ=some (.ret (.int .i64 p.syn),σ):=by
 obtain ⟨hdl,hd,hel,he,hfl,hf,hm⟩:=hok
 obtain ⟨τ1,dB⟩:=eT (f:=aD CI XB GI 81 false vJ) (σ:=σ++[.box p.cs]) p.data (fun i=>[(1, .ptr σ.length 0),(30, .slice (p.data.map Dat.d)),(31, .int .i64 p.data.length),(32, .int .i64 (i:Nat))]) (fun a=>ja a != 0) (fun a=>(.ret,[(2, .int .i64 (ja a))]))
  (.exit 0,[(1, .ptr σ.length 0),(30, .slice (p.data.map Dat.d)),(31, .int .i64 p.data.length),(32, .int .i64 p.data.length),(33, .bool false)]) (by simp) (by simp)
  (fun i hi τ=>by
    have hw:=aI (n:=i) (by unfold aQ at hdl;omega)
    have cP:=fun σ=>Sz _ (hd _ (List.getElem_mem hi)) σ
    have hlen: (p.data.map Dat.d).length=p.data.length:=by simp
    have bq: (p.data.map Dat.d)[i]? =some (Dat.d p.data[i]):=by simp [hi]
    generalize p.data.map Dat.d=ld at*
    have h2:i<ld.length:=by omega
    have h3:ld[i]=Dat.d p.data[i]:=by rw [List.getElem?_eq_getElem h2] at bq;exact Option.some.inj bq
    generalize p.data[i]=x at*
    refine ⟨τ++[.box (Dat.cs x)], ?_⟩
    rw [<-List.append_assoc]
    generalize σ++[.box p.cs]++τ=σ1 at*
    have hxl:x.cs.length=3:=rfl
    have hxt:x.cs.take 3=x.cs:=rfl
    have hxd:x.cs.drop 3=[]:=rfl
    have hxa:x.cs.all D.one=true:=rfl
    simp only [Dat.d] at*
    generalize x.cs=xc at*
    cases hx:ja x != 0
    ·have h0:ja x=0:=by simpa using hx
     simp [vJ,hi,hw,h2,h3,az,aN,cP,h0,hxl,hxt,hxd,hxa,aE]
    ·have h0: ¬ja x=0:=by simpa using hx
     simp [vJ,hi,hw,h2,h3,az,aN,cP,h0,hx,hxl,hxt,hxd,hxa,aE]) (fun τ=>⟨τ,by simp [vJ]⟩) []
 rw [Int.natCast_zero,List.append_nil] at dB
 obtain ⟨τ2,hit2⟩:=eT (f:=aD CI XB GI 81 false vK) (σ:=σ++[.box p.cs]) p.aA (fun i=>[(1, .ptr σ.length 0),(43, .slice (p.aA.map Eff.d)),(44, .int .i64 p.aA.length),(45, .int .i64 (i:Nat))]) (fun a=>iZ a != 0) (fun a=>(.ret,[(2, .int .i64 (iZ a))]))
  (.exit 2,[(1, .ptr σ.length 0),(43, .slice (p.aA.map Eff.d)),(44, .int .i64 p.aA.length),(45, .int .i64 p.aA.length),(46, .bool false)]) (by simp) (by simp)
  (fun i hi τ=>by
    have hw:=aI (n:=i) (by unfold aQ at hel;omega)
    have cP:=fun σ=>SA _ (he _ (List.getElem_mem hi)) σ
    have hlen: (p.aA.map Eff.d).length=p.aA.length:=by simp
    have bq: (p.aA.map Eff.d)[i]? =some (Eff.d p.aA[i]):=by simp [hi]
    generalize p.aA.map Eff.d=ld at*
    have h2:i<ld.length:=by omega
    have h3:ld[i]=Eff.d p.aA[i]:=by rw [List.getElem?_eq_getElem h2] at bq;exact Option.some.inj bq
    generalize p.aA[i]=x at*
    refine ⟨τ++[.box (Eff.cs x)], ?_⟩
    rw [<-List.append_assoc]
    generalize σ++[.box p.cs]++τ=σ1 at*
    have hxl:x.cs.length=2:=rfl
    have hxt:x.cs.take 2=x.cs:=rfl
    have hxd:x.cs.drop 2=[]:=rfl
    have hxa:x.cs.all D.one=true:=rfl
    simp only [Eff.d] at*
    generalize x.cs=xc at*
    cases hx:iZ x != 0
    ·have h0:iZ x=0:=by simpa using hx
     simp [vK,hi,hw,h2,h3,az,aN,cP,h0,hxl,hxt,hxd,hxa,aE]
    ·have h0: ¬iZ x=0:=by simpa using hx
     simp [vK,hi,hw,h2,h3,az,aN,cP,h0,hx,hxl,hxt,hxd,hxa,aE]) (fun τ=>⟨τ,by simp [vK]⟩) τ1
 rw [Int.natCast_zero] at hit2
 have hit3:=fun τ=>eT (f:=aD CI XB GI 81 false rM) (σ:=σ++[.box p.cs]) p.defs (fun i=>[(1, .ptr σ.length 0),(61, .slice (p.defs.map Dfn.d)),(62, .int .i64 p.defs.length),(63, .int .i64 (i:Nat))]) (fun a=>zH a != 0) (fun a=>(.ret,[(2, .int .i64 (zH a))]))
  (.exit 4,[(1, .ptr σ.length 0),(61, .slice (p.defs.map Dfn.d)),(62, .int .i64 p.defs.length),(63, .int .i64 p.defs.length),(64, .bool false)]) (by simp) (by simp)
  (fun i hi τ=>by
    have hw:=aI (n:=i) (by unfold aQ at hfl;omega)
    have cP:=fun σ=>h131d _ (List.getElem_mem hi) σ
    have hlen: (p.defs.map Dfn.d).length=p.defs.length:=by simp
    have bq: (p.defs.map Dfn.d)[i]? =some (Dfn.d p.defs[i]):=by simp [hi]
    generalize p.defs.map Dfn.d=ld at*
    have h2:i<ld.length:=by omega
    have h3:ld[i]=Dfn.d p.defs[i]:=by rw [List.getElem?_eq_getElem h2] at bq;exact Option.some.inj bq
    generalize p.defs[i]=x at*
    refine ⟨τ++[.box (Dfn.cs x)], ?_⟩
    rw [<-List.append_assoc]
    generalize σ++[.box p.cs]++τ=σ1 at*
    rcases x with ⟨name,body⟩
    have hxl:=body.aL
    have hxt:=body.aM
    have hxa:=body.bJ
    have hxd:body.cs.drop 7=[]:=List.drop_eq_nil_of_le (by simp)
    simp only [Dfn.d,Dfn.cs,zH] at*
    generalize body.cs=xc at*
    cases hv:m8 name
    ·simp [rM,hi,hw,h2,h3,az,aN,fq,Eh,hv,cP,hxl,hxt,hxd,hxa,aE]
    ·cases hx:body.e != 0
     ·have h0:body.e=0:=by simpa using hx
      simp [rM,hi,hw,h2,h3,az,aN,fq,Eh,hv,cP,h0,hxl,hxt,hxd,hxa,aE]
     ·have h0: ¬body.e=0:=by simpa using hx
      simp [rM,hi,hw,h2,h3,az,aN,fq,Eh,hv,cP,h0,hx,hxl,hxt,hxd,hxa,aE]) (fun τ=>⟨τ,by simp [rM]⟩) τ
 simp only [Int.natCast_zero] at hit3
 obtain ⟨τ,hτ⟩: ∃τ,ah CI XB GI s4 [.agg p.cs] σ=some (.ret (.int .i64 p.syn),σ++τ):=by
  unfold Prg.syn
  have hg: ∀τ,(σ++[.box p.cs]++τ)[σ.length]? =some (.box p.cs):=fun τ=>by rw [List.append_assoc];exact az
  have hg1:=hg τ1
  have hg2:=hg τ2
  obtain ⟨σ1,hσ1⟩: ∃σ1,σ++[.box p.cs]++τ1=σ1:=⟨_,rfl⟩
  obtain ⟨σ2,hσ2⟩: ∃σ2,σ++[.box p.cs]++τ2=σ2:=⟨_,rfl⟩
  rw [hσ1] at hg1 dB hit2
  rw [hσ2] at hg2 hit2
  have hall:p.cs.all D.one=true:=by rcases p with ⟨_,_,_,main⟩;simp only [Prg.cs,List.all_append,main.bJ];rfl
  have hdL: (p.data.map Dat.d).length=p.data.length:=by simp
  have heL: (p.aA.map Eff.d).length=p.aA.length:=by simp
  have hfL: (p.defs.map Dfn.d).length=p.defs.length:=by simp
  have hm1:=p.main.aL
  have hm2:=p.main.aM
  have hm3:=p.main.bJ
  have hpc:p.cs= .slice (p.data.map Dat.d):: .slice (p.aA.map Eff.d):: .slice (p.defs.map Dfn.d)::p.main.cs:=by cases p;rfl
  have hpl:p.cs.length=10:=by rw [hpc];simp
  have hpt:p.cs.take 10=p.cs:=List.take_of_length_le (by omega)
  rw [cS,cS]
  by_cases hA:12<p.data.length
  ·refine ⟨[.box p.cs], ?_⟩
   have hA': (12:Int) <p.data.length:=by omega
   rw [if_pos (.inl hA)]
   rw [hpc] at hall ⊢
   generalize p.data.map Dat.d=dd at*
   generalize p.aA.map Eff.d=ed at*
   generalize p.defs.map Dfn.d=fd at*
   generalize p.main.cs=mc at*
   simp [ah,s4,az,hm3,hdL,hA,hA']
  by_cases hB:12<p.aA.length
  ·refine ⟨[.box p.cs], ?_⟩
   have hA': ¬(12:Int) <p.data.length:=by omega
   have hB': (12:Int) <p.aA.length:=by omega
   rw [if_pos (.inr (.inl hB))]
   rw [hpc] at hall ⊢
   generalize p.data.map Dat.d=dd at*
   generalize p.aA.map Eff.d=ed at*
   generalize p.defs.map Dfn.d=fd at*
   generalize p.main.cs=mc at*
   simp [ah,s4,az,hm3,hdL,heL,hA,hA',hB,hB']
  by_cases hC:60<p.defs.length
  ·refine ⟨[.box p.cs], ?_⟩
   have hA': ¬(12:Int) <p.data.length:=by omega
   have hB': ¬(12:Int) <p.aA.length:=by omega
   have hC': (60:Int) <p.defs.length:=by omega
   rw [if_pos (.inr (.inr hC))]
   rw [hpc] at hall ⊢
   generalize p.data.map Dat.d=dd at*
   generalize p.aA.map Eff.d=ed at*
   generalize p.defs.map Dfn.d=fd at*
   generalize p.main.cs=mc at*
   simp [ah,s4,az,hm3,hdL,heL,hfL,hA,hA',hB,hB',hC,hC']
  have hA': ¬(12:Int) <p.data.length:=by omega
  have hB': ¬(12:Int) <p.aA.length:=by omega
  have hC': ¬(60:Int) <p.defs.length:=by omega
  rw [if_neg (by omega)]
  cases hf1:p.data.find? (fun a=>ja a != 0) with
  |some a=>
   rw [hf1] at dB
   have h0: ¬ja a=0:=by have:=List.find?_some hf1;simpa using this
   refine ⟨[.box p.cs]++τ1, ?_⟩
   rw [<-List.append_assoc,hσ1]
   simp only [orE,if_neg h0]
   simp only [hpc] at hall dB hg1 ⊢
   generalize p.data.map Dat.d=dd at*
   generalize p.aA.map Eff.d=ed at*
   generalize p.defs.map Dfn.d=fd at*
   generalize p.main.cs=mc at*
   simp [ah,s4,az,hm3,hdL,heL,hfL,hA,hA',hB,hB',hC,hC',dB]
  |none=>
  rw [hf1] at dB
  simp only [orE,if_pos rfl]
  cases hf2:p.aA.find? (fun a=>iZ a != 0) with
  |some a=>
   rw [hf2] at hit2
   have h0: ¬iZ a=0:=by have:=List.find?_some hf2;simpa using this
   refine ⟨[.box p.cs]++τ2, ?_⟩
   rw [<-List.append_assoc,hσ2]
   simp only [if_neg h0]
   simp only [hpc] at hall dB hg1 hg2 ⊢
   generalize p.data.map Dat.d=dd at*
   generalize p.aA.map Eff.d=ed at*
   generalize p.defs.map Dfn.d=fd at*
   generalize p.main.cs=mc at*
   simp [ah,s4,az,hm3,hdL,heL,hfL,hA,hA',hB,hB',hC,hC',dB,hg1,hit2]
  |none=>
  rw [hf2] at hit2
  simp only [if_pos rfl]
  obtain ⟨q,hq⟩: ∃q,(pn p.defs p.main).take 1 (3000,0)=q:=⟨_,rfl⟩
  rw [hq]
  have h130':=h130 σ2.length (σ2++[eS 3000 0]) (by rw [az];rfl)
  rw [aN,hq] at h130'
  obtain ⟨τ3,hit3⟩:=hit3 (τ2++[eS q.2.1 q.2.2])
  rw [<-List.append_assoc,hσ2] at hit3
  have hg3:=hg τ3
  simp only [eS,List.set] at h130' hit3
  cases hq1:q.1
  ·refine ⟨[.box p.cs]++(τ2++[eS q.2.1 q.2.2]), ?_⟩
   rw [hq1] at h130'
   rw [<-List.append_assoc,<-List.append_assoc,hσ2]
   simp only [eS]
   simp only [hpc] at hall dB hg1 hg2 hpl hpt h142 ⊢
   generalize p.data.map Dat.d=dd at*
   generalize p.aA.map Eff.d=ed at*
   generalize p.defs.map Dfn.d=fd at*
   generalize p.main.cs=mc at*
   simp [ah,s4,az,hm1,hm3,hm2,hdL,heL,hfL,hA,hA',hB,hB',hC,hC',dB,hg1,hit2,hg2,aN,bD hg2,bQ,aE,h142,h130']
  ·rw [hq1] at h130'
   rw [cS]
   cases hf3:p.defs.find? (fun a=>zH a != 0) with
   |some a=>
    rw [hf3] at hit3
    have h0: ¬zH a=0:=by have:=List.find?_some hf3;simpa using this
    refine ⟨[.box p.cs]++τ3, ?_⟩
    rw [<-List.append_assoc]
    generalize hσ3:σ++[.box p.cs]++τ3=σ3 at*
    simp only [if_neg h0]
    simp only [hpc] at hall dB hg1 hg2 hg3 hpl hpt h142 ⊢
    generalize p.data.map Dat.d=dd at*
    generalize p.aA.map Eff.d=ed at*
    generalize p.defs.map Dfn.d=fd at*
    generalize p.main.cs=mc at*
    simp [ah,s4,az,hm1,hm3,hm2,hdL,heL,hfL,hA,hA',hB,hB',hC,hC',dB,hg1,hit2,hg2,aN,bD hg2,bQ,aE,h142,h130',hit3]
   |none=>
    rw [hf3] at hit3
    refine ⟨[.box p.cs]++τ3, ?_⟩
    rw [<-List.append_assoc]
    generalize hσ3:σ++[.box p.cs]++τ3=σ3 at*
    simp only [hpc] at hall dB hg1 hg2 hg3 hpl hpt h142 ⊢
    generalize p.data.map Dat.d=dd at*
    generalize p.aA.map Eff.d=ed at*
    generalize p.defs.map Dfn.d=fd at*
    generalize p.main.cs=mc at*
    simp [ah,s4,az,hm1,hm3,hm2,hdL,heL,hfL,hA,hA',hB,hB',hC,hC',dB,hg1,hit2,hg2,aN,bD hg2,bQ,aE,h142,h130',hit3,hg3,h131]
 exact aR QT hτ rfl rfl
def uE:Ex:= .mk 3 0 [] [] [] [] []
theorem nj:uE.cs=[.int .i64 3, .int .i64 0, .str [], .str [], .slice [], .slice [], .slice []]:=rfl
theorem JX (fd:D) (σ:St):CI (.fn 172) [.agg uE.cs,fd] σ=some (.ret (.bool true),σ):=by
 have h1: ∀S:St,aU (aD CI XB GI 34 false zh) [(1,fd),(2, .ptr σ.length 0),(10, .slice []),(11, .int .i64 0),(12, .int .i64 0)] S=some (.exit 0,[(1,fd),(2, .ptr σ.length 0),(10, .slice []),(11, .int .i64 0),(12, .int .i64 0),(13, .bool false)],S):=fun S=>by
  refine aH ?_ (by simp)
  simp [zh]
 have h2: ∀S:St,aU (aD CI XB GI 34 false zj) [(1,fd),(22, .slice []),(23, .int .i64 0),(24, .int .i64 0)] S=some (.exit 2,[(1,fd),(22, .slice []),(23, .int .i64 0),(24, .int .i64 0),(25, .bool false)],S):=fun S=>by
  refine aH ?_ (by simp)
  simp [zj]
 rw [nj]
 have hτ:ah CI XB GI Bj [.agg [.int .i64 3, .int .i64 0, .str [], .str [], .slice [], .slice [], .slice []],fd] σ=some (.ret (.bool true),σ++[.box [.int .i64 3, .int .i64 0, .str [], .str [], .slice [], .slice [], .slice []]]):=by
  simp [ah,Bj,az,h1,h2]
 exact aR MT hτ rfl rfl
set_option maxHeartbeats 2000000 in
theorem Rh (σ:St):CI (.fn 174) [.agg uE.cs] σ=some (.ret (.int .i64 0),σ):=by
 have h182: ∀k σ,CI (.fn 182) [.slice [], .int .i64 k] σ=some (.ret (.int .i64 0),σ):=fun k σ=>Q6 [] k σ (by simp [aQ])
 have hrow: (jA.drop 27).take 9=[.int .i64 0, .int .i64 0, .int .i64 0, .int .i64 0, .int .i64 0, .int .i64 0, .bool false, .int .i64 0, .int .i64 0]:=rfl
 have hlen:jA.length=180:=rfl
 have hg:vR 0=some jA:=rfl
 have hc:isC [] 0=true:=rfl
 have hr: ∀a b c,inR a b c=(decide (b<=a)&&decide (a<=c)):=fun _ _ _=>rfl
 have w0:IntKind.i64.wrap 0=0:=wrap_i64 (by omega) (by omega)
 have h1: ∀S:St,aU (aD CI XB GI 132 false zk) [(1, .ptr σ.length 0),(3, .ptr (σ.length+1) 0),(108, .int .i64 0),(109, .int .i64 0)] S=some (.exit 1,[(1, .ptr σ.length 0),(3, .ptr (σ.length+1) 0),(108, .int .i64 0),(109, .int .i64 0),(110, .bool false)],S):=fun S=>by
  refine aH ?_ (by simp)
  simp [zk]
 rw [nj]
 have hτ:ah CI XB GI Bk [.agg [.int .i64 3, .int .i64 0, .str [], .str [], .slice [], .slice [], .slice []]] σ=some (.ret (.int .i64 0),σ++[.box [.int .i64 3, .int .i64 0, .str [], .str [], .slice [], .slice [], .slice []], .box [.int .i64 0, .int .i64 0, .int .i64 0, .int .i64 0, .int .i64 0, .int .i64 0, .bool false, .int .i64 0, .int .i64 0]]):=by
  simp [ah,Bk,az,aS,aN,bP,mz,fq,h182,hrow,hlen,hg,hc,hr,w0,h1,bQ,aE,bound]
 exact aR MU hτ rfl rfl
theorem Ri (σ:St):CI (.fn 131) [.agg uE.cs] σ=some (.ret (.int .i64 0),σ):=by
 have h174:=fun σ=>Rh σ
 have h172:=fun fd σ=>JX fd σ
 rw [nj] at*
 have hτ:ah CI XB GI Bc [.agg [.int .i64 3, .int .i64 0, .str [], .str [], .slice [], .slice [], .slice []]] σ=some (.ret (.int .i64 0),σ++[.box [.int .i64 3, .int .i64 0, .str [], .str [], .slice [], .slice [], .slice []], .box [.int .i64 0]]):=by
  simp [ah,Bc,az,aS,aN,bP,h174,h172,bQ,aE]
 exact aR ME hτ rfl rfl
set_option maxHeartbeats 1000000 in
theorem Rj (i:Nat) (σ:St) (hσ:σ[i]? =some (eS 3000 0)):CI (.fn 130) [.ptr i 0, .agg uE.cs, .int .i64 1] σ=some (.ret (.bool true),σ.set i (eS 2999 1)):=by
 have hi:=b8 hσ
 have h172:=fun fd σ=>JX fd σ
 have w1:IntKind.i64.wrap (3000 - 1)=2999:=wrap_i64 (by omega) (by omega)
 have w2:IntKind.i64.wrap 2999=2999:=wrap_i64 (by omega) (by omega)
 rw [nj] at*
 have hτ:ah CI XB GI Bb [.ptr i 0, .agg [.int .i64 3, .int .i64 0, .str [], .str [], .slice [], .slice [], .slice []], .int .i64 1] σ=some (.ret (.bool true),σ.set i (eS 2999 1)++[.box [.ptr i 0], .box [.int .i64 3, .int .i64 0, .str [], .str [], .slice [], .slice [], .slice []], .box [.int .i64 1]]):=by
  simp [ah,Bb,Ox,Ra,eS,az,aS,bD hσ,n8,pX,nr hi,Ak hi,jb hi,w1,w2,h172]
 exact dj MD hτ (iF oM rfl rfl)
theorem Rk (data:List Dat) (aA:List Eff) (σ:St):CI (.fn 142) [.agg (Prg.mk data aA [] uE).cs] σ=some (.ret (.agg uE.cs),σ):=by
 have hcs: (Prg.mk data aA [] uE).cs=[.slice (data.map Dat.d), .slice (aA.map Eff.d), .slice [], .int .i64 3, .int .i64 0, .str [], .str [], .slice [], .slice [], .slice []]:=rfl
 have w1:IntKind.i64.wrap (0 - 1)= -1:=wrap_i64 (by omega) (by omega)
 have w2:IntKind.i64.wrap (-1)= -1:=wrap_i64 (by omega) (by omega)
 rw [hcs,nj]
 generalize data.map Dat.d=dd
 generalize aA.map Eff.d=ed
 have h1: ∀S:St,aU (aD CI XB GI 30 false zg) [(1, .ptr σ.length 0),(2, .ptr (σ.length+1) 0),(3, .ptr (σ.length+2) 0),(4, .int .i64 (-1))] S=some (.exit 0,[(1, .ptr σ.length 0),(2, .ptr (σ.length+1) 0),(3, .ptr (σ.length+2) 0),(4, .int .i64 (-1)),(13, .bool false)],S):=fun S=>by
  refine aH ?_ (by simp)
  simp [zg]
 have hτ:ah CI XB GI Be [.agg [.slice dd, .slice ed, .slice [], .int .i64 3, .int .i64 0, .str [], .str [], .slice [], .slice [], .slice []]] σ=some (.ret (.agg [.int .i64 3, .int .i64 0, .str [], .str [], .slice [], .slice [], .slice []]),σ++[.box [.slice dd, .slice ed, .slice [], .int .i64 3, .int .i64 0, .str [], .str [], .slice [], .slice [], .slice []], .box [.int .i64 3, .int .i64 0, .str [], .str [], .slice [], .slice [], .slice []], .box [.int .i64 3, .int .i64 0, .str [], .str [], .slice [], .slice [], .slice []]]):=by
  simp [ah,Be,az,aS,aN,bP,w1,w2,h1,bQ,aE]
 exact aR MJ hτ rfl rfl
theorem CL:uE.take 1 (3000,0)=(true,(2999,1)):=by
 simp [uE,Ex.take,kO,mA]
theorem O2:uE.e=0:=by decide
theorem SI (data:List Dat) (aA:List Eff) (hok: (Prg.mk data aA [] uE).ok) (σ:St):CI (.fn 95) [.agg (Prg.mk data aA [] uE).cs] σ=some (.ret (.int .i64 (Prg.mk data aA [] uE).syn),σ):=by
 refine SH _ hok (fun σ=>Rk data aA σ) (fun σ=> ?_) (fun d hd=>by cases hd) (fun i σ h=> ?_) σ
 ·show CI (.fn 131) [.agg uE.cs] σ=some (.ret (.int .i64 uE.e),σ)
  rw [O2];exact Ri σ
 ·show CI (.fn 130) [.ptr i 0, .agg uE.cs, .int .i64 1] σ=some (.ret (.bool (uE.take 1 (3000,0)).1),σ.set i (eS (uE.take 1 (3000,0)).2.1 (uE.take 1 (3000,0)).2.2))
  rw [CL];exact Rj i σ h
def JY:Ex:= .mk 3 0 [] [] [] [] []
def Prg.bare (p:Prg):Prg:=⟨p.data,p.aA,[],JY⟩
def ig:Bs:=[112,114,105,110,116]
def kR:Bs:=[114,101,97,100]
def Prg.zP (p:Prg):Int:=match bf (b7 p) p.data 0 (builtins,[]) with
 | .inr e=>e
 | .inl _=>match bf (cF p) p.aA 0 ([nIO],[ig,kR]) with
  | .inr e=>e
  | .inl _=>0
def Prg.decls (p:Prg):Int:=orE p.bare.syn p.zP
theorem Prg.CM {p:Prg} (h:p.ok):p.bare.ok:=⟨h.dl,h.d,h.el,h.e,by unfold aQ;simp [Prg.bare],by simp [Prg.bare],by show JY.ok;exact ⟨by simp [aQ],by simp [aQ],by simp [aQ],trivial,trivial⟩⟩
theorem dK {l:List Int} :bn l=0↔ ∀x ∈ l,x=0:=by
 induction l with
 |nil=>simp [bn]
 |cons a r ih=>
  simp only [bn,List.forall_mem_cons]
  by_cases h:a=0
  ·simp [h,ih]
  ·simp [h]
theorem eG {a b:Int} :orE a b=0↔a=0/\b=0:=by
 unfold orE
 by_cases h:a=0<;>simp [h]
theorem Prg.iO {p:Prg} (h:p.syn=0):p.data.length<=12/\p.aA.length<=12/\p.defs.length<=60/\(∀d ∈ p.data,ja d=0)/\(∀e ∈ p.aA,iZ e=0)/\((pn p.defs p.main).take 1 (3000,0)).1=true/\(∀d ∈ p.defs,zH d=0)/\p.main.e=0:=by
 unfold Prg.syn at h
 split at h
 ·cases h
 ·rename_i hn
  simp only [eG,dK,List.forall_mem_map] at h
  obtain ⟨h1,h2,h3⟩:=h
  split at h3
  ·rename_i ht
   simp only [eG,dK,List.forall_mem_map] at h3
   exact ⟨by omega,by omega,by omega,h1,h2,ht,h3.1,h3.2⟩
  ·cases h3
theorem gE {d:Dat} (h:ja d=0):d.params.length<=4/\d.cons.length<=8/\upW d.name=true/\fU d.params 1=0/\ ∀c ∈ d.cons,qU c=0:=by
 unfold ja at h
 split at h
 ·cases h
 ·split at h
  ·split at h
   ·rename_i h1 h2 h3
    simp only [dK,List.forall_mem_map] at h
    exact ⟨by omega,by omega,h2,h3,h⟩
   ·rename_i h1 h2 h3
    exact absurd h h3
  ·cases h
theorem zO {e:Eff} (h:iZ e=0):e.ops.length<=8/\upW e.name=true/\ ∀o ∈ e.ops,qT o=0:=by
 unfold iZ at h
 split at h
 ·cases h
 ·split at h
  ·rename_i h1 h2
   simp only [dK,List.forall_mem_map] at h
   exact ⟨by omega,h2,h⟩
  ·cases h
theorem fW {α β γ:Type} {step:Nat->α->β->β ⊕ γ} {P:γ->Prop} : ∀ (l:List α) (_: ∀a ∈ l,∀i b c,step i a b= .inr c->P c) (i:Nat) (b:β) (c:γ),bf step l i b= .inr c->P c
 | [],h,i,b,c,hc=>by cases hc
 |a::r,h,i,b,c,hc=>by
  simp only [bf] at hc
  cases hs:step i a b with
  |inl b1=>rw [hs] at hc;exact fW r (fun x hx=>h x (List.mem_cons_of_mem _ hx)) _ _ _ hc
  |inr c1=>rw [hs] at hc;cases hc;exact h a List.mem_cons_self _ _ _ hs
theorem BC {p:Prg} {params:List Bs} {i:Nat} {c:Con} {b:List Bs} {e:Int} (h:cx p params i c b= .inr e):e≠0:=by
 unfold cx at h
 split at h
 ·cases h;omega
 ·split at h
  ·cases h
  ·rename_i hz;cases h;exact hz
theorem nM {p:Prg} {i:Nat} {d:Dat} {b:List Bs × List Bs} {e:Int} (h:b7 p i d b= .inr e):e≠0:=by
 unfold b7 at h
 split at h
 ·cases h;omega
 ·split at h
  ·cases h
  ·rename_i e' he
   cases h
   exact fW (P:=fun e=>e≠0) _ (fun _ _ _ _ _ h=>BC h) _ _ _ he
theorem CC {p:Prg} {i:Nat} {c:Opn} {b:List Bs} {e:Int} (h:dy p i c b= .inr e):e≠0:=by
 unfold dy at h
 split at h
 ·cases h;omega
 ·split at h
  ·cases h
  ·rename_i hz;cases h;exact hz
theorem we {p:Prg} {i:Nat} {d:Eff} {b:List Bs × List Bs} {e:Int} (h:cF p i d b= .inr e):e≠0:=by
 unfold cF at h
 split at h
 ·cases h;omega
 ·split at h
  ·cases h
  ·rename_i e' he
   cases h
   exact fW (P:=fun e=>e≠0) _ (fun _ _ _ _ _ h=>CC h) _ _ _ he
set_option maxHeartbeats 2000000 in
theorem c56 (p:Prg) (m:b9) (hok:p.ok) (tb:Nat) (σ:St) (hT:IsT σ tb p m):CI (.fn 56) [.ptr tb 0] σ=some (gh p.decls,σ):=by
 have h95: ∀σ,CI (.fn 95) [.agg p.bare.cs] σ=some (.ret (.int .i64 p.bare.syn),σ):=fun σ=>SI p.data p.aA (Prg.CM hok) σ
 have q95:qI 95=false:=rfl
 have x95:XB 95=false:=rfl
 have q59:qI 59=false:=rfl
 have x59:XB 59=false:=rfl
 obtain ⟨τ,hτ⟩: ∃τ,ah CI XB GI A8 [.ptr tb 0] σ=some (gh p.decls,σ++τ):=by
  obtain ⟨j,hj,hm⟩:=id hT
  have hcs:p.bare.cs=[.slice (p.data.map Dat.d), .slice (p.aA.map Eff.d), .slice [], .int .i64 3, .int .i64 0, .str [], .str [], .slice [], .slice [], .slice []]:=rfl
  rw [hcs] at h95
  rw [p.dw] at hj
  unfold Prg.decls
  by_cases hs:p.bare.syn=0
  ·obtain ⟨hs1,hs2,_,hs3,hs4,_⟩:=Prg.iO hs
   rw [hs] at h95 ⊢
   obtain ⟨τ1,ev1,dB⟩:=OD p m hs1 hok.el (fun d hd=>⟨hok.d d hd,(gE (hs3 d hd)).2.1⟩) tb σ hT builtins [] (by decide) (by decide)
   have hdL: (p.data.map Dat.d).length=p.data.length:=by simp
   have heL: (p.aA.map Eff.d).length=p.aA.length:=by simp
   have ho:orE 0 p.zP=p.zP:=rfl
   rw [ho]
   unfold Prg.zP
   simp only [bh,aJ,dS,builtins,By,sP,sQ,List.map_cons,List.map_nil,List.length_cons,List.length_nil] at dB
   cases hz1:bf (b7 p) p.data 0 ([[73,110,116],[66,111,111,108],[85,110,105,116]],[]) with
   |inr e=>
    have hne:e≠0:=fW (P:=fun e=>e≠0) _ (fun _ _ _ _ _ h=>nM h) _ _ _ hz1
    rw [hz1] at dB
    have hz1':bf (b7 p) p.data 0 (builtins,[])= .inr e:=hz1
    rw [hz1']
    simp only [cG hne]
    refine ⟨τ1, ?_⟩
    generalize p.data.map Dat.d=dd at*
    generalize p.aA.map Eff.d=ed at*
    generalize p.defs.map Dfn.d=fd at*
    generalize p.main.cs=mc at*
    simp [ah,A8,hj,bD hj,bQ,bw,aE,h95,c59,cr,q95,x95,q59,x59,Nat.testBit_eq_decide_div_mod_eq,az,aS,bP,aN,hdL,dB]
   |inl x=>
    rw [hz1] at dB
    have hz1':bf (b7 p) p.data 0 (builtins,[])= .inl x:=hz1
    rw [hz1']
    simp only at dB ⊢
    have e1: ∀τ,∃τ',σ++[.row 1 (x.1.map .str) 0, .row 1 (x.2.map .str) 0, .box [.arr σ.length x.1.length 0 x.1.length], .box [.arr (σ.length+1) x.2.length 0 x.2.length]]++τ1++τ=σ++τ':=fun τ=>⟨_,by rw [List.append_assoc,List.append_assoc]⟩
    have hT2:IsT (σ++[.row 1 (x.1.map .str) 0, .row 1 (x.2.map .str) 0, .box [.arr σ.length x.1.length 0 x.1.length], .box [.arr (σ.length+1) x.2.length 0 x.2.length]]++τ1) tb p m:=hT.app.app
    have hj2: (σ++[.row 1 (x.1.map .str) 0, .row 1 (x.2.map .str) 0, .box [.arr σ.length x.1.length 0 x.1.length], .box [.arr (σ.length+1) x.2.length 0 x.2.length]]++τ1)[tb]? =_:=bD (bD hj)
    generalize hσ2:σ++[.row 1 (x.1.map .str) 0, .row 1 (x.2.map .str) 0, .box [.arr σ.length x.1.length 0 x.1.length], .box [.arr (σ.length+1) x.2.length 0 x.2.length]]++τ1=σ2 at*
    obtain ⟨τ2,ev2,hit2⟩:=OF p m hok.dl hs2 (fun d hd=>⟨hok.e d hd,(zO (hs4 d hd)).1⟩) tb σ2 hT2 [nIO] [ig,kR] (by decide) (by decide)
    simp only [bh,aJ,dS,nIO,ig,kR,List.map_cons,List.map_nil,List.length_cons,List.length_nil] at hit2
    cases hz2:bf (cF p) p.aA 0 ([[73,79]],[[112,114,105,110,116],[114,101,97,100]]) with
    |inr e=>
     have hne:e≠0:=fW (P:=fun e=>e≠0) _ (fun _ _ _ _ _ h=>we h) _ _ _ hz2
     rw [hz2] at hit2
     have hz2':bf (cF p) p.aA 0 ([nIO],[ig,kR])= .inr e:=hz2
     rw [hz2']
     simp only [cG hne] at hit2 ⊢
     obtain ⟨τ',hτ'⟩:=e1 τ2
     refine ⟨τ', ?_⟩
     rw [<-hτ']
     generalize p.data.map Dat.d=dd at*
     generalize p.aA.map Eff.d=ed at*
     generalize p.defs.map Dfn.d=fd at*
     generalize p.main.cs=mc at*
     simp [ah,A8,hj,bD hj,bQ,bw,aE,h95,c59,cr,q95,x95,q59,x59,Nat.testBit_eq_decide_div_mod_eq,az,aS,bP,aN,hdL,heL,dB,hj2,bD hj2,hit2]
    |inl y=>
     rw [hz2] at hit2
     have hz2':bf (cF p) p.aA 0 ([nIO],[ig,kR])= .inl y:=hz2
     rw [hz2']
     simp only [cr] at hit2 ⊢
     obtain ⟨τ',hτ'⟩:=e1 ([.row 1 (y.1.map .str) 0, .row 1 (y.2.map .str) 0, .box [.arr σ2.length y.1.length 0 y.1.length], .box [.arr (σ2.length+1) y.2.length 0 y.2.length]]++τ2)
     refine ⟨τ', ?_⟩
     rw [<-hτ',<-List.append_assoc]
     generalize p.data.map Dat.d=dd at*
     generalize p.aA.map Eff.d=ed at*
     generalize p.defs.map Dfn.d=fd at*
     generalize p.main.cs=mc at*
     simp [ah,A8,hj,bD hj,bQ,bw,aE,h95,c59,cr,q95,x95,q59,x59,Nat.testBit_eq_decide_div_mod_eq,az,aS,bP,aN,hdL,heL,dB,hj2,bD hj2,hit2]
  ·refine ⟨[], ?_⟩
   have ho:orE p.bare.syn p.zP=p.bare.syn:=by unfold orE;rw [if_neg hs]
   rw [ho,cG hs]
   generalize p.bare.syn=e at*
   generalize p.data.map Dat.d=dd at*
   generalize p.aA.map Eff.d=ed at*
   generalize p.defs.map Dfn.d=fd at*
   generalize p.main.cs=mc at*
   simp [ah,A8,hj,bQ,aE,h95,c59,cG hs,q95,x95,q59,x59,Nat.testBit_eq_decide_div_mod_eq]
 exact yj QK hτ
def ia (s:Bs):List Dat->Nat->Option (Nat × Nat)
 | [],_=>none
 |d::r,i=>match d.cons.findIdx? (fun c=>c.name==s) with
  |some k=>some (i,k)
  |none=>ia s r (i+1)
theorem jU (n:Nat) (σ:St) (d:D) (h:d.tree=true):strip n σ d=some d:=by cases n<;>simp [strip,h]
theorem jV (n:Nat) (σ:St) (d:D) (h:d.tree=true):leads n σ d=[]:=by cases n<;>simp [leads,h]
theorem wg (n:Nat) (σ:St): ∀ (es:List D),bW es=true->es.mapM (strip n σ)=some es
 | [],_=>rfl
 |d::r,h=>by
  simp only [bW,Bool.and_eq_true] at h
  rw [List.mapM_cons,jU n σ d h.1,wg n σ r h.2]
  rfl
theorem wj (n:Nat) (σ:St): ∀ (es:List D),bW es=true->es.flatMap (leads n σ)=[]
 | [],_=>rfl
 |d::r,h=>by
  simp only [bW,Bool.and_eq_true] at h
  rw [List.flatMap_cons,jV n σ d h.1,wj n σ r h.2]
  rfl
theorem jN {σ:St} {r sz since:Nat} {es:List D} (hr:σ[r]? =some (.row sz es since)) (hs:since<=es.length) (h:bW es=true) (n:Nat):
 strip (n+1) σ (.arr r es.length 0 es.length)=some (.slice es)/\leads (n+1) σ (.arr r es.length 0 es.length)=[r]:=by
 have hrow:rowOf σ (.arr r es.length 0 es.length)=some es:=by simp [rowOf,hr,hs]
 constructor
 ·unfold strip
  simp only [D.tree,Bool.false_eq_true,if_false,hrow,wg _ _ es h]
  rfl
 ·unfold leads
  simp only [D.tree,Bool.false_eq_true,if_false,hrow,wj _ _ es h]
theorem jH {q:FuncId->Bool} {f:FuncId} {σ τ:St} {r sz:Nat} {es:List D} {since:Nat} (hr: (σ++τ)[r]? =some (.row sz es since)) (hn:σ.length<=r) (hs:since<=es.length) (h:bW es=true):
 eA q f σ (some (.ret (.arr r es.length 0 es.length),σ++τ))=some (.ret (.slice (dU es)),σ):=by
 obtain ⟨hst,hle⟩:=jN hr hs h 15
 rw [gG hst (by rw [hle];simpa using hn)]
 rfl
end Go.AI
namespace Go.AI
open Go Go.Proofs Go.Lx
theorem iQ {l:List Bs} {s:Bs} :cV l s=true↔s ∈ l:=by unfold cV;exact List.contains_iff_mem
theorem qH {l:List Bs} {s:Bs} (h:cV l s=false):s ∉ l:=fun hm=>by rw [iQ.2 hm] at h;cases h
theorem kP {l:List Bs} {s:Bs} (hl:l.Nodup) (hs:s ∉ l): (l++[s]).Nodup:=by
 rw [List.nodup_append]
 exact ⟨hl,by simp,fun a ha b hb=>by simp only [List.mem_singleton] at hb;subst hb;exact fun he=>hs (he ▸ ha)⟩
theorem wo {p:Prg} {params:List Bs} : ∀ {l:List Con} {i:Nat} {b b':List Bs},bf (cx p params) l i b= .inl b'->b'=b++l.map Con.name/\(b.Nodup->b'.Nodup)/\ ∀c ∈ l,∀t ∈ c.args,t.ord p params=0
 | [],i,b,b',h=>by cases h;simp
 |c::r,i,b,b',h=>by
  simp only [bf] at h
  cases hs:cx p params i c b with
  |inr e=>rw [hs] at h;cases h
  |inl b1=>
   rw [hs] at h
   obtain ⟨h1,h2,h3⟩:=wo h
   unfold cx at hs
   split at hs
   ·cases hs
   ·rename_i hn
    rw [Bool.not_eq_true] at hn
    split at hs
    ·rename_i hz
     cases hs
     refine ⟨by rw [h1];simp,fun hb=>h2 (kP hb (qH hn)), ?_⟩
     rw [dK] at hz
     simp only [List.forall_mem_map] at hz
     intro c' hc'
     cases hc' with
     |head=>exact hz
     |tail _ hc'=>exact h3 c' hc'
    ·cases hs
theorem xU {p:Prg} : ∀ {l:List Dat} {i:Nat} {x x':List Bs × List Bs},bf (b7 p) l i x= .inl x'->
 x'.1=x.1++l.map Dat.name/\x'.2=x.2++l.flatMap (fun d=>d.cons.map Con.name)/\(x.1.Nodup->x'.1.Nodup)/\(x.2.Nodup->x'.2.Nodup)/\ ∀d ∈ l,∀c ∈ d.cons,∀t ∈ c.args,t.ord p d.params=0
 | [],i,x,x',h=>by cases h;simp
 |d::r,i,x,x',h=>by
  simp only [bf] at h
  cases hs:b7 p i d x with
  |inr e=>rw [hs] at h;cases h
  |inl y=>
   rw [hs] at h
   obtain ⟨h1,h2,h3,h4,h5⟩:=xU h
   unfold b7 at hs
   split at hs
   ·cases hs
   ·rename_i hn
    rw [Bool.not_eq_true] at hn
    split at hs
    ·rename_i b hb
     cases hs
     obtain ⟨c1,c2,c3⟩:=wo hb
     refine ⟨by rw [h1];simp,by rw [h2];simp [c1],fun ha=>h3 (kP ha (qH hn)),fun hb=>h4 (c2 hb), ?_⟩
     intro d' hd'
     cases hd' with
     |head=>exact c3
     |tail _ hd'=>exact h5 d' hd'
    ·cases hs
theorem xV {p:Prg} : ∀ {l:List Opn} {i:Nat} {b b':List Bs},bf (dy p) l i b= .inl b'->b'=b++l.map Opn.name/\(b.Nodup->b'.Nodup)/\ ∀o ∈ l,o.arg.ord p []=0/\o.res.ord p []=0
 | [],i,b,b',h=>by cases h;simp
 |c::r,i,b,b',h=>by
  simp only [bf] at h
  cases hs:dy p i c b with
  |inr e=>rw [hs] at h;cases h
  |inl b1=>
   rw [hs] at h
   obtain ⟨h1,h2,h3⟩:=xV h
   unfold dy at hs
   split at hs
   ·cases hs
   ·rename_i hn
    rw [Bool.not_eq_true] at hn
    split at hs
    ·rename_i hz
     cases hs
     refine ⟨by rw [h1];simp,fun hb=>h2 (kP hb (qH hn)), ?_⟩
     unfold uu at hz
     intro c' hc'
     cases hc' with
     |head=>
      split at hz
      ·rename_i h0;exact ⟨h0,hz⟩
      ·rename_i h0;exact absurd hz h0
     |tail _ hc'=>exact h3 c' hc'
    ·cases hs
theorem xW {p:Prg} : ∀ {l:List Eff} {i:Nat} {x x':List Bs × List Bs},bf (cF p) l i x= .inl x'->
 x'.1=x.1++l.map Eff.name/\x'.2=x.2++l.flatMap (fun d=>d.ops.map Opn.name)/\(x.1.Nodup->x'.1.Nodup)/\(x.2.Nodup->x'.2.Nodup)/\ ∀e ∈ l,∀o ∈ e.ops,o.arg.ord p []=0/\o.res.ord p []=0
 | [],i,x,x',h=>by cases h;simp
 |d::r,i,x,x',h=>by
  simp only [bf] at h
  cases hs:cF p i d x with
  |inr e=>rw [hs] at h;cases h
  |inl y=>
   rw [hs] at h
   obtain ⟨h1,h2,h3,h4,h5⟩:=xW h
   unfold cF at hs
   split at hs
   ·cases hs
   ·rename_i hn
    rw [Bool.not_eq_true] at hn
    split at hs
    ·rename_i b hb
     cases hs
     obtain ⟨c1,c2,c3⟩:=xV hb
     refine ⟨by rw [h1];simp,by rw [h2];simp [c1],fun ha=>h3 (kP ha (qH hn)),fun hb=>h4 (c2 hb), ?_⟩
     intro d' hd'
     cases hd' with
     |head=>exact c3
     |tail _ hd'=>exact h5 d' hd'
    ·cases hs
structure Prg.I8 (p:Prg):Prop where
 syn:p.bare.syn=0
 dn: (builtins++p.data.map Dat.name).Nodup
 cn: (p.data.flatMap fun d=>d.cons.map Con.name).Nodup
 en: ([nIO]++p.aA.map Eff.name).Nodup
 on: ([ig,kR]++p.aA.flatMap fun d=>d.ops.map Opn.name).Nodup
 args: ∀d ∈ p.data,∀c ∈ d.cons,∀t ∈ c.args,t.ord p d.params=0
 ops: ∀e ∈ p.aA,∀o ∈ e.ops,o.arg.ord p []=0/\o.res.ord p []=0
theorem Prg.Gx {p:Prg} (h:p.decls=0):p.I8:=by
 obtain ⟨hs,ho⟩:=eG.1 h
 unfold Prg.zP at ho
 cases h1:bf (b7 p) p.data 0 (builtins,[]) with
 |inr e=>
  rw [h1] at ho
  have hne:e≠0:=fW (P:=fun e=>e≠0) _ (fun _ _ _ _ _ h=>nM h) _ _ _ h1
  exact absurd ho hne
 |inl x=>
  rw [h1] at ho
  simp only at ho
  cases h2:bf (cF p) p.aA 0 ([nIO],[ig,kR]) with
  |inr e=>
   rw [h2] at ho
   have hne:e≠0:=fW (P:=fun e=>e≠0) _ (fun _ _ _ _ _ h=>we h) _ _ _ h2
   exact absurd ho hne
  |inl y=>
   obtain ⟨a1,a2,a3,a4,a5⟩:=xU h1
   obtain ⟨b1,b2,b3,b4,b5⟩:=xW h2
   refine ⟨hs, ?_, ?_, ?_, ?_,a5,b5⟩
   ·rw [<-a1];exact a3 (by decide)
   ·rw [<-List.nil_append (p.data.flatMap _),<-a2];exact a4 (by simp)
   ·rw [<-b1];exact b3 (by decide)
   ·rw [<-b2];exact b4 (by decide)
theorem nF {α:Type} (g:α->Bs): ∀ (l:List α) (k:Nat) (c:α),(l.map g).Nodup->l[k]? =some c->l.findIdx? (fun x=>g x==g c)=some k
 | [],k,c,_,h=>by simp at h
 |a::r,0,c,_,h=>by
  simp only [List.getElem?_cons_zero,Option.some.injEq] at h
  subst h
  simp [List.findIdx?_cons]
 |a::r,k+1,c,hn,h=>by
  simp only [List.getElem?_cons_succ] at h
  simp only [List.map_cons,List.nodup_cons] at hn
  have hm:g c ∈ r.map g:=List.mem_map_of_mem (List.mem_of_getElem? h)
  have hne: (g a==g c)=false:=by
   rw [beq_eq_false_iff_ne];intro he;exact hn.1 (he ▸ hm)
  rw [List.findIdx?_cons,hne]
  simp only [Bool.false_eq_true,if_false]
  rw [nF g r k c hn.2 h]
  rfl
theorem wL {α:Type} (g:α->Bs) (l:List α) (s:Bs) (h:s ∉ l.map g):l.findIdx? (fun x=>g x==s)=none:=by
 rw [List.findIdx?_eq_none_iff]
 intro x hx
 rw [beq_eq_false_iff_ne]
 intro he
 exact h (he ▸ List.mem_map_of_mem hx)
theorem su: ∀ (l:List Dat) (off i k:Nat) (d:Dat) (c:Con),(l.flatMap fun d=>d.cons.map Con.name).Nodup->l[i]? =some d->d.cons[k]? =some c->ia c.name l off=some (off+i,k)
 | [],off,i,k,d,c,_,h,_=>by simp at h
 |a::r,off,0,k,d,c,hn,h,hc=>by
  simp only [List.getElem?_cons_zero,Option.some.injEq] at h
  subst h
  rw [List.flatMap_cons,List.nodup_append] at hn
  simp only [ia,nF Con.name a.cons k c hn.1 hc]
  rfl
 |a::r,off,i+1,k,d,c,hn,h,hc=>by
  simp only [List.getElem?_cons_succ] at h
  rw [List.flatMap_cons,List.nodup_append] at hn
  have hm:c.name ∈ r.flatMap fun d=>d.cons.map Con.name:=List.mem_flatMap.2 ⟨d,List.mem_of_getElem? h,List.mem_map_of_mem (List.mem_of_getElem? hc)⟩
  have h0:=wL Con.name a.cons c.name (fun hx=>hn.2.2 _ hx _ hm rfl)
  simp only [ia,h0]
  rw [su r (off+1) i k d c hn.2.1 h hc,show off+1+i=off+ (i+1) by omega]
end Go.AI
namespace Go.AI
open Go Go.Proofs Go.Lx
set_option maxRecDepth 100000
def kT (m:b9) (s:Bs):Option (Nat × Nat):=(m.find? (fun x=>x.1==s)).map (·.2)
theorem CD (i k:Nat) (c:Con) (m:b9) (s:Bs):kT (yP i k c m) s=(kT m s).or (if c.name==s then some (i,k) else none):=by
 unfold yP kT
 cases h:m.find? (fun x=>x.1==c.name) with
 |some v=>
  simp only
  by_cases hs:c.name=s
  ·subst hs
   rw [h];rfl
  ·have: (c.name==s)=false:=by simpa using hs
   rw [this]
   simp
 |none=>
  simp only [List.find?_append,List.find?_cons,List.find?_nil]
  cases h2:m.find? (fun x=>x.1==s) with
  |some v=>simp
  |none=>cases hc:c.name==s<;>simp
theorem sS (i:Nat) (s:Bs): ∀ (l:List Con) (k:Nat) (m:b9),kT (kU i l k m) s=(kT m s).or ((l.findIdx? (fun c=>c.name==s)).map fun q=>(i,k+q))
 | [],k,m=>by simp [kU]
 |c::r,k,m=>by
  rw [kU,sS i s r (k+1),CD,List.findIdx?_cons]
  cases hc:c.name==s
  ·simp only [Bool.false_eq_true,if_false,Option.or_none]
   congr 1
   rw [Option.map_map]
   congr 1
   funext q
   simp only [Function.comp]
   congr 1;omega
  ·cases kT m s<;>simp
theorem sU (s:Bs): ∀ (l:List Dat) (i:Nat) (m:b9),kT (sw l i m) s=(kT m s).or (ia s l i)
 | [],i,m=>by simp [sw,ia]
 |d::r,i,m=>by
  rw [sw,sU s r (i+1),sS,ia]
  cases d.cons.findIdx? (fun c=>c.name==s) with
  |some q=>cases kT m s<;>simp
  |none=>simp
theorem E5 (p:Prg) (s:Bs):kT p.cm s=ia s p.data 0:=by
 unfold Prg.cm
 rw [sU]
 simp [kT]
mutual
theorem D.pF: ∀ (d:D),d.tree=true->d.eqb d=true
 | .bool b,_=>by simp [D.eqb]
 | .int k n,_=>by simp [D.eqb]
 | .str s,_=>by simp [D.eqb]
 | .bL,_| .empty,_| .cH,_| .cq,_| .bV,_=>rfl
 | .slice es,h| .agg es,h| .tuple es,h=>by simp only [D.tree,D.eqb] at*;exact aG es h
 | .func f a b,h=>by
  simp only [D.tree,Bool.and_eq_true] at h
  simp only [D.eqb,Bool.and_eq_true]
  exact ⟨⟨by simp,aG a h.1⟩,aG b h.2⟩
 | .iface t v,h=>by
  simp only [D.tree] at h
  simp only [D.eqb,Bool.and_eq_true]
  exact ⟨by simp,D.pF v h⟩
 | .ptr _ _,h| .rptr _ _ _ _,h| .tptr _,h| .arr _ _ _ _,h| .map _,h| .yield _,h| .undef,h| .any,h=>by simp [D.tree] at h
theorem aG: ∀ (l:List D),bW l=true->bC l l=true
 | [],_=>rfl
 |d::r,h=>by
  simp only [bW,Bool.and_eq_true] at h
  simp only [bC,Bool.and_eq_true]
  exact ⟨D.pF d h.1,aG r h.2⟩
end
theorem q34:qI 34=false:=rfl
theorem x34:XB 34=false:=rfl
section
variable {β:Type} (step:Ex->β->β ⊕ Int)
mutual
def Ex.walk:Ex->β->β ⊕ Int
 | .mk k n s t names l aV,b=>match step (.mk k n s t names l aV) b with
  | .inr e=> .inr e
  | .inl b1=>match jh l b1 with
   | .inr e=> .inr e
   | .inl b2=>gZ aV b2
def jh:List Ex->β->β ⊕ Int
 | [],b=> .inl b
 |x::r,b=>match x.walk b with
  | .inr e=> .inr e
  | .inl b1=>jh r b1
def gZ:List Arm->β->β ⊕ Int
 | [],b=> .inl b
 | .mk _ _ x::r,b=>match x.walk b with
  | .inr e=> .inr e
  | .inl b1=>gZ r b1
end
theorem qJ: ∀ (l:List Ex) (i:Nat) (b:β),jh step l b=bf (fun _ x=>x.walk step) l i b
 | [],i,b=>by simp only [jh,bf]
 |x::r,i,b=>by
  simp only [jh,bf]
  cases x.walk step b with
  |inr e=>rfl
  |inl b1=>exact qJ r (i+1) b1
theorem nG: ∀ (l:List Arm) (i:Nat) (b:β),gZ step l b=bf (fun _ a=>a.body.walk step) l i b
 | [],i,b=>by simp only [gZ,bf]
 | .mk _ _ x::r,i,b=>by
  simp only [gZ,bf,Arm.body]
  cases x.walk step b with
  |inr e=>rfl
  |inl b1=>exact nG r (i+1) b1
end
theorem nO {q:FuncId->Bool} {f:FuncId} {A A' τ1:St} {d:D} (hl:A'.length=A.length) (hk: ∀j,j<A.length->A'[j]? =A[j]? \/ ∃o,A'[j]? =some o/\o.under A.length) (hd:d.tree=true) (hq:q f=false):
 eA q f A (some (.ret d,A'++τ1))=some (.ret d.weak,A'):=by
 have hK:nB A (A'++τ1):=fun j hj=>by
  rw [List.getElem?_append_left (by omega)];exact hk j hj
 rw [jZ hK (kH hd) (by simp [hq]),<-hl,List.take_left]
theorem jW {q:FuncId->Bool} {f:FuncId} {A A' τ1:St} {d:D} (hl:A'.length=A.length) (hk: ∀j,j<A.length->A'[j]? =A[j]? \/ ∃o,A'[j]? =some o/\o.under A.length) (hd:d.tree=true):
 eA q f A (some (.panic d,A'++τ1))=some (.panic d,A'):=by
 have hK:nB A (A'++τ1):=fun j hj=>by
  rw [List.getElem?_append_left (by omega)];exact hk j hj
 rw [xM hK hd,<-hl,List.take_left]
section
variable {β:Type} (i2 y s i:Nat) (o:β->Obj) (I:β->Prop) (step:Ex->β->β ⊕ Int) (σ SP:St)
theorem PG (hi2:i2<σ.length) (ho: ∀b m,σ.length<=m->(o b).under m) (hSPl:SP.length=σ.length)
 (hSP: ∀b j,j<σ.length->SP[j]? =(σ.set i2 (o b))[j]? \/ ∃ob,SP[j]? =some ob/\ ∀m,σ.length<=m->ob.under m)
 (hy: ∀b,(σ.set i2 (o b))[y]? =some (.box [.yield i])) (hs: ∀b,(σ.set i2 (o b))[s]? =some (.box [.func 192 [] [.ptr y 0, .ptr s 0]]))
 (G:Ex->Prop) (hG: ∀e x,G e->x ∈ e.parts->G x) (hI: ∀e b b',G e->I b->step e b= .inl b'->I b')
 (h: ∀e,G e-> ∀b τ,I b-> ∃τ',CI (.round i) [.agg e.cs] (σ.set i2 (o b)++τ)=some (match step e b with| .inl b'=>(.ret (.bool true),σ.set i2 (o b')++(τ++τ')) | .inr err=>(.panic (fH err),SP++(τ++τ')))):
 ∀ (e:Ex),e.ok->G e-> ∀ (b:β) (τ:St),I b->CI (.fn 192) [.agg e.cs, .ptr y 0, .ptr s 0] (σ.set i2 (o b)++τ)=some (match e.walk step b with| .inl b'=>(.ret (.bool true),σ.set i2 (o b')++τ) | .inr err=>(.panic (fH err),SP++τ))/\ ∀b',e.walk step b= .inl b'->I b'
 | .mk k n ss u names l aV,hok,hg,b,τ,hb=>by
  have hparts:=fun x hx=>hG (Ex.mk k n ss u names l aV) x hg hx
  obtain ⟨_,hll,hal,hlok,haok⟩:=hok
  simp only [Ex.parts,List.mem_append,List.mem_map] at hparts
  have keepA: ∀b b' τ j,j< (σ.set i2 (o b)++τ).length->(σ.set i2 (o b')++τ)[j]? =(σ.set i2 (o b)++τ)[j]? \/ ∃ob,(σ.set i2 (o b')++τ)[j]? =some ob/\ob.under (σ.set i2 (o b)++τ).length:=fun b b' τ j hj=>by
   by_cases hjl:j<σ.length
   ·rw [List.getElem?_append_left (by simpa using hjl),List.getElem?_append_left (by simpa using hjl)]
    by_cases hji:i2=j
    ·subst hji
     right
     exact ⟨o b',by rw [List.getElem?_set_self hi2],ho _ _ (by simp)⟩
    ·left
     rw [List.getElem?_set_ne hji,List.getElem?_set_ne hji]
   ·left
    rw [List.getElem?_append_right (by simp;omega),List.getElem?_append_right (by simp;omega)]
    simp
  have keepP: ∀b τ j,j< (σ.set i2 (o b)++τ).length->(SP++τ)[j]? =(σ.set i2 (o b)++τ)[j]? \/ ∃ob,(SP++τ)[j]? =some ob/\ob.under (σ.set i2 (o b)++τ).length:=fun b τ j hj=>by
   by_cases hjl:j<σ.length
   ·rw [List.getElem?_append_left (by omega),List.getElem?_append_left (by simpa using hjl)]
    rcases hSP b j hjl with h| ⟨ob,h1,h2⟩
    ·exact .inl h
    ·exact .inr ⟨ob,h1,h2 _ (by simp)⟩
   ·left
    rw [List.getElem?_append_right (by omega),List.getElem?_append_right (by simp;omega),hSPl]
    simp
  have hpost: ∀b' τ1,eA qI 192 (σ.set i2 (o b)++τ) (some (.ret (.bool true),σ.set i2 (o b')++τ++τ1))=some (.ret (.bool true),σ.set i2 (o b')++τ):=fun b' τ1=>nO (by simp) (keepA b b' τ) rfl rfl
  have hpostP: ∀err τ1,eA qI 192 (σ.set i2 (o b)++τ) (some (.panic (fH err),SP++τ++τ1))=some (.panic (fH err),SP++τ):=fun err τ1=>jW (by simp [hSPl]) (keepP b τ) rfl
  have hexl:=cu l
  have harl:=wX aV
  have hcs:=(Ex.mk k n ss u names l aV).bJ
  have hcl:=(Ex.mk k n ss u names l aV).aL
  have hct:=(Ex.mk k n ss u names l aV).aM
  obtain ⟨τ0,h0⟩:=h _ hg b (τ++[.box (Ex.mk k n ss u names l aV).cs]) hb
  have hy0:=bD (τ:=τ) (hy b)
  have hsl: ∀b,(σ.set i2 (o b)).length=σ.length:=fun b=>by simp
  simp only [Ex.walk]
  cases hst:step (Ex.mk k n ss u names l aV) b with
  |inr err=>
   refine ⟨?_,fun b' hb'=>by cases hb'⟩
   rw [hst] at h0
   simp only at h0 ⊢
   refine dj zl ?_ (hpostP err ([.box (Ex.mk k n ss u names l aV).cs]++τ0))
   simp only [List.append_assoc] at h0 ⊢
   simp only [<-List.append_assoc] at h0 ⊢
   generalize SP++τ++[.box (Ex.mk k n ss u names l aV).cs]++τ0=σ3 at*
   generalize σ.set i2 (o b)++τ=σ1 at*
   generalize (Ex.mk k n ss u names l aV).cs=ec at*
   simp [ah,vO,az,bD hy0,hcs,hcl,hct,h0]
  |inl b1=>
   rw [hst] at h0
   simp only at h0 ⊢
   have hb1:I b1:=hI _ _ _ hg hb hst
   have hgq: ∀b' τ',(σ.set i2 (o b')++(τ++[.box (Ex.mk k n ss u names l aV).cs])++τ')[σ.length+τ.length]? =some (.box (Ex.mk k n ss u names l aV).cs):=fun b' τ'=>by
    rw [List.append_assoc,List.getElem?_append_right (by simp)]
    simp
   have ih:=fun x hx (hxo:x.ok) b τ hb=>PG hi2 ho hSPl hSP hy hs G hG hI h x hxo (hparts x hx) b τ hb
   have iw:=fun b0 τa=>gM (f:=aD CI XB GI 38 false qw) l (fun j _=>[(2, .ptr s 0),(3, .ptr (σ.length+τ.length) 0),(14, .slice (aX l)),(15, .int .i64 l.length),(16, .int .i64 (j:Nat))]) (fun b=>σ.set i2 (o b)++(τ++[.box (Ex.mk k n ss u names l aV).cs])) (fun _ b=>I b) (fun _ x=>x.walk step)
    (fun c=> .panic (fH c)) (SP++(τ++[.box (Ex.mk k n ss u names l aV).cs])) (fun _=>(.exit 0,[(2, .ptr s 0),(3, .ptr (σ.length+τ.length) 0),(14, .slice (aX l)),(15, .int .i64 l.length),(16, .int .i64 l.length),(17, .bool false)])) (by simp) (by simp)
    (fun j hj b b' hb hw=>(ih l[j] (.inl (List.getElem_mem hj)) (iH hlok (List.getElem_mem hj)) b [] hb).2 b' hw)
    (fun j hj b τ1 hb=>by
      have hw:=aI (n:=j) (by unfold aQ at hll;omega)
      have hc:=(ih l[j] (.inl (List.getElem_mem hj)) (iH hlok (List.getElem_mem hj)) b (τ++[.box (Ex.mk k n ss u names l aV).cs]++τ1++[.box l[j].cs]) hb).1
      have bq: (aX l)[j]? =some (.agg l[j].cs):=by rw [bI];simp [Ex.d,hj]
      have hs1: (σ.set i2 (o b)++(τ++[.box (Ex.mk k n ss u names l aV).cs])++τ1)[s]? =some (.box [.func 192 [] [.ptr y 0, .ptr s 0]]):=by rw [List.append_assoc];exact bD (hs b)
      have hx1:=l[j].bJ
      have hx2:=l[j].aL
      have hx3:=l[j].aM
      have hx4:l[j].cs.drop 7=[]:=List.drop_eq_nil_of_le (by simp)
      generalize aX l=ld at*
      have h2:j<ld.length:=by omega
      have h3:ld[j]= .agg l[j].cs:=by rw [List.getElem?_eq_getElem h2] at bq;exact Option.some.inj bq
      cases hwk:l[j].walk step b with
      |inl b'=>
       rw [hwk] at hc
       refine ⟨τ1++[.box l[j].cs],[], ?_⟩
       simp only [<-List.append_assoc] at hc hs1 ⊢
       generalize l[j].cs=xc at*
       generalize σ.set i2 (o b')++τ++[.box (Ex.mk k n ss u names l aV).cs]++τ1++[.box xc]=σ4 at*
       generalize σ.set i2 (o b)++τ++[.box (Ex.mk k n ss u names l aV).cs]++τ1=σ3 at*
       simp [qw,hj,hw,h2,h3,az,aN,bD hs1,hx1,hx2,hx3,hx4,aE,hc]
      |inr err=>
       rw [hwk] at hc
       refine ⟨τ1++[.box l[j].cs],[(2, .ptr s 0),(3, .ptr (σ.length+τ.length) 0),(6, .ptr (σ.set i2 (o b)++τ++[Obj.box (Ex.mk k n ss u names l aV).cs]++τ1).length 0),(14, .slice ld),(15, .int .i64 l.length),(16, .int .i64 (j:Nat)),(20, .func 192 [] [.ptr y 0, .ptr s 0]),(21, .agg l[j].cs)], ?_⟩
       simp only [<-List.append_assoc] at hc hs1 ⊢
       generalize l[j].cs=xc at*
       generalize SP++τ++[.box (Ex.mk k n ss u names l aV).cs]++τ1++[.box xc]=σ4 at*
       generalize σ.set i2 (o b)++τ++[.box (Ex.mk k n ss u names l aV).cs]++τ1=σ3 at*
       simp [qw,hj,hw,h2,h3,az,aN,bD hs1,hx1,hx2,hx3,hx4,aE,hc])
    (fun b τ1 hb=>⟨τ1,by generalize aX l=ld at*;simp [qw]⟩) b0 τa
   have iwa:=fun b0 τa=>gM (f:=aD CI XB GI 38 false qx) aV (fun j _=>[(2, .ptr s 0),(26, .slice (dx aV)),(27, .int .i64 aV.length),(28, .int .i64 (j:Nat))]) (fun b=>σ.set i2 (o b)++(τ++[.box (Ex.mk k n ss u names l aV).cs])) (fun _ b=>I b) (fun _ x=>x.body.walk step)
    (fun c=> .panic (fH c)) (SP++(τ++[.box (Ex.mk k n ss u names l aV).cs])) (fun _=>(.exit 2,[(2, .ptr s 0),(26, .slice (dx aV)),(27, .int .i64 aV.length),(28, .int .i64 aV.length),(29, .bool false)])) (by simp) (by simp)
    (fun j hj b b' hb hw=>(ih aV[j].body (.inr ⟨_,List.getElem_mem hj,rfl⟩) (by have:=kN haok (List.getElem_mem hj);rcases harm:aV[j] with ⟨a1,a2,a3⟩;rw [harm] at this;exact this.2) b [] hb).2 b' hw)
    (fun j hj b τ1 hb=>by
      have hw:=aI (n:=j) (by unfold aQ at hal;omega)
      have hc:=(ih aV[j].body (.inr ⟨_,List.getElem_mem hj,rfl⟩) (by have:=kN haok (List.getElem_mem hj);rcases harm:aV[j] with ⟨a1,a2,a3⟩;rw [harm] at this;exact this.2) b (τ++[.box (Ex.mk k n ss u names l aV).cs]++τ1++[.box aV[j].cs]) hb).1
      have bq: (dx aV)[j]? =some (.agg aV[j].cs):=by rw [jG];simp [Arm.d,hj]
      have hs1: (σ.set i2 (o b)++(τ++[.box (Ex.mk k n ss u names l aV).cs])++τ1)[s]? =some (.box [.func 192 [] [.ptr y 0, .ptr s 0]]):=by rw [List.append_assoc];exact bD (hs b)
      have hx1:=aV[j].body.bJ
      have hx2:=aV[j].body.aL
      have hx3:=aV[j].body.aM
      have hx4:aV[j].body.cs.drop 7=[]:=List.drop_eq_nil_of_le (by simp)
      rw [Arm.dw] at bq hc
      generalize dx aV=ld at*
      have h2:j<ld.length:=by omega
      have h3:ld[j]= .agg (.str aV[j].op::slD aV[j].names::aV[j].body.cs):=by rw [List.getElem?_eq_getElem h2] at bq;exact Option.some.inj bq
      unfold slD at*
      generalize aV[j].names.map D.str=nd at*
      generalize aV[j].op=aop at*
      cases hwk:aV[j].body.walk step b with
      |inl b'=>
       rw [hwk] at hc
       refine ⟨τ1++[.box (.str aop:: .slice nd::aV[j].body.cs)],[], ?_⟩
       simp only [<-List.append_assoc] at hc hs1 ⊢
       generalize aV[j].body.cs=xc at*
       generalize σ.set i2 (o b')++τ++[.box (Ex.mk k n ss u names l aV).cs]++τ1++[.box (.str aop:: .slice nd::xc)]=σ4 at*
       generalize σ.set i2 (o b)++τ++[.box (Ex.mk k n ss u names l aV).cs]++τ1=σ3 at*
       simp [qx,hj,hw,h2,h3,az,aN,bD hs1,hx1,hx2,hx3,hx4,aE,hc]
      |inr err=>
       rw [hwk] at hc
       refine ⟨τ1++[.box (.str aop:: .slice nd::aV[j].body.cs)],[(2, .ptr s 0),(8, .ptr (σ.set i2 (o b)++τ++[Obj.box (Ex.mk k n ss u names l aV).cs]++τ1).length 0),(26, .slice ld),(27, .int .i64 aV.length),(28, .int .i64 (j:Nat)),(32, .func 192 [] [.ptr y 0, .ptr s 0]),(33, .ptr (σ.set i2 (o b)++τ++[Obj.box (Ex.mk k n ss u names l aV).cs]++τ1).length 2),(34, .agg aV[j].body.cs)], ?_⟩
       simp only [<-List.append_assoc] at hc hs1 ⊢
       generalize aV[j].body.cs=xc at*
       generalize SP++τ++[.box (Ex.mk k n ss u names l aV).cs]++τ1++[.box (.str aop:: .slice nd::xc)]=σ4 at*
       generalize σ.set i2 (o b)++τ++[.box (Ex.mk k n ss u names l aV).cs]++τ1=σ3 at*
       simp [qx,hj,hw,h2,h3,az,aN,bD hs1,hx1,hx2,hx3,hx4,aE,hc])
    (fun b τ1 hb=>⟨τ1,by generalize dx aV=ld at*;simp [qx]⟩) b0 τa
   rw [qJ step l 0]
   obtain ⟨τ1,ev1,dB⟩:=iw b1 τ0 hb1
   simp only [Int.natCast_zero] at dB
   have hlq: (σ.set i2 (o b)++τ).length=σ.length+τ.length:=by simp
   have hgq1:=hgq b1 τ0
   cases hw1:bf (fun _ x=>x.walk step) l 0 b1 with
   |inr err=>
    refine ⟨?_,fun b' hb'=>by cases hb'⟩
    rw [hw1] at dB
    simp only at dB ⊢
    refine dj zl ?_ (hpostP err ([.box (Ex.mk k n ss u names l aV).cs]++τ1))
    simp only [<-List.append_assoc] at h0 dB hgq1 ⊢
    generalize SP++τ++[.box (Ex.mk k n ss u names l aV).cs]++τ1=σ5 at*
    generalize σ.set i2 (o b1)++τ++[.box (Ex.mk k n ss u names l aV).cs]++τ0=σ3 at*
    rw [<-hlq] at hgq1 dB
    generalize σ.set i2 (o b)++τ=σ1 at*
    simp only [Ex.cs] at*
    generalize aX l=ld at*
    generalize dx aV=ad at*
    unfold slD at*
    generalize names.map D.str=nd at*
    simp [ah,vO,az,bD hy0,h0,hgq1,hexl,dB]
   |inl b2=>
    rw [hw1] at dB
    simp only at dB ⊢
    rw [nG step aV 0]
    have hb2:I b2:=rK (I:=I) l (fun a ha j b b' hb hw=>(ih a (.inl ha) (iH hlok ha) b [] hb).2 b' hw) 0 b1 b2 hb1 hw1
    obtain ⟨τ2,ev2,hit2⟩:=iwa b2 τ1 hb2
    simp only [Int.natCast_zero] at hit2
    have hgq2:=hgq b2 τ1
    cases hw2:bf (fun _ (a:Arm)=>a.body.walk step) aV 0 b2 with
    |inr err=>
     refine ⟨?_,fun b' hb'=>by cases hb'⟩
     rw [hw2] at hit2
     simp only at hit2 ⊢
     refine dj zl ?_ (hpostP err ([.box (Ex.mk k n ss u names l aV).cs]++τ2))
     simp only [<-List.append_assoc] at h0 dB hit2 hgq1 hgq2 ⊢
     generalize SP++τ++[.box (Ex.mk k n ss u names l aV).cs]++τ2=σ5 at*
     generalize σ.set i2 (o b1)++τ++[.box (Ex.mk k n ss u names l aV).cs]++τ0=σ3 at*
     generalize σ.set i2 (o b2)++τ++[.box (Ex.mk k n ss u names l aV).cs]++τ1=σ4 at*
     rw [<-hlq] at hgq1 hgq2 dB
     generalize σ.set i2 (o b)++τ=σ1 at*
     simp only [Ex.cs] at*
     generalize aX l=ld at*
     generalize dx aV=ad at*
     unfold slD at*
     generalize names.map D.str=nd at*
     simp [ah,vO,az,bD hy0,h0,hgq1,hgq2,hexl,harl,dB,hit2]
    |inl b3=>
     refine ⟨?_,fun b' hb'=> ?_⟩
     ·rw [hw2] at hit2
      simp only at hit2 ⊢
      refine dj zl ?_ (hpost b3 ([.box (Ex.mk k n ss u names l aV).cs]++τ2))
      simp only [<-List.append_assoc] at h0 dB hit2 hgq1 hgq2 ⊢
      generalize σ.set i2 (o b3)++τ++[.box (Ex.mk k n ss u names l aV).cs]++τ2=σ5 at*
      generalize σ.set i2 (o b1)++τ++[.box (Ex.mk k n ss u names l aV).cs]++τ0=σ3 at*
      generalize σ.set i2 (o b2)++τ++[.box (Ex.mk k n ss u names l aV).cs]++τ1=σ4 at*
      rw [<-hlq] at hgq1 hgq2 dB
      generalize σ.set i2 (o b)++τ=σ1 at*
      simp only [Ex.cs] at*
      generalize aX l=ld at*
      generalize dx aV=ad at*
      unfold slD at*
      generalize names.map D.str=nd at*
      simp [ah,vO,az,bD hy0,h0,hgq1,hgq2,hexl,harl,dB,hit2]
     ·cases hb'
      exact rK (I:=I) aV (fun a ha j b b' hb hw=>(ih a.body (.inr ⟨_,ha,rfl⟩) (by have:=kN haok ha;rcases a with ⟨a1,a2,a3⟩;exact this.2) b [] hb).2 b' hw) 0 b2 b3 hb2 hw2
termination_by e=>SizeOf.sizeOf e
decreasing_by exact Ex.FX (by simp only [Ex.parts,List.mem_append,List.mem_map];exact hx)
end
section
variable {β:Type} {step:Ex->β->β ⊕ Int}
end
theorem RL (x:Ex) (σ:St):CI (.fn 150) [.agg x.cs] σ=some (.ret (.func 191 [] [.ptr σ.length 0]),σ++[.box x.cs]):=by
 have hall:=x.bJ
 have hτ:ah CI XB GI Bf [.agg x.cs] σ=some (.ret (.func 191 [] [.ptr σ.length 0]),σ++[.box x.cs]):=by
  generalize x.cs=xc at*
  simp [ah,Bf,hall]
 refine dj ML hτ ?_
 have ht:trim σ (some (.ret (.func 191 [] [.ptr σ.length 0]),σ++[.box x.cs]))=some (.ret (.func 191 [] [.ptr σ.length 0]),σ++[.box x.cs]):=by
  unfold trim
  have:fK σ.length (σ++[.box x.cs]) (.ret (.func 191 [] [.ptr σ.length 0]))=none:=by simp [fK,strip,D.tree,bW,D.under,cL]
  simp only [this,if_pos fX]
 unfold eA
 rw [ht]
 rfl
theorem BP {n:Nat} {f:bB} {ps:List Nat} {as' bd:aK} {e:Env} {σ σ':St} {g:FuncId} {first captured:List D} {d:D} {m:Nat} {e1:Env} {ps1:List Nat} {as1 bd1:aK} (hf:bM GI e f= .func g first captured)
 (h:CI (.fn g) (first++[.yield σ.length]++captured) (σ++[.loop n e ps as' bd .ready none])=some (.ret d,σ')) (hl:σ'[σ.length]? =some (.loop m e1 ps1 as1 bd1 .ready none)):
 aD CI XB GI n false (.rangeFunc f ps as' bd) e σ=some (.normal,e,σ'.set σ.length (.loop m e1 ps1 as1 bd1 .exhausted none)):=by
 rw [aD]
 simp only [hf,Bool.false_eq_true,if_false,h,hl]
 rfl
end Go.AI
