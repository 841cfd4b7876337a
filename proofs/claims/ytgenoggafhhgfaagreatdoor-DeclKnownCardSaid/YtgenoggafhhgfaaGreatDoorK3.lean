/- Texts of the proof: an interpreter over trees, proved to follow the model. No conditions of its own. -/
import Derived.Test.YtgenoggafhhgfaaGreatDoorK2
import Derived.Test.YtgenoggafhhgfaaGreatDoorK1
set_option linter.unusedVariables false
set_option linter.unusedSimpArgs false
namespace Go.AI
open Go
mutual
theorem D.eqb_eq: ∀ (a b:D),D.eqb a b=true→a=b
 | .bool a,b,h=>by cases b<;>simp_all [D.eqb]
 | .int k n,b,h=>by cases b<;>simp_all [D.eqb]
 | .str l,b,h=>by cases b<;>simp_all [D.eqb]
 | .ptr i o,b,h=>by cases b<;>simp_all [D.eqb]
 | .rptr i v x r,b,h=>by cases b<;>simp_all [D.eqb]
 | .tptr x,b,h=>by
  cases b with
  |tptr y=>simp only [D.eqb] at h;rw [eqbL_eq x y h]
  |_=>simp [D.eqb] at h
 | .nilptr,b,h=>by cases b<;>simp_all [D.eqb]
 | .empty,b,h=>by cases b<;>simp_all [D.eqb]
 | .slice x,b,h=>by
  cases b with
  |slice y=>simp only [D.eqb] at h;rw [eqbL_eq x y h]
  |_=>simp [D.eqb] at h
 | .arr i v o n,b,h=>by cases b<;>simp_all [D.eqb]
 | .map i,b,h=>by cases b<;>simp_all [D.eqb]
 | .nilmap,b,h=>by cases b<;>simp_all [D.eqb]
 | .func f x y,b,h=>by
  cases b with
  |func g u v=>
   simp only [D.eqb,Bool.and_eq_true,beq_iff_eq] at h
   rw [h.1.1,eqbL_eq x u h.1.2,eqbL_eq y v h.2]
  |_=>simp [D.eqb] at h
 | .nilfunc,b,h=>by cases b<;>simp_all [D.eqb]
 | .iface t v,b,h=>by
  cases b with
  |iface u w=>
   simp only [D.eqb,Bool.and_eq_true,beq_iff_eq] at h
   rw [h.1,D.eqb_eq v w h.2]
  |_=>simp [D.eqb] at h
 | .niliface,b,h=>by cases b<;>simp_all [D.eqb]
 | .agg x,b,h=>by
  cases b with
  |agg y=>simp only [D.eqb] at h;rw [eqbL_eq x y h]
  |_=>simp [D.eqb] at h
 | .tuple x,b,h=>by
  cases b with
  |tuple y=>simp only [D.eqb] at h;rw [eqbL_eq x y h]
  |_=>simp [D.eqb] at h
 | .undef,b,h=>by cases b<;>simp_all [D.eqb]
 | .any,b,h=>by simp [D.eqb] at h
theorem eqbL_eq: ∀ (a b:List D),eqbL a b=true→a=b
 | [],[],_=>rfl
 | [],_::_,h=>by simp [eqbL] at h
 |_::_,[],h=>by simp [eqbL] at h
 |x::a,y::b,h=>by
  simp only [eqbL,Bool.and_eq_true] at h
  rw [D.eqb_eq x y h.1,eqbL_eq a b h.2]
end
theorem inner_bits (acc:List Nat): ∀ (l:List Edge) (m k:Nat),
 (l.foldl (fun m e=>if Region.binds .any e then m|||2 ^ e.on|||acc.getD e.on 0 else m) m).testBit k=true→
 m.testBit k=true∨ ∃e ∈ l,Region.binds .any e=true∧(e.on=k∨(acc.getD e.on 0).testBit k=true)
 | [],m,k,h=> .inl h
 |e::l,m,k,h=>by
  simp only [List.foldl_cons] at h
  rcases inner_bits acc l _ k h with h1| ⟨e',he',hb,hr⟩
  ·split at h1
   ·rename_i hb
    simp only [Nat.testBit_or,Bool.or_eq_true,Nat.testBit_two_pow,decide_eq_true_eq] at h1
    rcases h1 with (h1|h1) |h1
    ·exact .inl h1
    ·exact .inr ⟨e,List.mem_cons_self,hb, .inl h1⟩
    ·exact .inr ⟨e,List.mem_cons_self,hb, .inr h1⟩
   ·exact .inl h1
  ·exact .inr ⟨e',List.mem_cons_of_mem _ he',hb,hr⟩
abbrev ancOf (acc:List Nat) (o:Oper):Nat:=o.after.toList.foldl (fun m e=>if Region.binds .any e then m|||2 ^ e.on|||acc.getD e.on 0 else m) 0
theorem ancs_go: ∀ (l:List Oper) (acc:List Nat),
 (l.foldl (init:=acc) fun acc o=>acc++[ancOf acc o]).length=acc.length+l.length∧
 (∀i,i<acc.length→(l.foldl (init:=acc) fun acc o=>acc++[ancOf acc o])[i]? =acc[i]?)∧
 ∀i o,l[i]? =some o→ ∃acc',(∀k,k<acc.length+i→acc'[k]? =(l.foldl (init:=acc) fun acc o=>acc++[ancOf acc o])[k]?)∧acc'.length=acc.length+i∧
  (l.foldl (init:=acc) fun acc o=>acc++[ancOf acc o])[acc.length+i]? =some (ancOf acc' o)
 | [],acc=>⟨rfl,fun _ _=>rfl,fun i o h=>by simp at h⟩
 |o::l,acc=>by
  obtain ⟨h1,h2,h3⟩:=ancs_go l (acc++[ancOf acc o])
  refine ⟨?_,fun i hi=> ?_,fun i o' ho=> ?_⟩
  ·simp only [List.foldl_cons];rw [h1];simp;omega
  ·simp only [List.foldl_cons];rw [h2 i (by simp;omega),List.getElem?_append_left hi]
  ·simp only [List.foldl_cons]
   cases i with
   |zero=>
    simp only [List.getElem?_cons_zero,Option.some.injEq] at ho
    subst ho
    refine ⟨acc,fun k hk=> ?_,rfl, ?_⟩
    ·rw [h2 k (by simp;omega),List.getElem?_append_left (by omega)]
    ·rw [Nat.add_zero,h2 acc.length (by simp)];simp
   |succ i=>
    obtain ⟨acc',a1,a2,a3⟩:=h3 i o' (by simpa using ho)
    simp only [List.length_append,List.length_cons,List.length_nil] at a1 a2 a3
    exact ⟨acc',fun k hk=>a1 k (by omega),by omega,by rw [show acc.length+ (i+1)=acc.length+ (0+1) +i by omega];exact a3⟩
theorem ancs_spec {l:List Oper} {i k:Nat} {o:Oper} (ho:l[i]? =some o) (h: ((ancs l).getD i 0).testBit k=true):
 ∃e ∈ o.after.toList,Region.binds .any e=true∧(e.on=k∨(e.on<i∧((ancs l).getD e.on 0).testBit k=true)):=by
 obtain ⟨_,_,h3⟩:=ancs_go l []
 obtain ⟨acc',a1,a2,a3⟩:=h3 i o ho
 simp only [List.length_nil,Nat.zero_add] at a1 a2 a3
 have he: (ancs l)[i]? =some (ancOf acc' o):=a3
 rw [List.getD_eq_getElem?_getD,he] at h
 rcases inner_bits acc' _ 0 k h with h| ⟨e,he,hb,hr⟩
 ·simp at h
 ·refine ⟨e,he,hb,hr.imp id fun hr=> ?_⟩
  have hlt:e.on<i:=by
   rcases Nat.lt_or_ge e.on i with h|h
   ·exact h
   ·rw [List.getD_eq_getElem?_getD,List.getElem?_eq_none (by omega)] at hr;simp at hr
  refine ⟨hlt, ?_⟩
  rw [List.getD_eq_getElem?_getD,a1 _ hlt] at hr
  rw [List.getD_eq_getElem?_getD]
  exact hr
theorem quiet_stepOp {look:AOpd→D} {σ σ':St} {o:AOp} {nx:Nx} (hq:o.quiet=true) (h:stepOp look σ o=some (nx,σ')):σ'=σ:=by
 cases o<;>simp only [AOp.quiet,Bool.false_eq_true] at hq<;>simp only [stepOp] at h<;>
  first
  | (cases h;rfl)
  | (obtain ⟨_,_,_,rfl⟩:=val_some h;rfl)
  | (repeat' split at h)<;>first| (cases h;done) | (cases h;rfl) | (obtain ⟨_,_,_,rfl⟩:=val_some h;rfl)
theorem enter_quiet {look:AOpd→D} {σ σ':St} {o:AOp} {f:FuncId} {args:List D} (h:stepOp look σ o=some (.enter f args,σ')):o.quiet=false:=by
 cases o<;>first
  |rfl
  | (simp only [stepOp] at h
     first
     | (cases h;done)
     | (obtain ⟨_,_,hh,_⟩:=val_some h;cases hh)
     | (repeat' split at h)<;>first| (cases h;done) | (obtain ⟨_,_,hh,_⟩:=val_some h;cases hh))
theorem yield_quiet {look:AOpd→D} {σ σ':St} {o:AOp} {i:Nat} {args:List D} (h:stepOp look σ o=some (.yield i args,σ')):o.quiet=false∧ ∀f as,o≠ .call (.fn f) as:=by
 by_cases hc: ∃c as,o= .call c as
 ·obtain ⟨c,as,rfl⟩:=hc
  cases c with
  |fn f=>cases h
  |val x=>exact ⟨rfl,fun f as h=>by cases h⟩
 ·refine ⟨?_,fun f as h=>hc ⟨_,_,h⟩⟩
  cases o<;>first
   |rfl
   | (simp only [stepOp] at h
      first
      | (cases h;done)
      | (obtain ⟨_,_,hh,_⟩:=val_some h;cases hh)
      | (repeat' split at h)<;>first| (cases h;done) | (obtain ⟨_,_,hh,_⟩:=val_some h;cases hh))
def ExtOK (ext:FuncId→Bool) (glob:Gl) (callf:CallF):Prop:=
 (∀f args σ r σ',ext f=true→callf (.fn f) args σ=some (r,σ')→ ∃d,r= .ret d∧((d.flat=true∨treeL args=true)→σ'=σ))∧
 ∀f args σ d σ',glob.query f=true→ext f=false→callf (.fn f) args σ=some (.ret d,σ')→σ'=σ
theorem quiet_stepVal {ext:FuncId→Bool} {callf:CallF} {glob:Gl} (hx:ExtOK ext glob callf) {o:AOper} {e:Env} {d:D} {σ σ':St} (hq:quietAt ext glob o.op e d=true)
 (h:stepVal callf glob o e σ=some (.val d,σ')):σ'=σ:=by
 have key:stepGo callf glob o.op e σ=some (.val d,σ')→σ'=σ:=by
  intro h
  unfold stepGo at h
  split at h
  ·rename_i d' σ1 hs
   cases h
   unfold quietAt at hq
   split at hq
   ·rename_i hop
    rw [hop] at hs
    simp only [stepOp] at hs
    cases hs
   ·exact quiet_stepOp hq hs
  ·rename_i σ1 hs
   cases h
   unfold quietAt at hq
   split at hq
   ·rename_i hop
    rw [hop] at hs
    simp only [stepOp] at hs
    cases hs
   ·exact quiet_stepOp hq hs
  ·rename_i f args σ1 hs
   unfold quietAt at hq
   split at hq
   ·rename_i g as hop
    rw [hop] at hs
    simp only [stepOp,Option.some.injEq,Prod.mk.injEq,Nx.enter.injEq] at hs
    obtain ⟨⟨rfl,rfl⟩,rfl⟩:=hs
    simp only [Bool.and_eq_true,Bool.or_eq_true,Bool.not_eq_true'] at hq
    split at h
    ·obtain ⟨_,_,hx'⟩:=Option.map_eq_some_iff.1 h
     cases hx';rfl
    rename_i hnn
    rw [hnn] at hq
    split at h
    ·rename_i d' σ2 hcf
     cases h
     rcases hq with (hq|hq) |hq
     ·simp at hq
     ·exact hx.2 _ _ _ _ _ hq.1 hq.2 hcf
     ·obtain ⟨d2,hd2,hsame⟩:=hx.1 _ _ _ _ _ hq.1 hcf
      cases hd2
      exact hsame hq.2
    ·cases h
    ·cases h
   ·rename_i hne
    exact absurd hq (by rw [enter_quiet hs];simp)
  ·rename_i i args σ1 hs
   obtain ⟨h1,h2⟩:=yield_quiet hs
   unfold quietAt at hq
   split at hq
   ·rename_i g as hop;exact absurd hop (h2 g as)
   ·rw [h1] at hq;cases hq
  ·cases h
  ·cases h
 unfold stepVal at h
 split at h
 ·exact key h
 ·split at h
  ·split at h
   ·exact key h
   ·cases h;rfl
  ·cases h;rfl
  ·cases h
theorem sameAt_some {callf:CallF} {glob:Gl} {o:AOper} {e:Env} {σ:St} {d:D} (h:sameAt callf glob o e σ d=true):
 ∃σ',stepVal callf glob o e σ=some (.val d,σ'):=by
 unfold sameAt at h
 split at h
 ·rename_i d' σ' hs
  rw [D.eqb_eq _ _ h] at hs
  exact ⟨σ',hs⟩
 ·cases h
def Aside (b:Nat):D→Prop
 | .ptr i _| .rptr i _ _ _=>i≠b
 |_=>False
theorem storeD_other {σ σ':St} {size:Nat} {v a:D} {b:Nat} {ob:Obj} (h:storeD σ size v a=some σ') (ha:Aside b a):
 storeD (σ.set b ob) size v a=some (σ'.set b ob)∧σ'[b]? =σ[b]? :=by
 cases a<;>simp only [Aside] at ha
 ·rename_i i off
  have hg: (σ.set b ob)[i]? =σ[i]? :=by rw [List.getElem?_set_ne (Ne.symm ha)]
  simp only [storeD] at h ⊢
  rw [hg]
  split at h
  ·split at h
   ·rename_i hs
    obtain ⟨cs',h1,rfl⟩:=Option.map_eq_some_iff.1 h
    rw [if_pos hs,h1]
    exact ⟨by simp [List.set_comm _ _ ha],by rw [List.getElem?_set_ne ha]⟩
   ·cases h
  ·cases h
 ·rename_i i ver idx r
  have hg: (σ.set b ob)[i]? =σ[i]? :=by rw [List.getElem?_set_ne (Ne.symm ha)]
  simp only [storeD] at h ⊢
  rw [hg]
  split at h
  ·split at h
   ·rename_i hs
    rw [if_pos hs]
    split at h
    ·obtain ⟨cs',h1,rfl⟩:=Option.map_eq_some_iff.1 h
     rw [h1]
     exact ⟨by simp [List.set_comm _ _ ha],by rw [List.getElem?_set_ne ha]⟩
    ·rename_i hns
     split at h
     ·rename_i hr
      cases h
      rw [if_pos hr]
      exact ⟨by simp [List.set_comm _ _ ha],by rw [List.getElem?_set_ne ha]⟩
     ·cases h
    ·cases h
   ·cases h
  ·cases h
structure Ctx where
 callf:CallF
 ext:FuncId→Bool
 glob:Gl
 n:Nat
 os:List AOper
 A:List Nat
 e0:Env
 s0:St
 skip:Nat→Bool:=fun _=>false
namespace Ctx
variable (X:Ctx)
def see (o:AOper) (e:Env):Env:=keepE (some o.reads) e
def step (o:AOper) (e:Env) (σ:St):Option (SV × St):=stepVal X.callf X.glob o e σ
def tr:Nat→Option (Env × St)
 |0=>some (X.e0,X.s0)
 |j+1=>match tr j,X.os[j]? with
  |some (e,σ),some o=>if X.skip j then some (e,σ) else match X.step o (see o e) σ with
   |some (.val d,σ')=>(putE X.n e o.dst d).map fun e'=>(e',σ')
   |_=>none
  |_,_=>none
def E (j:Nat):Env:=((X.tr j).getD ([],[])).1
def S (j:Nat):St:=((X.tr j).getD ([],[])).2
def V (j:Nat):D:=match X.os[j]? with
 |some o=>(match X.step o (see o (X.E j)) (X.S j) with|some (.val d,_)=>d|_=> .any)
 |none=> .any
def q (j:Nat):Bool:=X.skip j||match X.os[j]? with
 |some o=>quietAt X.ext X.glob o.op (see o (X.E j)) (X.V j)
 |none=>true
def bit (i k:Nat):Bool:=(X.A.getD i 0).testBit k
def Fact (i:Nat):Prop:=(X.skip i=true∧X.E (i+1)=X.E i∧X.S (i+1)=X.S i)∨(X.skip i=false∧
 ∃o,X.os[i]? =some o∧X.step o (see o (X.E i)) (X.S i)=some (.val (X.V i),X.S (i+1))∧putE X.n (X.E i) o.dst (X.V i)=some (X.E (i+1))∧
 quietAt X.ext X.glob o.op (see o (X.E i)) (X.V i)=X.q i∧
 (X.q i=true→ ∀k,k<i→X.q k=false→X.bit i k=true∨sameAt X.callf X.glob o (see o (X.E i)) (X.S k) (X.V i)=true)∧
 (X.q i=false→(∀k,k<i→X.q k=false→X.bit i k=true)∧
   ∀i',i'<i→X.q i'=true→X.skip i'=false→X.bit i i'=true∨ ∃o',X.os[i']? =some o'∧sameAt X.callf X.glob o' (see o' (X.E i')) (X.S (i+1)) (X.V i')=true))
def PanicAt (M m:Nat) (d:D) (σ':St):Prop:=
 ∃o,X.os[m]? =some o∧X.step o (see o (X.E m)) (X.S m)=some (.panic d,σ')∧(∀k,k<m→X.q k=false→X.bit m k=true)∧X.tr m=some (X.E m,X.S m)∧
 ∃loud,(∀k,k<m→X.q k=false→(k,X.S k) ∈ loud)∧(runAfter X.callf X.ext X.glob X.n m ((X.os.take M).drop (m+1)) (X.A.drop (m+1)) loud (X.E m) (X.S m)).isSome=true
theorem trace (hsk: ∀i,X.skip i=false) (hA:X.A.length=X.os.length) {fin:Hist→Env→St→Option (Option D × Env × St)} {M:Nat} (hM:M≤X.os.length): ∀ (l:List AOper) (j:Nat) (done:List Done) (loud:List (Nat × St)) (hist:Hist) (e:Env) (σ:St) (r:Option D) (e':Env) (σ':St),l=(X.os.take M).drop j→j≤M→X.tr j=some (e,σ)→
 (∀i,i<j→X.q i=true→ ∃o',X.os[i]? =some o'∧(i,o',see o' (X.E i),X.V i) ∈ done)→(∀k,k<j→X.q k=false→(k,X.S k) ∈ loud)→(∀i,i<j→ ∃o,X.os[i]? =some o∧(i,o,see o (X.E i),X.V i,X.S i) ∈ hist)→
 runDrawn X.callf X.ext X.glob X.n fin j l (X.A.drop j) done loud hist e σ=some (r,e',σ')→
 ((∃hist':Hist,(∀i,i<M→ ∃o,X.os[i]? =some o∧(i,o,see o (X.E i),X.V i,X.S i) ∈ hist')∧fin hist' (X.E M) (X.S M)=some (r,e',σ'))∧(∀i,j≤i→i<M→X.Fact i)∧X.tr M=some (X.E M,X.S M))∨
 (∃d m,r=some d∧j≤m∧m<M∧(∀i,j≤i→i<m→X.Fact i)∧X.PanicAt M m d σ')
 | [],j,done,loud,hist,e,σ,r,e',σ',hl,hj,ht,hdone,hloud,hhist,h=>by
  have hle:M≤j:=by
   have:=congrArg List.length hl
   simp at this;omega
  obtain rfl:j=M:=by omega
  simp only [runDrawn] at h
  have hEM:X.E j=e:=by simp [E,ht]
  have hSM:X.S j=σ:=by simp [S,ht]
  refine .inl ⟨⟨hist,hhist,by rw [hEM,hSM];exact h⟩,fun i h1 h2=>by omega,by rw [hEM,hSM];exact ht⟩
 |o::l,j,done,loud,hist,e,σ,r,e',σ',hl,hj,ht,hdone,hloud,hhist,h=>by
  have hlt:j<M:=by
   have:=congrArg List.length hl
   simp at this;omega
  have hoj:X.os[j]? =some o:=by
   have: ((X.os.take M).drop j)[0]? =some o:=by rw [←hl];rfl
   rw [List.getElem?_drop,Nat.add_zero,List.getElem?_take,if_pos hlt] at this
   exact this
  have hl':l=(X.os.take M).drop (j+1):=by
   have: ((X.os.take M).drop j).tail=l:=by rw [←hl];rfl
   rw [←this,List.tail_drop]
  have hEj:X.E j=e:=by simp [E,ht]
  have hSj:X.S j=σ:=by simp [S,ht]
  have hanc: (X.A.drop j).headD 0=X.A.getD j 0:=by
   rw [List.getD_eq_getElem?_getD,List.headD_eq_head?_getD,List.head?_drop]
  have htail: (X.A.drop j).tail=X.A.drop (j+1):=List.tail_drop
  simp only [runDrawn] at h
  split at h
  ·rename_i d σ1 hs
   split at h
   ·rename_i e1 hput
    have hstep:X.step o (see o (X.E j)) (X.S j)=some (.val d,σ1):=by rw [hEj,hSj];exact hs
    have hV:X.V j=d:=by simp [V,hoj,hstep]
    have ht1:X.tr (j+1)=some (e1,σ1):=by
     rw [hEj,hSj] at hstep
     simp [tr,ht,hoj,hstep,hput,hsk]
    have hE1:X.E (j+1)=e1:=by simp [E,ht1]
    have hS1:X.S (j+1)=σ1:=by simp [S,ht1]
    have hq:X.q j=quietAt X.ext X.glob o.op (see o (X.E j)) (X.V j):=by simp [q,hoj,hsk]
    have hbase:X.step o (see o (X.E j)) (X.S j)=some (.val (X.V j),X.S (j+1)):=by rw [hV,hS1];exact hstep
    have hputf:putE X.n (X.E j) o.dst (X.V j)=some (X.E (j+1)):=by rw [hEj,hV,hE1];exact hput
    have glue:X.Fact j→(((∃hist':Hist,(∀i,i<M→ ∃o,X.os[i]? =some o∧(i,o,see o (X.E i),X.V i,X.S i) ∈ hist')∧fin hist' (X.E M) (X.S M)=some (r,e',σ'))∧(∀i,j+1≤i→i<M→X.Fact i)∧X.tr M=some (X.E M,X.S M))∨
     (∃d m,r=some d∧j+1≤m∧m<M∧(∀i,j+1≤i→i<m→X.Fact i)∧X.PanicAt M m d σ'))→
     (((∃hist':Hist,(∀i,i<M→ ∃o,X.os[i]? =some o∧(i,o,see o (X.E i),X.V i,X.S i) ∈ hist')∧fin hist' (X.E M) (X.S M)=some (r,e',σ'))∧(∀i,j≤i→i<M→X.Fact i)∧X.tr M=some (X.E M,X.S M))∨
     (∃d m,r=some d∧j≤m∧m<M∧(∀i,j≤i→i<m→X.Fact i)∧X.PanicAt M m d σ')):=by
     rintro hf (⟨h1,h2,h3⟩ | ⟨d,m,h1,h2,h3,h4,h5⟩)
     ·refine .inl ⟨h1,fun i hi hi'=> ?_,h3⟩
      rcases Nat.eq_or_lt_of_le hi with rfl|hi
      ·exact hf
      ·exact h2 i hi hi'
     ·refine .inr ⟨d,m,h1,by omega,h3,fun i hi hi'=> ?_,h5⟩
      rcases Nat.eq_or_lt_of_le hi with rfl|hi
      ·exact hf
      ·exact h4 i hi hi'
    have more: ∀i,i<j+1→ ∃o',X.os[i]? =some o'∧(i,o',see o' (X.E i),X.V i,X.S i) ∈ ((j,o,keepE (some o.reads) e,d,σ)::hist):=by
     intro i hi
     rcases Nat.lt_or_ge i j with hlt|hge
     ·obtain ⟨o',h1,h2⟩:=hhist i hlt
      exact ⟨o',h1,List.mem_cons_of_mem _ h2⟩
     ·obtain rfl:i=j:=by omega
      refine ⟨o,hoj, ?_⟩
      rw [hEj,hV,hSj]
      exact List.mem_cons_self
    split at h
    ·rename_i hqa
     have hqj:X.q j=true:=by rw [hq,hEj,hV];exact hqa
     split at h
     ·rename_i hall
      rw [htail] at h
      have hf:X.Fact j:=by
       refine .inr ⟨hsk j,o,hoj,hbase,hputf,hq.symm,fun _ k hk hqk=> ?_,fun hn=>by rw [hqj] at hn;cases hn⟩
       have:=List.all_eq_true.1 hall _ (hloud k hk hqk)
       simp only [Bool.or_eq_true,hanc] at this
       rcases this with h1|h1
       ·exact .inl h1
       ·right;rw [hEj,hV];exact h1
      refine glue hf (trace hsk hA hM l (j+1) _ _ _ _ _ r e' σ' hl' (by omega) ht1 (fun i hi hqi=> ?_) (fun k hk hqk=> ?_) (fun i hi=> ?_) h)
      ·rcases Nat.lt_or_ge i j with hlt|hge
       ·obtain ⟨o',h1,h2⟩:=hdone i hlt hqi
        exact ⟨o',h1,List.mem_cons_of_mem _ h2⟩
       ·obtain rfl:i=j:=by omega
        refine ⟨o,hoj, ?_⟩
        rw [hEj,hV]
        exact List.mem_cons_self
      ·rcases Nat.lt_or_ge k j with hlt|hge
       ·exact hloud k hlt hqk
       ·obtain rfl:k=j:=by omega
        rw [hqj] at hqk;cases hqk
      ·exact more i hi
     ·cases h
    ·rename_i hqa
     have hqj:X.q j=false:=by rw [hq,hEj,hV];exact Bool.eq_false_iff.2 hqa
     split at h
     ·rename_i hall
      rw [htail] at h
      simp only [Bool.and_eq_true] at hall
      have hf:X.Fact j:=by
       refine .inr ⟨hsk j,o,hoj,hbase,hputf,hq.symm,(fun hn=>by rw [hqj] at hn;cases hn),fun _=>⟨fun k hk hqk=> ?_,fun i' hi' hqi _=> ?_⟩⟩
       ·have:=List.all_eq_true.1 hall.1 _ (hloud k hk hqk)
        simp only [hanc] at this
        exact this
       ·obtain ⟨o',h1,h2⟩:=hdone i' hi' hqi
        have:=List.all_eq_true.1 hall.2 _ h2
        simp only [Bool.or_eq_true,hanc] at this
        rcases this with h3|h3
        ·exact .inl h3
        ·right;refine ⟨o',h1, ?_⟩;rw [hS1];exact h3
      refine glue hf (trace hsk hA hM l (j+1) _ _ _ _ _ r e' σ' hl' (by omega) ht1 (fun i hi hqi=> ?_) (fun k hk hqk=> ?_) (fun i hi=> ?_) h)
      ·rcases Nat.lt_or_ge i j with hlt|hge
       ·exact hdone i hlt hqi
       ·obtain rfl:i=j:=by omega
        rw [hqj] at hqi;cases hqi
      ·rcases Nat.lt_or_ge k j with hlt|hge
       ·exact List.mem_cons_of_mem _ (hloud k hlt hqk)
       ·obtain rfl:k=j:=by omega
        rw [hSj]
        exact List.mem_cons_self
      ·exact more i hi
     ·cases h
   ·cases h
  ·rename_i d σ1 hs
   split at h
   ·rename_i hall
    cases h
    simp only [Bool.and_eq_true] at hall
    refine .inr ⟨d,j,rfl,Nat.le_refl _,hlt,fun i h1 h2=>by omega,o,hoj,by rw [hEj,hSj];exact hs,fun k hk hqk=> ?_,by rw [hEj,hSj];exact ht,loud,hloud, ?_⟩
    ·have:=List.all_eq_true.1 hall.1 _ (hloud k hk hqk)
     simp only [hanc] at this
     exact this
    ·rw [hEj,hSj,←hl',←htail]
     exact hall.2
   ·cases h
  ·cases h
theorem Fact.ns {X:Ctx} {i:Nat} (h:X.Fact i) (hs:X.skip i=false):
 ∃o,X.os[i]? =some o∧X.step o (see o (X.E i)) (X.S i)=some (.val (X.V i),X.S (i+1))∧putE X.n (X.E i) o.dst (X.V i)=some (X.E (i+1))∧
 quietAt X.ext X.glob o.op (see o (X.E i)) (X.V i)=X.q i∧
 (X.q i=true→ ∀k,k<i→X.q k=false→X.bit i k=true∨sameAt X.callf X.glob o (see o (X.E i)) (X.S k) (X.V i)=true)∧
 (X.q i=false→(∀k,k<i→X.q k=false→X.bit i k=true)∧
   ∀i',i'<i→X.q i'=true→X.skip i'=false→X.bit i i'=true∨ ∃o',X.os[i']? =some o'∧sameAt X.callf X.glob o' (see o' (X.E i')) (X.S (i+1)) (X.V i')=true):=by
 rcases h with ⟨h,_⟩ | ⟨_,h⟩
 ·rw [hs] at h;cases h
 ·exact h
theorem q_skip {i:Nat} (h:X.q i=false):X.skip i=false:=by
 unfold q at h
 simp only [Bool.or_eq_false_iff] at h
 exact h.1
theorem quiet_S (hx:ExtOK X.ext X.glob X.callf) {i:Nat} (h:X.Fact i) (hq:X.q i=true):X.S (i+1)=X.S i:=by
 rcases h with ⟨_,_,h⟩ | ⟨_,o,h1,h2,h3,h4,_⟩
 ·exact h
 ·exact quiet_stepVal hx (by rw [h4];exact hq) h2
theorem S_same (hx:ExtOK X.ext X.glob X.callf) {m:Nat} (hf: ∀i,i<m→X.Fact i): ∀ (y x:Nat),x≤y→y≤m→(∀k,x≤k→k<y→X.q k=true)→X.S y=X.S x
 |0,x,h1,_,_=>by rw [Nat.le_zero.1 h1]
 |y+1,x,h1,h2,h3=>by
  rcases Nat.eq_or_lt_of_le h1 with rfl|h
  ·rfl
  ·rw [X.quiet_S hx (hf y (by omega)) (h3 y (by omega) (by omega)),S_same hx hf y x (by omega) (by omega) fun k hk hk'=>h3 k hk (by omega)]
def FactE (i:Nat):Prop:=(X.skip i=true∧X.E (i+1)=X.E i)∨(X.skip i=false∧
 ∃o,X.os[i]? =some o∧putE X.n (X.E i) o.dst (X.V i)=some (X.E (i+1))∧quietAt X.ext X.glob o.op (see o (X.E i)) (X.V i)=X.q i)
def FactS (S:Nat→St) (lo i:Nat):Prop:=(X.skip i=true∧S (i+1)=S i)∨(X.skip i=false∧
 ∃o,X.os[i]? =some o∧X.step o (see o (X.E i)) (S i)=some (.val (X.V i),S (i+1))∧putE X.n (X.E i) o.dst (X.V i)=some (X.E (i+1))∧
 quietAt X.ext X.glob o.op (see o (X.E i)) (X.V i)=X.q i∧
 (X.q i=true→ ∀k,lo≤k→k<i→X.q k=false→X.bit i k=true∨sameAt X.callf X.glob o (see o (X.E i)) (S k) (X.V i)=true)∧
 (X.q i=false→(∀k,lo≤k→k<i→X.q k=false→X.bit i k=true)∧
   ∀i',lo≤i'→i'<i→X.q i'=true→X.skip i'=false→X.bit i i'=true∨ ∃o',X.os[i']? =some o'∧sameAt X.callf X.glob o' (see o' (X.E i')) (S (i+1)) (X.V i')=true))
theorem Fact.toE {X:Ctx} {i:Nat} (h:X.Fact i):X.FactE i:=by
 rcases h with ⟨h0,h1,h2⟩ | ⟨h0,o,h1,_,h3,h4,_⟩
 ·exact .inl ⟨h0,h1⟩
 ·exact .inr ⟨h0,o,h1,h3,h4⟩
theorem Fact.toS {X:Ctx} {i:Nat} (h:X.Fact i):X.FactS X.S 0 i:=by
 rcases h with ⟨h0,h1,h2⟩ | ⟨h0,o,h1,h2,h3,h4,h5,h6⟩
 ·exact .inl ⟨h0,h2⟩
 ·exact .inr ⟨h0,o,h1,h2,h3,h4,fun hq k _=>h5 hq k,fun hq=>⟨fun k _=>(h6 hq).1 k,fun i' _=>(h6 hq).2 i'⟩⟩
theorem FactS.ns {X:Ctx} {S:Nat→St} {lo i:Nat} (h:X.FactS S lo i) (hs:X.skip i=false):
 ∃o,X.os[i]? =some o∧X.step o (see o (X.E i)) (S i)=some (.val (X.V i),S (i+1))∧putE X.n (X.E i) o.dst (X.V i)=some (X.E (i+1))∧
 quietAt X.ext X.glob o.op (see o (X.E i)) (X.V i)=X.q i∧
 (X.q i=true→ ∀k,lo≤k→k<i→X.q k=false→X.bit i k=true∨sameAt X.callf X.glob o (see o (X.E i)) (S k) (X.V i)=true)∧
 (X.q i=false→(∀k,lo≤k→k<i→X.q k=false→X.bit i k=true)∧
   ∀i',lo≤i'→i'<i→X.q i'=true→X.skip i'=false→X.bit i i'=true∨ ∃o',X.os[i']? =some o'∧sameAt X.callf X.glob o' (see o' (X.E i')) (S (i+1)) (X.V i')=true):=by
 rcases h with ⟨h,_⟩ | ⟨_,h⟩
 ·rw [hs] at h;cases h
 ·exact h
theorem quiet_SS (hx:ExtOK X.ext X.glob X.callf) {S:Nat→St} {lo i:Nat} (h:X.FactS S lo i) (hq:X.q i=true):S (i+1)=S i:=by
 rcases h with ⟨_,h⟩ | ⟨_,o,h1,h2,h3,h4,_⟩
 ·exact h
 ·exact quiet_stepVal hx (by rw [h4];exact hq) h2
theorem SS_same (hx:ExtOK X.ext X.glob X.callf) {S:Nat→St} {lo m:Nat} (hf: ∀i,lo≤i→i<m→X.FactS S lo i): ∀ (y x:Nat),lo≤x→x≤y→y≤m→(∀k,x≤k→k<y→X.q k=true)→S y=S x
 |0,x,_,h1,_,_=>by rw [Nat.le_zero.1 h1]
 |y+1,x,hlo,h1,h2,h3=>by
  rcases Nat.eq_or_lt_of_le h1 with rfl|h
  ·rfl
  ·rw [X.quiet_SS hx (hf y (by omega) (by omega)) (h3 y (by omega) (by omega)),SS_same hx hf y x hlo (by omega) (by omega) fun k hk hk'=>h3 k hk (by omega)]
def less (m:Nat):Ctx:= {X with skip:=fun i=>i==m|| (decide (m<i)&&X.bit i m)}
theorem less_skip {m i:Nat} (h:i<m): (X.less m).skip i=false:=by
 simp [less];omega
theorem less_tr (hsk: ∀i,X.skip i=false) {m:Nat} : ∀i,i≤m→(X.less m).tr i=X.tr i
 |0,_=>rfl
 |i+1,h=>by
  have h1:=less_tr hsk (m:=m) i (by omega)
  have h2:=X.less_skip (show i<m by omega)
  simp only [tr,h1,h2,hsk]
  rfl
theorem less_E (hsk: ∀i,X.skip i=false) {m i:Nat} (h:i≤m): (X.less m).E i=X.E i:=by simp only [E,X.less_tr hsk i h]
theorem less_S (hsk: ∀i,X.skip i=false) {m i:Nat} (h:i≤m): (X.less m).S i=X.S i:=by simp only [S,X.less_tr hsk i h]
theorem less_V (hsk: ∀i,X.skip i=false) {m i:Nat} (h:i≤m): (X.less m).V i=X.V i:=by
 unfold V
 rw [X.less_E hsk h,X.less_S hsk h]
 rfl
theorem less_q (hsk: ∀i,X.skip i=false) {m i:Nat} (h:i<m): (X.less m).q i=X.q i:=by
 unfold q
 rw [X.less_E hsk (Nat.le_of_lt h),X.less_V hsk (Nat.le_of_lt h),X.less_skip h,hsk]
 rfl
theorem less_fact (hsk: ∀i,X.skip i=false) {m i:Nat} (h:i<m) (hf:X.Fact i): (X.less m).Fact i:=by
 obtain ⟨o,h1,h2,h3,h4,h5,h6⟩:=hf.ns (hsk i)
 refine .inr ⟨X.less_skip h,o,h1, ?_, ?_, ?_, ?_, ?_⟩
 ·rw [X.less_E hsk (by omega),X.less_S hsk (by omega),X.less_S hsk (by omega),X.less_V hsk (by omega)];exact h2
 ·rw [X.less_E hsk (by omega),X.less_E hsk (by omega),X.less_V hsk (by omega)];exact h3
 ·rw [X.less_E hsk (by omega),X.less_V hsk (by omega),X.less_q hsk h];exact h4
 ·intro hq k hk hqk
  rw [X.less_q hsk h] at hq
  rw [X.less_q hsk (by omega)] at hqk
  rw [X.less_E hsk (by omega),X.less_V hsk (by omega),X.less_S hsk (by omega)]
  exact h5 hq k hk hqk
 ·intro hq
  rw [X.less_q hsk h] at hq
  obtain ⟨a1,a2⟩:=h6 hq
  refine ⟨fun k hk hqk=>a1 k hk (by rw [X.less_q hsk (by omega)] at hqk;exact hqk),fun i' hi' hqi _=> ?_⟩
  rw [X.less_q hsk (by omega)] at hqi
  rw [X.less_E hsk (by omega),X.less_V hsk (by omega),X.less_S hsk (by omega)]
  exact a2 i' hi' hqi (hsk i')
theorem less_after (hsk: ∀i,X.skip i=false) (hA:X.A.length=X.os.length) (hx:ExtOK X.ext X.glob X.callf) {M m:Nat} (hM:M≤X.os.length) {loud:List (Nat × St)} (hloud: ∀k,k<m→X.q k=false→(k,X.S k) ∈ loud):
 ∀ (l:List AOper) (i:Nat) (e:Env),l=(X.os.take M).drop i→m<i→i≤M→(X.less m).tr i=some (e,X.S m)→(∀k,m≤k→k<i→(X.less m).q k=true)→
 (runAfter X.callf X.ext X.glob X.n m l (X.A.drop i) loud e (X.S m)).isSome=true→
 (∀k,i≤k→k<M→(X.less m).Fact k)∧(∀k,m≤k→k<M→(X.less m).q k=true)∧(∀k,M≤k→k<X.os.length→X.bit k m=true)∧ ∃e',(X.less m).tr M=some (e',X.S m)
 | [],i,e,hl,hmi,hiM,ht,hqs,h=>by
  have hle:M≤i:=by
   have:=congrArg List.length hl
   simp at this;omega
  obtain rfl:i=M:=by omega
  refine ⟨fun k h1 h2=>by omega,hqs,fun k hk hk'=> ?_,e,ht⟩
  simp only [runAfter] at h
  split at h
  ·rename_i hall
   have hm:X.A.getD k 0 ∈ X.A.drop i:=by
    rw [List.getD_eq_getElem?_getD,List.getElem?_eq_getElem (by omega:k<X.A.length)]
    have: (X.A.drop i)[k - i]? =some X.A[k]:=by
     rw [List.getElem?_drop,show i+ (k - i)=k by omega,List.getElem?_eq_getElem (by omega:k<X.A.length)]
    exact List.mem_of_getElem? this
   exact List.all_eq_true.1 hall _ hm
  ·cases h
 |o::l,i,e,hl,hmi,hiM,ht,hqs,h=>by
  have hlt:i<M:=by
   have:=congrArg List.length hl
   simp at this;omega
  have hoi:X.os[i]? =some o:=by
   have: ((X.os.take M).drop i)[0]? =some o:=by rw [←hl];rfl
   rw [List.getElem?_drop,Nat.add_zero,List.getElem?_take,if_pos hlt] at this
   exact this
  have hl':l=(X.os.take M).drop (i+1):=by
   have: ((X.os.take M).drop i).tail=l:=by rw [←hl];rfl
   rw [←this,List.tail_drop]
  have hanc: (X.A.drop i).headD 0=X.A.getD i 0:=by
   rw [List.getD_eq_getElem?_getD,List.headD_eq_head?_getD,List.head?_drop]
  have htail: (X.A.drop i).tail=X.A.drop (i+1):=List.tail_drop
  have hoi': (X.less m).os[i]? =some o:=hoi
  have hEi: (X.less m).E i=e:=by simp [E,ht]
  have hSi: (X.less m).S i=X.S m:=by simp [S,ht]
  simp only [runAfter,htail,hanc] at h
  have glue: (X.less m).Fact i→((∀k,i+1≤k→k<M→(X.less m).Fact k)∧(∀k,m≤k→k<M→(X.less m).q k=true)∧(∀k,M≤k→k<X.os.length→X.bit k m=true)∧ ∃e',(X.less m).tr M=some (e',X.S m))→
   ((∀k,i≤k→k<M→(X.less m).Fact k)∧(∀k,m≤k→k<M→(X.less m).q k=true)∧(∀k,M≤k→k<X.os.length→X.bit k m=true)∧ ∃e',(X.less m).tr M=some (e',X.S m)):=by
   rintro hf ⟨h1,h2⟩
   refine ⟨fun k hk hk'=> ?_,h2⟩
   rcases Nat.eq_or_lt_of_le hk with rfl|hk
   ·exact hf
   ·exact h1 k hk hk'
  split at h
  ·rename_i hb
   have hs: (X.less m).skip i=true:=by
    simp only [less,Bool.or_eq_true,Bool.and_eq_true,decide_eq_true_eq]
    exact .inr ⟨hmi,hb⟩
   have ht1: (X.less m).tr (i+1)=some (e,X.S m):=by simp only [tr,ht,hoi',hs,if_true]
   refine glue (.inl ⟨hs,by simp [E,ht,ht1],by simp [S,ht,ht1]⟩) (less_after hsk hA hx hM hloud l (i+1) e hl' (by omega) (by omega) ht1 (fun k hk hk'=> ?_) h)
   rcases Nat.eq_or_lt_of_le (Nat.le_of_lt_succ hk') with rfl|hk'
   ·unfold q;rw [hs];rfl
   ·exact hqs k hk hk'
  ·rename_i hb
   have hs: (X.less m).skip i=false:=by
    have hb':X.bit i m=false:=by simpa [bit,hasN] using hb
    simp only [less,hb',Bool.and_false,Bool.or_false,beq_eq_false_iff_ne]
    omega
   split at h
   ·rename_i d σ1 hstep
    split at h
    ·rename_i e1 hput
     split at h
     ·rename_i hc
      simp only [Bool.and_eq_true] at hc
      have hstep': (X.less m).step o (see o e) (X.S m)=some (.val d,σ1):=hstep
      have hσ:σ1=X.S m:=quiet_stepVal hx hc.1 hstep
      have hput':putE (X.less m).n e o.dst d=some e1:=hput
      have ht1: (X.less m).tr (i+1)=some (e1,X.S m):=by
       simp only [tr,ht,hoi',hs,Bool.false_eq_true,if_false,hstep',hput',Option.map_some,hσ]
      have hV: (X.less m).V i=d:=by simp only [V,hoi',hEi,hSi,hstep']
      have hq: (X.less m).q i=true:=by
       unfold q
       rw [hs,hoi',hEi,hV]
       exact hc.1
      have hE1: (X.less m).E (i+1)=e1:=by simp [E,ht1]
      have hS1: (X.less m).S (i+1)=X.S m:=by simp [S,ht1]
      refine glue (.inr ⟨hs,o,hoi', ?_, ?_, ?_,fun _ k hk hqk=> ?_,fun hn=>by rw [hq] at hn;cases hn⟩) (less_after hsk hA hx hM hloud l (i+1) e1 hl' (by omega) (by omega) ht1 (fun k hk hk'=> ?_) h)
      ·rw [hEi,hSi,hV,hS1,hstep',hσ]
      ·rw [hEi,hV,hE1];exact hput
      ·rw [hEi,hV,hq];exact hc.1
      ·have hkm:k<m:=by
        rcases Nat.lt_or_ge k m with h'|h'
        ·exact h'
        ·rw [hqs k h' hk] at hqk;cases hqk
       rw [X.less_q hsk hkm] at hqk
       have:=List.all_eq_true.1 hc.2 _ (hloud k hkm hqk)
       simp only [Bool.or_eq_true] at this
       rw [hEi,hV,X.less_S hsk (Nat.le_of_lt hkm)]
       exact this
      ·rcases Nat.eq_or_lt_of_le (Nat.le_of_lt_succ hk') with rfl|hk'
       ·exact hq
       ·exact hqs k hk hk'
     ·cases h
    ·cases h
   ·cases h
theorem less_all (hsk: ∀i,X.skip i=false) (hA:X.A.length=X.os.length) (hx:ExtOK X.ext X.glob X.callf) {M m:Nat} (hM:M≤X.os.length) (hmM:m<M) (hf: ∀i,i<m→X.Fact i) {d:D} {σ':St} (hp:X.PanicAt M m d σ'):
 (∀k,k<X.os.length→(X.less m).Fact k)∧(∀k,m≤k→k<X.os.length→(X.less m).q k=true)∧
 ∃o,X.os[m]? =some o∧(X.less m).step o (see o ((X.less m).E m)) ((X.less m).S m)=some (.panic d,σ')∧(∀k,k<m→(X.less m).q k=false→X.bit m k=true):=by
 obtain ⟨o,ho,hs,hb,ht,loud,hloud,hrun⟩:=hp
 have hskm: (X.less m).skip m=true:=by simp [less]
 have htm: (X.less m).tr m=some (X.E m,X.S m):=by rw [X.less_tr hsk m (Nat.le_refl _)];exact ht
 have hom: (X.less m).os[m]? =some o:=ho
 have htm1: (X.less m).tr (m+1)=some (X.E m,X.S m):=by simp only [tr,htm,hom,hskm,if_true]
 have hqm: (X.less m).q m=true:=by unfold q;rw [hskm];rfl
 obtain ⟨a1,a2,a3,e',a4⟩:=X.less_after hsk hA hx hM hloud _ (m+1) (X.E m) rfl (by omega) (by omega) htm1 (fun k h1 h2=>by
  obtain rfl:k=m:=by omega
  exact hqm) hrun
 have rest: ∀j k,M+j=k→k≤X.os.length→(X.less m).tr k=some (e',X.S m):=by
  intro j
  induction j with
  |zero=>intro k hk _;rw [←hk];exact a4
  |succ j ih=>
   intro k hk hle
   obtain rfl:k=(M+j) +1:=by omega
   have h1:=ih (M+j) rfl (by omega)
   have hs': (X.less m).skip (M+j)=true:=by
    simp only [less,Bool.or_eq_true,Bool.and_eq_true,decide_eq_true_eq]
    exact .inr ⟨by omega,a3 _ (by omega) (by omega)⟩
   have ho': (X.less m).os[M+j]? =some (X.os[M+j]'(by omega)):=List.getElem?_eq_getElem (by omega:M+j<X.os.length)
   simp only [tr,h1,ho',hs',if_true]
 have skipM: ∀k,M≤k→k<X.os.length→(X.less m).skip k=true:=fun k hk hk'=>by
  simp only [less,Bool.or_eq_true,Bool.and_eq_true,decide_eq_true_eq]
  exact .inr ⟨by omega,a3 _ hk hk'⟩
 refine ⟨fun k hk=> ?_,fun k hk hk'=> ?_,o,ho, ?_,fun k hk hqk=>hb k hk (by rw [X.less_q hsk hk] at hqk;exact hqk)⟩
 ·rcases Nat.lt_trichotomy k m with h|rfl|h
  ·exact X.less_fact hsk h (hf k h)
  ·exact .inl ⟨hskm,by simp [E,htm,htm1],by simp [S,htm,htm1]⟩
  ·rcases Nat.lt_or_ge k M with h'|h'
   ·exact a1 k (by omega) h'
   ·have t1:=rest (k - M) k (by omega) (by omega)
    have t2:=rest (k+1 - M) (k+1) (by omega) (by omega)
    exact .inl ⟨skipM k h' hk,by simp [E,t1,t2],by simp [S,t1,t2]⟩
 ·rcases Nat.lt_or_ge k M with h'|h'
  ·exact a2 k hk h'
  ·unfold q;rw [skipM k h' hk'];rfl
 ·rw [X.less_E hsk (Nat.le_refl _),X.less_S hsk (Nat.le_refl _)];exact hs
theorem putE_get {n:Nat} {e e':Env} {dst:Option Nat} {d:D} (h:putE n e dst d=some e') (t:Nat):getE e' t=if dst=some t then d else getE e t:=by
 cases dst with
 |none=>simp only [putE,Option.some.injEq] at h;subst h;simp
 |some s=>
  simp only [putE] at h
  split at h
  ·simp only [Option.some.injEq] at h
   subst h
   rw [getE_setE]
   simp
  ·cases h
theorem see_get (o:AOper) (e:Env) (t:Nat):getE (see o e) t=if t ∈ o.reads then getE e t else .any:=by
 unfold see keepE
 simp only
 induction o.reads with
 |nil=>rfl
 |cons x l ih=>
  simp only [List.map_cons,getE,ih]
  by_cases h:x=t
  ·subst h;simp
  ·simp [h,Ne.symm h]
end Ctx
end Go.AI
namespace Go.AI
open Go
theorem drawnOk_spec {ops:Array Oper} (h:drawnOk ops=true):
 (∀ (i:Nat) (o:Oper) (e:Edge),ops[i]? =some o→e ∈ o.after→Region.binds .any e=true→e.on<i)∧
 (∀ (i j:Nat) (o p:Oper) (d:Tmp),ops[i]? =some o→ops[j]? =some p→i≠j→o.dst=some d→
   p.dst≠some d∧(d ∉ p.looksAt ops∨((ancs ops.toList).getD j 0).testBit i=true∨((ancs ops.toList).getD i 0).testBit j=true)):=by
 unfold drawnOk at h
 simp only [Bool.and_eq_true] at h
 obtain ⟨⟨_,h1⟩,h2⟩:=h
 have mem: ∀ (i:Nat) (o:Oper),ops[i]? =some o→(o,i) ∈ ops.toList.zipIdx:=fun i o ho=>by
  rw [List.mem_zipIdx_iff_getElem?]
  simpa using ho
 constructor
 ·intro i o e ho he hb
  have:=List.all_eq_true.1 h1 _ (mem i o ho)
  simp only at this
  have:=Array.all_eq_true_iff_forall_mem.1 this e he
  simpa [hb] using this
 ·intro i j o p d ho hp hij hd
  have:=List.all_eq_true.1 h2 _ (mem i o ho)
  have:=List.all_eq_true.1 this _ (mem j p hp)
  simp only [hd,Bool.or_eq_true,beq_iff_eq,hij,false_or,Bool.and_eq_true,bne_iff_ne,ne_eq,Bool.not_eq_true'] at this
  refine ⟨this.1, ?_⟩
  rcases this.2 with (h|h) |h
  ·left
   intro hm
   have: (p.looksAt ops).contains d=true:=by simpa using hm
   rw [h] at this;cases this
  ·exact .inr (.inl h)
  ·exact .inr (.inr h)
theorem anc_lt {ops:Array Oper} (h:drawnOk ops=true) (x:Nat):x<ops.size→ ∀k,((ancs ops.toList).getD x 0).testBit k=true→k<x:=by
 induction x using Nat.strongRecOn with
 |_ x ih=>
  intro hx k hk
  have hox:ops[x]? =some ops[x]:=Array.getElem?_eq_getElem hx
  obtain ⟨e,he,hbi,hh⟩:=ancs_spec (l:=ops.toList) (i:=x) (o:=ops[x]) (by rw [Array.getElem?_toList];exact hox) hk
  have hlt:=(drawnOk_spec h).1 x _ e hox (Array.mem_toList_iff.1 he) hbi
  rcases hh with rfl| ⟨_,hh⟩
  ·exact hlt
  ·exact Nat.lt_trans (ih e.on hlt (by omega) k hh) hlt
section
variable {P:Program} (X:Ctx) {ops:Array Oper} {acc:Nat→Bool} {ρ0:Ren} {W0:World} {ds:List Deferred}
structure Reg (P:Program) (X:Ctx) (ops:Array Oper) (acc:Nat→Bool):Prop where
 os:ops.toList.mapM (cOper P acc true ops)=some X.os
 A:X.A=ancs ops.toList
 ok:drawnOk ops=true
 call:CallOK P X.glob X.callf
 ext:ExtOK X.ext X.glob X.callf
variable {X}
variable {S:Nat→St} {lo:Nat} {ex:Nat→Prop}
theorem Reg.op (G:Reg P X ops acc) {i:Nat} {ao:AOper} (h:X.os[i]? =some ao): ∃o,ops[i]? =some o∧cOper P acc true ops o=some ao:=by
 obtain ⟨h1,h2⟩:=mapM_some G.os
 have hi:i<ops.toList.length:=by rw [←h1];exact (List.getElem?_eq_some_iff.1 h).1
 obtain ⟨y,hy,hy'⟩:=h2 i _ (List.getElem?_eq_getElem hi)
 rw [h] at hy'
 cases hy'
 exact ⟨ops.toList[i],by rw [←Array.getElem?_toList];exact List.getElem?_eq_getElem hi,hy⟩
theorem Reg.size (G:Reg P X ops acc):X.os.length=ops.size:=by
 rw [(mapM_some G.os).1];simp
theorem Reg.Alen (G:Reg P X ops acc):X.A.length=X.os.length:=by
 rw [G.size,G.A]
 have:=(ancs_go ops.toList []).1
 simpa [ancs] using this
theorem Reg.less (G:Reg P X ops acc) (m:Nat):Reg P (X.less m) ops acc:=⟨G.os,G.A,G.ok,G.call,G.ext⟩
theorem Reg.Eval (G:Reg P X ops acc) {m:Nat} (hf: ∀i,i<m→X.FactE i) (t:Nat): ∀i,i≤m→
 (∀ (j:Nat) (o:Oper),j<i→X.skip j=false→ops[j]? =some o→o.dst=some t→getE (X.E i) t=X.V j)∧
 ((∀ (j:Nat) (o:Oper),j<i→X.skip j=false→ops[j]? =some o→o.dst≠some t)→getE (X.E i) t=getE X.e0 t)
 |0,_=>⟨fun j o h=>by omega,fun _=>by simp [Ctx.E,Ctx.tr]⟩
 |i+1,hi=>by
  obtain ⟨h1,h2⟩:=G.Eval hf t i (by omega)
  rcases hf i (by omega) with ⟨hs,hE⟩ | ⟨hs,ao,hao,hput,_⟩
  ·rw [hE]
   refine ⟨fun j p hj hsj hp hd=> ?_,fun hn=>h2 fun j p hj hsj hp=>hn j p (by omega) hsj hp⟩
   rcases Nat.eq_or_lt_of_le (Nat.le_of_lt_succ hj) with rfl|hlt
   ·rw [hs] at hsj;cases hsj
   ·exact h1 j p hlt hsj hp hd
  obtain ⟨o,ho,hc⟩:=G.op hao
  have hdst:=(cOper_some hc).2.1
  have hget:=Ctx.putE_get hput t
  rw [hdst] at hget
  constructor
  ·intro j p hj hsj hp hd
   rcases Nat.eq_or_lt_of_le (Nat.le_of_lt_succ hj) with rfl|hlt
   ·rw [ho] at hp;cases hp
    rw [hget,if_pos hd]
   ·rw [hget,if_neg ((drawnOk_spec G.ok).2 j i p o t hp ho (by omega) hd).1]
    exact h1 j p hlt hsj hp hd
  ·intro hn
   rw [hget,if_neg (hn i o (by omega) hs ho)]
   exact h2 fun j p hj hsj hp=>hn j p (by omega) hsj hp
structure Inv (P:Program) (X:Ctx) (S:Nat→St) (lo:Nat) (ex:Nat→Prop) (ops:Array Oper) (ρ0:Ren) (W0:World) (ds:List Deferred) (m:Nat) (listed:Array Bool) (a:Act) (w:World):Prop where
 size:listed.size=ops.size
 ns: ∀j,listed.getD j false=true→X.skip j=false∨ex j
 lt: ∀j,listed.getD j false=true→j<m∨ex j
 low: ∀j,j<lo→listed.getD j false=true
 closed: ∀j k,listed.getD j false=true→X.bit j k=true→listed.getD k false=true
 st: ∃ρ p,Later ρ0 W0 ρ w∧Rel ρ w (S p)∧lo≤p∧p≤m∧(∀k,lo≤k→k<m→X.q k=false→(listed.getD k false=true↔k<p))∧
  (∀ (j:Nat) (o:Oper) (t:Tmp),listed.getD j false=true→ops[j]? =some o→o.dst=some t→R ρ w (X.V j) (a.tmps.getD t undef))∧
  (∀t,(∀ (j:Nat) (o:Oper),listed.getD j false=true→ops[j]? =some o→o.dst≠some t)→R ρ w (getE X.e0 t) (a.tmps.getD t undef))
 tmps:a.tmps.size=X.n
 defers:a.defers=ds
theorem getD_set (listed:Array Bool) (i j:Nat) (hi:i<listed.size): (listed.setIfInBounds i true).getD j false=true↔(j=i∨listed.getD j false=true):=by
 by_cases h:i=j
 ·subst h;simp [hi]
 ·rw [getD_set_ne false h]
  constructor
  ·exact .inr
  ·rintro (rfl|h1)
   ·exact absurd rfl h
   ·exact h1
theorem Reg.anc_listed (G:Reg P X ops acc) {m:Nat} {listed:Array Bool} {a:Act} {w:World} (hI:Inv P X S lo ex ops ρ0 W0 ds m listed a w) {i:Nat} (hr:i ∈ Region.ready .any ops listed) (k:Nat) (hb:X.bit i k=true):
 listed.getD k false=true:=by
 obtain ⟨_,o,ho,hall⟩:=mem_ready.1 hr
 unfold Ctx.bit at hb
 rw [G.A] at hb
 obtain ⟨e,he,hbi,h⟩:=ancs_spec (by simpa using ho) hb
 have he':e ∈ o.after:=Array.mem_toList_iff.1 he
 have:=hall e he' hbi
 rcases h with rfl| ⟨_,h⟩
 ·exact this
 ·exact hI.closed e.on k this (by unfold Ctx.bit;rw [G.A];exact h)
theorem ready_not {i:Nat} {listed:Array Bool} (hr:i ∈ Region.ready .any ops listed):listed.getD i false=false∧i<listed.size:=by
 have h:=(mem_ready.1 hr).1
 have hlt:i<listed.size:=by
  rcases Nat.lt_or_ge i listed.size with h'|h'
  ·exact h'
  ·simp [Array.getElem?_eq_none h'] at h
 refine ⟨?_,hlt⟩
 simp [hlt] at h ⊢
 exact h
theorem Reg.sees (G:Reg P X ops acc) {m:Nat} (hf: ∀i,i<m→X.FactE i) {listed:Array Bool} {a:Act} {w:World} (hI:Inv P X S lo ex ops ρ0 W0 ds m listed a w) {i:Nat} (hr:i ∈ Region.ready .any ops listed) (him:i≤m) (hns: ∀j,j<i→listed.getD j false=true→X.skip j=false)
 {o:Oper} {ao:AOper} (ho:ops[i]? =some o) (hc:cOper P acc true ops o=some ao) {ρ:Ren}
 (v1: ∀ (j:Nat) (o:Oper) (t:Tmp),listed.getD j false=true→ops[j]? =some o→o.dst=some t→R ρ w (X.V j) (a.tmps.getD t undef))
 (v2: ∀t,(∀ (j:Nat) (o:Oper),listed.getD j false=true→ops[j]? =some o→o.dst≠some t)→R ρ w (getE X.e0 t) (a.tmps.getD t undef)):
 RE ρ w (Ctx.see ao (X.E i)) a.tmps:=by
 intro t
 rw [Ctx.see_get]
 split
 ·rename_i hmem
  rw [(cOper_some hc).2.2.1,if_pos rfl] at hmem
  obtain ⟨e1,e2⟩:=G.Eval hf t i him
  have hnot:=(ready_not hr).1
  by_cases hw: ∃ (j:Nat) (p:Oper),ops[j]? =some p∧p.dst=some t
  ·obtain ⟨j,p,hp,hd⟩:=hw
   have only: ∀ (k:Nat) (p':Oper),ops[k]? =some p'→p'.dst=some t→k=j:=fun k p' hk hd'=>by
    rcases Nat.decEq k j with h|h
    ·exact absurd hd' ((drawnOk_spec G.ok).2 j k p p' t hp hk (Ne.symm h) hd).1
    ·exact h
   have notbefore: ¬j<i→listed.getD j false=false→R ρ w (getE (X.E i) t) (a.tmps.getD t undef):=fun hge hnl=>by
    rw [e2 fun k p' hk _ hp' hd'=>hge (only k p' hp' hd' ▸ hk)]
    exact v2 t fun k p' hk hp' hd'=>by rw [only k p' hp' hd',hnl] at hk;cases hk
   by_cases hji:j=i
   ·subst hji
    exact notbefore (Nat.lt_irrefl _) hnot
   ·rcases ((drawnOk_spec G.ok).2 j i p o t hp ho hji hd).2 with h|h|h
    ·exact absurd hmem h
    ·have hl:=G.anc_listed hI hr j (by unfold Ctx.bit;rw [G.A];exact h)
     have hlt:j<i:=by
      rcases Nat.lt_or_ge j i with h'|h'
      ·exact h'
      ·exfalso
       have:=anc_lt G.ok i (Array.getElem?_eq_some_iff.1 ho).1 j h
       omega
     rw [e1 j p hlt (hns j hlt hl) hp hd]
     exact v1 j p t hl hp hd
    ·
     have hnl:listed.getD j false=false:=by
      cases hq:listed.getD j false with
      |false=>rfl
      |true=>
       have:=hI.closed j i hq (by unfold Ctx.bit;rw [G.A];exact h)
       rw [hnot] at this;cases this
     by_cases hlt:j<i
     ·
      exfalso
      have:=anc_lt G.ok j (Array.getElem?_eq_some_iff.1 hp).1 i h
      omega
     ·exact notbefore hlt hnl
  ·have hno: ∀ (j:Nat) (p:Oper),ops[j]? =some p→p.dst≠some t:=fun j p hp hd=>hw ⟨j,p,hp,hd⟩
   rw [e2 fun j p _ _ hp=>hno j p hp]
   exact v2 t fun j p _ hp=>hno j p hp
 ·exact .any _
theorem Reg.found (G:Reg P X ops acc) {m:Nat} (hf: ∀i,lo≤i→i<m→X.FactS S lo i) {listed:Array Bool} {a:Act} {w:World} (hI:Inv P X S lo ex ops ρ0 W0 ds m listed a w) {i:Nat} (hr:i ∈ Region.ready .any ops listed) (him:i≤m)
 {p:Nat} (hlp:lo≤p) (hp:p≤m) (hloud: ∀k,lo≤k→k<m→X.q k=false→(listed.getD k false=true↔k<p)) (hbefore: ∀k,lo≤k→k<i→X.q k=false→X.bit i k=true) (hqi:i<m→X.q i=false):S p=S i:=by
 have hnot:=(ready_not hr).1
 have hli:lo≤i:=by
  rcases Nat.lt_or_ge i lo with h|h
  ·rw [hI.low i h] at hnot;cases hnot
  ·exact h
 rcases Nat.le_total p i with h|h
 ·refine (X.SS_same G.ext hf i p hlp h him fun k hk hk'=> ?_).symm
  cases hq:X.q k with
  |true=>rfl
  |false=>
   have:=(hloud k (by omega) (by omega) hq).1 (G.anc_listed hI hr k (hbefore k (by omega) hk' hq))
   omega
 ·refine X.SS_same G.ext hf p i hli h hp fun k hk hk'=> ?_
  cases hq:X.q k with
  |true=>rfl
  |false=>
   have hl:=(hloud k (by omega) (by omega) hq).2 hk'
   rcases Nat.eq_or_lt_of_le hk with rfl|hik
   ·rw [hnot] at hl;cases hl
   ·obtain ⟨_,_,_,_,_,_,hB⟩:=(hf k (by omega) (by omega)).ns (X.q_skip hq)
    have:=hI.closed k i hl ((hB hq).1 i hli hik (hqi (by omega)))
    rw [hnot] at this;cases this
theorem Reg.one (G:Reg P X ops acc) {m:Nat} (hfe: ∀i,i<m→X.FactE i) (hf: ∀i,lo≤i→i<m→X.FactS S lo i) {listed:Array Bool} {a:Act} {w:World} (hG:GlobR ρ0 W0 X.glob) (hcd:ρ0.code=codeP P) {ro:Option Nat} (hI:Inv P X S lo ex ops ρ0 W0 ds m listed a w) {Q:Exit→Act→World→Prop}
 {i:Nat} (hr:i ∈ Region.ready .any ops listed) (him:i<m) (hnsi:X.skip i=false) (hns: ∀j,j<i→listed.getD j false=true→X.skip j=false):wpOpIn (FR ro) 0 P ops Q i (Inv P X S lo ex ops ρ0 W0 ds m (listed.setIfInBounds i true)) a w:=by
 obtain ⟨hnot,hsz⟩:=ready_not hr
 have hli:lo≤i:=by
  rcases Nat.lt_or_ge i lo with h|h
  ·rw [hI.low i h] at hnot;cases hnot
  ·exact h
 obtain ⟨ao,hao,hstep,hput,hqa,hquiet,hloudf⟩:=(hf i hli him).ns hnsi
 obtain ⟨o,ho,hc⟩:=G.op hao
 obtain ⟨ρ,p,L,hR,hlp,hp,hloud,v1,v2⟩:=hI.st
 have hE:=G.sees hfe hI hr (Nat.le_of_lt him) hns ho hc v1 v2
 have hdst:=(cOper_some hc).2.1
 have hval: ∃p',p'≤m∧X.step ao (Ctx.see ao (X.E i)) (S p)=some (.val (X.V i),S p')∧lo≤p'∧(∀k,lo≤k→k<m→X.q k=false→((k=i∨listed.getD k false=true)↔k<p')):=by
  cases hq:X.q i with
  |false=>
   have hb:=(hloudf hq).1
   refine ⟨i+1,by omega, ?_,by omega,fun k hlk hk hqk=> ?_⟩
   ·rw [G.found hf hI hr (Nat.le_of_lt him) hlp hp hloud hb (fun _=>hq)]
    exact hstep
   ·constructor
    ·rintro (rfl|h)
     ·omega
     ·rcases Nat.lt_or_ge i k with hik|hik
      ·obtain ⟨_,_,_,_,_,_,hB⟩:=(hf k hlk hk).ns (X.q_skip hqk)
       have:=hI.closed k i h ((hB hqk).1 i hli hik hq)
       rw [hnot] at this;cases this
      ·omega
    ·intro hlt
     rcases Nat.eq_or_lt_of_le (Nat.le_of_lt_succ hlt) with rfl|h
     ·exact .inl rfl
     ·exact .inr (G.anc_listed hI hr k (hb k hlk h hqk))
  |true=>
   have hq':quietAt X.ext X.glob ao.op (Ctx.see ao (X.E i)) (X.V i)=true:=by rw [hqa];exact hq
   have hbase:X.step ao (Ctx.see ao (X.E i)) (S i)=some (.val (X.V i),S i):=by
    rw [hstep,X.quiet_SS G.ext (hf i hli him) hq]
   have fin: ∀y,sameAt X.callf X.glob ao (Ctx.see ao (X.E i)) (S y) (X.V i)=true→X.step ao (Ctx.see ao (X.E i)) (S y)=some (.val (X.V i),S y):=fun y hy=>by
    obtain ⟨σ',hs⟩:=sameAt_some hy
    have:=quiet_stepVal G.ext hq' hs
    rw [this] at hs
    exact hs
   have down: ∀d y,y+d=i→p≤y→X.step ao (Ctx.see ao (X.E i)) (S y)=some (.val (X.V i),S y):=by
    intro d
    induction d with
    |zero=>intro y hy _;rw [show y=i by omega];exact hbase
    |succ d ih=>
     intro y hy hpy
     cases hqy:X.q y with
     |true=>
      have h1:=ih (y+1) (by omega) (by omega)
      rw [X.quiet_SS G.ext (hf y (by omega) (by omega)) hqy] at h1
      exact h1
     |false=>
      rcases hquiet hq y (by omega) (by omega) hqy with hb|hsame
      ·have:=(hloud y (by omega) (by omega) hqy).1 (G.anc_listed hI hr y hb)
       omega
      ·exact fin y hsame
   have up: ∀d,i+1+d≤p→X.step ao (Ctx.see ao (X.E i)) (S (i+1+d))=some (.val (X.V i),S (i+1+d)):=by
    intro d
    induction d with
    |zero=>intro _;rw [Nat.add_zero,X.quiet_SS G.ext (hf i hli him) hq];exact hbase
    |succ d ih=>
     intro hle
     have h1:=ih (by omega)
     cases hqy:X.q (i+1+d) with
     |true=>
      rw [show i+1+ (d+1)=i+1+d+1 by omega,X.quiet_SS G.ext (hf (i+1+d) (by omega) (by omega)) hqy]
      exact h1
     |false=>
      obtain ⟨_,_,_,_,_,_,hB⟩:=(hf (i+1+d) (by omega) (by omega)).ns (X.q_skip hqy)
      have hl:=(hloud (i+1+d) (by omega) (by omega) hqy).2 (by omega)
      rcases (hB hqy).2 i hli (by omega) hq hnsi with hb| ⟨o',ho',hsame⟩
      ·have:=hI.closed _ i hl hb
       rw [hnot] at this;cases this
      ·rw [hao] at ho';cases ho'
       exact fin _ hsame
   refine ⟨p,hp, ?_,hlp,fun k hlk hk hqk=> ?_⟩
   ·rcases Nat.le_total p i with h|h
    ·exact down (i - p) p (by omega) (Nat.le_refl _)
    ·rcases Nat.eq_or_lt_of_le h with rfl|h
     ·exact hbase
     ·have:=up (p - (i+1)) (by omega)
      rw [show i+1+ (p - (i+1))=p by omega] at this
      exact this
   ·rw [←hloud k hlk hk hqk]
    constructor
    ·rintro (rfl|h)
     ·rw [hq] at hqk;cases hqk
     ·exact h
    ·exact .inr
 obtain ⟨p',hp',hval,hlp',hloud'⟩:=hval
 refine oper_sound G.call hR hE (hG.later L) (L.code.trans hcd) hc ho hval (fun ρ' W' v d hd L' hR' hr'=> ?_) (fun ρ' W' v d hd=>by cases hd)
 cases hd
 refine ⟨by simpa using hI.size,fun j hj=> ?_,fun j hj=> ?_,fun j hj=>(getD_set listed i j hsz).2 (.inr (hI.low j hj)),fun j k hj hb=> ?_,⟨ρ',p',L.trans L',hR',hlp',hp',fun k hlk hk hqk=> ?_,fun j o' t hj ho' hd'=> ?_,fun t ht=> ?_⟩, ?_, ?_⟩
 ·rcases (getD_set listed i j hsz).1 hj with rfl|h
  ·exact .inl hnsi
  ·exact hI.ns j h
 ·rcases (getD_set listed i j hsz).1 hj with rfl|h
  ·exact .inl him
  ·exact hI.lt j h
 ·refine (getD_set listed i k hsz).2 (.inr ?_)
  rcases (getD_set listed i j hsz).1 hj with rfl|h
  ·exact G.anc_listed hI hr k hb
  ·exact hI.closed j k h hb
 ·rw [getD_set listed i k hsz];exact hloud' k hlk hk hqk
 ·rcases (getD_set listed i j hsz).1 hj with rfl|h
  ·rw [ho] at ho';cases ho'
   have hlt:t<a.tmps.size:=by
    rw [hI.tmps]
    rw [hdst,hd'] at hput
    simp only [putE] at hput
    split at hput
    ·assumption
    ·cases hput
   have: (a.put o.dst v).tmps.getD t undef=v:=by
    simp [Act.put,hd',Array.getD_eq_getD_getElem?,hlt]
   rw [this];exact hr'
  ·have hne:o.dst≠some t:=by
    intro hdo
    by_cases hji:j=i
    ·subst hji;rw [hnot] at h;cases h
    ·exact ((drawnOk_spec G.ok).2 j i o' o t ho' ho hji hd').1 hdo
   have: (a.put o.dst v).tmps.getD t undef=a.tmps.getD t undef:=by
    cases hd2:o.dst with
    |none=>rfl
    |some s=>
     have:s≠t:=fun h=>hne (by rw [hd2,h])
     simp [Act.put,Array.getD_eq_getD_getElem?,this]
   rw [this];exact (v1 j o' t h ho' hd').later L'
 ·have hne:o.dst≠some t:=ht i o ((getD_set listed i i hsz).2 (.inl rfl)) ho
  have: (a.put o.dst v).tmps.getD t undef=a.tmps.getD t undef:=by
   cases hd2:o.dst with
   |none=>rfl
   |some s=>
    have:s≠t:=fun h=>hne (by rw [hd2,h])
    simp [Act.put,Array.getD_eq_getD_getElem?,this]
  rw [this]
  exact (v2 t fun j o' hj ho'=>ht j o' ((getD_set listed i j hsz).2 (.inr hj)) ho').later L'
 ·cases o.dst<;>simp [Act.put,hI.tmps]
 ·cases o.dst<;>simp [Act.put,hI.defers]
theorem all_listed (hd:drawnOk ops=true) {listed:Array Bool} (hsize:listed.size=ops.size) (h:Region.ready .any ops listed=[]) (j:Nat):j<ops.size→listed.getD j false=true:=by
 induction j using Nat.strongRecOn with
 |_ j ih=>
  intro hj
  cases hl:listed.getD j false with
  |true=>rfl
  |false=>
   have:j ∈ Region.ready .any ops listed:=by
    rw [mem_ready]
    refine ⟨?_,ops[j],Array.getElem?_eq_getElem hj,fun e he hb=> ?_⟩
    ·have hlt:j<listed.size:=by omega
     simp [hlt] at hl ⊢
     exact hl
    ·have hlt:=(drawnOk_spec hd).1 j _ e (Array.getElem?_eq_getElem hj) he hb
     exact ih e.on hlt (by omega)
   rw [h] at this;cases this
theorem count_set {listed:Array Bool} {i:Nat} (hi:i<listed.size) (h:listed.getD i false=false):
 (listed.setIfInBounds i true).toList.countP (!·) +1=listed.toList.countP (!·):=by
 obtain ⟨l⟩:=listed
 simp only [List.size_toArray] at hi
 have hg:l[i]=false:=by simpa [hi] using h
 simp only [List.setIfInBounds_toArray]
 have hp:0<l.countP (!·):=List.countP_pos_iff.2 ⟨l[i],List.getElem_mem hi,by simp [hg]⟩
 rw [List.countP_set hi]
 simp [hg]
 omega
theorem Reg.core (G:Reg P X ops acc) {r:Option D} {e':Env} {σ':St} (hG:GlobR ρ0 W0 X.glob) (hcd:ρ0.code=codeP P) {ro:Option Nat}
 (hf: ∀i,i<X.os.length→X.Fact i)
 (hend: ((∀i,X.skip i=false)∧r=none∧X.tr X.os.length=some (e',σ'))∨
   (∃d m,r=some d∧m<X.os.length∧(∀i,X.skip i=true→i=m∨(m<i∧X.bit i m=true))∧X.skip m=true∧(∀k,m≤k→k<X.os.length→X.q k=true)∧
     ∃o,X.os[m]? =some o∧X.step o (Ctx.see o (X.E m)) (X.S m)=some (.panic d,σ')∧(∀k,k<m→X.q k=false→X.bit m k=true))) {Q:Exit→Act→World→Prop}
 (hK:r=none→ ∀ρ' W' a',Later ρ0 W0 ρ' W'→Rel ρ' W' σ'→RE ρ' W' e' a'.tmps→a'.tmps.size=X.n→a'.defers=ds→Q .normal a' W')
 (hQ: ∀d,r=some d→ ∀ρ' W' a' v,Later ρ0 W0 ρ' W'→Rel ρ' W' σ'→R ρ' W' d v→a'.tmps.size=X.n→a'.defers=ds→Q (.panic [{v,recovered:=false}]) a' W')
 {a:Act} {w:World} (L:Later ρ0 W0 ρ0 w) (hR:Rel ρ0 w X.s0) (hE:RE ρ0 w X.e0 a.tmps) (hn:a.tmps.size=X.n) (hdf:a.defers=ds):
 wpAnyIn (FR ro) 0 P .any ops Q ops.size (Array.replicate ops.size false) a w:=by
 have hfe: ∀i,i<X.os.length→X.FactE i:=fun i hi=>(hf i hi).toE
 have hfs: ∀i,0≤i→i<X.os.length→X.FactS X.S 0 i:=fun i _ hi=>(hf i hi).toS
 have hI0:Inv P X X.S 0 (fun _=>False) ops ρ0 W0 ds X.os.length (Array.replicate ops.size false) a w:=by
  have no: ∀j,(Array.replicate ops.size false).getD j false=false:=fun j=>by
   simp [Array.getD_eq_getD_getElem?,Array.getElem?_replicate]
   split<;>rfl
  refine ⟨by simp,fun j h=>(by rw [no] at h;cases h),fun j h=>(by rw [no] at h;cases h),fun j h=>(by omega),fun j k h=>(by rw [no] at h;cases h),⟨ρ0,0,L,by simpa [Ctx.S,Ctx.tr] using hR,Nat.le_refl _,Nat.zero_le _,fun k _ _ _=>⟨fun h=>(by rw [no] at h;cases h),fun h=>by omega⟩,
   fun j o t h=>(by rw [no] at h;cases h),fun t _=>hE t⟩,hn,hdf⟩
 have nsOf: ∀ {listed:Array Bool} {a:Act} {w:World},Inv P X X.S 0 (fun _=>False) ops ρ0 W0 ds X.os.length listed a w→ ∀j,listed.getD j false=true→X.skip j=false:=fun hI j hj=>(hI.ns j hj).resolve_right id
 have main: ∀fuel listed a w,Inv P X X.S 0 (fun _=>False) ops ρ0 W0 ds X.os.length listed a w→listed.toList.countP (!·)≤fuel→wpAnyIn (FR ro) 0 P .any ops Q fuel listed a w:=by
  have stop: ∀listed a w,Inv P X X.S 0 (fun _=>False) ops ρ0 W0 ds X.os.length listed a w→Region.ready .any ops listed=[]→Q .normal a w:=by
   intro listed a w hI hr
   have hall:=all_listed G.ok hI.size hr
   obtain ⟨ρ,p,L',hR',hlp,hp,hloud,v1,v2⟩:=hI.st
   rcases hend with ⟨hsk,hr0,htr⟩ | ⟨d,m,_,hlt,_,hskm,_⟩
   ·refine hK hr0 ρ w a L' ?_ (fun t=> ?_) hI.tmps hI.defers
    ·have:X.S X.os.length=σ':=by simp [Ctx.S,htr]
     rw [←this]
     rw [X.S_same G.ext hf X.os.length p hp (Nat.le_refl _) fun k hk hk'=> ?_]
     ·exact hR'
     ·cases hq:X.q k with
      |true=>rfl
      |false=>
       have:=(hloud k (Nat.zero_le _) hk' hq).1 (hall k (by rw [←G.size];exact hk'))
       omega
    ·obtain ⟨e1,e2⟩:=G.Eval hfe t X.os.length (Nat.le_refl _)
     have hEe:X.E X.os.length=e':=by simp [Ctx.E,htr]
     rw [hEe] at e1 e2
     by_cases hw: ∃ (j:Nat) (p:Oper),ops[j]? =some p∧p.dst=some t
     ·obtain ⟨j,p,hp',hd⟩:=hw
      have hj:j<ops.size:=(Array.getElem?_eq_some_iff.1 hp').1
      rw [e1 j p (by rw [G.size];exact hj) (hsk j) hp' hd]
      exact v1 j p t (hall j hj) hp' hd
     ·have hno: ∀ (j:Nat) (p:Oper),ops[j]? =some p→p.dst≠some t:=fun j p hp hd=>hw ⟨j,p,hp,hd⟩
      rw [e2 fun j p _ _ hp=>hno j p hp]
      exact v2 t fun j p _ hp=>hno j p hp
   ·have:=nsOf hI m (hall m (by rw [←G.size];exact hlt))
    rw [hskm] at this;cases this
  intro fuel
  induction fuel with
  |zero=>
   intro listed a w hI hc
   have hr:Region.ready .any ops listed=[]:=by
    cases hrr:Region.ready .any ops listed with
    |nil=>rfl
    |cons i l=>
     obtain ⟨h1,h2⟩:=ready_not (i:=i) (listed:=listed) (ops:=ops) (by rw [hrr];exact List.mem_cons_self)
     have:=count_set h2 h1
     omega
   exact ⟨hr,stop listed a w hI hr⟩
  |succ fuel ih=>
   intro listed a w hI hc
   refine ⟨fun hr=>stop listed a w hI hr,fun i hr=> ?_⟩
   obtain ⟨hnot,hsz⟩:=ready_not hr
   have hcnt:=count_set hsz hnot
   have hiL:i<X.os.length:=by rw [G.size,←hI.size];exact hsz
   cases hsi:X.skip i with
   |false=>exact wpOpIn_mono (fun a' w' hI'=>ih _ a' w' hI' (by omega)) (G.one (Q:=Q) hfe hfs hG hcd hI hr hiL hsi fun j _ hj=>nsOf hI j hj)
   |true=>
    rcases hend with ⟨hsk,_⟩ | ⟨d,m,hr0,hlt,hskI,hskm,hqa,o',ho',hs,hb⟩
    ·rw [hsk i] at hsi;cases hsi
    ·rcases hskI i hsi with rfl| ⟨_,hbit⟩
     ·
      obtain ⟨o,ho,hc'⟩:=G.op ho'
      obtain ⟨ρ,p,L',hR',hlp,hp,hloud,v1,v2⟩:=hI.st
      have hE':=G.sees hfe hI hr (Nat.le_of_lt hiL) (fun j _ hj=>nsOf hI j hj) ho hc' v1 v2
      have hsame:X.S p=X.S i:=by
       rcases Nat.le_total p i with h|h
       ·refine (X.S_same G.ext hf i p h (Nat.le_of_lt hlt) fun k hk hk'=> ?_).symm
        cases hq:X.q k with
        |true=>rfl
        |false=>
         have:=(hloud k (Nat.zero_le _) (by omega) hq).1 (G.anc_listed hI hr k (hb k hk' hq))
         omega
       ·exact X.S_same G.ext hf p i h hp fun k hk hk'=>hqa k hk (by omega)
      rw [←hsame] at hs
      refine oper_sound G.call hR' hE' (hG.later L') (L'.code.trans hcd) hc' ho hs (fun ρ' W' v d' hd=>by cases hd) (fun ρ' W' v d' hd L2 hR2 hr2=> ?_)
      cases hd
      exact hQ d hr0 ρ' W' a v (L'.trans L2) hR2 hr2 hI.tmps hI.defers
     ·have:=nsOf hI m (G.anc_listed hI hr m hbit)
      rw [hskm] at this;cases this
 exact main ops.size _ a w hI0 (by
  refine Nat.le_trans (List.countP_le_length) ?_
  simp)
theorem Reg.panics (G:Reg P X ops acc) (hsk: ∀i,X.skip i=false) {r:Option D} {e':Env} {σ':St} (hG:GlobR ρ0 W0 X.glob) (hcd:ρ0.code=codeP P) {ro:Option Nat} {M m:Nat} (hM:M≤X.os.length) (hmM:m<M) (hf: ∀i,i<m→X.Fact i) {d:D} (hr:r=some d) (hp:X.PanicAt M m d σ') {Q:Exit→Act→World→Prop}
 (hK:r=none→ ∀ρ' W' a',Later ρ0 W0 ρ' W'→Rel ρ' W' σ'→RE ρ' W' e' a'.tmps→a'.tmps.size=X.n→a'.defers=ds→Q .normal a' W')
 (hQ: ∀d,r=some d→ ∀ρ' W' a' v,Later ρ0 W0 ρ' W'→Rel ρ' W' σ'→R ρ' W' d v→a'.tmps.size=X.n→a'.defers=ds→Q (.panic [{v,recovered:=false}]) a' W')
 {a:Act} {w:World} (L:Later ρ0 W0 ρ0 w) (hR:Rel ρ0 w X.s0) (hE:RE ρ0 w X.e0 a.tmps) (hn:a.tmps.size=X.n) (hdf:a.defers=ds):
 wpAnyIn (FR ro) 0 P .any ops Q ops.size (Array.replicate ops.size false) a w:=by
 obtain ⟨h1,h2,o,h3,h4,h5⟩:=X.less_all hsk G.Alen G.ext hM hmM hf hp
 refine (G.less m).core (X:=X.less m) hG hcd h1 (.inr ⟨d,m,hr,by show m<X.os.length;omega,fun i hi=> ?_,by simp [Ctx.less],h2,o,h3,h4,h5⟩) hK hQ L hR hE hn hdf
 simp only [Ctx.less,Bool.or_eq_true,beq_iff_eq,Bool.and_eq_true,decide_eq_true_eq] at hi
 exact hi
theorem Reg.all (G:Reg P X ops acc) (hsk: ∀i,X.skip i=false) {r:Option D} {e':Env} {σ':St} (hG:GlobR ρ0 W0 X.glob) (hcd:ρ0.code=codeP P) {ro:Option Nat}
 (hrun:runDrawn X.callf X.ext X.glob X.n (fun _ e σ=>some (none,e,σ)) 0 X.os X.A [] [] [] X.e0 X.s0=some (r,e',σ')) {Q:Exit→Act→World→Prop}
 (hK:r=none→ ∀ρ' W' a',Later ρ0 W0 ρ' W'→Rel ρ' W' σ'→RE ρ' W' e' a'.tmps→a'.tmps.size=X.n→a'.defers=ds→Q .normal a' W')
 (hQ: ∀d,r=some d→ ∀ρ' W' a' v,Later ρ0 W0 ρ' W'→Rel ρ' W' σ'→R ρ' W' d v→a'.tmps.size=X.n→a'.defers=ds→Q (.panic [{v,recovered:=false}]) a' W')
 {a:Act} {w:World} (L:Later ρ0 W0 ρ0 w) (hR:Rel ρ0 w X.s0) (hE:RE ρ0 w X.e0 a.tmps) (hn:a.tmps.size=X.n) (hdf:a.defers=ds):
 wpAnyIn (FR ro) 0 P .any ops Q ops.size (Array.replicate ops.size false) a w:=by
 have ht:=X.trace hsk G.Alen (Nat.le_refl _) X.os 0 [] [] [] X.e0 X.s0 r e' σ' (by simp) (Nat.zero_le _) rfl (fun i h=>by omega) (fun i h=>by omega) (fun i h=>by omega) hrun
 rcases ht with ⟨⟨_,_,h1⟩,h2,h3⟩ | ⟨d,m,h1,_,h3,h4,h5⟩
 ·simp only [Option.some.injEq,Prod.mk.injEq] at h1
  obtain ⟨h1,he,hs⟩:=h1
  exact G.core hG hcd (fun i hi=>h2 i (Nat.zero_le _) hi) (.inl ⟨hsk,h1.symm,by rw [h3,he,hs]⟩) hK hQ L hR hE hn hdf
 ·exact G.panics hsk hG hcd (Nat.le_refl _) h3 (fun i hi=>h4 i (Nat.zero_le _) hi) h1 h5 hK hQ L hR hE hn hdf
theorem lastFree_spec {os:List AOper} {A:List Nat} {s:AOper} {a0:Nat} (h:lastFree os A=some (s,a0)):
 os.getLast?=some s∧A.getLast?=some (2 ^ a0 - 1)∧s.guard=none∧s.dst=none∧(∃size a v,s.op= .store size a v)∧a0+1<os.length:=by
 unfold lastFree at h
 split at h
 ·rename_i s' a hs ha
  split at h
  ·rename_i size av v hop hg hd
   split at h
   ·rename_i hc
    simp only [Option.some.injEq,Prod.mk.injEq] at h
    obtain ⟨rfl,rfl⟩:=h
    refine ⟨hs, ?_,hg,hd,⟨_,_,_,hop⟩,hc.2⟩
    rw [ha,←hc.1]
    simp
   ·cases h
  ·cases h
 ·cases h
theorem storeD_box {σ:St} {size:Nat} {v:D} {b off:Nat} {σ':St} (h:storeD σ size v (.ptr b off)=some σ'):
 ∃ob,σ'[b]? =some ob∧σ'=σ.set b ob∧ ∀τ:St,τ[b]? =σ[b]? →storeD τ size v (.ptr b off)=some (τ.set b ob):=by
 simp only [storeD] at h ⊢
 split at h
 ·rename_i cs hb
  split at h
  ·rename_i hs
   obtain ⟨cs',h1,rfl⟩:=Option.map_eq_some_iff.1 h
   have hlt:=(List.getElem?_eq_some_iff.1 hb).1
   refine ⟨.box cs',by simp [hlt],rfl,fun τ hτ=> ?_⟩
   rw [hτ,hb]
   simp only [if_pos hs,h1,Option.map_some]
  ·cases h
 ·cases h
theorem Reg.allL (G:Reg P X ops acc) (hsk: ∀i,X.skip i=false) {r:Option D} {e':Env} {σ':St} {s:AOper} {a0:Nat} (hG:GlobR ρ0 W0 X.glob) (hcd:ρ0.code=codeP P) {ro:Option Nat} (hlf:lastFree X.os X.A=some (s,a0))
 (hrun:runDrawn X.callf X.ext X.glob X.n (finL X.callf X.ext X.glob s a0) 0 X.os.dropLast X.A [] [] [] X.e0 X.s0=some (r,e',σ')) {Q:Exit→Act→World→Prop}
 (hK:r=none→ ∀ρ' W' a',Later ρ0 W0 ρ' W'→Rel ρ' W' σ'→RE ρ' W' e' a'.tmps→a'.tmps.size=X.n→a'.defers=ds→Q .normal a' W')
 (hQ: ∀d,r=some d→ ∀ρ' W' a' v,Later ρ0 W0 ρ' W'→Rel ρ' W' σ'→R ρ' W' d v→a'.tmps.size=X.n→a'.defers=ds→Q (.panic [{v,recovered:=false}]) a' W')
 {a:Act} {w:World} (L:Later ρ0 W0 ρ0 w) (hR:Rel ρ0 w X.s0) (hE:RE ρ0 w X.e0 a.tmps) (hn:a.tmps.size=X.n) (hdf:a.defers=ds):
 wpAnyIn (FR ro) 0 P .any ops Q ops.size (Array.replicate ops.size false) a w:=by
 obtain ⟨hlast,hAlast,hguard,hdst0,⟨size,av,vv,hop⟩,hlen⟩:=lastFree_spec hlf
 obtain ⟨m,hm⟩: ∃m,X.os.length=m+1:=⟨X.os.length - 1,by omega⟩
 have hsm:X.os[m]? =some s:=by rw [List.getLast?_eq_getElem?,hm] at hlast;simpa using hlast
 have hdrop:X.os.dropLast=X.os.take m:=by rw [List.dropLast_eq_take,hm];simp
 have ha0:a0<m:=by omega
 have hbm: ∀k,X.bit m k=true↔k<a0:=by
  intro k
  have:X.A.getD m 0=2 ^ a0 - 1:=by
   rw [List.getLast?_eq_getElem?,G.Alen,hm] at hAlast
   rw [List.getD_eq_getElem?_getD]
   simp only [Nat.add_sub_cancel] at hAlast
   rw [hAlast];rfl
  unfold Ctx.bit
  rw [this,Nat.testBit_two_pow_sub_one]
  simp
 rw [hdrop] at hrun
 have ht:=X.trace hsk G.Alen (by omega:m≤X.os.length) (X.os.take m) 0 [] [] [] X.e0 X.s0 r e' σ' (by simp) (Nat.zero_le _) rfl (fun i h=>by omega) (fun i h=>by omega) (fun i h=>by omega) hrun
 rcases ht with ⟨⟨hist,hhist,hfin⟩,hf0,htr⟩ | ⟨d,j,h1,_,h3,h4,h5⟩
 rotate_left
 ·exact G.panics hsk hG hcd (by omega:m≤X.os.length) h3 (fun i hi=>h4 i (Nat.zero_le _) hi) h1 h5 hK hQ L hR hE hn hdf
 have hf: ∀i,i<m→X.Fact i:=fun i hi=>hf0 i (Nat.zero_le _) hi
 have hfe: ∀i,i<m→X.FactE i:=fun i hi=>(hf i hi).toE
 have hfs: ∀i,0≤i→i<m→X.FactS X.S 0 i:=fun i _ hi=>(hf i hi).toS
 unfold finL at hfin
 rw [hop] at hfin
 simp only at hfin
 split at hfin
 rotate_left
 ·cases hfin
 rename_i b off hab
 split at hfin
 rotate_left
 ·cases hfin
 rename_i σs hst
 obtain ⟨ob,hob,hσs,hall⟩:=storeD_box hst
 rw [hob] at hfin
 simp only at hfin
 split at hfin
 rotate_left
 ·cases hfin
 rename_i hfree
 simp only [Option.some.injEq,Prod.mk.injEq] at hfin
 obtain ⟨hr0,he',hσ'⟩:=hfin
 subst hr0 he' hσ'
 have free: ∀j,a0≤j→j<m→ ∃o,X.os[j]? =some o∧
  ((X.q j=true∧(∀k,a0≤k→k<m→sameAt X.callf X.glob o (Ctx.see o (X.E j)) ((X.S k).set b ob) (X.V j)=true)∧sameAt X.callf X.glob o (Ctx.see o (X.E j)) ((X.S m).set b ob) (X.V j)=true)∨
   (X.q j=false∧o.guard=none∧ ∃sz aa vv,o.op= .store sz aa vv∧Aside b (lookA X.glob (Ctx.see o (X.E j)) aa))):=by
  intro j hj hjm
  obtain ⟨o,ho,hmem⟩:=hhist j hjm
  refine ⟨o,ho, ?_⟩
  have hfr:=List.all_eq_true.1 hfree _ hmem
  obtain ⟨o2,ho2,_,_,hqa,_⟩:=(hf j hjm).ns (hsk j)
  rw [ho] at ho2;cases ho2
  have hna: ¬j<a0:=by omega
  simp only [freeAt,hna,decide_false,Bool.false_or] at hfr
  rw [hqa] at hfr
  cases hq:X.q j with
  |true=>
   rw [hq] at hfr
   simp only [if_true,Bool.and_eq_true] at hfr
   refine .inl ⟨rfl,fun k hk hkm=> ?_,hfr.2⟩
   obtain ⟨ok,hok,hmk⟩:=hhist k hkm
   have:=List.all_eq_true.1 hfr.1 _ hmk
   have hka: ¬k<a0:=by omega
   simpa [hka] using this
  |false=>
   rw [hq] at hfr
   simp only [Bool.false_eq_true,if_false,Bool.and_eq_true,beq_iff_eq] at hfr
   refine .inr ⟨rfl,hfr.1, ?_⟩
   have h2:=hfr.2
   split at h2
   ·rename_i sz aa vv' hop'
    refine ⟨sz,aa,vv',hop', ?_⟩
    split at h2<;>simp_all [Aside]
   ·cases h2
 have stepT: ∀i,a0≤i→i<m→ ∀o,X.os[i]? =some o→X.step o (Ctx.see o (X.E i)) ((X.S i).set b ob)=some (.val (X.V i),(X.S (i+1)).set b ob)∧(X.S (i+1))[b]? =(X.S i)[b]? :=by
  intro i hi him o ho
  obtain ⟨o1,ho1,hstep,hput,hqa,_⟩:=(hf i him).ns (hsk i)
  rw [ho] at ho1;cases ho1
  obtain ⟨o2,ho2,hc⟩:=free i hi him
  rw [ho] at ho2;cases ho2
  rcases hc with ⟨hq,hsame,_⟩ | ⟨hq,hg,sz,aa,v2,hop2,hne⟩
  ·obtain ⟨σ1,h1⟩:=sameAt_some (hsame i hi him)
   have h2:=quiet_stepVal G.ext (by rw [hqa];exact hq) h1
   have h3:=X.quiet_S G.ext (hf i him) hq
   rw [h3]
   exact ⟨by rw [h2] at h1;exact h1,rfl⟩
  ·unfold Ctx.step stepVal stepGo at hstep ⊢
   rw [hg,hop2] at hstep ⊢
   simp only [stepOp] at hstep ⊢
   cases hs2:storeD (X.S i) sz (lookA X.glob (Ctx.see o (X.E i)) v2) (lookA X.glob (Ctx.see o (X.E i)) aa) with
   |none=>rw [hs2] at hstep;cases hstep
   |some σ1=>
    rw [hs2] at hstep
    simp only [Option.map_some,Option.some.injEq,Prod.mk.injEq,SV.val.injEq] at hstep
    obtain ⟨hv,rfl⟩:=hstep
    obtain ⟨k1,k2⟩:=storeD_other (ob:=ob) hs2 hne
    rw [k1]
    simp only [Option.map_some]
    exact ⟨by rw [hv],k2⟩
 have Sb: ∀d i,a0+d=i→i≤m→(X.S i)[b]? =(X.S a0)[b]? :=by
  intro d
  induction d with
  |zero=>intro i hi _;rw [←hi];rfl
  |succ d ih=>
   intro i hi him
   obtain ⟨o,ho,_⟩:=(hf (a0+d) (by omega)).ns (hsk _)
   rw [show i=a0+d+1 by omega,(stepT (a0+d) (by omega) (by omega) o ho).2]
   exact ih (a0+d) rfl (by omega)
 let T:Nat→St:=fun k=>(X.S k).set b ob
 have hft: ∀i,a0≤i→i<m→X.FactS T a0 i:=by
  intro i hi him
  obtain ⟨o,ho,hstep,hput,hqa,hq1,hq2⟩:=(hf i him).ns (hsk i)
  refine .inr ⟨hsk i,o,ho,(stepT i hi him o ho).1,hput,hqa,fun hq k hk hki _=> .inr ?_,fun hq=>⟨fun k hk hki hqk=>(hq2 hq).1 k hki hqk,fun i' hi' hii hqi _=> ?_⟩⟩
  ·obtain ⟨o2,ho2,hc⟩:=free i hi him
   rw [ho] at ho2;cases ho2
   rcases hc with ⟨_,hs,_⟩ | ⟨hn,_⟩
   ·exact hs k hk (by omega)
   ·rw [hq] at hn;cases hn
  ·obtain ⟨o2,ho2,hc⟩:=free i' hi' (by omega)
   rcases hc with ⟨_,hs,hs2⟩ | ⟨hn,_⟩
   ·right
    refine ⟨o2,ho2, ?_⟩
    rcases Nat.lt_or_ge (i+1) m with h|h
    ·exact hs (i+1) (by omega) h
    ·obtain rfl:m=i+1:=by omega
     exact hs2
   ·rw [hqi] at hn;cases hn
 have hopsize:ops.size=m+1:=by rw [←G.size,hm]
 obtain ⟨os,hos,hcs⟩:=G.op hsm
 have hdst:os.dst=none:=by rw [←(cOper_some hcs).2.1];exact hdst0
 have hI0:Inv P X X.S 0 (fun _=>False) ops ρ0 W0 ds m (Array.replicate ops.size false) a w:=by
  have no: ∀j,(Array.replicate ops.size false).getD j false=false:=fun j=>by
   simp [Array.getD_eq_getD_getElem?,Array.getElem?_replicate]
   split<;>rfl
  refine ⟨by simp,fun j h=>(by rw [no] at h;cases h),fun j h=>(by rw [no] at h;cases h),fun j h=>(by omega),fun j k h=>(by rw [no] at h;cases h),⟨ρ0,0,L,by simpa [Ctx.S,Ctx.tr] using hR,Nat.le_refl _,Nat.zero_le _,fun k _ _ _=>⟨fun h=>(by rw [no] at h;cases h),fun h=>by omega⟩,
   fun j o t h=>(by rw [no] at h;cases h),fun t _=>hE t⟩,hn,hdf⟩
 let Both:=fun (listed:Array Bool) (a:Act) (w:World)=>Inv P X X.S 0 (fun _=>False) ops ρ0 W0 ds m listed a w∨(Inv P X T a0 (fun j=>j=m) ops ρ0 W0 ds m listed a w∧listed.getD m false=true)
 have main: ∀fuel listed a w,Both listed a w→listed.toList.countP (!·)≤fuel→wpAnyIn (FR ro) 0 P .any ops Q fuel listed a w:=by
  have stop: ∀listed a w,Both listed a w→Region.ready .any ops listed=[]→Q .normal a w:=by
   intro listed a w hB hr
   rcases hB with hI| ⟨hI,hlm⟩
   ·have:=all_listed G.ok hI.size hr m (by omega)
    rcases hI.lt m this with h|h
    ·omega
    ·exact h.elim
   ·have hall:=all_listed G.ok hI.size hr
    obtain ⟨ρ,p,L',hR',hlp,hp,hloud,v1,v2⟩:=hI.st
    refine hK rfl ρ w a L' ?_ (fun t=> ?_) hI.tmps hI.defers
    ·have hTm:T m=σs:=hσs.symm
     rw [←hTm,X.SS_same G.ext hft m p hlp hp (Nat.le_refl _) fun k hk hk'=> ?_]
     ·exact hR'
     ·cases hq:X.q k with
      |true=>rfl
      |false=>
       have:=(hloud k (by omega) hk' hq).1 (hall k (by omega))
       omega
    ·obtain ⟨e1,e2⟩:=G.Eval hfe t m (Nat.le_refl _)
     by_cases hw: ∃ (j:Nat) (p:Oper),ops[j]? =some p∧p.dst=some t
     ·obtain ⟨j,p,hp',hd⟩:=hw
      have hj:j<ops.size:=(Array.getElem?_eq_some_iff.1 hp').1
      have hjm:j≠m:=fun h=>by subst h;rw [hos] at hp';cases hp';rw [hdst] at hd;cases hd
      rw [e1 j p (by omega) (hsk j) hp' hd]
      exact v1 j p t (hall j hj) hp' hd
     ·have hno: ∀ (j:Nat) (p:Oper),ops[j]? =some p→p.dst≠some t:=fun j p hp hd=>hw ⟨j,p,hp,hd⟩
      rw [e2 fun j p _ _ hp=>hno j p hp]
      exact v2 t fun j p _ hp=>hno j p hp
  intro fuel
  induction fuel with
  |zero=>
   intro listed a w hB hc
   have hr:Region.ready .any ops listed=[]:=by
    cases hrr:Region.ready .any ops listed with
    |nil=>rfl
    |cons i l=>
     obtain ⟨h1,h2⟩:=ready_not (i:=i) (listed:=listed) (ops:=ops) (by rw [hrr];exact List.mem_cons_self)
     have:=count_set h2 h1
     omega
   exact ⟨hr,stop listed a w hB hr⟩
  |succ fuel ih=>
   intro listed a w hB hc
   refine ⟨fun hr=>stop listed a w hB hr,fun i hr=> ?_⟩
   obtain ⟨hnot,hsz⟩:=ready_not hr
   have hcnt:=count_set hsz hnot
   rcases hB with hI| ⟨hI,hlm⟩
   ·have hile:i≤m:=by have:=hI.size;omega
    rcases Nat.lt_or_ge i m with him|him
    ·exact wpOpIn_mono (fun a' w' hI'=>ih _ a' w' (.inl hI') (by omega)) (G.one (Q:=Q) hfe hfs hG hcd hI hr him (hsk i) fun j _ _=>hsk j)
    ·obtain rfl:i=m:=by omega
     obtain ⟨ρ,p,L',hR',hlp,hp,hloud,v1,v2⟩:=hI.st
     have hE':=G.sees hfe hI hr (Nat.le_refl _) (fun j _ _=>hsk j) hos hcs v1 v2
     have hanc: ∀k,k<a0→listed.getD k false=true:=fun k hk=>G.anc_listed hI hr k ((hbm k).2 hk)
     obtain ⟨p',hR2,hp1,hp2,hloud2⟩: ∃p',Rel ρ w (X.S p')∧a0≤p'∧p'≤i∧(∀k,a0≤k→k<i→X.q k=false→(listed.getD k false=true↔k<p')):=by
      rcases Nat.lt_or_ge p a0 with hpa|hpa
      ·have hnone: ∀k,p≤k→k<a0→X.q k=true:=fun k hk hk'=>by
        cases hq:X.q k with
        |true=>rfl
        |false=>
         have:=(hloud k (Nat.zero_le _) (by omega) hq).1 (hanc k hk')
         omega
       have hS:X.S a0=X.S p:=X.S_same G.ext (m:=i) hf a0 p (by omega) (by omega) hnone
       refine ⟨a0,by rw [hS];exact hR',Nat.le_refl _,by omega,fun k hk hki hq=> ?_⟩
       rw [hloud k (Nat.zero_le _) hki hq]
       omega
      ·exact ⟨p,hR',hpa,hp,fun k hk hki hq=>hloud k (Nat.zero_le _) hki hq⟩
     have hval:X.step s (Ctx.see s (X.E i)) (X.S p')=some (.val .undef,T p'):=by
      unfold Ctx.step stepVal stepGo
      rw [hguard,hop]
      simp only [stepOp]
      have hab':lookA X.glob (Ctx.see s (X.E i)) av= .ptr b off:=hab
      rw [hab']
      have:=hall (X.S p') (by rw [Sb (p' - a0) p' (by omega) hp2,Sb (i - a0) i (by omega) (Nat.le_refl _)])
      have hst':storeD (X.S p') size (lookA X.glob (Ctx.see s (X.E i)) vv) (.ptr b off)=some ((X.S p').set b ob):=this
      rw [hst']
      rfl
     refine oper_sound G.call hR2 hE' (hG.later L') (L'.code.trans hcd) hcs hos hval (fun ρ' W' v d hd L2 hR3 hr3=> ?_) (fun ρ' W' v d hd=>by cases hd)
     cases hd
     refine ih _ _ _ (.inr ⟨⟨by simpa using hI.size,fun j _=> .inl (hsk j),fun j hj=> ?_,fun j hj=>(getD_set listed i j hsz).2 (.inr (hanc j hj)),fun j k hj hb=> ?_,⟨ρ',p',L'.trans L2,hR3,hp1,hp2,fun k hlk hk hqk=> ?_,fun j o' t hj ho' hd'=> ?_,fun t ht=> ?_⟩, ?_, ?_⟩,(getD_set listed i i hsz).2 (.inl rfl)⟩) (by omega)
     ·rcases (getD_set listed i j hsz).1 hj with rfl|h
      ·exact .inr rfl
      ·rcases hI.lt j h with h|h
       ·exact .inl h
       ·exact h.elim
     ·refine (getD_set listed i k hsz).2 (.inr ?_)
      rcases (getD_set listed i j hsz).1 hj with rfl|h
      ·exact G.anc_listed hI hr k hb
      ·exact hI.closed j k h hb
     ·rw [getD_set listed i k hsz,←hloud2 k hlk hk hqk]
      constructor
      ·rintro (rfl|h)
       ·omega
       ·exact h
      ·exact .inr
     ·rcases (getD_set listed i j hsz).1 hj with rfl|h
      ·rw [hos] at ho';cases ho';rw [hdst] at hd';cases hd'
      ·rw [hdst]
       exact (v1 j o' t h ho' hd').later L2
     ·rw [hdst]
      exact (v2 t fun j o' hj ho'=>ht j o' ((getD_set listed i j hsz).2 (.inr hj)) ho').later L2
     ·rw [hdst];exact hI.tmps
     ·rw [hdst];exact hI.defers
   ·have hile:i≤m:=by have:=hI.size;omega
    rcases Nat.lt_or_ge i m with him|him
    ·refine wpOpIn_mono (fun a' w' hI'=>ih _ a' w' (.inr ⟨hI',(getD_set listed i m hsz).2 (.inr hlm)⟩) (by omega)) (G.one (Q:=Q) hfe hft hG hcd hI hr him (hsk i) fun j _ _=>hsk j)
    ·obtain rfl:i=m:=by omega
     rw [hnot] at hlm;cases hlm
 exact main ops.size _ a w (.inl hI0) (by
  refine Nat.le_trans (List.countP_le_length) ?_
  simp)
end
theorem getE_setE' (e:Env) (s:Nat) (v:D) (t:Nat):getE (setE e s v) t=if s=t then v else getE e t:=by
 induction e with
 |nil=>simp only [setE,getE]
 |cons x r ih=>
  obtain ⟨u,d⟩:=x
  simp only [setE]
  by_cases h:u=s
  ·subst h
   simp only [if_true,getE]
   split<;>rfl
  ·simp only [if_neg h,getE,ih]
   by_cases h':u=t
   ·subst h'
    rw [if_pos rfl,if_neg (fun x=>h x.symm),if_pos rfl]
   ·simp [h']
theorem stepOp_sub (look:AOpd→D) (σ:St) (f:AOpd→AOpd) (op:AOp):stepOp look σ (op.sub f)=stepOp (fun x=>look (f x)) σ op:=by
 cases op<;>try rfl
 case build zero parts=>simp only [AOp.sub,stepOp,List.map_map];rfl
 case buildSlice sz len zero parts=>simp only [AOp.sub,stepOp,List.map_map];rfl
 case buildRow sz len zero parts=>simp only [AOp.sub,stepOp,List.map_map];rfl
 case mkFunc g a b=>simp only [AOp.sub,stepOp,List.map_map];rfl
 case sliceStr x lo hi=>cases lo<;>cases hi<;>rfl
 case sliceRow sz x lo hi mx=>cases lo<;>cases hi<;>cases mx<;>simp only [AOp.sub,stepOp,Option.map_none,Option.map_some]<;>(generalize look (f x)=d;cases d<;>rfl)
 case max2 xs=>simp only [AOp.sub,stepOp,List.map_map];rfl
 case min2 xs=>simp only [AOp.sub,stepOp,List.map_map];rfl
 case call c args=>cases c<;>(simp only [AOp.sub,stepOp,List.map_map];rfl)
variable {callf:CallF} {glob:Gl} {n:Nat}
theorem look_sub {s:List (Nat × AOpd)} {e1 e2:Env} (h: ∀t,getE e1 t=lookA glob e2 ((AOpd.tmp t).sub s)):lookA glob e1=fun x=>lookA glob e2 (x.sub s):=by
 funext x
 cases x with
 |tmp t=>exact h t
 |lit d=>rfl
 |glob g=>rfl
theorem stepGo_sub {s:List (Nat × AOpd)} {e1 e2:Env} {σ:St} (h: ∀t,getE e1 t=lookA glob e2 ((AOpd.tmp t).sub s)) (op:AOp):stepGo callf glob (op.sub (AOpd.sub s)) e2 σ=stepGo callf glob op e1 σ:=by
 unfold stepGo
 rw [stepOp_sub,look_sub h]
theorem lookup_mem {s:List (Nat × AOpd)} {t:Nat} {x:AOpd} (h:s.lookup t=some x): (t,x) ∈ s:=by
 induction s with
 |nil=>cases h
 |cons p r ih=>
  obtain ⟨a,b⟩:=p
  simp only [List.lookup] at h
  split at h
  ·rename_i heq
   cases h
   have:t=a:=by simpa using heq
   subst this
   exact List.mem_cons_self
  ·exact List.mem_cons_of_mem _ (ih h)
theorem lookup_kill {s:List (Nat × AOpd)} {d t:Nat} (h:t≠d): (killS (some d) s).lookup t=s.lookup t:=by
 induction s with
 |nil=>rfl
 |cons p r ih=>
  obtain ⟨a,b⟩:=p
  have ih': (List.filter (fun p=>p.1 != d) r).lookup t=r.lookup t:=ih
  simp only [killS,List.filter_cons]
  by_cases hd:a=d
  ·subst hd
   have hne: (t==a)=false:=by simpa using h
   simp only [bne_self_eq_false,Bool.false_eq_true,if_false,List.lookup,hne]
   exact ih'
  ·have: (a != d)=true:=by simpa using hd
   simp only [this,if_true,List.lookup]
   split
   ·rfl
   ·exact ih'
theorem lookup_killed {s:List (Nat × AOpd)} {d:Nat} : (killS (some d) s).lookup d=none:=by
 cases h: (killS (some d) s).lookup d with
 |none=>rfl
 |some x=>
  have:=lookup_mem h
  simp [killS] at this
structure SubOK (keep:List Nat) (s:List (Nat × AOpd)) (r:List AOper):Prop where
 free: ∀p ∈ s,freeS p.1 p.2 r=true
 keep: ∀p ∈ s,p.1 ∉ keep
theorem SubOK.tail {keep:List Nat} {s:List (Nat × AOpd)} {o:AOper} {r:List AOper} (h:SubOK keep s (o::r)):SubOK keep s r:=
 ⟨fun p hp=>by have:=h.free p hp;simp only [freeS,List.all_cons,Bool.and_eq_true] at this;exact this.2,h.keep⟩
theorem SubOK.kill {keep:List Nat} {s:List (Nat × AOpd)} {r:List AOper} (h:SubOK keep s r) (d:Option Nat):SubOK keep (killS d s) r:=by
 have mem: ∀p,p ∈ killS d s→p ∈ s:=fun p hp=>by
  cases d with
  |none=>exact hp
  |some d=>exact (List.mem_filter.1 hp).1
 exact ⟨fun p hp=>h.free p (mem p hp),fun p hp=>h.keep p (mem p hp)⟩
theorem SubOK.apart {keep:List Nat} {s:List (Nat × AOpd)} {o:AOper} {r:List AOper} (h:SubOK keep s (o::r)) {d:Nat} (hd:o.dst=some d) {t:Nat} {x:AOpd} (hx:s.lookup t=some x): ∀u,x= .tmp u→u≠d:=by
 intro u hu hud
 subst hu hud
 have:=h.free _ (lookup_mem hx)
 simp only [freeS,List.all_cons,Bool.and_eq_true] at this
 have:=this.1.2
 rw [hd] at this
 simp at this
theorem rel_put {keep:List Nat} {s:List (Nat × AOpd)} {o:AOper} {r:List AOper} (hok:SubOK keep s (o::r)) {e1 e2 e2':Env} (hrel: ∀t,getE e1 t=lookA glob e2 ((AOpd.tmp t).sub s)) {d:D} (hput:putE n e2 o.dst d=some e2'):
 ∃e1',putE n e1 o.dst d=some e1'∧ ∀t,getE e1' t=lookA glob e2' ((AOpd.tmp t).sub (killS o.dst s)):=by
 cases hd:o.dst with
 |none=>
  rw [hd] at hput
  simp only [putE,Option.some.injEq] at hput ⊢
  subst hput
  exact ⟨e1,rfl,hrel⟩
 |some u=>
  rw [hd] at hput
  simp only [putE] at hput ⊢
  split at hput
  ·rename_i hu
   cases hput
   rw [if_pos hu]
   refine ⟨_,rfl,fun t=> ?_⟩
   rw [getE_setE']
   by_cases ht:u=t
   ·subst ht
    simp only [if_true,AOpd.sub,lookup_killed,getE_setE']
   ·rw [if_neg ht,hrel t]
    simp only [AOpd.sub,lookup_kill (Ne.symm ht)]
    cases hl:s.lookup t with
    |none=>simp only [getE_setE',if_neg ht]
    |some x=>
     have:=hok.apart hd hl
     cases x with
     |tmp v=>simp only [getE_setE',if_neg (fun h:u=v=>this v rfl h.symm)]
     |lit d=>rfl
     |glob g=>rfl
  ·cases hput
theorem optGo_sound (keep:List Nat): ∀ (os:List AOper) (s:List (Nat × AOpd)) (e1 e2:Env) (σ:St) (r:Option D) (e':Env) (σ':St),SubOK keep s os→(∀t,getE e1 t=lookA glob e2 ((AOpd.tmp t).sub s))→(∀o ∈ os,∀d,o.dst=some d→d<n)→
 runOps callf glob n (optGo keep s os) e2 σ=some (r,e',σ')→ ∃e'',runOps callf glob n os e1 σ=some (r,e'',σ')∧(r=none→ ∀t ∈ keep,getE e'' t=getE e' t)
 | [],s,e1,e2,σ,r,e',σ',hok,hrel,hm,h=>by
  simp only [optGo,runOps,Option.some.injEq,Prod.mk.injEq] at h
  obtain ⟨rfl,rfl,rfl⟩:=h
  refine ⟨e1,rfl,fun _ t ht=> ?_⟩
  rw [hrel t]
  cases hl:s.lookup t with
  |none=>simp only [AOpd.sub,hl]
  |some x=>exact absurd ht (hok.keep _ (lookup_mem hl))
 |o::os,s,e1,e2,σ,r,e',σ',hok,hrel,hm,h=>by
  have stay: ∀op',(∀e2:Env,(∀t,getE e1 t=lookA glob e2 ((AOpd.tmp t).sub s))→stepGo callf glob op' e2 σ=stepGo callf glob o.op e1 σ)→runOps callf glob n ({o with op:=op'} ::optGo keep (killS o.dst s) os) e2 σ=some (r,e',σ')→
   ∃e'',runOps callf glob n (o::os) e1 σ=some (r,e'',σ')∧(r=none→ ∀t ∈ keep,getE e'' t=getE e' t):=by
   intro op' hop h
   have hgo:=hop e2 hrel
   have hval:stepVal callf glob {o with op:=op'} e2 σ=stepVal callf glob o e1 σ:=by
    unfold stepVal
    cases hg:o.guard with
    |none=>simp only [hgo]
    |some gw=>
     obtain ⟨t,want⟩:=gw
     have hgt:getE e1 t=getE e2 t:=by
      rw [hrel t]
      cases hl:s.lookup t with
      |none=>simp only [AOpd.sub,hl]
      |some x=>
       have:=hok.free _ (lookup_mem hl)
       simp only [freeS,List.all_cons,Bool.and_eq_true,hg] at this
       simp at this
     simp only [hgo,hgt]
   simp only [runOps,stepOper] at h ⊢
   rw [hval] at h
   split at h
   ·rename_i e2' σ1 hs
    split at hs
    ·rename_i d σ2 hv
     obtain ⟨e2'',hput,hx⟩:=Option.map_eq_some_iff.1 hs
     cases hx
     obtain ⟨e1',hput1,hrel1⟩:=rel_put hok hrel hput
     simp only [hv,hput1,Option.map_some]
     exact optGo_sound keep os (killS o.dst s) e1' e2' σ1 r e' σ' (hok.tail.kill _) hrel1 (fun o ho=>hm o (List.mem_cons_of_mem _ ho)) h
    ·cases hs
    ·cases hs
   ·rename_i hne
    split at h
    ·rename_i d σ2 hv
     exfalso
     cases hput:putE n e2 o.dst d with
     |none=>rw [hput] at h;cases h
     |some e3=>
      refine hne e3 σ2 ?_
      rw [hv]
      simp only [hput,Option.map_some]
    ·rename_i d σ2 hv
     cases h
     simp only [hv]
     exact ⟨e1,rfl,fun h=>by cases h⟩
    ·cases h
  have plain:runOps callf glob n ({o with op:=o.op.sub (AOpd.sub s)} ::optGo keep (killS o.dst s) os) e2 σ=some (r,e',σ')→
   ∃e'',runOps callf glob n (o::os) e1 σ=some (r,e'',σ')∧(r=none→ ∀t ∈ keep,getE e'' t=getE e' t):=
   stay _ fun e2 hrel=>stepGo_sub hrel o.op
  simp only [optGo] at h
  split at h
  ·rename_i x d hop hdst hg
   split at h
   ·rename_i hc
    simp only [okS,Bool.and_eq_true,Bool.not_eq_true'] at hc
    have hd:d<n:=hm o List.mem_cons_self d hdst
    have hx:lookA glob e1 x=lookA glob e2 (x.sub s):=congrFun (look_sub hrel) x
    have hnk:d ∉ keep:=by simpa using hc.1.1
    have hrel1: ∀t,getE (setE e1 d (lookA glob e1 x)) t=lookA glob e2 ((AOpd.tmp t).sub ((d,x.sub s)::killS (some d) s)):=by
     intro t
     rw [getE_setE']
     by_cases ht:d=t
     ·subst ht
      simp only [if_true,AOpd.sub,List.lookup,BEq.rfl]
      exact hx
     ·have hne: (t==d)=false:=by simpa using Ne.symm ht
      simp only [if_neg ht,AOpd.sub,List.lookup,hne,lookup_kill (Ne.symm ht)]
      exact hrel t
    have hok1:SubOK keep ((d,x.sub s)::killS (some d) s) os:=by
     have:=hok.tail.kill (some d)
     refine ⟨fun p hp=> ?_,fun p hp=> ?_⟩
     ·rcases List.mem_cons.1 hp with rfl|hp
      ·exact hc.1.2
      ·exact this.free p hp
     ·rcases List.mem_cons.1 hp with rfl|hp
      ·exact hnk
      ·exact this.keep p hp
    obtain ⟨e'',h1,h2⟩:=optGo_sound keep os _ _ e2 σ r e' σ' hok1 hrel1 (fun o ho=>hm o (List.mem_cons_of_mem _ ho)) h
    refine ⟨e'', ?_,h2⟩
    simp only [runOps,stepOper,stepVal,hg,stepGo,hop,stepOp,hdst,putE,if_pos hd,Option.map_some]
    exact h1
   ·rw [←hdst] at h
    refine stay _ (fun e2 hrel=> ?_) h
    rw [hop]
    exact stepGo_sub (s:=s) hrel (.mv x)
  ·exact plain h
theorem foldl_max (os:List AOper): ∀ (m:Nat),m≤os.foldl (fun m o=>max m (o.dst.getD 0)) m∧ ∀o ∈ os,∀d,o.dst=some d→d≤os.foldl (fun m o=>max m (o.dst.getD 0)) m:=by
 induction os with
 |nil=>intro m;exact ⟨Nat.le_refl _,fun o h=>by cases h⟩
 |cons a r ih=>
  intro m
  obtain ⟨h1,h2⟩:=ih (max m (a.dst.getD 0))
  simp only [List.foldl_cons]
  refine ⟨by omega,fun o ho d hd=> ?_⟩
  rcases List.mem_cons.1 ho with rfl|ho
  ·rw [hd] at h1 ⊢
   simp only [Option.getD_some] at h1 ⊢
   omega
  ·exact h2 o ho d hd
theorem swapGo_dst (keep:List Nat) (m:Nat): ∀ (N:Nat) (os:List AOper),os.length≤N→(∀o ∈ os,∀d,o.dst=some d→d≤m)→ ∀o ∈ swapGo keep os,∀d,o.dst=some d→d≤m:=by
 intro N
 induction N with
 |zero=>
  intro os hN h
  obtain rfl:=List.eq_nil_of_length_eq_zero (by omega:os.length=0)
  simp only [swapGo]
  exact h
 |succ N ih=>
  intro os hN h
  match os,h with
  | [],h=>simp only [swapGo];exact h
  | [o],h=>simp only [swapGo];exact h
  |o::o2::r,h=>
   have keepOn: ∀q ∈ o::swapGo keep (o2::r),∀d,q.dst=some d→d≤m:=by
    intro q hq
    rcases List.mem_cons.1 hq with rfl|hq
    ·exact h q List.mem_cons_self
    ·exact ih (o2::r) (by simp at hN ⊢;omega) (fun q hq=>h q (List.mem_cons_of_mem _ hq)) q hq
   simp only [swapGo]
   split
   ·rename_i a t b ho1 ho2 hd2 hg2
    split
    ·rename_i hc
     have ha:=h o List.mem_cons_self a ho1
     have hb:=h o2 (List.mem_cons_of_mem _ List.mem_cons_self) b hd2
     intro q hq d hd
     rcases List.mem_cons.1 hq with rfl|hq
     ·simp only [Option.some.injEq] at hd;omega
     ·rcases List.mem_cons.1 hq with rfl|hq
      ·simp only [Option.some.injEq] at hd;omega
      ·exact ih r (by simp at hN ⊢;omega) (fun q hq=>h q (List.mem_cons_of_mem _ (List.mem_cons_of_mem _ hq))) q hq d hd
    ·exact keepOn
   ·exact keepOn
theorem look_same {e1 e2:Env} (h: ∀t,getE e1 t=getE e2 t):lookA glob e1=lookA glob e2:=by
 funext x
 cases x with
 |tmp t=>exact h t
 |lit d=>rfl
 |glob g=>rfl
theorem stepVal_same {e1 e2:Env} (h: ∀t,getE e1 t=getE e2 t) (o:AOper) (σ:St):stepVal callf glob o e1 σ=stepVal callf glob o e2 σ:=by
 unfold stepVal stepGo
 rw [look_same h]
 split
 ·rfl
 ·rw [h]
theorem putE_same {e1 e2:Env} (h: ∀t,getE e1 t=getE e2 t) {dst:Option Nat} {d:D} {e2':Env} (hp:putE n e2 dst d=some e2'): ∃e1',putE n e1 dst d=some e1'∧ ∀t,getE e1' t=getE e2' t:=by
 cases dst with
 |none=>simp only [putE,Option.some.injEq] at hp ⊢;subst hp;exact ⟨e1,rfl,h⟩
 |some u=>
  simp only [putE] at hp ⊢
  split at hp
  ·rename_i hu
   cases hp
   rw [if_pos hu]
   exact ⟨_,rfl,fun t=>by rw [getE_setE',getE_setE',h t]⟩
  ·cases hp
theorem swapGo_sound (keep:List Nat): ∀ (N:Nat) (os:List AOper),os.length≤N→ ∀ (e1 e2:Env) (σ:St) (r:Option D) (e':Env) (σ':St),(∀t,getE e1 t=getE e2 t)→(∀o ∈ os,∀d,o.dst=some d→d<n)→
 runOps callf glob n (swapGo keep os) e2 σ=some (r,e',σ')→ ∃e'',runOps callf glob n os e1 σ=some (r,e'',σ')∧(r=none→ ∀t,getE e'' t=getE e' t):=by
 intro N
 induction N with
 |zero=>
  intro os hN e1 e2 σ r e' σ' hrel hm h
  obtain rfl:=List.eq_nil_of_length_eq_zero (by omega:os.length=0)
  simp only [swapGo,runOps,Option.some.injEq,Prod.mk.injEq] at h
  obtain ⟨rfl,rfl,rfl⟩:=h
  exact ⟨e1,rfl,fun _=>hrel⟩
 |succ N ih=>
  intro os hN e1 e2 σ r e' σ' hrel hm h
  have stay: ∀o tl,os=o::tl→runOps callf glob n (o::swapGo keep tl) e2 σ=some (r,e',σ')→ ∃e'',runOps callf glob n os e1 σ=some (r,e'',σ')∧(r=none→ ∀t,getE e'' t=getE e' t):=by
   intro o tl hos hq
   subst hos
   clear h
   have h:=hq
   clear hq
   simp only [runOps,stepOper] at h ⊢
   rw [stepVal_same hrel]
   split at h
   ·rename_i e2' σ1 hs
    split at hs
    ·rename_i d σ2 hv
     obtain ⟨e2'',hput,hx⟩:=Option.map_eq_some_iff.1 hs
     cases hx
     obtain ⟨e1',hput1,hrel1⟩:=putE_same hrel hput
     simp only [hv,hput1,Option.map_some]
     exact ih tl (by simp at hN ⊢;omega) e1' e2' σ1 r e' σ' hrel1 (fun o ho=>hm o (List.mem_cons_of_mem _ ho)) h
    ·cases hs
    ·cases hs
   ·rename_i hne
    split at h
    ·rename_i d σ2 hv
     exfalso
     cases hput:putE n e2 o.dst d with
     |none=>rw [hput] at h;cases h
     |some e3=>
      refine hne e3 σ2 ?_
      rw [hv]
      simp only [hput,Option.map_some]
    ·rename_i d σ2 hv
     cases h
     simp only [hv]
     exact ⟨e1,rfl,fun h=>by cases h⟩
    ·cases h
  match os,hN,hm,stay,h with
  | [],hN,hm,stay,h=>
   simp only [swapGo,runOps,Option.some.injEq,Prod.mk.injEq] at h
   obtain ⟨rfl,rfl,rfl⟩:=h
   exact ⟨e1,rfl,fun _=>hrel⟩
  | [o],hN,hm,stay,h=>exact stay o [] rfl h
  |o::o2::tl,hN,hm,stay,h=>
   simp only [swapGo] at h
   split at h
   ·rename_i a t b ho1 ho2 hd2 hg2
    split at h
    ·rename_i hc
     obtain ⟨rfl,hab,_⟩:=hc
     have ha:t<n:=hm o List.mem_cons_self t ho1
     have hb:b<n:=hm o2 (List.mem_cons_of_mem _ List.mem_cons_self) b hd2
     have hv0:stepVal callf glob {o with dst:=some b} e2 σ=stepVal callf glob o e1 σ:=by
      rw [←stepVal_same hrel]
      rfl
     simp only [runOps,stepOper] at h ⊢
     rw [hv0] at h
     cases hv:stepVal callf glob o e1 σ with
     |none=>rw [hv] at h;cases h
     |some y=>
      obtain ⟨sv,σ1⟩:=y
      rw [hv] at h
      cases sv with
      |panic d=>
       cases h
       exact ⟨e1,rfl,fun h=>by cases h⟩
      |val d=>
       simp only [putE,if_pos ha,if_pos hb,ho1,Option.map_some,stepVal,hg2,stepGo,ho2,stepOp,hd2] at h ⊢
       refine ih tl (by simp at hN ⊢;omega) _ _ σ1 r e' σ' (fun u=> ?_) (fun o ho=>hm o (List.mem_cons_of_mem _ (List.mem_cons_of_mem _ ho))) h
       simp only [lookA,getE_setE',if_true]
       by_cases h1:b=u
       ·subst h1
        by_cases h2:t=b
        ·exact absurd h2 hab
        ·simp [h2]
       ·by_cases h2:t=u
        ·subst h2;simp [h1]
        ·simp only [h1,h2,if_false];exact hrel u
    ·exact stay o (o2::tl) rfl h
   ·exact stay o (o2::tl) rfl h
theorem keep_eq {l:List Nat} {a b:Env} (h: ∀t ∈ l,getE a t=getE b t):keepE (some l) a=keepE (some l) b:=by
 simp only [keepE]
 exact List.map_congr_left fun t ht=>by rw [h t ht]
theorem optR_sound {keep:Option (List Nat)} {os:List AOper} {e:Env} {σ:St} {r:Option D} {e':Env} {σ':St} (h:runReg callf glob n (optR keep os) e σ=some (r,e',σ')):
 ∃e'',runOps callf glob n os e σ=some (r,e'',σ')∧(r=none→keepE keep e''=keepE keep e'):=by
 have plain: ∀ {l:List AOper} {e':Env},runReg callf glob n l e σ=some (r,e',σ')→runOps callf glob n l e σ=some (r,e',σ'):=by
  intro l e' h
  unfold runReg at h
  split at h
  ·exact h
  ·split at h
   ·exact h
   ·cases h
 cases keep with
 |none=>exact ⟨e',plain h,fun _=>rfl⟩
 |some l=>
  have ok0:SubOK l [] (swapGo l os):=⟨(fun p hp=>by cases hp),(fun p hp=>by cases hp)⟩
  have hmax:=(foldl_max os 0).2
  simp only [optR] at h
  split at h
  ·exact ⟨e',plain h,fun _=>rfl⟩
  ·have core: ∀ {e2:Env} {σ:St},(∀t,getE e t=getE e2 t)→os.foldl (fun m o=>max m (o.dst.getD 0)) 0<n→runOps callf glob n (optGo l [] (swapGo l os)) e2 σ=some (r,e',σ')→
    ∃e'',runOps callf glob n os e σ=some (r,e'',σ')∧(r=none→keepE (some l) e''=keepE (some l) e'):=by
    intro e2 σ hrel hlt h
    obtain ⟨e3,h1,h2⟩:=optGo_sound l (swapGo l os) [] e e2 σ r e' σ' ok0 (fun t=>by simp only [AOpd.sub,List.lookup];exact hrel t)
     (fun o ho d hd=>by have:=swapGo_dst l _ os.length os (Nat.le_refl _) hmax o ho d hd;omega) h
    obtain ⟨e4,h3,h4⟩:=swapGo_sound l os.length os (Nat.le_refl _) e e σ r e3 σ' (fun t=>rfl) (fun o ho d hd=>by have:=hmax o ho d hd;omega) h1
    exact ⟨e4,h3,fun hr=>keep_eq fun t ht=>by rw [h4 hr t,h2 hr t ht]⟩
   split at h
   ·rename_i hnil
    unfold runReg at h
    simp only [List.all_nil,if_true,runOps,stepOper,stepVal,stepGo,stepOp,putE] at h
    split at h
    ·rename_i e1 σ1 hs
     split at hs
     ·rename_i hlt
      simp only [Option.map_some,Option.some.injEq,Prod.mk.injEq,true_and] at hs
      obtain ⟨rfl,rfl⟩:=hs
      refine core (e2:=setE e (os.foldl (fun m o=>max m (o.dst.getD 0)) 0) (getE e (os.foldl (fun m o=>max m (o.dst.getD 0)) 0))) (fun t=> ?_) hlt (by rw [hnil];exact h)
      rw [getE_setE']
      split
      ·rename_i ht;rw [ht]
      ·rfl
     ·cases hs
    ·rename_i hne
     split at hne
     ·exact absurd rfl (hne _ _)
     ·rename_i hlt
      rw [if_neg hlt] at h
      cases h
   ·rename_i o tl hcons
    unfold runReg at h
    simp only [List.all_cons,List.all_nil,Bool.and_true,decide_eq_true_eq] at h
    split at h
    ·rename_i hlt
     exact core (fun t=>rfl) hlt (by rw [hcons];exact h)
    ·cases h
end Go.AI
