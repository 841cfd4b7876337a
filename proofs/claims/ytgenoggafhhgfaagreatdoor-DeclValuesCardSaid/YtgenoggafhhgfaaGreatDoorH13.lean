/- Texts of the proof: what functions of the program compute, step by step. No conditions of its own. -/
import Derived.Test.YtgenoggafhhgfaaGreatDoorH12
import Derived.Test.YtgenoggafhhgfaaGreatDoorH9
set_option linter.unusedVariables false
set_option linter.unusedSimpArgs false
namespace Go.AI
open Go Go.Proofs Go.Lx
set_option maxRecDepth 100000
def S1 (σ:St) (ds:List D) (τ:St):St:=σ++[.row 1 ds 0]++τ
theorem Pz {σ:St} {ds:List D} {τ:St} : (S1 σ ds τ)[σ.length]? =some (.row 1 ds 0):=by unfold S1;rw [List.append_assoc];exact az
theorem KI {σ:St} {ds ds':List D} {τ:St} : (S1 σ ds τ).set σ.length (.row 1 ds' 0)=S1 σ ds' τ:=by unfold S1;rw [List.append_assoc,aN,List.append_assoc];rfl
theorem EW {σ:St} {ds:List D} {τ:St} : (S1 σ ds τ).length=σ.length+1+τ.length:=by unfold S1;simp;omega
theorem PA {σ:St} {ds:List D} {τ:St} (k:Nat): (S1 σ ds τ)[σ.length+1+k]? =τ[k]? :=by
 unfold S1
 have: (σ++[Obj.row 1 ds 0]).length=σ.length+1:=by simp
 rw [<-this,aS]
set_option maxHeartbeats 4000000 in
theorem CZ (d0 d1 d2 d3 d9 d71 d72 d73:D) (x:Ex) (q:Nat) (rest:List (List Ex)) (hr4: ∀xs ∈ rest,xs.length<=4) (hrl:rest.length<=27262976) (σ:St):
 ∀ (k j:Nat),j+k=rest.length-> ∀ (ds:List D) (xss:List (List Ex)) (τ:St),eK (σ.length+1) τ ds xss->ds.length+k<=27262976->τ[q]? =some (.box x.cs)->
  ∃ds' τ',eK (σ.length+1) (τ++τ') ds' (xss++(rest.drop j).map fun xs=>x::xs)/\
   aU (aD CI XB GI 93 false tE) [(0,d0),(1,d1),(2,d2),(3,d3),(8, .arr σ.length ds.length 0 ds.length),(9,d9),(11, .slice (cO rest)),(13, .ptr (σ.length+1+q) 0),(71,d71),(72,d72),(73,d73),(77, .slice (cO rest)),(78, .int .i64 rest.length),(79, .int .i64 (j:Nat))] (S1 σ ds τ)=
    some (.exit 4,[(0,d0),(1,d1),(2,d2),(3,d3),(8, .arr σ.length ds'.length 0 ds'.length),(9,d9),(11, .slice (cO rest)),(13, .ptr (σ.length+1+q) 0),(71,d71),(72,d72),(73,d73),(77, .slice (cO rest)),(78, .int .i64 rest.length),(79, .int .i64 rest.length),(80, .bool false)],S1 σ ds' (τ++τ'))
 |0,j,hj,ds,xss,τ,hR,hB,hx=>by
  obtain rfl:j=rest.length:=by omega
  rw [List.drop_length,List.map_nil,List.append_nil]
  refine ⟨ds,[],by rw [List.append_nil];exact hR,aH ?_ (by simp)⟩
  rw [List.append_nil]
  generalize cO rest=rd at*
  generalize S1 σ ds τ=σ1
  simp [tE]
 |k+1,j,hj,ds,xss,τ,hR,hB,hx=>by
  have hlt:j<rest.length:=by omega
  rw [List.drop_eq_getElem_cons hlt,List.map_cons]
  have hx4:=hr4 _ (List.getElem_mem hlt)
  have hk0: (τ++[Obj.row 7 (aX (x::rest[j])) 0])[τ.length]? =some (.row 7 (aX (x::rest[j])) 0):=by rw [az];rfl
  have hR2:eK (σ.length+1) (τ++[.row 7 (aX (x::rest[j])) 0]) (ds++[.arr (σ.length+1+τ.length) (rest[j].length+1) 0 (rest[j].length+1)]) (xss++[x::rest[j]]):=
   hR.app.snoc (k:=τ.length) (q:=0) (xs:=x::rest[j]) rfl hk0 (Nat.zero_le _)
  obtain ⟨ds',τ',h1,h2⟩:=CZ d0 d1 d2 d3 d9 d71 d72 d73 x q rest hr4 hrl σ k (j+1) (by omega) _ _ _ hR2 (by simp;omega) (bD hx)
  rw [List.append_assoc] at h1 h2
  rw [List.append_assoc] at h1
  refine ⟨ds',[.row 7 (aX (x::rest[j])) 0]++τ',h1, ?_⟩
  rw [<-h2]
  refine aO ?_
  clear h1 h2 hR2 hR
  have hw:=aI (n:=j) (by omega)
  have hjj: (j:Int) <rest.length:=by omega
  have hs:S1 σ (ds++[.arr (σ.length+1+τ.length) (rest[j].length+1) 0 (rest[j].length+1)]) (τ++[.row 7 (aX (x::rest[j])) 0])=
   (S1 σ ds τ).set σ.length (.row 1 (ds++[.arr (σ.length+1+τ.length) (rest[j].length+1) 0 (rest[j].length+1)]) 0)++[.row 7 (aX (x::rest[j])) 0]:=by
   rw [KI];unfold S1;rw [<-List.append_assoc]
  rw [hs]
  have g1:=Pz (σ:=σ) (ds:=ds) (τ:=τ)
  have gx: (S1 σ ds τ)[σ.length+1+q]? =some (.box x.cs):=(PA q).trans hx
  have gl:=EW (σ:=σ) (ds:=ds) (τ:=τ)
  have hlt1:σ.length< (S1 σ ds τ).length:=by rw [gl];omega
  obtain ⟨rd,hrd,hrdl,hrg⟩:=opq (fun xs=>D.slice (aX xs)) rest
  obtain ⟨r2,r3⟩:=hrg j hlt
  have hre:cO rest=rd:=hrd
  have hex:aX (x::rest[j])= .agg x.cs::aX rest[j]:=rfl
  rw [hre,hex]
  have hxl:=cu rest[j]
  have hxa:=yB rest[j]
  simp only [D.cells,D.one] at hxa
  have x1:=x.aL
  have x2:=x.aM
  have x3:=x.bJ
  have hb1: (1+rest[j].length) *120<=140737488355328:=by omega
  have hb2: (ds.length+1) *24<=140737488355328:=by omega
  generalize aX rest[j]=xd at*
  generalize rest[j].length=xl at*
  generalize x.cs=fc at*
  have s1: ∀o τ',(S1 σ ds τ++τ').set σ.length o=(S1 σ ds τ).set σ.length o++τ':=fun o τ'=>jb hlt1
  have g1': ∀τ',(S1 σ ds τ++τ')[σ.length]? =some (.row 1 ds 0):=fun τ'=>bD g1
  clear hs hlt1 hx
  generalize S1 σ ds τ=σ1 at*
  simp [tE,hlt,hjj,hw,hrdl,r2,r3,g1',gx,s1,gl,az,aS,aN,bP,hxl,hxa,x1,x2,x3,hb1,hb2,bw,rowOf, -List.all_eq_true]
  rw [Nat.add_comm 1 xl]
set_option maxHeartbeats 4000000 in
theorem C0 (d0 d1 d2 d3 d9:D) (first:List Ex) (hfl:first.length<=27262976) (rest:List (List Ex)) (hr4: ∀xs ∈ rest,xs.length<=4) (hrl:rest.length<=27262976) (σ:St):
 ∀ (k i:Nat),i+k=first.length-> ∀ (ds:List D) (xss:List (List Ex)) (τ:St),eK (σ.length+1) τ ds xss->xss.length+ ((first.drop i).flatMap fun x=>rest.map fun xs=>x::xs).length<=27262976->
  ∃ds' τ',eK (σ.length+1) (τ++τ') ds' (xss++(first.drop i).flatMap fun x=>rest.map fun xs=>x::xs)/\
   aU (aD CI XB GI 93 false tF) [(0,d0),(1,d1),(2,d2),(3,d3),(8, .arr σ.length ds.length 0 ds.length),(9,d9),(11, .slice (cO rest)),(71, .slice (aX first)),(72, .int .i64 first.length),(73, .int .i64 (i:Nat))] (S1 σ ds τ)=
    some (.exit 2,[(0,d0),(1,d1),(2,d2),(3,d3),(8, .arr σ.length ds'.length 0 ds'.length),(9,d9),(11, .slice (cO rest)),(71, .slice (aX first)),(72, .int .i64 first.length),(73, .int .i64 first.length),(74, .bool false)],S1 σ ds' (τ++τ'))
 |0,i,hi,ds,xss,τ,hR,hB=>by
  obtain rfl:i=first.length:=by omega
  rw [List.drop_length,List.flatMap_nil,List.append_nil]
  refine ⟨ds,[],by rw [List.append_nil];exact hR,aH ?_ (by simp)⟩
  rw [List.append_nil]
  generalize aX first=fd at*
  generalize S1 σ ds τ=σ1
  simp [tF]
 |k+1,i,hi,ds,xss,τ,hR,hB=>by
  have hlt:i<first.length:=by omega
  rw [List.drop_eq_getElem_cons hlt,List.flatMap_cons] at hB ⊢
  have hdl:=hR.len
  simp only [List.length_append,List.length_map] at hB
  have hxq: (τ++[Obj.box first[i].cs])[τ.length]? =some (.box first[i].cs):=by rw [az];rfl
  obtain ⟨ds1,τ1,r1,h1⟩:=CZ d0 d1 d2 d3 d9 (.slice (aX first)) (.int .i64 first.length) (.int .i64 (i:Nat)) first[i] τ.length rest hr4 hrl σ rest.length 0 (by omega) ds xss (τ++[.box first[i].cs]) hR.app (by omega) hxq
  rw [List.drop_zero] at r1
  obtain ⟨ds',τ',r2,h2⟩:=C0 d0 d1 d2 d3 d9 first hfl rest hr4 hrl σ k (i+1) (by omega) ds1 _ _ r1 (by simp only [List.length_append,List.length_map];omega)
  simp only [List.append_assoc] at r2 h2
  refine ⟨ds',[.box first[i].cs]++(τ1++τ'),r2, ?_⟩
  rw [<-h2]
  refine aO ?_
  rw [Int.natCast_zero] at h1
  have hw:=aI (n:=i) (by omega)
  have hii: (i:Int) <first.length:=by omega
  obtain ⟨fd,hfd,hfdl,hfg⟩:=opq Ex.d first
  obtain ⟨f2,f3⟩:=hfg i hlt
  have hfe:aX first=fd:=by rw [bI,hfd]
  rw [hfe] at h1 ⊢
  unfold Ex.d at f3
  have x1:=first[i].aL
  have x2:=first[i].aM
  have x3:=first[i].bJ
  have hrD:=mM rest
  have e1:S1 σ ds (τ++[.box first[i].cs])=S1 σ ds τ++[.box first[i].cs]:=by unfold S1;rw [List.append_assoc,List.append_assoc,List.append_assoc]
  have e2:τ++([Obj.box first[i].cs]++τ1)=τ++[Obj.box first[i].cs]++τ1:=by rw [List.append_assoc]
  rw [e1] at h1
  have gl:=EW (σ:=σ) (ds:=ds) (τ:=τ)
  rw [<-gl] at h1
  clear h2 r1 r2 hR hxq e1
  rw [List.append_assoc] at h1
  generalize S1 σ ds1 (τ++([Obj.box first[i].cs]++τ1))=σ2 at*
  generalize S1 σ ds τ=σ1 at*
  generalize first[i].cs=fc at*
  simp [tF,hlt,hii,hw,hfdl,hrD,f2,f3,x1,x2,x3,az,aS,aN,bP,aE,h1]
theorem BO (σ:St) (ds:List D) (τ:St):S1 σ ds τ=σ++([.row 1 ds 0]++τ):=by unfold S1;rw [List.append_assoc]
theorem PB (args:List Ty) (hl:args.length<=4) (tb wi:Nat) (σ:St):CI (.fn 166) [.ptr tb 0, .slice (args.map Ty.d), .ptr wi 0, .int .i64 (-1)] σ=some (.ret (.int .i64 0),σ):=by
 obtain ⟨ad,had,hal,_⟩:=opq Ty.d args
 rw [had]
 have hτ:ah CI XB GI lQ [.ptr tb 0, .slice ad, .ptr wi 0, .int .i64 (-1)] σ=some (.ret (.int .i64 0),σ):=by
  by_cases h0:args.length=0
  ·have h1:ad=[]:=List.length_eq_zero_iff.1 (by omega)
   subst h1
   simp [ah,lQ]
  ·have h1: ((args.length:Int) ==0)=false:=by rw [beq_eq_false_iff_ne];omega
   have w1:IntKind.i64.wrap (1+ (args.length:Int))=1+ (args.length:Int):=wrap_i64 (by omega) (by omega)
   have w2:IntKind.i64.wrap (1+ (args.length:Int) - 1)=(args.length:Int):=by rw [wrap_i64 (by omega) (by omega)];omega
   have w3: ¬((args.length:Int)<= -1):=by omega
   have hit:aU (aD CI XB GI 49 false kj) [(0, .ptr tb 0),(1, .slice ad),(2, .ptr wi 0),(3, .int .i64 (-1)),(9, .int .i64 0),(10, .int .i64 1)] σ=some (.exit 0,[(0, .ptr tb 0),(1, .slice ad),(2, .ptr wi 0),(3, .int .i64 (-1)),(9, .int .i64 0),(10, .int .i64 1),(23, .bool false)],σ):=by
    refine aH ?_ (by simp)
    simp [kj,hal,w1,w2,w3]
   simp [ah,lQ,hal,h1,hit]
 exact br BL hτ rfl rfl
def C75 (p:Prg) (A:Nat->Prop) (m:b9) (tb n:Nat):Prop:= ∀ (u:Mt) (cs:List D) (σ:St),u.wf p->u.ri p A->u.at σ (.agg cs)->IsT σ tb p m->CI (.fn 75) [.ptr tb 0, .agg cs, .int .i64 n] σ=some (.ret (.slice (aX (u.ty.val p n))),σ)
def PC (p:Prg) (m:b9) (tb wi:Nat) (ps:List Bs) (ms:List Mt) (M:Nat) (args:List Ty):Prop:= ∀ (σ:St),eI σ ps ms (.ptr wi 0)->IsT σ tb p m->
 CI (.fn 126) [.ptr tb 0, .slice (args.map Ty.d), .ptr wi 0, .int .i64 M] σ=some (.ret (.slice (cO (bG (Ty.val p) (args.map (Ty.rep ps (aP ms))) M))),σ)
set_option maxHeartbeats 8000000 in
theorem yF (p:Prg) (A:Nat->Prop) (m:b9) (cj:p.few) (tb K:Nat) (hK:K<=6) (h119: ∀j,j<=K->DP p m tb j) (h75: ∀j,1<=j->j<=K->C75 p A m tb j) (ps:List Bs) (ms:List Mt) (wi:Nat) (t:Ty) (rest:List Ty) (hl:rest.length<=3) (hwf: ∀x ∈ t::rest,(Mt.mk x ps ms).wf p) (dH: (Mt.mk t ps ms).ri p A) (M:Nat) (hM:M<=K)
 (h126: ∀j,j<=M->PC p m tb wi ps ms j rest) (σ:St) (hw:eI σ ps ms (.ptr wi 0)) (hT:IsT σ tb p m):
 ∀ (k j:Nat),j+k=M - rest.length-> ∀ (ds:List D) (xss:List (List Ex)) (τ:St),eK (σ.length+1) τ ds xss->
  xss.length+ (((List.range (M - rest.length)).drop j).flatMap fun i=>((t.rep ps (aP ms)).val p (i+1)).flatMap fun x=>(bG (Ty.val p) (rest.map (Ty.rep ps (aP ms))) (M - (i+1))).map fun xs=>x::xs).length<=27262976->
  ∃ds' τ',eK (σ.length+1) τ' ds' (xss++((List.range (M - rest.length)).drop j).flatMap fun i=>((t.rep ps (aP ms)).val p (i+1)).flatMap fun x=>(bG (Ty.val p) (rest.map (Ty.rep ps (aP ms))) (M - (i+1))).map fun xs=>x::xs)/\
   aU (aD CI XB GI 93 false mN) [(0, .ptr tb 0),(1, .slice (t.d::rest.map Ty.d)),(2, .ptr wi 0),(3, .int .i64 M),(8, .arr σ.length ds.length 0 ds.length),(9, .int .i64 ((j:Int) +1))] (S1 σ ds τ)=
    some (.exit 0,[(0, .ptr tb 0),(1, .slice (t.d::rest.map Ty.d)),(2, .ptr wi 0),(3, .int .i64 M),(8, .arr σ.length ds'.length 0 ds'.length),(9, .int .i64 (((M - rest.length:Nat):Int) +1)),(32, .bool false)],S1 σ ds' τ')
 |0,j,hj,ds,xss,τ,hR,hB2=>by
  obtain rfl:j=M - rest.length:=by omega
  rw [List.drop_of_length_le (by simp),List.flatMap_nil,List.append_nil]
  refine ⟨ds,τ,hR,aH ?_ (by simp)⟩
  have hrl: (rest.map Ty.d).length=rest.length:=List.length_map _
  have w1:IntKind.i64.wrap (((M - rest.length:Nat):Int) +1+ ((rest.length:Int) +1))=((M - rest.length:Nat):Int) +1+ ((rest.length:Int) +1):=wrap_i64 (by omega) (by omega)
  have w2:IntKind.i64.wrap (((M - rest.length:Nat):Int) +1+ ((rest.length:Int) +1) - 1)=((M - rest.length:Nat):Int) +1+ (rest.length:Int):=by rw [wrap_i64 (by omega) (by omega)];omega
  have w3: ¬(((M - rest.length:Nat):Int) +1+ (rest.length:Int)<=(M:Int)):=by omega
  generalize rest.map Ty.d=rd at*
  generalize S1 σ ds τ=σ1
  simp [mN,hrl,w1,w2,w3]
 |k+1,j,hj,ds,xss,τ,hR,hB2=>by
  have hlt:j<M - rest.length:=by omega
  have hdr: (List.range (M - rest.length)).drop j=j::(List.range (M - rest.length)).drop (j+1):=by
   rw [List.drop_eq_getElem_cons (by simpa using hlt),List.getElem_range]
  rw [hdr,List.flatMap_cons] at hB2 ⊢
  rw [List.length_append] at hB2
  have hwt:=hwf t List.mem_cons_self
  have hwS: ∀ds τ,eI (S1 σ ds τ) ps ms (.ptr wi 0):=fun ds τ=>by rw [BO];exact hw.app
  have hTS: ∀ds τ,IsT (S1 σ ds τ) tb p m:=fun ds τ=>by rw [BO];exact hT.app
  have hat: (Mt.mk t ps ms).at (S1 σ ds τ) (.agg (t.cs++[.ptr wi 0])):=Mt.gj.2 ⟨_,rfl,hwS ds τ⟩
  have e0: (Mt.mk t ps ms).ty=t.rep ps (aP ms):=by simp only [Mt.ty]
  have hcnt:=h119 (j+1) (by omega) _ _ _ hwt hat (hTS ds τ)
  have hval:=h75 (j+1) (by omega) (by omega) _ _ _ hwt dH hat (hTS ds τ)
  rw [e0] at hcnt hval
  have h166:=EH p m cj tb K hK h119 ps ms wi rest (by omega) (fun x hx=>hwf x (List.mem_cons_of_mem _ hx)) (M - (j+1)) (by omega) (S1 σ ds τ) (hwS ds τ) (hTS ds τ)
  have hrw:=h126 (M - (j+1)) (by omega) (S1 σ ds τ) (hwS ds τ) (hTS ds τ)
  have hrl:=gW p (rest.map (Ty.rep ps (aP ms))) (M - (j+1))
  have hfl:=tq p (t.rep ps (aP ms)) (j+1)
  have hr4: ∀xs ∈ bG (Ty.val p) (rest.map (Ty.rep ps (aP ms))) (M - (j+1)),xs.length<=4:=fun xs hx=>by
   rw [nY _ _ xs hx,List.length_map];omega
  have hrB:cp (Ty.cnt p) (rest.map (Ty.rep ps (aP ms))) (M - (j+1))<=27262976:=q6 cj _ (by rw [List.length_map];omega) _ (by omega)
  have hfB: (t.rep ps (aP ms)).cnt p (j+1)<=27262976:=Nat.le_trans (lO cj _ _ (by omega)) (rY _ (by omega))
  have w1:IntKind.i64.wrap ((j:Int) +1+ ((rest.length:Int) +1))=(j:Int) +1+ ((rest.length:Int) +1):=wrap_i64 (by omega) (by omega)
  have w2:IntKind.i64.wrap ((j:Int) +1+ ((rest.length:Int) +1) - 1)=(j:Int) +1+ (rest.length:Int):=by rw [wrap_i64 (by omega) (by omega)];omega
  have w3: (j:Int) +1+ (rest.length:Int)<=(M:Int):=by omega
  have w4:IntKind.i64.wrap ((j:Int) +1+1)=(j:Int) +1+1:=wrap_i64 (by omega) (by omega)
  have w5:IntKind.i64.wrap ((M:Int) - ((j:Int) +1))=((M - (j+1):Nat):Int):=by rw [wrap_i64 (by omega) (by omega)];omega
  have ej: ((j+1:Nat):Int)=(j:Int) +1:=by omega
  rw [ej] at hcnt hval
  obtain ⟨k1,m1,s1,a1,b1,t1,hc⟩: ∃k1 m1 s1 a1 b1 t1,t.cs=[.int .i64 k1, .int .i64 m1, .str s1, .slice a1, .slice b1, .int .i64 t1]:=by
   rcases t with ⟨k,n,s,l,ls,tail⟩;exact ⟨_,_,_,_,_,_,by simp only [Ty.cs];rfl⟩
  have hr6: (rest.map Ty.d).all (fun e=>e.cells.length==6)=true:=by
   rw [List.all_eq_true];intro e he
   obtain ⟨x,_,rfl⟩:=List.mem_map.1 he
   simp [Ty.d,D.cells,x.aL]
  simp only [D.cells] at hr6
  have hrdl: (rest.map Ty.d).length=rest.length:=List.length_map _
  have hr1: (1:Int)<=(rest.length:Int) +1:=by omega
  have htk: (rest.map Ty.d).take rest.length=rest.map Ty.d:=List.take_of_length_le (by omega)
  have htd:t.d= .agg t.cs:=rfl
  have hrD:=mM (bG (Ty.val p) (rest.map (Ty.rep ps (aP ms))) (M - (j+1)))
  have hfD:=cu ((t.rep ps (aP ms)).val p (j+1))
  rw [hc] at hcnt hval
  simp only [List.cons_append,List.nil_append] at hcnt hval
  by_cases hz:cp (Ty.cnt p) (rest.map (Ty.rep ps (aP ms))) (M - (j+1))=0\/(t.rep ps (aP ms)).cnt p (j+1)=0
  ·have hn: (((t.rep ps (aP ms)).val p (j+1)).flatMap fun x=>(bG (Ty.val p) (rest.map (Ty.rep ps (aP ms))) (M - (j+1))).map fun xs=>x::xs)=[]:=by
    rcases hz with hz|hz
    ·rw [hz] at hrl
     rw [List.length_eq_zero_iff.1 hrl];simp
    ·rw [hz] at hfl
     rw [List.length_eq_zero_iff.1 hfl];rfl
   rw [hn] at hB2 ⊢
   rw [List.nil_append]
   obtain ⟨ds',τ',r2,h2⟩:=yF p A m cj tb K hK h119 h75 ps ms wi t rest hl hwf dH M hM h126 σ hw hT k (j+1) (by omega) ds xss τ hR (by simpa using hB2)
   refine ⟨ds',τ',r2, ?_⟩
   rw [ej] at h2
   rw [<-h2]
   refine aO ?_
   rw [htd,hc]
   clear h2 r2 hR hn hB2 hat hwS hTS
   generalize S1 σ ds τ=σ1 at*
   generalize rest.map Ty.d=rd at*
   by_cases hz1:cp (Ty.cnt p) (rest.map (Ty.rep ps (aP ms))) (M - (j+1))=0
   ·rw [hz1] at h166
    simp [mN,hrdl,w1,w2,w3,w4,w5,hr1,htk,hr6,h166,bound, -List.all_eq_true]
   ·have hz2: (t.rep ps (aP ms)).cnt p (j+1)=0:=hz.resolve_left hz1
    rw [hz2] at hcnt
    have hzb: ((cp (Ty.cnt p) (rest.map (Ty.rep ps (aP ms))) (M - (j+1)):Int) ==0)=false:=by rw [beq_eq_false_iff_ne];omega
    generalize cp (Ty.cnt p) (rest.map (Ty.rep ps (aP ms))) (M - (j+1))=tg at*
    simp [mN,hrdl,w1,w2,w3,w4,w5,hr1,htk,hr6,h166,hz1,hzb,hcnt,bQ,aE,bound, -List.all_eq_true]
  ·have hz1:cp (Ty.cnt p) (rest.map (Ty.rep ps (aP ms))) (M - (j+1))≠0:=fun h=>hz (.inl h)
   have hz2: (t.rep ps (aP ms)).cnt p (j+1)≠0:=fun h=>hz (.inr h)
   have hzb: ((cp (Ty.cnt p) (rest.map (Ty.rep ps (aP ms))) (M - (j+1)):Int) ==0)=false:=by rw [beq_eq_false_iff_ne];omega
   have hzc: (((t.rep ps (aP ms)).cnt p (j+1):Int) ==0)=false:=by rw [beq_eq_false_iff_ne];omega
   have hdl:=hR.len
   obtain ⟨ds1,τ1,r1,h1⟩:=C0 (.ptr tb 0) (.slice (t.d::rest.map Ty.d)) (.ptr wi 0) (.int .i64 M) (.int .i64 ((j:Int) +1)) ((t.rep ps (aP ms)).val p (j+1)) (by rw [hfl];exact hfB) (bG (Ty.val p) (rest.map (Ty.rep ps (aP ms))) (M - (j+1))) hr4 (by rw [hrl];exact hrB) σ ((t.rep ps (aP ms)).val p (j+1)).length 0 (by omega) ds xss τ hR (by rw [List.drop_zero];omega)
   rw [List.drop_zero] at r1
   obtain ⟨ds',τ',r2,h2⟩:=yF p A m cj tb K hK h119 h75 ps ms wi t rest hl hwf dH M hM h126 σ hw hT k (j+1) (by omega) ds1 _ _ r1 (by rw [List.length_append];omega)
   rw [List.append_assoc] at r2
   refine ⟨ds',τ',r2, ?_⟩
   rw [ej] at h2
   rw [<-h2]
   refine aO ?_
   rw [Int.natCast_zero] at h1
   rw [htd,hc] at h1 ⊢
   clear h2 r1 r2 hR hB2 hat hwS hTS
   generalize S1 σ ds1 (τ++τ1)=σ2 at*
   generalize S1 σ ds τ=σ1 at*
   generalize rest.map Ty.d=rd at*
   generalize cp (Ty.cnt p) (rest.map (Ty.rep ps (aP ms))) (M - (j+1))=tg at*
   generalize (t.rep ps (aP ms)).cnt p (j+1)=cn at*
   generalize bG (Ty.val p) (rest.map (Ty.rep ps (aP ms))) (M - (j+1))=rs at*
   generalize (t.rep ps (aP ms)).val p (j+1)=vs at*
   simp [mN,hrdl,w1,w2,w3,w4,w5,hr1,htk,hr6,h166,hz1,hz2,hzb,hzc,hcnt,hval,hrw,hfD,h1,bQ,aE,bound, -List.all_eq_true]
theorem uS {α:Type} {G:Nat->List α} {a:Nat} : ∀ {b:Nat},a<=b->(∀i,a<=i->i<b->G i=[])->(List.range b).flatMap G=(List.range a).flatMap G
 |0,h,_=>by
  obtain rfl:a=0:=by omega
  rfl
 |b+1,h,hz=>by
  rcases Nat.lt_or_ge b a with hlt|hge
  ·obtain rfl:a=b+1:=by omega
   rfl
  ·rw [List.range_succ,List.flatMap_append,uS hge (fun i h1 h2=>hz i h1 (by omega))]
   simp [hz b hge (by omega)]
theorem uT {f:FuncId} {af:aF} (hT:aW f=some af) {args:List D} {σ τ:St} {r:Nat} (h:ah CI XB GI af args σ=some (.ret (.arr r 0 0 0),σ++τ)) (hr: (σ++τ)[r]? =some (.row 1 [] 0)) (hn:σ.length<=r)
 (hx:okF f:=by exact ⟨⟨rfl,rfl⟩,rfl⟩):CI (.fn f) args σ=some (.ret (.slice []),σ):=by
 refine dj hT h ?_ hx
 have:=jH (q:=qI) (f:=f) (es:=[]) hr hn (Nat.le_refl _) rfl
 exact this
theorem PD (args:List Ty) (hl:args.length<=4) (tb wi:Nat) (σ:St):CI (.fn 126) [.ptr tb 0, .slice (args.map Ty.d), .ptr wi 0, .int .i64 (-1)] σ=some (.ret (.slice []),σ):=by
 have h166:=fun σ=>PB args hl tb wi σ
 refine uT uU (τ:=[.row 1 [] 0, .row 1 [] 0]) (r:=σ.length+1) ?_ aS (by omega)
 generalize args.map Ty.d=ad at*
 simp [ah,nv,h166]
set_option maxHeartbeats 4000000 in
theorem PE (p:Prg) (A:Nat->Prop) (m:b9) (cj:p.few) (tb K:Nat) (hK:K<=6) (h119: ∀j,j<=K->DP p m tb j) (h75: ∀j,1<=j->j<=K->C75 p A m tb j) (ps:List Bs) (ms:List Mt) (wi:Nat): ∀ (args:List Ty),args.length<=4->(∀x ∈ args,(Mt.mk x ps ms).wf p/\(Mt.mk x ps ms).ri p A)-> ∀ (M:Nat),M<=K->PC p m tb wi ps ms M args
 | [],_,_,M,hM=>fun σ hw hT=>by
  have h166:=fun σ hw hT=>EH p m cj tb K hK h119 ps ms wi [] (by simp) (fun _ h=>by cases h) M hM σ hw hT
  have h166:=h166 (σ++[.row 1 [] 0]) hw.app hT.app
  simp only [List.map_nil] at h166 ⊢
  by_cases h0:M=0
  ·subst h0
   simp only [cp,if_true,Int.natCast_zero,Int.natCast_one] at h166
   have hτ:ah CI XB GI nv [.ptr tb 0, .slice [], .ptr wi 0, .int .i64 ((0:Nat):Int)] σ=some (.ret (.slice [.empty]),σ++[.row 1 [] 0]):=by
    simp [ah,nv,h166,bw]
   exact aR uU hτ rfl rfl
  ·simp only [cp,if_neg h0,Int.natCast_zero] at h166
   have hv:bG (Ty.val p) [] M=[]:=by simp only [bG,if_neg h0]
   rw [hv]
   refine uT uU (τ:=[.row 1 [] 0, .row 1 [] 0]) (r:=σ.length+1) ?_ aS (by omega)
   simp [ah,nv,h166]
 |t::rest,hl,hx,M,hM=>fun σ hw hT=>by
  have ih:=fun M hM=>PE p A m cj tb K hK h119 h75 ps ms wi rest (by simp at hl;omega) (fun x h=>hx x (List.mem_cons_of_mem _ h)) M hM
  have h166:=EH p m cj tb K hK h119 ps ms wi (t::rest) hl (fun x h=>(hx x h).1) M hM (σ++[.row 1 [] 0]) hw.app hT.app
  have hrl:=gW p ((t::rest).map (Ty.rep ps (aP ms))) M
  by_cases h0:cp (Ty.cnt p) ((t::rest).map (Ty.rep ps (aP ms))) M=0
  ·rw [h0] at h166 hrl
   rw [List.length_eq_zero_iff.1 hrl]
   refine uT uU (τ:=[.row 1 [] 0, .row 1 [] 0]) (r:=σ.length+1) ?_ aS (by omega)
   generalize (t::rest).map Ty.d=ad at*
   simp [ah,nv,h166]
  ·have hB:=q6 cj ((t::rest).map (Ty.rep ps (aP ms))) (by simpa using hl) M (by omega)
   have hrr: ((List.range (M - rest.length)).flatMap fun i=>((t.rep ps (aP ms)).val p (i+1)).flatMap fun x=>(bG (Ty.val p) (rest.map (Ty.rep ps (aP ms))) (M - (i+1))).map fun xs=>x::xs)=bG (Ty.val p) ((t::rest).map (Ty.rep ps (aP ms))) M:=by
    simp only [List.map_cons,bG]
    refine (uS (by omega) fun i h1 h2=> ?_).symm
    have h3:=gW p (rest.map (Ty.rep ps (aP ms))) (M - (i+1))
    rw [uG _ _ (by rw [List.length_map];omega)] at h3
    rw [List.length_eq_zero_iff.1 h3];simp
   obtain ⟨ds,τ,r1,hit⟩:=yF p A m cj tb K hK h119 h75 ps ms wi t rest (by simp at hl;omega) (fun x h=>(hx x h).1) (hx t List.mem_cons_self).2 M hM (fun j hj=>ih j (by omega)) σ hw hT (M - rest.length) 0 (by omega) [] [] [] rfl (by
    rw [List.drop_zero,hrr,hrl];simpa using hB)
   rw [List.drop_zero,List.nil_append,hrr] at r1
   have e1:S1 σ ds τ=σ++([.row 1 ds 0]++τ):=BO σ ds τ
   have hτ:ah CI XB GI nv [.ptr tb 0, .slice ((t::rest).map Ty.d), .ptr wi 0, .int .i64 M] σ=some (.ret (.arr σ.length ds.length 0 ds.length),S1 σ ds τ):=by
    have hb0: ((cp (Ty.cnt p) ((t::rest).map (Ty.rep ps (aP ms))) M:Int) ==0)=false:=by rw [beq_eq_false_iff_ne];omega
    have hlm: ((t::rest).map Ty.d).length=rest.length+1:=by simp
    have hlz: ((rest.length:Int) +1==0)=false:=by rw [beq_eq_false_iff_ne];omega
    simp only [Int.natCast_zero,Int.zero_add,List.length_nil] at hit
    have hS2:S1 σ [] []=σ++[.row 1 [] 0]:=by unfold S1;rw [List.append_nil]
    rw [hS2] at hit
    have hcm:t.d::rest.map Ty.d=(t::rest).map Ty.d:=rfl
    rw [hcm] at hit
    clear r1 hrr hrl ih hB e1
    generalize S1 σ ds τ=σ2 at*
    generalize cp (Ty.cnt p) ((t::rest).map (Ty.rep ps (aP ms))) M=tg at*
    generalize (t::rest).map Ty.d=ad at*
    simp [ah,nv,h166,h0,hb0,hlm,hlz,hit]
   obtain ⟨s1,s2⟩:=uQ (σ.length+1) σ.length (Pz (σ:=σ) (ds:=ds) (τ:=τ)) (Nat.zero_le _) (fun k=>PA k) r1 (by omega) (by omega)
   rw [e1] at hτ s1 s2
   refine dj uU hτ ?_
   rw [gG s1 s2,(sk _).slice.2]
def S5 (σ:St) (x:Obj) (b:List Ex) (τ:St):St:=σ++[x, .row 7 (aX b) 0]++τ
theorem KJ {σ τ:St} {x:Obj} {b:List Ex} : (S5 σ x b τ)[σ.length+1]? =some (.row 7 (aX b) 0):=by unfold S5;rw [List.append_assoc];exact aS
theorem iR (σ τ:St) (x:Obj) (b:List Ex):S5 σ x b τ=σ++([x, .row 7 (aX b) 0]++τ):=by unfold S5;rw [List.append_assoc]
theorem EX {σ τ:St} {x:Obj} {b:List Ex} : (S5 σ x b τ).length=σ.length+2+τ.length:=by unfold S5;simp;omega
theorem RK {σ τ:St} {x:Obj} {b:List Ex} (k:Nat): (S5 σ x b τ)[σ.length+2+k]? =τ[k]? :=by
 unfold S5
 have: (σ++[x,Obj.row 7 (aX b) 0]).length=σ.length+2:=by simp
 rw [<-this,aS]
theorem EY {σ τ:St} {x:Obj} {b:List Ex} (e:Ex): (S5 σ x b τ).set (σ.length+1) (.row 7 (aX b++[.agg e.cs]) 0)=S5 σ x (b++[e]) τ:=by
 have:aX (b++[e])=aX b++[.agg e.cs]:=by rw [lI];rfl
 unfold S5;rw [this,List.append_assoc,bP,List.append_assoc];rfl
theorem mO {σ τ τ':St} {x:Obj} {b:List Ex} :S5 σ x b τ++τ'=S5 σ x b (τ++τ'):=by unfold S5;simp only [List.append_assoc]
set_option maxHeartbeats 4000000 in
theorem EZ (d0 d2 d10 d51 d52 d53:D) (cn:Bs) (ad:D) (q:Nat) (ll:List (List Ex)) (hl:ll.length<=27262976) (x:Obj) (σ τ:St) (hq:τ[q]? =some (.box [.str cn,ad])): ∀ (k j:Nat) (b:List Ex),j+k=ll.length->b.length+k<=27262976->
 aU (aD CI XB GI 79 false yG) [(0,d0),(2,d2),(6, .arr (σ.length+1) b.length 0 b.length),(10,d10),(12, .ptr (σ.length+2+q) 0),(51,d51),(52,d52),(53,d53),(63, .slice (cO ll)),(64, .int .i64 ll.length),(65, .int .i64 (j:Nat))] (S5 σ x b τ)=
  some (.exit 5,[(0,d0),(2,d2),(6, .arr (σ.length+1) (b++(ll.drop j).map (ee cn)).length 0 (b++(ll.drop j).map (ee cn)).length),(10,d10),(12, .ptr (σ.length+2+q) 0),(51,d51),(52,d52),(53,d53),(63, .slice (cO ll)),(64, .int .i64 ll.length),(65, .int .i64 ll.length),(66, .bool false)],S5 σ x (b++(ll.drop j).map (ee cn)) τ)
 |0,j,b,hj,hb=>by
  obtain rfl:j=ll.length:=by omega
  rw [List.drop_length,List.map_nil,List.append_nil]
  refine aH ?_ (by simp)
  generalize cO ll=rd
  generalize S5 σ x b τ=σ1
  simp [yG]
 |k+1,j,b,hj,hb=>by
  have hlt:j<ll.length:=by omega
  have h2:=EZ d0 d2 d10 d51 d52 d53 cn ad q ll hl x σ τ hq k (j+1) (b++[ee cn ll[j]]) (by omega) (by simp;omega)
  rw [List.drop_eq_getElem_cons hlt,List.map_cons]
  rw [List.append_assoc] at h2
  rw [show ee cn ll[j]::(ll.drop (j+1)).map (ee cn)=[ee cn ll[j]]++(ll.drop (j+1)).map (ee cn) by rfl,<-h2]
  refine aO ?_
  have hw:=aI (n:=j) (by omega)
  have hjj: (j:Int) <ll.length:=by omega
  obtain ⟨rd,hrd,hrdl,hrg⟩:=opq (fun xs=>D.slice (aX xs)) ll
  obtain ⟨r2,r3⟩:=hrg j hlt
  have hre:cO ll=rd:=hrd
  rw [hre]
  have hs:=EY (σ:=σ) (τ:=τ) (x:=x) (b:=b) (ee cn ll[j])
  have hvc: (ee cn ll[j]).cs=[.int .i64 10, .int .i64 0, .str cn, .str [], .slice [], .slice (aX ll[j]), .slice []]:=by unfold ee;simp only [Ex.cs];rfl
  rw [<-hs,hvc,List.length_append]
  have g1:=KJ (σ:=σ) (τ:=τ) (x:=x) (b:=b)
  have gq: (S5 σ x b τ)[σ.length+2+q]? =some (.box [.str cn,ad]):=(RK q).trans hq
  have hbl:=cu b
  have hba: (b.length+1) *120<=140737488355328:=by omega
  clear hs h2 hvc
  generalize aX ll[j]=xd at*
  generalize aX b=bd at*
  generalize S5 σ x b τ=σ1 at*
  simp [yG,hlt,hjj,hw,hrdl,r2,r3,g1,gq,hbl,hba,bQ,bw,rowOf,aE]
set_option maxHeartbeats 4000000 in
theorem KK (p:Prg) (m:b9) (tb:Nat) (n nm:Int) (hnm:IntKind.i64.wrap (n - 1)=nm) (ps:List Bs) (ms:List Mt) (wi:Nat) (cons:List Con) (hc8:cons.length<=8) (R:Con->List (List Ex)) (hR: ∀c ∈ cons,(R c).length<=27262976)
 (h126: ∀c ∈ cons,∀σ,eI σ ps ms (.ptr wi 0)->IsT σ tb p m->CI (.fn 126) [.ptr tb 0, .slice (c.args.map Ty.d), .ptr wi 0, .int .i64 nm] σ=some (.ret (.slice (cO (R c))),σ))
 (hB: (cons.map fun c=>(R c).length).sum<=27262976) (x:Obj) (σ τc:St) (hwS: ∀b τ,eI (S5 σ x b (τc++τ)) ps ms (.ptr wi 0)) (hTS: ∀b τ,IsT (S5 σ x b (τc++τ)) tb p m):
 ∃τ',aU (aD CI XB GI 79 false uV) [(0, .ptr tb 0),(2, .int .i64 n),(6, .arr (σ.length+1) 0 0 0),(10, .ptr wi 0),(51, .slice (cons.map Con.d)),(52, .int .i64 cons.length),(53, .int .i64 0)] (S5 σ x [] τc)=
  some (.exit 3,[(0, .ptr tb 0),(2, .int .i64 n),(6, .arr (σ.length+1) (cons.flatMap fun c=>(R c).map (ee c.name)).length 0 (cons.flatMap fun c=>(R c).map (ee c.name)).length),(10, .ptr wi 0),(51, .slice (cons.map Con.d)),(52, .int .i64 cons.length),(53, .int .i64 cons.length),(54, .bool false)],S5 σ x (cons.flatMap fun c=>(R c).map (ee c.name)) (τc++τ')):=by
 obtain ⟨cd,hcd,hcl,hcg⟩:=opq Con.d cons
 rw [hcd]
 obtain ⟨τ',hit⟩:=cA (γ:=Unit) (f:=aD CI XB GI 79 false uV) cons (fun i (b:List Ex)=>[(0, .ptr tb 0),(2, .int .i64 n),(6, .arr (σ.length+1) b.length 0 b.length),(10, .ptr wi 0),(51, .slice cd),(52, .int .i64 cons.length),(53, .int .i64 (i:Nat))])
  (fun b=>S5 σ x b τc) (fun i b=>b.length=((cons.take i).map fun c=>(R c).length).sum) (fun _ c b=> .inl (b++(R c).map (ee c.name))) (fun _=>(.ret,[])) (fun _=>[])
  (fun b=>(.exit 3,[(0, .ptr tb 0),(2, .int .i64 n),(6, .arr (σ.length+1) b.length 0 b.length),(10, .ptr wi 0),(51, .slice cd),(52, .int .i64 cons.length),(53, .int .i64 cons.length),(54, .bool false)])) (by simp) (by simp)
  (fun i hi b b' hb hs=>by
    cases hs
    rw [de _ _ _ hi,List.length_append,List.length_map,hb])
  (fun i hi b τ hb=>by
    have hwr:=aI (n:=i) (by omega)
    obtain ⟨g2,g3⟩:=hcg i hi
    have hii: (i:Int) <cons.length:=by omega
    have hle:=gX (fun c:Con=>(R c).length) cons (i+1)
    rw [de _ _ _ hi,<-hb] at hle
    have hc2:cons[i].cs=[.str cons[i].name, .slice (cons[i].args.map Ty.d)]:=by unfold Con.cs;rw [bS]
    have hdd:cons[i].d= .agg [.str cons[i].name, .slice (cons[i].args.map Ty.d)]:=by rw [<-hc2];rfl
    rw [hdd] at g3
    refine ⟨τ++[.box [.str cons[i].name, .slice (cons[i].args.map Ty.d)]], ?_⟩
    simp only
    rw [mO,mO]
    have h126:=h126 _ (List.getElem_mem hi) (S5 σ x b (τc++(τ++[.box [.str cons[i].name, .slice (cons[i].args.map Ty.d)]]))) (hwS _ _) (hTS _ _)
    have hq: (τc++(τ++[Obj.box [.str cons[i].name, .slice (cons[i].args.map Ty.d)]]))[(τc++τ).length]? =some (.box [.str cons[i].name, .slice (cons[i].args.map Ty.d)]):=by
     rw [<-List.append_assoc,az];rfl
    have h1:=EZ (.ptr tb 0) (.int .i64 n) (.ptr wi 0) (.slice cd) (.int .i64 cons.length) (.int .i64 (i:Nat)) cons[i].name (.slice (cons[i].args.map Ty.d)) (τc++τ).length (R cons[i]) (hR _ (List.getElem_mem hi)) x σ (τc++(τ++[.box [.str cons[i].name, .slice (cons[i].args.map Ty.d)]])) hq (R cons[i]).length 0 b (by omega) (by omega)
    rw [List.drop_zero,Int.natCast_zero] at h1
    have hrl:=mM (R cons[i])
    have gl:=EX (σ:=σ) (τ:=τc++τ) (x:=x) (b:=b)
    have e1:S5 σ x b (τc++(τ++[Obj.box [.str cons[i].name, .slice (cons[i].args.map Ty.d)]]))=S5 σ x b (τc++τ)++[Obj.box [.str cons[i].name, .slice (cons[i].args.map Ty.d)]]:=by rw [mO,List.append_assoc]
    rw [<-gl] at h1
    rw [e1] at h1 h126
    clear hwS hTS hq hB hb hle e1 gl
    generalize S5 σ x (b++(R cons[i]).map (ee cons[i].name)) (τc++(τ++[Obj.box [.str cons[i].name, .slice (cons[i].args.map Ty.d)]]))=σ2 at*
    generalize S5 σ x b (τc++τ)=σ1 at*
    generalize cons[i].args.map Ty.d=ad at*
    generalize b++(R cons[i]).map (ee cons[i].name)=b' at*
    generalize cons[i].name=cn at*
    simp [uV,hi,hii,hwr,hcl,g2,g3,az,aS,aN,bP,hnm,h126,hrl,h1,aE])
  (fun b τ hb=>⟨τ,by
    generalize S5 σ x b τc++τ=σ1 at*
    simp [uV,hcl]⟩) [] [] (by simp)
 rw [lT,List.append_nil,List.nil_append] at hit
 simp only [Int.natCast_zero,List.length_nil] at hit
 rw [mO] at hit
 exact ⟨τ',hit⟩
def fL (kd:Int) (c:Nat):List Ex:=(List.range c).map fun i=> .mk kd (i:Nat) [] [] [] [] []
theorem DY (kd:Int) (c:Nat):fL kd (c+1)=fL kd c++[.mk kd (c:Nat) [] [] [] [] []]:=by unfold fL;rw [List.range_succ,List.map_append];rfl
set_option maxHeartbeats 2000000 in
theorem uW (kd:Int) (c:Nat) (hc:c<=2) (x:Obj) (σ τ:St): ∀ (k i:Nat),i+k=c->
 aU (aD CI XB GI 79 false uX) [(6, .arr (σ.length+1) (fL kd i).length 0 (fL kd i).length),(7, .int .i64 kd),(33, .int .i64 c),(34, .int .i64 (i:Nat))] (S5 σ x (fL kd i) τ)=
  some (.exit 1,[(6, .arr (σ.length+1) (fL kd c).length 0 (fL kd c).length),(7, .int .i64 kd),(33, .int .i64 c),(34, .int .i64 c),(35, .bool false)],S5 σ x (fL kd c) τ)
 |0,i,hi=>by
  obtain rfl:i=c:=by omega
  refine aH ?_ (by simp)
  generalize S5 σ x (fL kd i) τ=σ1
  simp [uX]
 |k+1,i,hi=>by
  rw [<-uW kd c hc x σ τ k (i+1) (by omega)]
  refine aO ?_
  have hw:=aI (n:=i) (by omega)
  have hii: (i:Int) <c:=by omega
  rw [DY,List.length_append]
  have hl: (fL kd i).length=i:=by unfold fL;simp
  have hs:=EY (σ:=σ) (τ:=τ) (x:=x) (b:=fL kd i) (.mk kd (i:Nat) [] [] [] [] [])
  have hvc: (Ex.mk kd (i:Nat) [] [] [] [] []).cs=[.int .i64 kd, .int .i64 i, .str [], .str [], .slice [], .slice [], .slice []]:=rfl
  rw [<-hs,hvc]
  have g1:=KJ (σ:=σ) (τ:=τ) (x:=x) (b:=fL kd i)
  have hbl:=cu (fL kd i)
  rw [hl] at hbl ⊢
  have hba: (i+1) *120<=140737488355328:=by omega
  clear hs
  generalize aX (fL kd i)=bd at*
  generalize S5 σ x (fL kd i) τ=σ1 at*
  simp [uX,hii,hw,g1,hbl,hba,bQ,bw,rowOf,aE]
theorem Gr {σ τ:St} {x:Obj} {b b':List Ex} : (S5 σ x b τ).set (σ.length+1) (.row 7 (aX b') 0)=S5 σ x b' τ:=by
 unfold S5;rw [List.append_assoc,bP,List.append_assoc];rfl
set_option maxHeartbeats 8000000 in
theorem c75 (p:Prg) (A:Nat->Prop) (m:b9) (hdl:p.data.length<=12) (hls: ∀d ∈ p.data,d.fit p) (cj:p.few) (hA:ko p A) (hvk: ∀d ∈ p.data,∀c ∈ d.cons,∀a ∈ c.args,a.vk) (tb:Nat): ∀ (n:Nat),n<=7->C75 p A m tb n:=by
 intro n
 induction n using Nat.strongRecOn with
 |ind n IH=>
 intro hn u cs σ hwf dH hat hT
 obtain ⟨cs',hat',h124⟩:=Ks p u hwf σ cs hat
 obtain ⟨nwf,nk⟩:=u.nS hwf
 have nfine:=u.lR hwf dH
 have hty:=u.nT hwf
 obtain ⟨_,hxx,c1,c3⟩:=Mt.nU hat
 cases hxx
 have c2:cs.take 7=cs:=List.take_of_length_le (by omega)
 have c4:cs.drop 7=[]:=List.drop_of_length_le (by omega)
 rw [<-hty]
 generalize u.now=u' at*
 rcases u' with ⟨⟨tk,tn,ts,L,tls,ttl⟩,ps,ml⟩
 simp only at nk
 obtain ⟨w,hc,hw⟩:=Mt.gj.1 hat'
 cases hc
 have hnc: (Ty.mk tk tn ts L tls ttl).cs++[w]=[.int .i64 tk, .int .i64 tn, .str ts, .slice (aT L), .slice (tls.map Lab.d), .int .i64 ttl,w]:=by simp only [Ty.cs];rfl
 have h124:=fun τ=>h124 (σ++τ) τ rfl
 have hwf2:w= .bL\/ ∃a,w= .ptr a 0:=hw.elim (fun h=> .inl h.1) fun ⟨a,_,_,h,_⟩=> .inr ⟨a,h⟩
 have h119:=fun τ=>Kx p m hdl hls cj tb n hn _ _ (σ++τ) nwf (Mt.uB _ _ hat') hT.app
 simp only [Mt.ty,Ty.ym _ _ nk] at h119 ⊢
 obtain ⟨nsm,nord,npl,nm4,nml⟩:=nwf
 obtain ⟨nff,nvk,nfl⟩:=nfine
 simp only [Ty.ff,Ty.vk] at nff nvk
 by_cases t6:tk=6
 rotate_left
 ·rw [pM p t6]
  rw [uF p t6] at h119
  rw [hnc] at h124 h119
  have hk:tk=2\/tk=3\/tk=4:=by
   have:=nff.1
   omega
  suffices h: ∃τ vs,ah CI XB GI wu [.ptr tb 0, .agg cs, .int .i64 n] σ=some (.ret (.arr (σ.length+1) vs.length 0 vs.length),σ++([.box [.int .i64 tk, .int .i64 tn, .str ts, .slice (aT L), .slice (tls.map Lab.d), .int .i64 ttl,w], .row 7 (aX vs) 0]++τ))/\vs=(if n=1 then pK tk else []) by
   obtain ⟨τ,vs,h1,h2⟩:=h
   rw [<-h2]
   refine dj Jh h1 ?_
   have hr: (σ++([Obj.box [.int .i64 tk, .int .i64 tn, .str ts, .slice (aT L), .slice (tls.map Lab.d), .int .i64 ttl,w], .row 7 (aX vs) 0]++τ))[σ.length+1]? =some (.row 7 (aX vs) 0):=aS
   have:=jH (q:=qI) (f:=75) hr (by omega) (Nat.zero_le _) (bu vs).1
   rw [cu,(bu vs).2] at this
   exact this
  by_cases n1:n=1
  ·subst n1
   rw [if_pos rfl] at h119 ⊢
   simp only [Int.natCast_one] at h119
   rcases hk with rfl|rfl|rfl
   ·have hit:=uW 1 2 (by omega) (.box [.int .i64 2, .int .i64 tn, .str ts, .slice (aT L), .slice (tls.map Lab.d), .int .i64 ttl,w]) σ [.map [(.int .i64 2, .int .i64 1),(.int .i64 3, .int .i64 2),(.int .i64 4, .int .i64 3)]] 2 0 (by omega)
    rw [iR,iR] at hit
    refine ⟨[.map [(.int .i64 2, .int .i64 1),(.int .i64 3, .int .i64 2),(.int .i64 4, .int .i64 3)]],fL 1 2, ?_,rfl⟩
    have hx:aX (fL 1 0)=[]:=rfl
    have hl: (fL 1 0).length=0:=rfl
    rw [hx,hl] at hit
    have e2: ((2:Nat):Int)=2:=rfl
    simp only [Int.natCast_zero,Int.natCast_one,e2,List.cons_append,List.nil_append] at hit
    generalize aX (fL 1 2)=vd at*
    generalize (fL 1 2).length=vl at*
    rcases hwf2 with rfl| ⟨wa,rfl⟩<;>simp [ah,wu,az,aS,aN,bP,c1,c2,c3,c4,h124,h119,aE,gD,eZ,D.cX,hit]
   ·have hit:=uW 2 2 (by omega) (.box [.int .i64 3, .int .i64 tn, .str ts, .slice (aT L), .slice (tls.map Lab.d), .int .i64 ttl,w]) σ [.map [(.int .i64 2, .int .i64 1),(.int .i64 3, .int .i64 2),(.int .i64 4, .int .i64 3)]] 2 0 (by omega)
    rw [iR,iR] at hit
    refine ⟨[.map [(.int .i64 2, .int .i64 1),(.int .i64 3, .int .i64 2),(.int .i64 4, .int .i64 3)]],fL 2 2, ?_,rfl⟩
    have hx:aX (fL 2 0)=[]:=rfl
    have hl: (fL 2 0).length=0:=rfl
    rw [hx,hl] at hit
    have e2: ((2:Nat):Int)=2:=rfl
    simp only [Int.natCast_zero,Int.natCast_one,e2,List.cons_append,List.nil_append] at hit
    generalize aX (fL 2 2)=vd at*
    generalize (fL 2 2).length=vl at*
    rcases hwf2 with rfl| ⟨wa,rfl⟩<;>simp [ah,wu,az,aS,aN,bP,c1,c2,c3,c4,h124,h119,aE,gD,eZ,D.cX,hit]
   ·have hit:=uW 3 1 (by omega) (.box [.int .i64 4, .int .i64 tn, .str ts, .slice (aT L), .slice (tls.map Lab.d), .int .i64 ttl,w]) σ [.map [(.int .i64 2, .int .i64 1),(.int .i64 3, .int .i64 2),(.int .i64 4, .int .i64 3)]] 1 0 (by omega)
    rw [iR,iR] at hit
    refine ⟨[.map [(.int .i64 2, .int .i64 1),(.int .i64 3, .int .i64 2),(.int .i64 4, .int .i64 3)]],fL 3 1, ?_,rfl⟩
    have hx:aX (fL 3 0)=[]:=rfl
    have hl: (fL 3 0).length=0:=rfl
    rw [hx,hl] at hit
    have e2: ((2:Nat):Int)=2:=rfl
    simp only [Int.natCast_zero,Int.natCast_one,e2,List.cons_append,List.nil_append] at hit
    generalize aX (fL 3 1)=vd at*
    generalize (fL 3 1).length=vl at*
    rcases hwf2 with rfl| ⟨wa,rfl⟩<;>simp [ah,wu,az,aS,aN,bP,c1,c2,c3,c4,h124,h119,aE,gD,eZ,D.cX,hit]
  ·rw [if_neg n1] at h119 ⊢
   have key: ∀kd:Int,aU (aD CI XB GI 79 false uX) [(6, .arr (σ.length+1) 0 0 0),(7, .int .i64 kd),(33, .int .i64 0),(34, .int .i64 0)] (σ++([.box [.int .i64 tk, .int .i64 tn, .str ts, .slice (aT L), .slice (tls.map Lab.d), .int .i64 ttl,w], .row 7 [] 0]++[.map [(.int .i64 2, .int .i64 1),(.int .i64 3, .int .i64 2),(.int .i64 4, .int .i64 3)]]))=some (.exit 1,[(6, .arr (σ.length+1) 0 0 0),(7, .int .i64 kd),(33, .int .i64 0),(34, .int .i64 0),(35, .bool false)],σ++([.box [.int .i64 tk, .int .i64 tn, .str ts, .slice (aT L), .slice (tls.map Lab.d), .int .i64 ttl,w], .row 7 [] 0]++[.map [(.int .i64 2, .int .i64 1),(.int .i64 3, .int .i64 2),(.int .i64 4, .int .i64 3)]])):=fun kd=>by
    have hit:=uW kd 0 (by omega) (.box [.int .i64 tk, .int .i64 tn, .str ts, .slice (aT L), .slice (tls.map Lab.d), .int .i64 ttl,w]) σ [.map [(.int .i64 2, .int .i64 1),(.int .i64 3, .int .i64 2),(.int .i64 4, .int .i64 3)]] 0 0 (by omega)
    rw [iR] at hit
    exact hit
   refine ⟨[.map [(.int .i64 2, .int .i64 1),(.int .i64 3, .int .i64 2),(.int .i64 4, .int .i64 3)]],[], ?_,rfl⟩
   have hx:aX []=[]:=rfl
   rw [hx]
   simp only [Int.natCast_zero] at h119
   simp only [List.cons_append,List.nil_append] at key
   have nb: ((n:Int) != 1)=true:=by simp;omega
   rcases hk with rfl|rfl|rfl<;>rcases hwf2 with rfl| ⟨wa,rfl⟩<;>simp [ah,wu,az,aS,aN,bP,c1,c2,c3,c4,h124,h119,aE,gD,eZ,D.cX,key]
 subst t6
 obtain ⟨nod,nop⟩:=dM nord
 obtain ⟨i,hix,hdx,hi,hlen⟩:=jM nod
 have hdo:=mJ hix hi
 have hin1:=gi npl nm4 nml L (fun y hy=>⟨eM nsm.2.2.2 hy,nop y hy⟩)
 have hin2:=gH (ps:=ps) nfl L (fun y hy=>⟨eV.1 nff.2.2 y hy,iG.1 nvk.2.2 y hy⟩)
 have hdf:=hls _ (List.getElem_mem hi)
 have hfd:=cj _ (List.getElem_mem hi)
 have hAi:A i:=by rw [<-hdx];exact nff.2.1 rfl
 have hnowT:aP ((inner ps ml L).map Mt.now)=L.map (Ty.rep ps (aP ml)):=by
  rw [<-jO,eH,eH,List.map_map]
  exact List.map_congr_left fun y hy=>y.nT (fA hin1 hy)
 have hnowW:gB p ((inner ps ml L).map Mt.now):=by
  have: ∀ (l:List Mt),gB p l->gB p (l.map Mt.now):=fun l=>by
   induction l with
   |nil=>exact fun _=>trivial
   |cons a r ih=>exact fun h=>⟨(a.nS h.1).1,ih h.2⟩
  exact this _ hin1
 have hnowF:gk p A ((inner ps ml L).map Mt.now):=by
  have: ∀ (l:List Mt),gB p l->gk p A l->gk p A (l.map Mt.now):=fun l=>by
   induction l with
   |nil=>exact fun _ _=>trivial
   |cons a r ih=>exact fun h hf=>⟨a.lR h.1 hf.1,ih h.2 hf.2⟩
  exact this _ hin1 hin2
 obtain ⟨τ,h125,hwith⟩:=Pj p m hdl 6 tn ts L tls ttl ps ml nsm.1 (fun y hy=>fA hin1 (List.mem_map_of_mem (f:=fun t=>Mt.mk t ps ml) hy)) _ tb i hi hix (S5 σ (.box ((Ty.mk 6 tn ts L tls ttl).cs++[w])) [] []) (by rw [iR];exact hT.app) (by rw [iR];exact Mt.uB _ _ hat')
 have hl2: (S5 σ (.box ((Ty.mk 6 tn ts L tls ttl).cs++[w])) [] []).length=σ.length+2:=by rw [EX];rfl
 rw [hl2,mO,List.nil_append] at h125 hwith
 have hrow: ∀τ',(S5 σ (.box ((Ty.mk 6 tn ts L tls ttl).cs++[w])) [] (τ++τ'))[σ.length+1]? =some (.row 7 [] 0):=fun τ'=>KJ
 have hwS: ∀b τ',eI (S5 σ (.box ((Ty.mk 6 tn ts L tls ttl).cs++[w])) b (τ++τ')) p.data[i].params ((inner ps ml L).map Mt.now) (.ptr (σ.length+2+2) 0):=fun b τ'=>by
  rw [<-Gr (b:=[])]
  refine eI.Kr (hrow τ') ?_
  rw [<-mO];exact hwith.app
 have hTS: ∀b τ',IsT (S5 σ (.box ((Ty.mk 6 tn ts L tls ttl).cs++[w])) b (τ++τ')) tb p m:=fun b τ'=>by rw [iR];exact hT.app
 obtain ⟨R,hRd⟩: ∃R:Con->List (List Ex),∀c,R c=if n=0 then [] else bG (Ty.val p) (c.args.map (Ty.rep p.data[i].params (L.map (Ty.rep ps (aP ml))))) (n - 1):=⟨_,fun _=>rfl⟩
 obtain ⟨nm,hnm⟩: ∃nm,IntKind.i64.wrap ((n:Int) - 1)=nm:=⟨_,rfl⟩
 have h126: ∀c ∈ p.data[i].cons,∀σ2,eI σ2 p.data[i].params ((inner ps ml L).map Mt.now) (.ptr (σ.length+2+2) 0)->IsT σ2 tb p m->CI (.fn 126) [.ptr tb 0, .slice (c.args.map Ty.d), .ptr (σ.length+2+2) 0, .int .i64 nm] σ2=some (.ret (.slice (cO (R c))),σ2):=fun c hc σ2 hw2 hT2=>by
  rw [hRd]
  rcases n with _|n
  ·have:nm= -1:=by rw [<-hnm];exact wrap_i64 (by omega) (by omega)
   rw [this,if_pos rfl]
   exact PD c.args (hfd.2 c hc) tb _ σ2
  ·have:nm=(n:Int):=by rw [<-hnm,wrap_i64 (by omega) (by omega)];omega
   rw [this,if_neg (by omega),Nat.add_sub_cancel]
   have h:=PE p A m cj tb n (by omega) (fun j hj=>Kx p m hdl hls cj tb j (by omega)) (fun j h1 hj=>IH j (by omega) (by omega)) p.data[i].params ((inner ps ml L).map Mt.now) (σ.length+2+2) c.args (hfd.2 c hc)
    (fun y hy=>⟨fA (gi (p:=p) (ps:=p.data[i].params) (ml:=(inner ps ml L).map Mt.now) (by rw [List.length_map,eU];exact hlen) (by rw [List.length_map,eU];exact nsm.1) hnowW c.args (hdf.2.2 c hc).2) (List.mem_map_of_mem (f:=fun t=>Mt.mk t p.data[i].params ((inner ps ml L).map Mt.now)) hy),
      ⟨hA i hi hAi c hc y hy,hvk _ (List.getElem_mem hi) c hc y hy,hnowF⟩⟩) n (Nat.le_refl _) σ2 hw2 hT2
   rw [hnowT] at h
   exact h
 have hsum: (p.data[i].cons.map fun c=>(R c).length).sum=(Ty.mk 6 tn ts (L.map (Ty.rep ps (aP ml))) tls ttl).cnt p n:=by
  rcases n with _|n
  ·rw [pJ]
   have: (p.data[i].cons.map fun c=>(R c).length)=p.data[i].cons.map fun _=>0:=List.map_congr_left fun c _=>by rw [hRd,if_pos rfl];rfl
   rw [this,q7];simp
  ·rw [jP p hdo]
   congr 1
   exact List.map_congr_left fun c _=>by rw [hRd,if_neg (by omega),Nat.add_sub_cancel,gW]
 have hB: (p.data[i].cons.map fun c=>(R c).length).sum<=27262976:=by rw [hsum];exact Nat.le_trans (lO cj _ n hn) (rY _ hn)
 have hRl: ∀c ∈ p.data[i].cons,(R c).length<=27262976:=fun c hc=>by
  obtain ⟨k,hk,rfl⟩:=List.getElem_of_mem hc
  have h1:=gX (fun c:Con=>(R c).length) p.data[i].cons (k+1)
  rw [de _ _ _ hk] at h1
  omega
 have hval: (Ty.mk 6 tn ts (L.map (Ty.rep ps (aP ml))) tls ttl).val p n=p.data[i].cons.flatMap fun c=>(R c).map (ee c.name):=by
  rcases n with _|n
  ·have: ∀l:List Con,(l.flatMap fun c=>(R c).map (ee c.name))=[]:=fun l=>by
    induction l with
    |nil=>rfl
    |cons a r ih=>rw [List.flatMap_cons,ih,hRd,if_pos rfl];rfl
   rw [this];rfl
  ·rw [pL p hdo,List.flatMap_def,List.flatMap_def]
   congr 1
   exact List.map_congr_left fun c _=>by rw [hRd,if_neg (by omega),Nat.add_sub_cancel]
 rw [hval]
 obtain ⟨τ',hit⟩:=KK p m tb n nm hnm p.data[i].params ((inner ps ml L).map Mt.now) (σ.length+2+2) p.data[i].cons hfd.1 R hRl h126 hB (.box ((Ty.mk 6 tn ts L tls ttl).cs++[w])) σ τ hwS hTS
 generalize (p.data[i].cons.flatMap fun c=>(R c).map (ee c.name))=vs at*
 have hvp:=bu vs
 have hτ:ah CI XB GI wu [.ptr tb 0, .agg cs, .int .i64 n] σ=some (.ret (.arr (σ.length+1) vs.length 0 vs.length),σ++([.box ((Ty.mk 6 tn ts L tls ttl).cs++[w]), .row 7 (aX vs) 0]++(τ++τ'))):=by
  rw [<-iR]
  have hS0:S5 σ (.box ((Ty.mk 6 tn ts L tls ttl).cs++[w])) [] []=σ++[.box ((Ty.mk 6 tn ts L tls ttl).cs++[w]), .row 7 [] 0]:=by unfold S5;rw [List.append_nil];rfl
  rw [hS0] at h125
  have hcl: (p.data[i].cons.map Con.d).length=p.data[i].cons.length:=List.length_map _
  clear IH hwith hat hat' hwf hT hwS hTS hrow h126 hval hvp hS0
  generalize S5 σ (.box ((Ty.mk 6 tn ts L tls ttl).cs++[w])) vs (τ++τ')=σ3 at*
  generalize S5 σ (.box ((Ty.mk 6 tn ts L tls ttl).cs++[w])) [] τ=σ2 at*
  rw [hnc] at h124 h125
  generalize p.data[i].cons.map Con.d=cd at*
  rcases hwf2 with rfl| ⟨wa,rfl⟩<;>simp [ah,wu,az,aS,aN,bP,c1,c2,c3,c4,h124,h125,aE,hcl,hit]
 refine dj Jh hτ ?_
 have hr: (σ++([Obj.box ((Ty.mk 6 tn ts L tls ttl).cs++[w]), .row 7 (aX vs) 0]++(τ++τ')))[σ.length+1]? =some (.row 7 (aX vs) 0):=aS
 have:=jH (q:=qI) (f:=75) hr (by omega) (Nat.zero_le _) hvp.1
 rw [cu,hvp.2] at this
 exact this
mutual
def Ex.sz:Ex->Nat
 | .mk _ _ _ _ _ l aV=>1+fY l+nZ aV
def fY:List Ex->Nat
 | []=>0
 |x::r=>x.sz+fY r
def nZ:List Arm->Nat
 | []=>0
 | .mk _ _ x::r=>x.sz+nZ r
end
def n7 (_:Ex) (b:Int):Int ⊕ Int:= .inl (IntKind.i64.wrap (b+1))
mutual
theorem Ex.yH: ∀ (e:Ex) (b:Int),0<=b->b+e.sz<4611686018427387904->e.walk n7 b= .inl (b+e.sz)
 | .mk k n s t names l aV,b,h0,h=>by
  simp only [Ex.sz] at h ⊢
  simp only [Ex.walk]
  have h1:n7 (Ex.mk k n s t names l aV) b= .inl (b+1):=by
   unfold n7;rw [wrap_i64 (by omega) (by omega)]
  rw [h1]
  simp only
  rw [uY l (b+1) (by omega) (by omega)]
  simp only
  rw [sn aV _ (by omega) (by omega)]
  congr 1;omega
theorem uY: ∀ (l:List Ex) (b:Int),0<=b->b+fY l<4611686018427387904->jh n7 l b= .inl (b+fY l)
 | [],b,_,_=>by simp [jh,fY]
 |x::r,b,h0,h=>by
  simp only [fY] at h ⊢
  simp only [jh]
  rw [x.yH b h0 (by omega)]
  simp only
  rw [uY r _ (by omega) (by omega)]
  congr 1;omega
theorem sn: ∀ (l:List Arm) (b:Int),0<=b->b+nZ l<4611686018427387904->gZ n7 l b= .inl (b+nZ l)
 | [],b,_,_=>by simp [gZ,nZ]
 | .mk _ _ x::r,b,h0,h=>by
  simp only [nZ] at h ⊢
  simp only [gZ]
  rw [x.yH b h0 (by omega)]
  simp only
  rw [sn r _ (by omega) (by omega)]
  congr 1;omega
end
def eg (c:Nat) (fd:D) (st:LoopState):Obj:= .loop 10 [(3, .ptr c 0),(5,fd)] [6] kr ji st none
theorem KL (c i:Nat) (fd:D) (σ:St) (hi:σ[i]? =some (eg c fd .ready)) (hc:σ[c]? =some (.box [.int .i64 0])) (x:Ex) (b:Int) (τ:St):
 CI (.round i) [.agg x.cs] (σ.set c (.box [.int .i64 b])++τ)=some (.ret (.bool true),σ.set c (.box [.int .i64 (IntKind.i64.wrap (b+1))])++τ):=by
 refine Aw uq ?_
 have hic:i≠c:=fun he=>by rw [he,hc] at hi;unfold eg at hi;cases hi
 have hcl:=b8 hc
 have hil:=b8 hi
 have hi1: ∀b,(σ.set c (.box [.int .i64 b])++τ)[i]? =some (eg c fd .ready):=fun b=>bD (by rw [List.getElem?_set_ne hic.symm];exact hi)
 have hcb: ∀b,((σ.set c (.box [.int .i64 b])++τ).set i (eg c fd .busy))[c]? =some (.box [.int .i64 b]):=fun b=>by
  rw [List.getElem?_set_ne hic];exact nr hcl
 have hib: ∀b,(((σ.set c (.box [.int .i64 b])++τ).set i (eg c fd .busy)).set c (.box [.int .i64 (IntKind.i64.wrap (b+1))]))[i]? =some (eg c fd .busy):=fun b=>by
  rw [List.getElem?_set_ne hic.symm,List.getElem?_set_self (by simp;omega)]
 have hback: ∀b,((((σ.set c (.box [.int .i64 b])++τ).set i (eg c fd .busy)).set c (.box [.int .i64 (IntKind.i64.wrap (b+1))])).set i (eg c fd .ready))=σ.set c (.box [.int .i64 (IntKind.i64.wrap (b+1))])++τ:=fun b=>by
  rw [List.set_comm _ _ hic.symm,List.set_set]
  have: (σ.set c (.box [.int .i64 b])++τ).set i (eg c fd .ready)=σ.set c (.box [.int .i64 b])++τ:=by
   obtain ⟨h1,h2⟩:=List.getElem?_eq_some_iff.1 (hi1 b)
   rw [<-h2];exact List.set_getElem_self h1
  rw [this,Ak hcl]
 have hi1:=hi1 b
 have hcb:=hcb b
 have hib:=hib b
 have hback:=hback b
 have hbd:aD CI XB GI 10 true ji [(3, .ptr c 0),(5,fd),(6, .agg x.cs)] ((σ.set c (.box [.int .i64 b])++τ).set i (eg c fd .busy))=some (.normal,[(3, .ptr c 0)],((σ.set c (.box [.int .i64 b])++τ).set i (eg c fd .busy)).set c (.box [.int .i64 (IntKind.i64.wrap (b+1))])):=by
  clear hback hib hi1
  generalize (σ.set c (.box [.int .i64 b])++τ).set i (eg c fd .busy)=σ5 at*
  simp [ji,hcb,aE]
 unfold yI dW
 rw [hi1]
 generalize σ.set c (.box [.int .i64 b])++τ=σ1 at*
 generalize σ.set c (.box [.int .i64 (IntKind.i64.wrap (b+1))])++τ=σ2 at*
 simp only [eg,jB,eB,sV] at*
 simp only [show (6:Nat) <10 by omega,if_true]
 simp only [Nat.reduceEqDiff,if_false,reduceCtorEq]
 have has: ∀e σ,aD CI XB GI 10 true kr e σ=some (.normal,e,σ):=fun _ _=>rfl
 erw [has]
 simp only [hi1]
 erw [hbd]
 simp [zy,hib,hback]
theorem PF (c i pe:Nat) (fd:D) (σ:St) (x:Ex) (hx:x.ok) (hi:σ[i]? =some (eg c fd .ready)) (hc:σ[c]? =some (.box [.int .i64 0])) (hpe:σ[pe]? =some (.box x.cs)) (hsz:x.sz<4611686018427387904):
 CI (.fn 191) [.yield i, .ptr pe 0] σ=some (.ret (.tuple []),σ.set c (.box [.int .i64 x.sz])):=by
 have hcl:=b8 hc
 have hself: (σ++[Obj.box [.yield i], .box [.func 192 [] [.ptr σ.length 0, .ptr (σ.length+1) 0]]]).set c (.box [.int .i64 0])=σ++[Obj.box [.yield i], .box [.func 192 [] [.ptr σ.length 0, .ptr (σ.length+1) 0]]]:=by
  rw [jb hcl];congr 1
  obtain ⟨h1,h2⟩:=List.getElem?_eq_some_iff.1 hc
  rw [<-h2];exact List.set_getElem_self h1
 have h192:=(PG (β:=Int) c σ.length (σ.length+1) i (fun b=> .box [.int .i64 b]) (fun _=>True) n7 (σ++[Obj.box [.yield i], .box [.func 192 [] [.ptr σ.length 0, .ptr (σ.length+1) 0]]])
  (σ++[Obj.box [.yield i], .box [.func 192 [] [.ptr σ.length 0, .ptr (σ.length+1) 0]]])
  (by simp;omega) (fun _ m hm=>by simp [Obj.under,cL,D.under]) rfl
  (fun b j hj=>by
    by_cases hjc:c=j
    ·subst hjc
     exact .inr ⟨_,bD hc,fun m hm=>by simp [Obj.under,cL,D.under]⟩
    ·left;rw [List.getElem?_set_ne hjc])
  (fun b=>by rw [jb hcl];exact n8) (fun b=>by rw [jb hcl];exact pX)
  (fun _=>True) (fun _ _ _ _=>trivial) (fun _ _ _ _ _ _=>trivial)
  (fun e _ b τ _=>by
    refine ⟨[], ?_⟩
    rw [List.append_nil]
    unfold n7
    exact KL c i fd _ (bD hi) (bD hc) e b τ)
  x hx trivial 0 [] trivial).1
 rw [hself,List.append_nil,x.yH 0 (by omega) (by omega)] at h192
 simp only [Int.zero_add,List.append_nil] at h192
 rw [jb hcl] at h192
 have hall:=x.bJ
 have hxl:=x.aL
 have hxt:=x.aM
 have hτ:ah CI XB GI Ax [.yield i, .ptr pe 0] σ=some (.ret (.tuple []),σ.set c (.box [.int .i64 x.sz])++[Obj.box [.yield i], .box [.func 192 [] [.ptr σ.length 0, .ptr (σ.length+1) 0]]]):=by
  generalize (x.sz:Int)=v at*
  generalize x.cs=xc at*
  simp [ah,Ax,az,aS,bP,bD hpe,hxl,hxt,aE,h192]
 refine dj KM hτ ?_
 rw [iF (by simp [Obj.under,cL,D.under]) rfl rfl]
 simp [D.weak,dU]
theorem PI (x:Ex) (hx:x.ok) (hsz:x.sz<4611686018427387904) (σ:St):CI (.fn 128) [.agg x.cs] σ=some (.ret (.int .i64 x.sz),σ):=by
 have h150:=RL x (σ++[Obj.box x.cs, .box [.int .i64 0]])
 have hl2: (σ++[Obj.box x.cs, .box [.int .i64 0]]).length=σ.length+2:=by simp
 have hl3: (σ++[Obj.box x.cs, .box [.int .i64 0]]++[Obj.box x.cs]).length=σ.length+3:=by simp
 rw [hl2] at h150
 have h191:=PF (σ.length+1) (σ.length+3) (σ.length+2) (.func 191 [] [.ptr (σ.length+2) 0]) (σ++[Obj.box x.cs, .box [.int .i64 0]]++[Obj.box x.cs]++[eg (σ.length+1) (.func 191 [] [.ptr (σ.length+2) 0]) .ready]) x hx
  (by rw [<-hl3];exact az) (by simp only [List.append_assoc];exact aS) (by rw [<-hl2];simp only [List.append_assoc];rw [<-List.append_assoc σ];exact az) hsz
 have hset: (σ++[Obj.box x.cs, .box [.int .i64 0]]++[Obj.box x.cs]++[eg (σ.length+1) (.func 191 [] [.ptr (σ.length+2) 0]) .ready]).set (σ.length+1) (.box [.int .i64 x.sz])=σ++[Obj.box x.cs, .box [.int .i64 x.sz]]++[Obj.box x.cs]++[eg (σ.length+1) (.func 191 [] [.ptr (σ.length+2) 0]) .ready]:=by
  simp only [List.append_assoc];rw [bP];rfl
 rw [hset] at h191
 have hl4: (σ++[Obj.box x.cs, .box [.int .i64 x.sz]]++[Obj.box x.cs]).length=σ.length+3:=by simp
 have hrf:=BP (n:=10) (f:= .tmp 5) (ps:=[6]) (as':=kr) (bd:=ji) (e:=[(3, .ptr (σ.length+1) 0),(5, .func 191 [] [.ptr (σ.length+2) 0])]) (first:=[]) (σ:=σ++[Obj.box x.cs, .box [.int .i64 0]]++[Obj.box x.cs]) rfl (by rw [hl3];exact h191) (by rw [hl3,<-hl4,az];rfl)
 have hall:=x.bJ
 have hxl:=x.aL
 have hxt:=x.aM
 rw [hl3,<-hl4,aN] at hrf
 simp only [List.set] at hrf
 have hτ:ah CI XB GI Ay [.agg x.cs] σ=some (.ret (.int .i64 x.sz),σ++([Obj.box x.cs, .box [.int .i64 x.sz]]++[Obj.box x.cs]++[Obj.loop 10 [(3, .ptr (σ.length+1) 0),(5, .func 191 [] [.ptr (σ.length+2) 0])] [6] kr ji .exhausted none])):=by
  have hg: (σ++[Obj.box x.cs, .box [.int .i64 x.sz]]++[Obj.box x.cs]++[Obj.loop 10 [(3, .ptr (σ.length+1) 0),(5, .func 191 [] [.ptr (σ.length+2) 0])] [6] kr ji .exhausted none])[σ.length+1]? =some (.box [.int .i64 x.sz]):=by simp only [List.append_assoc];exact aS
  rw [<-List.append_assoc,<-List.append_assoc]
  generalize (x.sz:Int)=v at*
  generalize hσ5:σ++[Obj.box x.cs, .box [.int .i64 v]]++[Obj.box x.cs]++[Obj.loop 10 [(3, .ptr (σ.length+1) 0),(5, .func 191 [] [.ptr (σ.length+2) 0])] [6] kr ji .exhausted none]=σ5 at*
  generalize x.cs=xc at*
  simp only [List.append_assoc,List.cons_append,List.nil_append] at h150 hrf
  simp [ah,Ay,az,aS,aN,bP,hall,hxl,hxt,aE,h150,hrf,hg]
 exact aR KN hτ rfl rfl
def atC (m:b9) (s:Bs):Int:=match m.find? (fun x=>x.1==s) with
 |some v=>(v.2.2:Nat)
 |none=>0
mutual
def Ex.cmp (m:b9):Ex->Ex->Int
 | .mk k n s t nm l ar, .mk k' n' s' t' nm' l' ar'=>
  if (Ex.mk k n s t nm l ar).sz≠(Ex.mk k' n' s' t' nm' l' ar').sz then ((Ex.mk k n s t nm l ar).sz:Int) - (Ex.mk k' n' s' t' nm' l' ar').sz
  else if k≠10\/s≠s' then n - n'+atC m s - atC m s'
  else eY m l l'
def eY (m:b9):List Ex->List Ex->Int
 | [],_=>0
 |_::_,[]=>0
 |x::r,y::r'=>if x.cmp m y≠0 then x.cmp m y else eY m r r'
end
mutual
def Ex.Az:Ex->Ex->Prop
 | .mk k n s _ _ l _, .mk _ n' s' _ _ l' _=>0<=n/\n<=1/\0<=n'/\n'<=1/\(k=10->s=s'->l.length=l'.length/\qa l l')
def qa:List Ex->List Ex->Prop
 | [],_=>True
 |_::_,[]=>True
 |x::r,y::r'=>x.Az y/\qa r r'
end
theorem qb: ∀ {l l':List Ex},qa l l'-> ∀j (h:j<l.length) (h':j<l'.length),l[j].Az l'[j]
 |x::r,y::r',h,0,_,_=>h.1
 |x::r,y::r',h,j+1,h1,h2=>qb h.2 j (by simpa using h1) (by simpa using h2)
theorem ry: ∀ {l:List Ex} {x:Ex},x ∈ l->x.sz<=fY l
 |_::_,_, .head _=>by simp only [fY];omega
 |_::_,_, .tail _ h=>by have:=ry h;simp only [fY];omega
theorem E0 {m:b9} (hm: ∀v ∈ m,v.2.2<=1000) (s:Bs):0<=atC m s/\atC m s<=1000:=by
 unfold atC
 cases hf:m.find? (fun x=>x.1==s) with
 |none=>simp
 |some v=>have:=hm v (List.mem_of_find?_eq_some hf);simp only;omega
theorem uZ {m:b9} {x y:Ex} {r r':List Ex} (h:x.cmp m y=0):eY m (x::r) (y::r')=eY m r r':=by simp [eY,h]
theorem rz {m:b9} {x y:Ex} {r r':List Ex} (h:x.cmp m y≠0):eY m (x::r) (y::r')=x.cmp m y:=by simp [eY,h]
theorem BQ (m:b9) (l:List Ex):eY m [] l=0:=by simp [eY]
set_option maxHeartbeats 4000000 in
theorem PJ (p:Prg) (m:b9) (tb:Nat) (a b:Nat) (k n:Int) (s t:Bs) (nm am:D) (k' n':Int) (s' t':Bs) (nm' am':D) (l l':List Ex) (hll:l.length=l'.length) (hl:l.length<=1000) (σ:St) (ha:σ[a]? =some (.box [.int .i64 k, .int .i64 n, .str s, .str t,nm, .slice (l.map Ex.d),am])) (hb:σ[b]? =some (.box [.int .i64 k', .int .i64 n', .str s', .str t',nm', .slice (l'.map Ex.d),am']))
 (ih: ∀j (h:j<l.length) (h':j<l'.length),CI (.fn 77) [.ptr tb 0, .agg l[j].cs, .agg l'[j].cs] σ=some (.ret (.int .i64 (l[j].cmp m l'[j])),σ)):
 ∀ (q j:Nat),j+q=l.length->aU (aD CI XB GI 73 false u0) [(0, .ptr tb 0),(4, .ptr a 0),(5, .ptr b 0),(53, .int .i64 l.length),(54, .int .i64 (j:Nat))] σ=
  some (if eY m (l.drop j) (l'.drop j)≠0 then (.ret,[(6, .int .i64 (eY m (l.drop j) (l'.drop j)))],σ) else (.exit 0,[(0, .ptr tb 0),(4, .ptr a 0),(5, .ptr b 0),(53, .int .i64 l.length),(54, .int .i64 l.length),(55, .bool false)],σ))
 |0,j,hj=>by
  obtain rfl:j=l.length:=by omega
  rw [List.drop_length]
  rw [BQ]
  simp only [ne_eq,not_true_eq_false,if_false]
  refine aH ?_ (by simp)
  simp [u0]
 |q+1,j,hj=>by
  have hlt:j<l.length:=by omega
  have hlt':j<l'.length:=by omega
  rw [List.drop_eq_getElem_cons hlt,List.drop_eq_getElem_cons hlt']
  have ih0:=ih j hlt hlt'
  have hw:=aI (n:=j) (by omega)
  obtain ⟨ld,hld,hldl,hlg⟩:=opq Ex.d l
  obtain ⟨ld',hld',hldl',hlg'⟩:=opq Ex.d l'
  obtain ⟨g2,g3⟩:=hlg j hlt
  obtain ⟨g4,g5⟩:=hlg' j hlt'
  unfold Ex.d at g3 g5
  have hjj: (j:Int) <l.length:=by omega
  have hjj': (j:Int) <l'.length:=by omega
  have x1:=l[j].aL
  have x2:=l[j].aM
  have y1:=l'[j].aL
  have y2:=l'[j].aM
  have e1:bC ld ld=true:=by rw [<-hld,<-bI];exact aG _ (bu _).1
  have e2:bC ld' ld'=true:=by rw [<-hld',<-bI];exact aG _ (bu _).1
  have e3:bC l[j].cs l[j].cs=true:=aG _ l[j].plain.1
  have e4:bC l'[j].cs l'[j].cs=true:=aG _ l'[j].plain.1
  have q77:qI 77=false:=rfl
  have x77:XB 77=false:=rfl
  by_cases hz:l[j].cmp m l'[j]=0
  ·have h2:=PJ p m tb a b k n s t nm am k' n' s' t' nm' am' l l' hll hl σ ha hb ih q (j+1) (by omega)
   rw [uZ hz,<-h2]
   refine aO ?_
   rw [hz] at ih0
   rw [hld] at ha
   rw [hld'] at hb
   clear h2 ih
   generalize l[j].cs=xc at*
   generalize l'[j].cs=yc at*
   simp [u0,hlt,hlt',hjj,hjj',hw,ha,hb,hldl,hldl',g2,g3,g4,g5,x1,x2,y1,y2,e1,e2,e3,e4,ih0,q77,x77,Nat.testBit_eq_decide_div_mod_eq]
  ·rw [rz hz]
   simp only [ne_eq,hz,not_false_eq_true,if_true]
   refine aH ?_ (by simp)
   have hzb: (l[j].cmp m l'[j] != 0)=true:=by simpa using hz
   rw [hld] at ha
   rw [hld'] at hb
   clear ih
   generalize l[j].cmp m l'[j]=v at*
   generalize l[j].cs=xc at*
   generalize l'[j].cs=yc at*
   simp [u0,hlt,hlt',hjj,hjj',hw,ha,hb,hldl,hldl',g2,g3,g4,g5,x1,x2,y1,y2,e1,e2,e3,e4,ih0,hz,hzb,q77,x77,Nat.testBit_eq_decide_div_mod_eq]
theorem C1 (m:b9) (s:Bs): ∃a,eZ 2 (.str s) (kvs m)=some a/\((a=none/\atC m s=0)\/ ∃i k:Nat,a=some (.agg [.int .i64 i, .int .i64 k])/\atC m s=k):=by
 refine ⟨_,lV s m, ?_⟩
 unfold atC
 cases hf:m.find? (fun x=>x.1==s) with
 |none=>exact .inl ⟨rfl,rfl⟩
 |some v=>exact .inr ⟨v.2.1,v.2.2,rfl,rfl⟩
set_option maxHeartbeats 8000000 in
theorem c77 (p:Prg) (m:b9) (hm: ∀v ∈ m,v.2.2<=1000) (tb:Nat): ∀ (x y:Ex),x.ok->y.ok->x.sz<=1000->y.sz<=1000->x.Az y-> ∀σ,IsT σ tb p m->CI (.fn 77) [.ptr tb 0, .agg x.cs, .agg y.cs] σ=some (.ret (.int .i64 (x.cmp m y)),σ)
 | .mk k n s t nm l ar, .mk k' n' s' t' nm' l' ar',hx,hy,hsx,hsy,hok,σ,hT=>by
  have ih:=fun a (hal:a ∈ l) b=>c77 p m hm tb a b
  have h128x:=fun σ=>PI (.mk k n s t nm l ar) hx (by omega) σ
  have h128y:=fun σ=>PI (.mk k' n' s' t' nm' l' ar') hy (by omega) σ
  have x1:=(Ex.mk k n s t nm l ar).bJ
  have y1:=(Ex.mk k' n' s' t' nm' l' ar').bJ
  have x2:=(Ex.mk k n s t nm l ar).aL
  have y2:=(Ex.mk k' n' s' t' nm' l' ar').aL
  have x3:=(Ex.mk k n s t nm l ar).aM
  have y3:=(Ex.mk k' n' s' t' nm' l' ar').aM
  have e1:bC (Ex.mk k n s t nm l ar).cs (Ex.mk k n s t nm l ar).cs=true:=aG _ (Ex.plain _).1
  have e2:bC (Ex.mk k' n' s' t' nm' l' ar').cs (Ex.mk k' n' s' t' nm' l' ar').cs=true:=aG _ (Ex.plain _).1
  have q128:qI 128=false:=rfl
  have x128:XB 128=false:=rfl
  simp only [Ex.cmp]
  have hlx:fY l<=1000:=by simp only [Ex.sz] at hsx;omega
  have hly:fY l'<=1000:=by simp only [Ex.sz] at hsy;omega
  have hxc: (Ex.mk k n s t nm l ar).cs=[.int .i64 k, .int .i64 n, .str s, .str t, .slice (nm.map D.str), .slice (l.map Ex.d), .slice (dx ar)]:=by simp only [Ex.cs,bI,slD]
  have hyc: (Ex.mk k' n' s' t' nm' l' ar').cs=[.int .i64 k', .int .i64 n', .str s', .str t', .slice (nm'.map D.str), .slice (l'.map Ex.d), .slice (dx ar')]:=by simp only [Ex.cs,bI,slD]
  obtain ⟨hn0,hn1,hn0',hn1',hsame⟩:=hok
  generalize (Ex.mk k n s t nm l ar).sz=sx at*
  generalize (Ex.mk k' n' s' t' nm' l' ar').sz=sy at*
  have w0:IntKind.i64.wrap ((sx:Int) - (sy:Int))=(sx:Int) - (sy:Int):=wrap_i64 (by omega) (by omega)
  rw [hxc] at h128x x1 x2 x3 e1 ⊢
  rw [hyc] at h128y y1 y2 y3 e2 ⊢
  by_cases hs:sx=sy
  rotate_left
  ·rw [if_pos hs]
   refine aR E1 (d:= .int .i64 ((sx:Int) - (sy:Int))) (τ:=[.box [.int .i64 k, .int .i64 n, .str s, .str t, .slice (nm.map D.str), .slice (l.map Ex.d), .slice (dx ar)], .box [.int .i64 k', .int .i64 n', .str s', .str t', .slice (nm'.map D.str), .slice (l'.map Ex.d), .slice (dx ar')]]) ?_ rfl rfl
   have hb: ((sx:Int) - (sy:Int) != 0)=true:=by simp;omega
   simp only [bC,D.eqb,Bool.and_eq_true] at e1 e2
   generalize nm.map D.str=nd at*
   generalize nm'.map D.str=nd' at*
   generalize l.map Ex.d=ld at*
   generalize l'.map Ex.d=ld' at*
   simp [ah,AA,az,aS,h128x,h128y,e1,e2,q128,x128,w0,hb,Nat.testBit_eq_decide_div_mod_eq]
  ·subst hs
   rw [if_neg (by simp)]
   have hb0: ((sx:Int) - (sx:Int) != 0)=false:=by simp
   have w0': (sx:Int) - (sx:Int)=0:=by omega
   rw [w0'] at w0
   by_cases hks:k≠10\/s≠s'
   ·rw [if_pos hks]
    obtain ⟨j,hT1,hT2⟩:=hT
    obtain ⟨f1,h1,h2⟩:=C1 m s
    obtain ⟨f2,h3,h4⟩:=C1 m s'
    obtain ⟨a1,a2⟩:=E0 hm s
    obtain ⟨b1,b2⟩:=E0 hm s'
    have hp10: (p.cs++[D.map j])[10]? =some (.map j):=by
     rw [List.getElem?_append_right (by rw [p.aL];omega),p.aL];rfl
    have hd10: ((p.cs++[D.map j]).drop 10).head?=some (.map j):=by rw [List.head?_drop];exact hp10
    have w1:IntKind.i64.wrap (n - n')=n - n':=wrap_i64 (by omega) (by omega)
    have w2:IntKind.i64.wrap (n - n'+atC m s)=n - n'+atC m s:=wrap_i64 (by omega) (by omega)
    have w3:IntKind.i64.wrap (n - n'+atC m s - atC m s')=n - n'+atC m s - atC m s':=wrap_i64 (by omega) (by omega)
    have w4:IntKind.i64.wrap (n - n' - atC m s')=n - n' - atC m s':=wrap_i64 (by omega) (by omega)
    have hcase: (k != 10)=true\/((k != 10)=false/\(s==s')=false):=by
     by_cases hk:k=10
     ·rcases hks with h|h
      ·exact absurd hk h
      ·exact .inr ⟨by simp [hk],by simpa using h⟩
     ·exact .inl (by simpa using hk)
    refine aR E1 (d:= .int .i64 (n - n'+atC m s - atC m s')) (τ:=[.box [.int .i64 k, .int .i64 n, .str s, .str t, .slice (nm.map D.str), .slice (l.map Ex.d), .slice (dx ar)], .box [.int .i64 k', .int .i64 n', .str s', .str t', .slice (nm'.map D.str), .slice (l'.map Ex.d), .slice (dx ar')]]) ?_ rfl rfl
    simp only [bC,D.eqb,Bool.and_eq_true] at e1 e2
    have e3:bC (p.cs++[D.map j]) (p.cs++[D.map j])=true:=Ab (aG _ p.plain.1) (by simp)
    have t1: ∀τ,(σ++τ)[tb]? =some (.box (p.cs++[.map j])):=fun τ=>bD hT1
    have t2: ∀τ,(σ++τ)[j]? =some (.map (kvs m)):=fun τ=>bD hT2
    clear hT1 hT2 ih
    generalize nm.map D.str=nd at*
    generalize nm'.map D.str=nd' at*
    generalize l.map Ex.d=ld at*
    generalize l'.map Ex.d=ld' at*
    generalize atC m s=as1 at*
    generalize atC m s'=as2 at*
    generalize kvs m=km at*
    generalize p.cs++[D.map j]=pc at*
    have hcase2: (k != 10)=true\/((k != 10)=false/\(s==s')=false):=hcase
    clear hcase
    rcases hcase2 with hk| ⟨hk,hs⟩
    ·rcases h2 with ⟨rfl,rfl⟩ | ⟨i1,k1,rfl,rfl⟩<;>rcases h4 with ⟨rfl,rfl⟩ | ⟨i2,k2,rfl,rfl⟩<;>
      simp [ah,AA,az,aS,t1,t2,h128x,h128y,e1,e2,e3,q128,x128,w0,w0',w1,w2,w3,w4,hk,hd10,hp10,h1,h3,D.cX,Nat.testBit_eq_decide_div_mod_eq]
    rcases h2 with ⟨rfl,rfl⟩ | ⟨i1,k1,rfl,rfl⟩<;>rcases h4 with ⟨rfl,rfl⟩ | ⟨i2,k2,rfl,rfl⟩<;>
     simp [ah,AA,az,aS,t1,t2,h128x,h128y,e1,e2,e3,q128,x128,w0,w0',w1,w2,w3,w4,hk,hs,hd10,hp10,h1,h3,D.cX,Nat.testBit_eq_decide_div_mod_eq]
   ·rw [if_neg hks]
    have hk:k=10:=by
     by_cases h:k=10
     ·exact h
     ·exact absurd (.inl h) hks
    have hss:s=s':=by
     by_cases h:s=s'
     ·exact h
     ·exact absurd (.inr h) hks
    subst hk hss
    obtain ⟨hll,hok2⟩:=hsame rfl rfl
    have hlen: ∀ (l:List Ex),l.length<=fY l:=fun l=>by
     induction l with
     |nil=>simp [fY]
     |cons a r ih=>
      have:1<=a.sz:=by rcases a with ⟨_,_,_,_,_,_,_⟩;simp only [Ex.sz];omega
      simp only [fY,List.length_cons];omega
    have hl1:=hlen l
    have hit:=PJ p m tb σ.length (σ.length+1) 10 n s t (.slice (nm.map D.str)) (.slice (dx ar)) k' n' s t' (.slice (nm'.map D.str)) (.slice (dx ar')) l l' hll (by omega) (σ++[.box [.int .i64 10, .int .i64 n, .str s, .str t, .slice (nm.map D.str), .slice (l.map Ex.d), .slice (dx ar)], .box [.int .i64 k', .int .i64 n', .str s, .str t', .slice (nm'.map D.str), .slice (l'.map Ex.d), .slice (dx ar')]]) (by rw [az];rfl) (by rw [aS];rfl)
     (fun j h h'=>ih l[j] (List.getElem_mem h) l'[j] (iH hx.2.2.2.1 (List.getElem_mem h)) (iH hy.2.2.2.1 (List.getElem_mem h')) (by have:=ry (List.getElem_mem h);omega) (by have:=ry (List.getElem_mem h');omega) (qb hok2 j h h') _ hT.app) l.length 0 (by omega)
    rw [List.drop_zero,List.drop_zero,Int.natCast_zero] at hit
    refine aR E1 (d:= .int .i64 (eY m l l')) (τ:=[.box [.int .i64 10, .int .i64 n, .str s, .str t, .slice (nm.map D.str), .slice (l.map Ex.d), .slice (dx ar)], .box [.int .i64 k', .int .i64 n', .str s, .str t', .slice (nm'.map D.str), .slice (l'.map Ex.d), .slice (dx ar')]]) ?_ rfl rfl
    have hldl: (l.map Ex.d).length=l.length:=List.length_map _
    simp only [bC,D.eqb,Bool.and_eq_true] at e1 e2
    clear ih
    generalize nm.map D.str=nd at*
    generalize nm'.map D.str=nd' at*
    generalize l.map Ex.d=ld at*
    generalize l'.map Ex.d=ld' at*
    by_cases hz:eY m l l'=0
    ·rw [hz] at hit ⊢
     simp only [ne_eq,not_true_eq_false,if_false] at hit
     simp [ah,AA,az,aS,h128x,h128y,e1,e2,q128,x128,w0,w0',hldl,hit,Nat.testBit_eq_decide_div_mod_eq]
    ·simp only [ne_eq,hz,not_false_eq_true,if_true] at hit
     generalize eY m l l'=v at*
     simp [ah,AA,az,aS,h128x,h128y,e1,e2,q128,x128,w0,w0',hldl,hit,Nat.testBit_eq_decide_div_mod_eq]
termination_by x=>SizeOf.sizeOf x
decreasing_by
 have:=List.sizeOf_lt_of_mem hal
 simp only [Ex.mk.sizeOf_spec]
 omega
set_option maxHeartbeats 4000000 in
theorem Gs (l:List Ex) (hl:l.length<=30000000) (a i j:Nat) (hij:i+1=j) (d2:D) (hai:a<j) (hjl:j<l.length) (hil:i<l.length) (tb:Nat) (σ:St) (c:Int) (hc:0<=c) (h77:CI (.fn 77) [.ptr tb 0, .agg l[j].cs, .agg l[i].cs] σ=some (.ret (.int .i64 c),σ)):
 aU (aD CI XB GI 53 false yJ) [(0, .slice (l.map Ex.d)),(1, .int .i64 a),(2,d2),(3, .func 77 [.ptr tb 0] []),(8, .int .i64 (j:Int)),(9, .int .i64 (j:Int))] σ=
  some (.exit 2,[(0, .slice (l.map Ex.d)),(1, .int .i64 a),(2,d2),(3, .func 77 [.ptr tb 0] []),(8, .int .i64 (j:Int)),(9, .int .i64 (j:Int)),(34, .bool false)],σ):=by
 refine aH ?_ (by simp)
 obtain ⟨ld,hld,hldl,hlg⟩:=opq Ex.d l
 obtain ⟨g2,g3⟩:=hlg j hjl
 obtain ⟨g4,g5⟩:=hlg i hil
 unfold Ex.d at g3 g5
 have x1:=l[j].aL
 have x2:=l[j].aM
 have y1:=l[i].aL
 have y2:=l[i].aM
 have e1:bC ld ld=true:=by rw [<-hld,<-bI];exact aG _ (bu _).1
 have e3:bC l[j].cs l[j].cs=true:=aG _ (Ex.plain _).1
 have e4:bC l[i].cs l[i].cs=true:=aG _ (Ex.plain _).1
 have q77:qI 77=false:=rfl
 have x77:XB 77=false:=rfl
 have w1:IntKind.i64.wrap ((j:Int) - 1)=(i:Int):=by rw [wrap_i64 (by omega) (by omega)];omega
 have hgt: (a:Int) < (j:Int):=by omega
 have hc0: ¬c<0:=by omega
 rw [hld]
 generalize l[j].cs=xc at*
 generalize l[i].cs=yc at*
 clear hij
 simp [yJ,hgt,hai,hldl,hil,hjl,g2,g3,g4,g5,x1,x2,y1,y2,e1,e3,e4,w1,hc0,hc,h77,q77,x77,Nat.testBit_eq_decide_div_mod_eq]
def Up (tb:Nat) (l:List Ex) (σ:St):Prop:= ∀i j (_:i<j) (hj:j<l.length),∃c:Int,0<=c/\CI (.fn 77) [.ptr tb 0, .agg l[j].cs, .agg l[i].cs] σ=some (.ret (.int .i64 c),σ)
set_option maxHeartbeats 1000000 in
theorem C2 (l:List Ex) (hl:l.length<=30000000) (a b tb:Nat) (hb:b<=l.length) (σ:St) (H:Up tb l σ): ∀ (k j:Nat),j+k=b->a<j->
 aU (aD CI XB GI 53 false mP) [(0, .slice (l.map Ex.d)),(1, .int .i64 a),(2, .int .i64 b),(3, .func 77 [.ptr tb 0] []),(8, .int .i64 (j:Int))] σ=
  some (.exit 0,[(0, .slice (l.map Ex.d)),(1, .int .i64 a),(2, .int .i64 b),(3, .func 77 [.ptr tb 0] []),(8, .int .i64 (b:Int)),(14, .bool false)],σ)
 |0,j,hj,haj=>by
  obtain rfl:j=b:=by omega
  refine aH ?_ (by simp)
  generalize l.map Ex.d=ld
  simp [mP]
 |k+1,j,hj,haj=>by
  have h2:=C2 l hl a b tb hb σ H k (j+1) (by omega) (by omega)
  rw [<-h2]
  refine aO ?_
  have hjl:j<l.length:=by omega
  obtain ⟨i,hij⟩: ∃i,i+1=j:=⟨j - 1,by omega⟩
  obtain ⟨c,hc,h77⟩:=H i j (by omega) hjl
  have hit:=Gs l hl a i j hij (.int .i64 b) haj hjl (by omega) tb σ c hc h77
  have hw:=aI (n:=j) (by omega)
  have hjb: (j:Int) <b:=by omega
  have hjb2:j<b:=by omega
  clear h77 h2 H
  generalize l.map Ex.d=ld at*
  simp [mP,hit,hw,hjb,hjb2]
set_option maxHeartbeats 1000000 in
theorem PK (l:List Ex) (hl:l.length<=30000000) (a b tb:Nat) (hb:b<=l.length) (hab:a<=b) (σ:St) (H:Up tb l σ):
 CI (.fn 170) [.slice (l.map Ex.d), .int .i64 a, .int .i64 b, .func 77 [.ptr tb 0] []] σ=some (.ret (.tuple []),σ):=by
 have hw:=aI (n:=a) (by omega)
 have e1:bC (l.map Ex.d) (l.map Ex.d)=true:=by rw [<-bI];exact aG _ (bu _).1
 refine aR KO (d:= .tuple []) (τ:=[]) ?_ rfl (by simp)
 by_cases h:a<b
 ·have hit:=C2 l hl a b tb hb σ H (b - (a+1)) (a+1) (by omega) (by omega)
  rw [Int.natCast_add,Int.natCast_one] at hit
  generalize l.map Ex.d=ld at*
  simp [ah,AB,hw,hit,Nat.testBit_eq_decide_div_mod_eq]
 ·obtain rfl:a=b:=by omega
  have hit:aU (aD CI XB GI 53 false mP) [(0, .slice (l.map Ex.d)),(1, .int .i64 a),(2, .int .i64 a),(3, .func 77 [.ptr tb 0] []),(8, .int .i64 ((a:Int) +1))] σ=some (.exit 0,[(0, .slice (l.map Ex.d)),(1, .int .i64 a),(2, .int .i64 a),(3, .func 77 [.ptr tb 0] []),(8, .int .i64 ((a:Int) +1)),(14, .bool false)],σ):=by
   refine aH ?_ (by simp)
   generalize l.map Ex.d=ld
   have hn: ¬((a:Int) +1<a):=by omega
   simp [mP,hn]
  generalize l.map Ex.d=ld at*
  simp [ah,AB,hw,hit,Nat.testBit_eq_decide_div_mod_eq]
def E2 (tb:Nat) (l:List Ex) (σ:St):Prop:= ∀a m b:Nat,a<m->m<b->b<=l.length->CI (.fn 171) [.slice (l.map Ex.d), .int .i64 a, .int .i64 m, .int .i64 b, .func 77 [.ptr tb 0] []] σ=some (.ret (.tuple []),σ)
set_option maxHeartbeats 1000000 in
theorem C3 (l:List Ex) (hl:l.length<=30000000) (tb:Nat) (σ:St) (H:Up tb l σ): ∀ (k a:Nat),l.length - a<=k->a<=l.length-> ∃a':Nat,a'<=l.length/\
 aU (aD CI XB GI 63 false tG) [(0, .slice (l.map Ex.d)),(1, .int .i64 l.length),(2, .func 77 [.ptr tb 0] []),(6, .int .i64 20),(7, .int .i64 (a:Int)),(8, .int .i64 ((a:Int) +20))] σ=
  some (.exit 0,[(0, .slice (l.map Ex.d)),(1, .int .i64 l.length),(2, .func 77 [.ptr tb 0] []),(6, .int .i64 20),(7, .int .i64 (a':Int)),(8, .int .i64 ((a':Int) +20)),(13, .bool false)],σ)
 |k,a,hk,ha=>by
  by_cases h:a+20<=l.length
  ·obtain ⟨k,rfl⟩: ∃k',k=k'+1:=⟨k - 1,by omega⟩
   obtain ⟨a',h1,h2⟩:=C3 l hl tb σ H k (a+20) (by omega) h
   refine ⟨a',h1, ?_⟩
   rw [<-h2]
   refine aO ?_
   have h170:=PK l hl a (a+20) tb h (by omega) σ H
   have ea: ((a+20:Nat):Int)=(a:Int) +20:=by omega
   rw [ea] at h170 ⊢
   have hw:IntKind.i64.wrap ((a:Int) +20+20)=(a:Int) +20+20:=wrap_i64 (by omega) (by omega)
   have hle: (a:Int) +20<=l.length:=by omega
   have e1:bC (l.map Ex.d) (l.map Ex.d)=true:=by rw [<-bI];exact aG _ (bu _).1
   have q170:qI 170=false:=rfl
   have x170:XB 170=false:=rfl
   clear h2 H
   generalize (l.length:Int)=n at*
   generalize l.map Ex.d=ld at*
   simp [tG,h170,hw,hle,e1,q170,x170]
  ·refine ⟨a,ha, ?_⟩
   refine aH ?_ (by simp)
   have hn: ¬((a:Int) +20<=l.length):=by omega
   generalize (l.length:Int)=n at*
   generalize l.map Ex.d=ld
   simp [tG,hn]
set_option maxHeartbeats 1000000 in
theorem C4 (l:List Ex) (hl:l.length<=30000000) (tb:Nat) (σ:St) (H:E2 tb l σ) (s:Nat) (hs0:0<s) (hs:s<=l.length): ∀ (k a:Nat),l.length - a<=k->a<=l.length-> ∃a':Nat,a'<=l.length/\
 aU (aD CI XB GI 63 false tH) [(0, .slice (l.map Ex.d)),(1, .int .i64 l.length),(2, .func 77 [.ptr tb 0] []),(6, .int .i64 s),(7, .int .i64 (a:Int)),(8, .int .i64 ((a:Int) +2*s))] σ=
  some (.exit 4,[(0, .slice (l.map Ex.d)),(1, .int .i64 l.length),(2, .func 77 [.ptr tb 0] []),(6, .int .i64 s),(7, .int .i64 (a':Int)),(8, .int .i64 ((a':Int) +2*s)),(35, .bool false)],σ)
 |k,a,hk,ha=>by
  by_cases h:a+2*s<=l.length
  ·obtain ⟨k,rfl⟩: ∃k',k=k'+1:=⟨k - 1,by omega⟩
   obtain ⟨a',h1,h2⟩:=C4 l hl tb σ H s hs0 hs k (a+2*s) (by omega) h
   refine ⟨a',h1, ?_⟩
   rw [<-h2]
   refine aO ?_
   have BR:=H a (a+s) (a+2*s) (by omega) (by omega) h
   have ea: ((a+2*s:Nat):Int)=(a:Int) +2*s:=by omega
   have eb: ((a+s:Nat):Int)=(a:Int) +s:=by omega
   rw [ea,eb] at BR
   rw [ea]
   have hw:IntKind.i64.wrap ((a:Int) +2*s+2*s)=(a:Int) +2*s+2*s:=wrap_i64 (by omega) (by omega)
   have hw1:IntKind.i64.wrap ((a:Int) +s)=(a:Int) +s:=wrap_i64 (by omega) (by omega)
   have hw2:IntKind.i64.wrap (2* (s:Int))=2*s:=wrap_i64 (by omega) (by omega)
   have hle: (a:Int) +2*s<=l.length:=by omega
   have e1:bC (l.map Ex.d) (l.map Ex.d)=true:=by rw [<-bI];exact aG _ (bu _).1
   have q171:qI 171=false:=rfl
   have x171:XB 171=false:=rfl
   clear h2 H
   generalize (l.length:Int)=n at*
   generalize l.map Ex.d=ld at*
   simp [tH,BR,hw,hw1,hw2,hle,e1,q171,x171]
  ·refine ⟨a,ha, ?_⟩
   refine aH ?_ (by simp)
   have hn: ¬((a:Int) +2*s<=l.length):=by omega
   generalize (l.length:Int)=n at*
   generalize l.map Ex.d=ld
   simp [tH,hn]
set_option maxHeartbeats 1000000 in
theorem C5 (l:List Ex) (hl:l.length<=30000000) (tb:Nat) (σ:St) (H:E2 tb l σ): ∀ (k s:Nat),l.length - s<=k->0<s-> ∃s':Nat,
 aU (aD CI XB GI 63 false qe) [(0, .slice (l.map Ex.d)),(1, .int .i64 l.length),(2, .func 77 [.ptr tb 0] []),(6, .int .i64 (s:Int))] σ=
  some (.exit 2,[(0, .slice (l.map Ex.d)),(1, .int .i64 l.length),(2, .func 77 [.ptr tb 0] []),(6, .int .i64 (s':Int)),(30, .bool false)],σ)
 |k,s,hk,hs=>by
  by_cases h:s<l.length
  ·obtain ⟨k,rfl⟩: ∃k',k=k'+1:=⟨k - 1,by omega⟩
   obtain ⟨s',h2⟩:=C5 l hl tb σ H k (s*2) (by omega) (by omega)
   refine ⟨s', ?_⟩
   rw [<-h2]
   refine aO ?_
   obtain ⟨a',h3,h4⟩:=C4 l hl tb σ H s hs (by omega) l.length 0 (by omega) (by omega)
   rw [Int.natCast_zero,Int.zero_add] at h4
   have es: ((s*2:Nat):Int)=(s:Int) *2:=by omega
   rw [es]
   have hw2:IntKind.i64.wrap (2* (s:Int))=2*s:=wrap_i64 (by omega) (by omega)
   have hw3:IntKind.i64.wrap ((s:Int) *2)=s*2:=wrap_i64 (by omega) (by omega)
   have hw1:IntKind.i64.wrap ((a':Int) +s)=(a':Int) +s:=wrap_i64 (by omega) (by omega)
   have hle: (s:Int) <l.length:=by omega
   have e1:bC (l.map Ex.d) (l.map Ex.d)=true:=by rw [<-bI];exact aG _ (bu _).1
   have q171:qI 171=false:=rfl
   have x171:XB 171=false:=rfl
   by_cases h5:a'+s<l.length
   ·have BR:=H a' (a'+s) l.length (by omega) h5 (Nat.le_refl _)
    have eb: ((a'+s:Nat):Int)=(a':Int) +s:=by omega
    rw [eb] at BR
    have h6: (a':Int) +s<l.length:=by omega
    clear h2 H
    generalize (l.length:Int)=n at*
    generalize l.map Ex.d=ld at*
    simp [qe,h4,BR,hw1,hw2,hw3,hle,h6,e1,q171,x171]
   ·have h6: ¬((a':Int) +s<l.length):=by omega
    clear h2 H
    generalize (l.length:Int)=n at*
    generalize l.map Ex.d=ld at*
    simp [qe,h4,hw1,hw2,hw3,hle,h6,e1,q171,x171]
  ·refine ⟨s, ?_⟩
   refine aH ?_ (by simp)
   have hn: ¬((s:Int) <l.length):=by omega
   generalize (l.length:Int)=n at*
   generalize l.map Ex.d=ld
   simp [qe,hn]
set_option maxHeartbeats 1000000 in
theorem RM (l:List Ex) (hl:l.length<=30000000) (tb:Nat) (σ:St) (HU:Up tb l σ) (H:E2 tb l σ):
 CI (.fn 127) [.slice (l.map Ex.d), .int .i64 l.length, .func 77 [.ptr tb 0] []] σ=some (.ret (.tuple []),σ):=by
 have e1:bC (l.map Ex.d) (l.map Ex.d)=true:=by rw [<-bI];exact aG _ (bu _).1
 obtain ⟨a',h1,h2⟩:=C3 l hl tb σ HU l.length 0 (by omega) (by omega)
 rw [Int.natCast_zero,Int.zero_add] at h2
 have h170:=PK l hl a' l.length tb (Nat.le_refl _) h1 σ HU
 obtain ⟨s',h3⟩:=C5 l hl tb σ H l.length 20 (by omega) (by omega)
 rw [show ((20:Nat):Int)=20 by rfl] at h3
 have q170:qI 170=false:=rfl
 have x170:XB 170=false:=rfl
 refine aR KP (d:= .tuple []) (τ:=[]) ?_ rfl (by simp)
 clear H HU
 generalize (l.length:Int)=n at*
 generalize l.map Ex.d=ld at*
 simp [ah,C6,h2,h170,h3,e1,q170,x170,Nat.testBit_eq_decide_div_mod_eq]
set_option maxHeartbeats 1000000 in
theorem c76 (l:List Ex) (hl:l.length<=30000000) (tb:Nat) (σ:St) (HU:Up tb l σ) (H:E2 tb l σ):
 CI (.fn 76) [.slice (l.map Ex.d), .func 77 [.ptr tb 0] []] σ=some (.ret (.tuple []),σ):=by
 have e1:bC (l.map Ex.d) (l.map Ex.d)=true:=by rw [<-bI];exact aG _ (bu _).1
 have h:=RM l hl tb σ HU H
 have hn: (l.map Ex.d).length=l.length:=List.length_map _
 have q127:qI 127=false:=rfl
 have x127:XB 127=false:=rfl
 refine aR PL (d:= .tuple []) (τ:=[]) ?_ rfl (by simp)
 rw [<-hn] at h
 generalize l.map Ex.d=ld at*
 simp [ah,Gt,h,e1,q127,x127,Nat.testBit_eq_decide_div_mod_eq]
theorem mid (i j h':Nat) (hh: (i+j) / 2=h') (hl:i+j<=60000000):IntKind.i64.wrap ((IntKind.u64.wrap ((i:Int) +j)).fdiv (2 ^ min 1 IntKind.u64.bits))=(h':Int):=by
 have h1:IntKind.u64.wrap ((i:Int) +j)=(i:Int) +j:=by
  simp only [IntKind.wrap,IntKind.signed,IntKind.bits]
  simp
  omega
 have h2: (2:Int) ^ min 1 IntKind.u64.bits=2:=rfl
 rw [h1,h2,Int.fdiv_eq_ediv_of_nonneg _ (by omega)]
 rw [wrap_i64 (by omega) (by omega)]
 omega
set_option maxHeartbeats 1000000 in
theorem C7 (l:List Ex) (hl:l.length<=30000000) (a tb:Nat) (σ:St) (H:Up tb l σ) (i:Nat) (hai:a<i): ∀ (k j:Nat),j - i<=k->i<=j->j<=l.length->
 aU (aD CI XB GI 220 false tI) [(0, .slice (l.map Ex.d)),(1, .int .i64 a),(4, .func 77 [.ptr tb 0] []),(10, .int .i64 i),(11, .int .i64 j)] σ=
  some (.exit 0,[(0, .slice (l.map Ex.d)),(1, .int .i64 a),(4, .func 77 [.ptr tb 0] []),(10, .int .i64 i),(11, .int .i64 i),(33, .bool false)],σ)
 |k,j,hk,hij,hj=>by
  by_cases h:i<j
  ·obtain ⟨k,rfl⟩: ∃k',k=k'+1:=⟨k - 1,by omega⟩
   obtain ⟨h',hh⟩: ∃h',(i+j) / 2=h':=⟨_,rfl⟩
   have h2:=C7 l hl a tb σ H i hai k h' (by omega) (by omega) (by omega)
   rw [<-h2]
   refine aO ?_
   have hhl:h'<l.length:=by omega
   have hal:a<l.length:=by omega
   obtain ⟨c,hc,h77⟩:=H a h' (by omega) hhl
   obtain ⟨ld,hld,hldl,hlg⟩:=opq Ex.d l
   obtain ⟨g2,g3⟩:=hlg h' hhl
   obtain ⟨g4,g5⟩:=hlg a hal
   unfold Ex.d at g3 g5
   have x1:=l[h'].aL
   have x2:=l[h'].aM
   have y1:=l[a].aL
   have y2:=l[a].aM
   have e1:bC ld ld=true:=by rw [<-hld,<-bI];exact aG _ (bu _).1
   have e3:bC l[h'].cs l[h'].cs=true:=aG _ (Ex.plain _).1
   have e4:bC l[a].cs l[a].cs=true:=aG _ (Ex.plain _).1
   have q77:qI 77=false:=rfl
   have x77:XB 77=false:=rfl
   have w1:IntKind.i64.wrap ((i:Int) +j)=(i:Int) +j:=wrap_i64 (by omega) (by omega)
   have hm:=mid i j h' hh (by omega)
   have hgt: (i:Int) < (j:Int):=by omega
   have hc0: ¬c<0:=by omega
   rw [hld]
   clear H h2
   generalize l[h'].cs=xc at*
   generalize l[a].cs=yc at*
   simp [tI,hgt,h,hldl,hhl,hal,g2,g3,g4,g5,x1,x2,y1,y2,e1,e3,e4,w1,hm,hc0,hc,h77,q77,x77,Nat.testBit_eq_decide_div_mod_eq]
  ·obtain rfl:i=j:=by omega
   refine aH ?_ (by simp)
   generalize l.map Ex.d=ld
   simp [tI]
set_option maxHeartbeats 1000000 in
theorem C8 (l:List Ex) (hl:l.length<=30000000) (m tb:Nat) (hm:m<l.length) (σ:St) (H:Up tb l σ): ∀ (k i:Nat),m - i<=k->i<=m->
 aU (aD CI XB GI 220 false tJ) [(0, .slice (l.map Ex.d)),(2, .int .i64 m),(4, .func 77 [.ptr tb 0] []),(14, .int .i64 i),(15, .int .i64 m)] σ=
  some (.exit 4,[(0, .slice (l.map Ex.d)),(2, .int .i64 m),(4, .func 77 [.ptr tb 0] []),(14, .int .i64 m),(15, .int .i64 m),(85, .bool false)],σ)
 |k,i,hk,hi=>by
  by_cases h:i<m
  ·obtain ⟨k,rfl⟩: ∃k',k=k'+1:=⟨k - 1,by omega⟩
   obtain ⟨h',hh⟩: ∃h',(i+m) / 2=h':=⟨_,rfl⟩
   have h2:=C8 l hl m tb hm σ H k (h'+1) (by omega) (by omega)
   rw [<-h2]
   refine aO ?_
   have hhl:h'<l.length:=by omega
   obtain ⟨c,hc,h77⟩:=H h' m (by omega) hm
   obtain ⟨ld,hld,hldl,hlg⟩:=opq Ex.d l
   obtain ⟨g2,g3⟩:=hlg h' hhl
   obtain ⟨g4,g5⟩:=hlg m hm
   unfold Ex.d at g3 g5
   have x1:=l[h'].aL
   have x2:=l[h'].aM
   have y1:=l[m].aL
   have y2:=l[m].aM
   have e1:bC ld ld=true:=by rw [<-hld,<-bI];exact aG _ (bu _).1
   have e3:bC l[h'].cs l[h'].cs=true:=aG _ (Ex.plain _).1
   have e4:bC l[m].cs l[m].cs=true:=aG _ (Ex.plain _).1
   have q77:qI 77=false:=rfl
   have x77:XB 77=false:=rfl
   have w1:IntKind.i64.wrap ((i:Int) +m)=(i:Int) +m:=wrap_i64 (by omega) (by omega)
   have w2:IntKind.i64.wrap ((h':Int) +1)=(h':Int) +1:=wrap_i64 (by omega) (by omega)
   have hmd:=mid i m h' hh (by omega)
   have hgt: (i:Int) < (m:Int):=by omega
   have hc0: ¬c<0:=by omega
   rw [hld]
   clear H h2
   generalize l[h'].cs=xc at*
   generalize l[m].cs=yc at*
   simp [tJ,hgt,h,hldl,hhl,hm,g2,g3,g4,g5,x1,x2,y1,y2,e1,e3,e4,w1,w2,hmd,hc0,hc,h77,q77,x77,Nat.testBit_eq_decide_div_mod_eq]
  ·obtain rfl:i=m:=by omega
   refine aH ?_ (by simp)
   generalize l.map Ex.d=ld
   simp [tJ]
set_option maxHeartbeats 1000000 in
theorem yK (l:List Ex) (hl:l.length<=30000000) (d1 d2 d3 d18 d19:D) (r p tb:Nat) (hr:2*r<=p+1) (hrl:r<=l.length) (σ:St) (H:Up tb l σ): ∀ (k i:Nat),r - i<=k->i<=r->p<l.length+i->
 aU (aD CI XB GI 220 false tK) [(0, .slice (l.map Ex.d)),(1,d1),(2,d2),(3,d3),(4, .func 77 [.ptr tb 0] []),(18,d18),(19,d19),(20, .int .i64 i),(21, .int .i64 r),(22, .int .i64 p)] σ=
  some (.exit 8,[(0, .slice (l.map Ex.d)),(1,d1),(2,d2),(3,d3),(4, .func 77 [.ptr tb 0] []),(18,d18),(19,d19),(20, .int .i64 r),(21, .int .i64 r),(22, .int .i64 p),(151, .bool false)],σ)
 |k,i,hk,hi,hp=>by
  by_cases h:i<r
  ·obtain ⟨k,rfl⟩: ∃k',k=k'+1:=⟨k - 1,by omega⟩
   obtain ⟨h',hh⟩: ∃h',(i+r) / 2=h':=⟨_,rfl⟩
   have h2:=yK l hl d1 d2 d3 d18 d19 r p tb hr hrl σ H k (h'+1) (by omega) (by omega) (by omega)
   rw [<-h2]
   refine aO ?_
   obtain ⟨q,hq⟩: ∃q,p - h'=q:=⟨_,rfl⟩
   have hhl:h'<l.length:=by omega
   have hm:q<l.length:=by omega
   obtain ⟨c,hc,h77⟩:=H h' q (by omega) hm
   obtain ⟨ld,hld,hldl,hlg⟩:=opq Ex.d l
   obtain ⟨g2,g3⟩:=hlg h' hhl
   obtain ⟨g4,g5⟩:=hlg q hm
   unfold Ex.d at g3 g5
   have x1:=l[h'].aL
   have x2:=l[h'].aM
   have y1:=l[q].aL
   have y2:=l[q].aM
   have e1:bC ld ld=true:=by rw [<-hld,<-bI];exact aG _ (bu _).1
   have e3:bC l[h'].cs l[h'].cs=true:=aG _ (Ex.plain _).1
   have e4:bC l[q].cs l[q].cs=true:=aG _ (Ex.plain _).1
   have q77:qI 77=false:=rfl
   have x77:XB 77=false:=rfl
   have w1:IntKind.i64.wrap ((i:Int) +r)=(i:Int) +r:=wrap_i64 (by omega) (by omega)
   have w2:IntKind.i64.wrap ((h':Int) +1)=(h':Int) +1:=wrap_i64 (by omega) (by omega)
   have w3:IntKind.i64.wrap ((p:Int) - h')=(q:Int):=by rw [wrap_i64 (by omega) (by omega)];omega
   have hmd:=mid i r h' hh (by omega)
   have hgt: (i:Int) < (r:Int):=by omega
   have hc0: ¬c<0:=by omega
   rw [hld]
   clear H h2
   generalize l[h'].cs=xc at*
   generalize l[q].cs=yc at*
   simp [tK,hgt,h,hldl,hhl,hm,g2,g3,g4,g5,x1,x2,y1,y2,e1,e3,e4,w1,w2,w3,hmd,hc0,hc,h77,q77,x77,Nat.testBit_eq_decide_div_mod_eq]
  ·obtain rfl:i=r:=by omega
   refine aH ?_ (by simp)
   generalize l.map Ex.d=ld
   simp [tK]
set_option maxHeartbeats 4000000 in
theorem PM (l:List Ex) (hl:l.length<=30000000) (tb:Nat) (σ:St) (H:Up tb l σ): ∀ (k a m b:Nat),b - a<=k->a<m->m<b->b<=l.length->
 CI (.fn 171) [.slice (l.map Ex.d), .int .i64 a, .int .i64 m, .int .i64 b, .func 77 [.ptr tb 0] []] σ=some (.ret (.tuple []),σ)
 |0,a,m,b,hk,ham,hmb,hb=>by omega
 |k+1,a,m,b,hk,ham,hmb,hb=>by
  have ih:=fun a m b h1 h2 h3 h4=>PM l hl tb σ H k a m b h1 h2 h3 h4
  have e1:bC (l.map Ex.d) (l.map Ex.d)=true:=by rw [<-bI];exact aG _ (bu _).1
  have q171:qI 171=false:=rfl
  have x171:XB 171=false:=rfl
  have w0:IntKind.i64.wrap ((m:Int) - a)=(m:Int) - a:=wrap_i64 (by omega) (by omega)
  have w1:IntKind.i64.wrap ((b:Int) - m)=(b:Int) - m:=wrap_i64 (by omega) (by omega)
  have w11:IntKind.i64.wrap 1=1:=wrap_i64 (by omega) (by omega)
  have wm:IntKind.i64.wrap (m:Int)=m:=wrap_i64 (by omega) (by omega)
  refine aR KQ (d:= .tuple []) (τ:=[]) ?_ rfl (by simp)
  by_cases h1:m - a=1
  ·have hit:=C7 l hl a tb σ H m ham b b (by omega) (by omega) hb
   have dB:aU (aD CI XB GI 220 false yL) [(0, .slice (l.map Ex.d)),(10, .int .i64 m),(13, .int .i64 a)] σ=some (.exit 2,[(0, .slice (l.map Ex.d)),(10, .int .i64 m),(13, .int .i64 a),(58, .bool false)],σ):=by
    refine aH ?_ (by simp)
    generalize l.map Ex.d=ld
    have w:IntKind.i64.wrap ((m:Int) - 1)=a:=by rw [wrap_i64 (by omega) (by omega)];omega
    simp [yL,w]
   have hd: ((m:Int) - a==1)=true:=by rw [beq_iff_eq];omega
   have hd2: (m:Int) - a=1:=by omega
   clear ih H
   generalize l.map Ex.d=ld at*
   simp [ah,so,w11,wm,w0,hd,hd2,hit,dB]
  have hd: ((m:Int) - a==1)=false:=by rw [beq_eq_false_iff_ne];omega
  have hd2: ¬(m:Int) - a=1:=by omega
  by_cases h2:b - m=1
  ·have hit:=C8 l hl m tb (by omega) σ H m a (by omega) (by omega)
   have dB:aU (aD CI XB GI 220 false yM) [(0, .slice (l.map Ex.d)),(14, .int .i64 m),(17, .int .i64 m)] σ=some (.exit 6,[(0, .slice (l.map Ex.d)),(14, .int .i64 m),(17, .int .i64 m),(110, .bool false)],σ):=by
    refine aH ?_ (by simp)
    generalize l.map Ex.d=ld
    simp [yM]
   have he: ((b:Int) - m==1)=true:=by rw [beq_iff_eq];omega
   have he2: (b:Int) - m=1:=by omega
   clear ih H
   generalize l.map Ex.d=ld at*
   simp [ah,so,w11,wm,w0,w1,hd,hd2,he,he2,hit,dB]
  have he: ((b:Int) - m==1)=false:=by rw [beq_eq_false_iff_ne];omega
  have he2: ¬(b:Int) - m=1:=by omega
  obtain ⟨h',hh⟩: ∃h',(a+b) / 2=h':=⟨_,rfl⟩
  have hm:=mid a b h' hh (by omega)
  have w2:IntKind.i64.wrap ((a:Int) +b)=(a:Int) +b:=wrap_i64 (by omega) (by omega)
  have w3:IntKind.i64.wrap ((h':Int) +m)=(h':Int) +m:=wrap_i64 (by omega) (by omega)
  have wh:IntKind.i64.wrap (h':Int)=h':=wrap_i64 (by omega) (by omega)
  obtain ⟨p,hp⟩: ∃p,h'+m=p+1:=⟨h'+m - 1,by omega⟩
  have w4:IntKind.i64.wrap ((h':Int) +m - 1)=(p:Int):=by rw [wrap_i64 (by omega) (by omega)];omega
  by_cases h3:h'<m
  ·obtain ⟨i,hi⟩: ∃i,h'+m=i+b:=⟨h'+m - b,by omega⟩
   have w5:IntKind.i64.wrap ((h':Int) +m - b)=(i:Int):=by rw [wrap_i64 (by omega) (by omega)];omega
   have w6:IntKind.i64.wrap ((h':Int) +m - h')=(m:Int):=by rw [wrap_i64 (by omega) (by omega)];omega
   have hit:=yK l hl (.int .i64 a) (.int .i64 m) (.int .i64 b) (.int .i64 h') (.int .i64 ((h':Int) +m)) h' p tb (by omega) (by omega) σ H h' i (by omega) (by omega) (by omega)
   have hc:=ih h' m b (by omega) h3 hmb hb
   have g1: (h':Int) <m:=by omega
   have g2: (a:Int) <h':=by omega
   have g3: (m:Int) <b:=by omega
   clear ih H
   generalize l.map Ex.d=ld at*
   simp [ah,so,w11,wm,w0,w1,w2,w3,w4,w5,w6,hd,hd2,he,he2,hm,wh,hit,hc,g1,g2,g3,h3,hmb,e1,q171,x171,Nat.testBit_eq_decide_div_mod_eq]
  ·have w6:IntKind.i64.wrap ((h':Int) +m - m)=(h':Int):=by rw [wrap_i64 (by omega) (by omega)];omega
   have hit:=yK l hl (.int .i64 a) (.int .i64 m) (.int .i64 b) (.int .i64 h') (.int .i64 ((h':Int) +m)) m p tb (by omega) (by omega) σ H m a (by omega) (by omega) (by omega)
   have g1: ¬(h':Int) <m:=by omega
   have g2: (a:Int) <m:=by omega
   by_cases h4:m<h'
   ·have hc:=ih a m h' (by omega) ham h4 (by omega)
    have g3: (m:Int) <h':=by omega
    clear ih H
    generalize l.map Ex.d=ld at*
    simp [ah,so,w11,wm,w0,w1,w2,w3,w4,w6,hd,hd2,he,he2,hm,wh,hit,hc,g1,g2,g3,h3,h4,ham,e1,q171,x171,Nat.testBit_eq_decide_div_mod_eq]
   ·have g3: ¬(m:Int) <h':=by omega
    clear ih H
    generalize l.map Ex.d=ld at*
    simp [ah,so,w11,wm,w0,w1,w2,w3,w4,w6,hd,hd2,he,he2,hm,wh,hit,g1,g2,g3,h3,h4,ham,e1,q171,x171,Nat.testBit_eq_decide_div_mod_eq]
theorem BR (l:List Ex) (hl:l.length<=30000000) (tb:Nat) (σ:St) (H:Up tb l σ):E2 tb l σ:=fun a m b h1 h2 h3=>PM l hl tb σ H (b - a) a m b (Nat.le_refl _) h1 h2 h3
theorem RN (l:List Ex) (hl:l.length<=30000000) (tb:Nat) (σ:St) (H:Up tb l σ):CI (.fn 76) [.slice (l.map Ex.d), .func 77 [.ptr tb 0] []] σ=some (.ret (.tuple []),σ):=
 c76 l hl tb σ H (BR l hl tb σ H)
mutual
theorem Ty.BS {params:List Bs} {args:List Ty} (ha: ∀a ∈ args,a.vk): ∀ (t:Ty),t.vk->(t.rep params args).vk
 | .mk k n s l ls tail,h=>by
  simp only [Ty.rep]
  split
  ·rw [List.getD_eq_getElem?_getD]
   cases hg:args[(cT params s).toNat]? with
   |none=>exact h
   |some a=>exact ha a (List.mem_of_getElem? hg)
  ·exact ⟨h.1,h.2.1,xy ha l h.2.2⟩
theorem xy {params:List Bs} {args:List Ty} (ha: ∀a ∈ args,a.vk): ∀ (l:List Ty),se l->se (nN params args l)
 | [],_=>trivial
 |t::r,h=>⟨t.BS ha h.1,xy ha r h.2⟩
end
theorem AD (p:Prg) {n1:Int} {s:Bs} {L:List Ty} {ls:List Lab} {tl:Int} (hd:p.kS s=none) (n:Nat): (Ty.mk 6 n1 s L ls tl).val p n=[]:=by
 unfold Ty.val
 cases n with
 |zero=>rfl
 |succ n=>simp only [Ty.m9,hd];rw [if_neg (by omega),if_pos trivial]
theorem gQ {f:Ty->Nat->List Ex} {t:Ty} {r:List Ty} {m:Nat} {xs:List Ex} (h:xs ∈ bG f (t::r) m): ∃i,i<m/\ ∃x ∈ f t (i+1),∃ys ∈ bG f r (m - (i+1)),xs=x::ys:=by
 simp only [bG,List.mem_flatMap,List.mem_map,List.mem_range] at h
 obtain ⟨i,hi,x,hx,ys,hys,rfl⟩:=h
 exact ⟨i,hi,x,hx,ys,hys,rfl⟩
theorem iC {f:Ty->Nat->List Ex} {m:Nat} {xs:List Ex} (h:xs ∈ bG f [] m):m=0/\xs=[]:=by
 simp only [bG] at h
 split at h
 ·rename_i h0;simp only [List.mem_singleton] at h;exact ⟨h0,h⟩
 ·cases h
theorem qf {p:Prg} {kd n1:Int} {s:Bs} {L:List Ty} {ls:List Lab} {tl:Int} {n:Nat} {x:Ex} (h:x ∈ (Ty.mk kd n1 s L ls tl).val p n):
 (kd≠6/\n=1/\x ∈ pK kd)\/(kd=6/\ ∃k,n=k+1/\ ∃d,p.kS s=some d/\ ∃c ∈ d.cons,∃xs ∈ bG (Ty.val p) (c.args.map (Ty.rep d.params L)) k,x=ee c.name xs):=by
 by_cases h6:kd=6
 ·right
  subst h6
  refine ⟨rfl, ?_⟩
  cases hd:p.kS s with
  |none=>rw [AD p hd] at h;cases h
  |some d=>
   cases n with
   |zero=>cases h
   |succ n=>
    rw [pL p hd] at h
    simp only [List.mem_flatMap,List.mem_map] at h
    obtain ⟨c,hc,xs,hxs,rfl⟩:=h
    exact ⟨n,rfl,d,rfl,c,hc,xs,hxs,rfl⟩
 ·left
  rw [pM p h6] at h
  split at h
  ·exact ⟨h6,by assumption,h⟩
  ·cases h
theorem rA {p:Prg} {s:Bs} {d:Dat} (h:p.kS s=some d):d ∈ p.data:=List.mem_of_find?_eq_some h
theorem mQ {kd:Int} {x:Ex} (h:x ∈ pK kd): ∃n:Int,0<=n/\n<=1/\x= .mk (kd - 1) n [] [] [] [] []:=by
 unfold pK at h
 split at h
 ·rename_i h4
  simp only [List.mem_singleton] at h
  subst h4
  exact ⟨0,by omega,by omega,h⟩
 ·simp only [List.mem_cons,List.not_mem_nil,or_false] at h
  rcases h with h|h
  ·exact ⟨0,by omega,by omega,h⟩
  ·exact ⟨1,by omega,by omega,h⟩
theorem mR {p:Prg} {K:Nat} (hv: ∀j,j<=K-> ∀t x,x ∈ Ty.val p t j->x.sz=j): ∀ (l:List Ty) (m:Nat) (xs:List Ex),m<=K->xs ∈ bG (Ty.val p) l m->fY xs=m
 | [],m,xs,_,h=>by
  obtain ⟨h1,rfl⟩:=iC h
  subst h1;rfl
 |t::r,m,xs,hm,h=>by
  obtain ⟨i,hi,x,hx,ys,hys,rfl⟩:=gQ h
  have h1:=hv (i+1) (by omega) t x hx
  have h2:=mR hv r (m - (i+1)) ys (by omega) hys
  simp only [fY,h1,h2];omega
theorem n9 (p:Prg): ∀ (n:Nat) (t:Ty) (x:Ex),x ∈ t.val p n->x.sz=n:=by
 intro n
 induction n using Nat.strongRecOn with
 |ind n ih=>
 intro t x hx
 rcases t with ⟨kd,n1,s,L,ls,tl⟩
 rcases qf hx with ⟨_,rfl,hb⟩ | ⟨_,k,rfl,d,_,c,_,xs,hxs,rfl⟩
 ·obtain ⟨n,_,_,rfl⟩:=mQ hb;rfl
 ·have:=mR (K:=k) (fun j hj=>ih j (by omega)) _ k xs (Nat.le_refl _) hxs
  simp only [ee,Ex.sz,this,nZ];omega
mutual
def Ex.isV:Ex->Prop
 | .mk _ n _ t nm l ar=>0<=n/\n<=1/\t=[]/\nm=[]/\ar=[]/\l.length<=4/\u5 l
def u5:List Ex->Prop
 | []=>True
 |x::r=>x.isV/\u5 r
end
mutual
theorem Ex.BT: ∀ (x:Ex),x.isV->x.ok
 | .mk k n s t nm l ar,⟨_,_,_,h2,h3,h4,h5⟩=>by
  subst h2 h3
  exact ⟨by simp,by unfold aQ;omega,by simp,xz l h5,trivial⟩
theorem xz: ∀ (l:List Ex),u5 l->AE l
 | [],_=>trivial
 |x::r,h=>⟨x.BT h.1,xz r h.2⟩
end
theorem AF {p:Prg} {K:Nat} (hv: ∀j,j<=K-> ∀t x,x ∈ Ty.val p t j->x.isV): ∀ (l:List Ty) (m:Nat) (xs:List Ex),m<=K->xs ∈ bG (Ty.val p) l m->xs.length=l.length/\u5 xs
 | [],m,xs,_,h=>by
  obtain ⟨_,rfl⟩:=iC h
  exact ⟨rfl,trivial⟩
 |t::r,m,xs,hm,h=>by
  obtain ⟨i,hi,x,hx,ys,hys,rfl⟩:=gQ h
  have h1:=hv (i+1) (by omega) t x hx
  obtain ⟨h2,h3⟩:=AF hv r (m - (i+1)) ys (by omega) hys
  exact ⟨by simp only [List.length_cons,h2],h1,h3⟩
theorem C9 {p:Prg} (hp:p.few): ∀ (n:Nat) (t:Ty) (x:Ex),x ∈ t.val p n->x.isV:=by
 intro n
 induction n using Nat.strongRecOn with
 |ind n ih=>
 intro t x hx
 rcases t with ⟨kd,n1,s,L,ls,tl⟩
 rcases qf hx with ⟨_,rfl,hb⟩ | ⟨_,k,rfl,d,hd,c,hc,xs,hxs,rfl⟩
 ·obtain ⟨n,h1,h2,rfl⟩:=mQ hb
  exact ⟨h1,h2,rfl,rfl,rfl,by simp,trivial⟩
 ·obtain ⟨h1,h2⟩:=AF (K:=k) (fun j hj=>ih j (by omega)) _ k xs (Nat.le_refl _) hxs
  refine ⟨by omega,by omega,rfl,rfl,rfl, ?_,h2⟩
  rw [h1,List.length_map]
  exact (hp d (rA hd)).2 c hc
mutual
theorem Ex.AG (m:b9): ∀ (x:Ex),x.cmp m x=0
 | .mk k n s t nm l ar=>by
  simp only [Ex.cmp]
  rw [if_neg (by simp)]
  split
  ·omega
  ·exact sq m l
theorem sq (m:b9): ∀ (l:List Ex),eY m l l=0
 | []=>by simp [eY]
 |x::r=>by rw [uZ (x.AG m)];exact sq m r
end
theorem E3 {m:b9} {x y:Ex} (h:x.sz<y.sz):0<y.cmp m x:=by
 rcases x with ⟨k,n,s,t,nm,l,ar⟩
 rcases y with ⟨k',n',s',t',nm',l',ar'⟩
 simp only [Ex.cmp]
 rw [if_pos (by omega)]
 omega
theorem Gu {m:b9} {s:Bs} {xs ys:List Ex} (h:fY xs=fY ys): (ee s ys).cmp m (ee s xs)=eY m ys xs:=by
 simp only [ee,Ex.cmp]
 rw [if_neg (by simp only [Ex.sz,h];simp),if_neg (by simp)]
theorem E4 {m:b9} {s s':Bs} (hs:s'≠s) {xs ys:List Ex} (h:fY xs=fY ys): (ee s' ys).cmp m (ee s xs)=atC m s' - atC m s:=by
 simp only [ee,Ex.cmp]
 rw [if_neg (by simp only [Ex.sz,h];simp),if_pos (.inr hs)]
 omega
theorem yN {p:Prg} (hn: (p.data.flatMap fun d=>d.cons.map Con.name).Nodup) {d:Dat} (hd:d ∈ p.data) {k:Nat} (hk:k<d.cons.length):atC p.cm d.cons[k].name=k:=by
 obtain ⟨i,hi,rfl⟩:=List.getElem_of_mem hd
 have h:=su p.data 0 i k p.data[i] p.data[i].cons[k] hn (List.getElem?_eq_getElem hi) (List.getElem?_eq_getElem hk)
 have h2:=E5 p p.data[i].cons[k].name
 rw [h] at h2
 unfold kT at h2
 unfold atC
 cases hf:p.cm.find? (fun x=>x.1==p.data[i].cons[k].name) with
 |none=>rw [hf] at h2;cases h2
 |some v=>
  rw [hf] at h2
  simp only [Option.map_some,Option.some.injEq] at h2
  simp only [h2]
theorem E6 {p:Prg} {m:b9} {K:Nat} {l:List Ty} : (hv: ∀j,j<=K-> ∀t ∈ l,(Ty.val p t j).Pairwise fun x y=>0<y.cmp m x)-> ∀ (M:Nat),M<=K->(bG (Ty.val p) l M).Pairwise fun xs ys=>0<eY m ys xs:=by
 induction l with
 |nil=>
  intro _ M _
  simp only [bG]
  split
  ·exact List.pairwise_singleton _ _
  ·exact List.Pairwise.nil
 |cons t r ih=>
  intro hv M hM
  simp only [bG]
  rw [List.pairwise_flatMap]
  constructor
  ·intro i hi
   rw [List.mem_range] at hi
   rw [List.pairwise_flatMap]
   constructor
   ·intro x _
    rw [List.pairwise_map]
    refine (ih (fun j hj t ht=>hv j hj t (List.mem_cons_of_mem _ ht)) (M - (i+1)) (by omega)).imp fun h=> ?_
    rw [uZ (x.AG m)];exact h
   ·refine (hv (i+1) (by omega) t List.mem_cons_self).imp fun {x y} h a ha b hb=> ?_
    obtain ⟨a',_,rfl⟩:=List.mem_map.1 ha
    obtain ⟨b',_,rfl⟩:=List.mem_map.1 hb
    rw [rz (by omega)];exact h
  ·rw [List.pairwise_iff_getElem]
   intro i j hi hj hij a ha b hb
   simp only [List.getElem_range] at ha hb
   obtain ⟨x,hx,a',_,rfl⟩: ∃x ∈ Ty.val p t (i+1),∃a' ∈ bG (Ty.val p) r (M - (i+1)),x::a'=a:=by simpa using ha
   obtain ⟨y,hy,b',_,rfl⟩: ∃y ∈ Ty.val p t (j+1),∃b' ∈ bG (Ty.val p) r (M - (j+1)),y::b'=b:=by simpa using hb
   have h1:=n9 p _ t x hx
   have h2:=n9 p _ t y hy
   have h3:0<y.cmp m x:=E3 (by omega)
   rw [rz (by omega)];exact h3
theorem Gv {p:Prg} (hn: (p.data.flatMap fun d=>d.cons.map Con.name).Nodup) (hvk: ∀d ∈ p.data,∀c ∈ d.cons,∀a ∈ c.args,a.vk): ∀ (n:Nat) (t:Ty),t.vk->(t.val p n).Pairwise fun x y=>0<y.cmp p.cm x:=by
 intro n
 induction n using Nat.strongRecOn with
 |ind n ih=>
 intro t ht
 rcases t with ⟨kd,n1,s,L,ls,tl⟩
 by_cases h6:kd=6
 ·subst h6
  cases hd:p.kS s with
  |none=>rw [AD p hd];exact List.Pairwise.nil
  |some d=>
   cases n with
   |zero=>exact List.Pairwise.nil
   |succ n=>
    rw [pL p hd,List.pairwise_flatMap]
    have hdm:=rA hd
    constructor
    ·intro c hc
     rw [List.pairwise_map]
     have h1:=E6 (m:=p.cm) (K:=n) (l:=c.args.map (Ty.rep d.params L)) (fun j hj t ht'=>ih j (by omega) t (by
      obtain ⟨a,ha,rfl⟩:=List.mem_map.1 ht'
      exact a.BS (iG.1 ht.2.2) (hvk d hdm c hc a ha))) n (Nat.le_refl _)
     refine List.Pairwise.imp_of_mem (fun {xs ys} hx hy h=> ?_) h1
     have s1:=mR (p:=p) (K:=n) (fun j _=>n9 p j) _ n xs (Nat.le_refl _) hx
     have s2:=mR (p:=p) (K:=n) (fun j _=>n9 p j) _ n ys (Nat.le_refl _) hy
     rw [Gu (by rw [s1,s2])];exact h
    ·rw [List.pairwise_iff_getElem]
     intro i j hi hj hij x hx y hy
     obtain ⟨xs,hx',rfl⟩:=List.mem_map.1 hx
     obtain ⟨ys,hy',rfl⟩:=List.mem_map.1 hy
     have s1:=mR (p:=p) (K:=n) (fun j _=>n9 p j) _ n xs (Nat.le_refl _) hx'
     have s2:=mR (p:=p) (K:=n) (fun j _=>n9 p j) _ n ys (Nat.le_refl _) hy'
     have a1:=yN hn hdm hi
     have a2:=yN hn hdm hj
     have hne:d.cons[j].name≠d.cons[i].name:=fun he=>by rw [he,a1] at a2;omega
     rw [E4 hne (by rw [s1,s2]),a1,a2];omega
 ·rw [pM p h6]
  split
  ·unfold pK
   split
   ·exact List.pairwise_singleton _ _
   ·have hk:=ht.2.1
    simp only [List.pairwise_cons,List.mem_singleton,forall_eq,List.not_mem_nil,false_imp_iff,implies_true,List.Pairwise.nil,and_true]
    simp only [Ex.cmp]
    rw [if_neg (by simp [Ex.sz]),if_pos (.inl (by omega))]
    omega
  ·exact List.Pairwise.nil
theorem BU {p:Prg} {K:Nat} {l:List Ty} : (hv: ∀j j',j<=K-> ∀t ∈ l,∀x y,x ∈ Ty.val p t j->y ∈ Ty.val p t j'->x.Az y)-> ∀ (M M':Nat) (xs ys:List Ex),M<=K->xs ∈ bG (Ty.val p) l M->ys ∈ bG (Ty.val p) l M'->xs.length=ys.length/\qa xs ys:=by
 induction l with
 |nil=>
  intro _ M M' xs ys _ hx hy
  obtain ⟨_,rfl⟩:=iC hx
  obtain ⟨_,rfl⟩:=iC hy
  exact ⟨rfl,trivial⟩
 |cons t r ih=>
  intro hv M M' xs ys hM hx hy
  obtain ⟨i,hi,x,hx1,xs',hxs,rfl⟩:=gQ hx
  obtain ⟨i',hi',y,hy1,ys',hys,rfl⟩:=gQ hy
  obtain ⟨h1,h2⟩:=ih (fun j j' hj t ht=>hv j j' hj t (List.mem_cons_of_mem _ ht)) _ _ xs' ys' (by omega) hxs hys
  exact ⟨by simp only [List.length_cons,h1],hv _ _ (by omega) t List.mem_cons_self x y hx1 hy1,h2⟩
theorem DZ {p:Prg} (hn: (p.data.flatMap fun d=>d.cons.map Con.name).Nodup) (hvk: ∀d ∈ p.data,∀c ∈ d.cons,∀a ∈ c.args,a.vk): ∀ (n n':Nat) (t:Ty) (x y:Ex),t.vk->x ∈ t.val p n->y ∈ t.val p n'->x.Az y:=by
 intro n
 induction n using Nat.strongRecOn with
 |ind n ih=>
 intro n' t x y ht hx hy
 rcases t with ⟨kd,n1,s,L,ls,tl⟩
 rcases qf hx with ⟨h6,rfl,hb⟩ | ⟨h6,k,rfl,d,hd,c,hc,xs,hxs,rfl⟩
 ·rcases qf hy with ⟨_,rfl,hb'⟩ | ⟨h6',_⟩
  ·obtain ⟨n,h1,h2,rfl⟩:=mQ hb
   obtain ⟨n',h1',h2',rfl⟩:=mQ hb'
   have hk:=ht.2.1
   exact ⟨h1,h2,h1',h2',fun h=>by omega⟩
  ·exact absurd h6' h6
 ·rcases qf hy with ⟨h6',_⟩ | ⟨_,k',rfl,d',hd',c',hc',ys,hys,rfl⟩
  ·exact absurd h6 h6'
  ·rw [hd] at hd'
   cases hd'
   refine ⟨by omega,by omega,by omega,by omega,fun _ he=> ?_⟩
   have hdm:=rA hd
   have hcc:c=c':=by
    obtain ⟨i,hi,rfl⟩:=List.getElem_of_mem hc
    obtain ⟨j,hj,rfl⟩:=List.getElem_of_mem hc'
    have a1:=yN hn hdm hi
    have a2:=yN hn hdm hj
    rw [he,a2] at a1
    have:i=j:=by omega
    subst this;rfl
   subst hcc
   exact BU (K:=k) (fun j j' hj t ht' x y=>ih j (by omega) j' t x y (by
    obtain ⟨a,ha,rfl⟩:=List.mem_map.1 ht'
    exact a.BS (iG.1 ht.2.2) (hvk d hdm c hc a ha))) k k' xs ys (Nat.le_refl _) hxs hys
theorem Ji {σ τ:St} {a b o:Obj} : (σ++[a,b]++τ).set σ.length o=σ++[o,b]++τ:=by
 rw [List.append_assoc,aN,List.append_assoc];rfl
theorem PN {σ τ:St} {a b o:Obj} {r:Nat} : (σ++[a,b]++τ).set (σ.length+2+r) o=σ++[a,b]++τ.set r o:=by
 rw [List.append_assoc,Nat.add_assoc,bP,List.append_assoc]
 congr 1
 show ([a,b]++τ).set (2+r) o=[a,b]++τ.set r o
 rw [Nat.add_comm];rfl
theorem Jj {σ τ:St} {a b:Obj} {r:Nat} : (σ++[a,b]++τ)[σ.length+2+r]? =τ[r]? :=by
 rw [List.append_assoc,Nat.add_assoc,aS]
 show ([a,b]++τ)[2+r]? =τ[r]?
 rw [Nat.add_comm];rfl
def Jk (b:Nat) (ad:D) (dl:List D) (τ:St):Prop:=(ad= .empty/\dl=[])\/ ∃r,ad= .arr (b+r) dl.length 0 dl.length/\τ[r]? =some (.row 7 dl 1)/\1<=dl.length
abbrev E78 (q:Nat) (ld:List D) (n i:Nat):Env:=[(1, .ptr q 0),(2, .ptr (q+1) 0),(9, .slice ld),(10, .int .i64 n),(11, .int .i64 i)]
abbrev B78 (k n:Int) (s:Bs) (ad:D):Obj:= .box [.int .i64 k, .int .i64 n, .str s, .str [], .slice [],ad, .slice []]
set_option maxHeartbeats 8000000 in
theorem KR (k n:Int) (s:Bs) (l:List Ex) (hl:l.length<=1000) (zb:Obj) (σ:St) (ih: ∀x ∈ l,∀σ,CI (.fn 78) [.agg x.cs] σ=some (.ret (.agg x.cs),σ)): ∀ (m i:Nat),i+m=l.length-> ∀ (ad:D) (τ:St),Jk (σ.length+2) ad ((l.take i).map Ex.d) τ->
 ∃ad' τ',Jk (σ.length+2) ad' (l.map Ex.d) τ'/\aU (aD CI XB GI 24 false u6) (E78 σ.length (l.map Ex.d) l.length i) (σ++[B78 k n s ad,zb]++τ)=some (.exit 0,E78 σ.length (l.map Ex.d) l.length l.length++[(12, .bool false)],σ++[B78 k n s ad',zb]++τ')
 |0,i,hi,ad,τ,hA=>by
  obtain rfl:i=l.length:=by omega
  rw [List.take_length] at hA
  refine ⟨ad,τ,hA,aH ?_ (by simp)⟩
  generalize l.map Ex.d=ld
  simp [u6]
 |m+1,i,hi,ad,τ,hA=>by
  have hlt:i<l.length:=by omega
  have hx:=fun σ=>ih l[i] (List.getElem_mem hlt) σ
  have hwr:=aI (n:=i) (by omega)
  have hii: (i:Int) <l.length:=by omega
  have htk: (l.take (i+1)).map Ex.d=(l.take i).map Ex.d++[.agg l[i].cs]:=by
   rw [List.take_succ_eq_append_getElem hlt,List.map_append];rfl
  have hdl: ((l.take i).map Ex.d).length=i:=by rw [List.length_map,List.length_take];omega
  generalize (l.take i).map Ex.d=dl at*
  obtain ⟨ld,hld,hll,hlg⟩:=opq Ex.d l
  obtain ⟨g2,g3⟩:=hlg i hlt
  unfold Ex.d at g3
  have y1:=l[i].aL
  have y2:=l[i].aM
  have y3:=l[i].bJ
  have e1:bC l[i].cs l[i].cs=true:=aG _ (Ex.plain _).1
  have q78:qI 78=false:=rfl
  have x78:XB 78=false:=rfl
  rw [hld]
  rcases hA with ⟨rfl,rfl⟩ | ⟨r,rfl,hr,hr1⟩
  ·obtain rfl:0=i:=hdl
   obtain ⟨ad',τ',r2,r3⟩:=KR k n s l hl zb σ ih m (0+1) (by omega) (.arr (σ.length+2+ (τ.length+1)) 1 0 1) (τ++[.box l[0].cs, .row 7 [.agg l[0].cs] 1])
    (.inr ⟨τ.length+1,by rw [htk];rfl,by rw [htk];exact aS,by rw [htk];simp⟩)
   refine ⟨ad',τ',by rw [hld] at r2;exact r2, ?_⟩
   rw [hld] at r3
   rw [<-r3]
   refine aO ?_
   clear r3
   have hs:σ++[B78 k n s (.arr (σ.length+2+ (τ.length+1)) 1 0 1),zb]++(τ++[Obj.box l[0].cs, .row 7 [.agg l[0].cs] 1])=(σ++[B78 k n s .empty,zb]++τ).set σ.length (B78 k n s (.arr (σ.length+2+ (τ.length+1)) 1 0 1))++[.box l[0].cs, .row 7 [.agg l[0].cs] 1]:=by
    rw [Ji,List.append_assoc,List.append_assoc,List.append_assoc]
   have hlen: (σ++[B78 k n s .empty,zb]++τ).length=σ.length+2+τ.length:=by simp;omega
   have p0: (σ++[B78 k n s .empty,zb]++τ)[σ.length]? =some (B78 k n s .empty):=by rw [List.append_assoc];exact az
   have hlt2:σ.length< (σ++[B78 k n s .empty,zb]++τ).length:=by omega
   rw [hs]
   clear hs
   generalize σ++[B78 k n s .empty,zb]++τ=σ1 at*
   generalize l[0].cs=xc at*
   simp [u6,hlt,hii,hwr,hll,g2,g3,y1,y2,y3,e1,q78,x78,az,aS,aN,bP,bD p0,jb hlt2,hx,hlen,bQ,bw,rowOf,aE,tv,Nat.testBit_eq_decide_div_mod_eq]
   exact ⟨wrap_i64 (by omega) (by omega),rfl⟩
  ·have hrl:=b8 hr
   have hdl1: (dl++[D.agg l[i].cs]).length=dl.length+1:=by simp
   obtain ⟨ad',τ',r2,r3⟩:=KR k n s l hl zb σ ih m (i+1) (by omega) (.arr (σ.length+2+r) (dl.length+1) 0 (dl.length+1)) (τ.set r (.row 7 (dl++[.agg l[i].cs]) 1)++[.box l[i].cs])
    (.inr ⟨r,by rw [htk,hdl1],by rw [htk,List.getElem?_append_left (by simpa using hrl),List.getElem?_set_self hrl],by rw [htk,hdl1];omega⟩)
   refine ⟨ad',τ',by rw [hld] at r2;exact r2, ?_⟩
   rw [hld] at r3
   rw [<-r3]
   refine aO ?_
   clear r3
   have hs:σ++[B78 k n s (.arr (σ.length+2+r) (dl.length+1) 0 (dl.length+1)),zb]++(τ.set r (.row 7 (dl++[.agg l[i].cs]) 1)++[.box l[i].cs])=
    ((σ++[B78 k n s (.arr (σ.length+2+r) dl.length 0 dl.length),zb]++τ).set (σ.length+2+r) (.row 7 (dl++[.agg l[i].cs]) 1)).set σ.length (B78 k n s (.arr (σ.length+2+r) (dl.length+1) 0 (dl.length+1)))++[.box l[i].cs]:=by
    rw [PN,Ji,List.append_assoc,List.append_assoc,List.append_assoc]
   have hlen: (σ++[B78 k n s (.arr (σ.length+2+r) dl.length 0 dl.length),zb]++τ).length=σ.length+2+τ.length:=by simp;omega
   have p0: (σ++[B78 k n s (.arr (σ.length+2+r) dl.length 0 dl.length),zb]++τ)[σ.length]? =some (B78 k n s (.arr (σ.length+2+r) dl.length 0 dl.length)):=by rw [List.append_assoc];exact az
   have p3: (σ++[B78 k n s (.arr (σ.length+2+r) dl.length 0 dl.length),zb]++τ)[σ.length+2+r]? =some (.row 7 dl 1):=by rw [Jj];exact hr
   have hlt2:σ.length< (σ++[B78 k n s (.arr (σ.length+2+r) dl.length 0 dl.length),zb]++τ).length:=by omega
   have hlt3:σ.length+2+r< (σ++[B78 k n s (.arr (σ.length+2+r) dl.length 0 dl.length),zb]++τ).length:=by omega
   rw [hs]
   clear hs
   generalize σ++[B78 k n s (.arr (σ.length+2+r) dl.length 0 dl.length),zb]++τ=σ1 at*
   have hne:σ.length+2+r≠σ.length:=by omega
   have hba: (dl.length+1) *120<=140737488355328:=by omega
   have p2': ∀o τ',(σ1.set (σ.length+2+r) o++τ')[σ.length]? =some (B78 k n s (.arr (σ.length+2+r) dl.length 0 dl.length)):=fun o τ'=>bD (by rw [List.getElem?_set_ne hne];exact p0)
   have hlt2': ∀o,σ.length< (σ1.set (σ.length+2+r) o).length:=fun o=>by simpa using hlt2
   have s3: ∀o τ',(σ1++τ').set (σ.length+2+r) o=σ1.set (σ.length+2+r) o++τ':=fun o τ'=>jb hlt3
   have s2: ∀o o' τ',(σ1.set (σ.length+2+r) o++τ').set σ.length o'=(σ1.set (σ.length+2+r) o).set σ.length o'++τ':=fun o o' τ'=>jb (hlt2' o)
   clear hlt2 hlt2' hlt3 hne
   generalize σ.length+2+r=R at*
   generalize l[i].cs=xc at*
   simp [u6,hlt,hii,hwr,hll,g2,g3,y1,y2,y3,e1,q78,x78,az,aS,aN,bP,bD p0,bD p3,p2',s3,s2,hr1,hba,hx,bQ,bw,rowOf,aE,tv,Nat.testBit_eq_decide_div_mod_eq]
theorem oe: ∀ {l:List Ex} {x:Ex},u5 l->x ∈ l->x.isV
 |_::_,_,h, .head _=>h.1
 |_::_,_,h, .tail _ hm=>oe h.2 hm
set_option maxHeartbeats 4000000 in
theorem c78: ∀ (x:Ex),x.isV-> ∀σ,CI (.fn 78) [.agg x.cs] σ=some (.ret (.agg x.cs),σ)
 | .mk k n s t nm l ar,hv,σ=>by
  obtain ⟨_,_,rfl,rfl,rfl,hl,hvl⟩:=hv
  have ih:=fun x (hx:x ∈ l)=>c78 x (oe hvl hx)
  have hcs: (Ex.mk k n s [] [] l []).cs=[.int .i64 k, .int .i64 n, .str s, .str [], .slice [], .slice (l.map Ex.d), .slice []]:=by simp only [Ex.cs,bI,slD,dx];rfl
  rw [hcs]
  obtain ⟨ad',τ',hA,hit⟩:=KR k n s l (by omega) (.box z7a) σ ih l.length 0 (by omega) .empty [] (.inl ⟨rfl,rfl⟩)
  rw [List.append_nil] at hit
  simp only [E78,B78,Int.natCast_zero] at hit
  have hll: (l.map Ex.d).length=l.length:=List.length_map _
  have hp:=bu l
  rw [bI] at hp
  have hτ:ah CI XB GI E7 [.agg [.int .i64 k, .int .i64 n, .str s, .str [], .slice [], .slice (l.map Ex.d), .slice []]] σ=
   some (.ret (.agg [.int .i64 k, .int .i64 n, .str s, .str [], .slice [],ad', .slice []]),σ++[B78 k n s ad',B78 k n s ad']++τ'):=by
   have hs1: ∀a b o:Obj,(σ++[a,b]++τ').set (σ.length+1) o=σ++[a,o]++τ':=fun a b o=>by rw [List.append_assoc,bP,List.append_assoc];rfl
   have hg0: ∀a b:Obj,(σ++[a,b]++τ')[σ.length]? =some a:=fun a b=>by rw [List.append_assoc];exact az
   have hg1: ∀a b:Obj,(σ++[a,b]++τ')[σ.length+1]? =some b:=fun a b=>by rw [List.append_assoc];exact aS
   simp only [List.cons_append,List.nil_append] at hit
   rw [<-hs1 _ (.box z7a)]
   have hg0':=hg0 (B78 k n s ad') (.box z7a)
   have hg1':=hg1 (B78 k n s ad') (.box z7a)
   have hg2':=fun o=>hg1 (B78 k n s ad') o
   have hsx:=fun o=>hs1 (B78 k n s ad') (.box z7a) o
   have hone:ad'= .empty\/ ∃R n',ad'= .arr R n' 0 n':=by
    rcases hA with ⟨h,_⟩ | ⟨r,h,_⟩
    ·exact .inl h
    ·exact .inr ⟨_,_,h⟩
   clear hs1 hg0 hg1 hA
   have hq: ∀o,((σ++[B78 k n s ad', .box z7a]++τ').set (σ.length+1) o)[σ.length+1]? =some o:=fun o=>by rw [hsx];exact hg2' o
   clear hsx hg2'
   generalize l.map Ex.d=ld at*
   generalize σ++[B78 k n s ad', .box z7a]++τ'=σ1 at*
   rcases hone with rfl| ⟨R,n',rfl⟩<;>simp [ah,E7,az,aS,aN,bP,hll,hit,hg0',hg1',hq,aE,bQ]
  refine dj PO hτ ?_
  rw [List.append_assoc]
  rcases hA with ⟨rfl,hz⟩ | ⟨r,rfl,hr,hr1⟩
  ·rw [og (by simp [D.tree,bW]),hz]
   simp [D.weak,dU]
  ·rw [<-Jj (σ:=σ) (a:=B78 k n s (.arr (σ.length+2+r) (l.map Ex.d).length 0 (l.map Ex.d).length)) (b:=B78 k n s (.arr (σ.length+2+r) (l.map Ex.d).length 0 (l.map Ex.d).length)),List.append_assoc] at hr
   obtain ⟨p1,p2⟩:=jN hr hr1 hp.1 14
   have hR:σ.length<=σ.length+2+r:=by omega
   generalize σ.length+2+r=R at*
   have q1:strip 16 (σ++([B78 k n s (.arr R (l.map Ex.d).length 0 (l.map Ex.d).length),B78 k n s (.arr R (l.map Ex.d).length 0 (l.map Ex.d).length)]++τ')) (.agg [.int .i64 k, .int .i64 n, .str s, .str [], .slice [], .arr R (l.map Ex.d).length 0 (l.map Ex.d).length, .slice []])=some (.agg [.int .i64 k, .int .i64 n, .str s, .str [], .slice [], .slice (l.map Ex.d), .slice []]):=by
    unfold strip
    simp only [D.tree,bW,Bool.and_true,Bool.and_false,Bool.false_eq_true,if_false]
    simp only [List.mapM_cons,List.mapM_nil,p1,jU 15 _ (.int .i64 _) rfl,jU 15 _ (.str _) rfl,jU 15 _ (.slice []) rfl]
    rfl
   have q2:leads 16 (σ++([B78 k n s (.arr R (l.map Ex.d).length 0 (l.map Ex.d).length),B78 k n s (.arr R (l.map Ex.d).length 0 (l.map Ex.d).length)]++τ')) (.agg [.int .i64 k, .int .i64 n, .str s, .str [], .slice [], .arr R (l.map Ex.d).length 0 (l.map Ex.d).length, .slice []])=[R]:=by
    unfold leads
    simp only [D.tree,bW,Bool.and_true,Bool.and_false,Bool.false_eq_true,if_false]
    simp only [List.flatMap_cons,List.flatMap_nil,p2,jV 15 _ (.int .i64 _) rfl,jV 15 _ (.str _) rfl,jV 15 _ (.slice []) rfl]
    rfl
   rw [gG q1 (by rw [q2];intro j hj;simp at hj;omega)]
   have hw:=hp.2
   simp only [D.weak,dU,hw]
termination_by x=>SizeOf.sizeOf x
decreasing_by
 have:=List.sizeOf_lt_of_mem hx
 simp only [Ex.mk.sizeOf_spec]
 omega
end Go.AI
