/- Texts of the proof: what functions of the program compute, step by step. No conditions of its own. -/
import Derived.Test.YtgenoggafhhgfaaGreatDoorI10
import Derived.Test.YtgenoggafhhgfaaGreatDoorI9
set_option linter.unusedVariables false
set_option linter.unusedSimpArgs false
namespace Go.AI
open Go Go.Proofs Go.Lx
set_option maxRecDepth 100000
theorem log65536:Nat.log2 65536=16:=by decide
abbrev z7n:List D:=[.int .i64 0, .int .i64 0, .str [], .empty, .empty, .int .i64 0, .nilptr]
set_option maxHeartbeats 4000000 in
theorem it124 (p:Prg) (σ:St): ∀ (m:Mt),m.wf p→ ∀cs,m.at σ (.agg cs)→ ∃cs',m.now.at σ (.agg cs')∧
 ∀σ1 τ,σ1=σ++τ→iterI (evalI CI XB GI 24 false lp124_0) [(1, .ptr σ1.length 0),(2, .ptr (σ1.length+1) 0)] (σ1++[.box cs, .box z7n])=some (.exit 0,[(1, .ptr σ1.length 0),(2, .ptr (σ1.length+1) 0),(6, .bool false)],σ1++[.box cs', .box z7n])
 | .mk (.mk k n s L ls tail) ps l,hwf,cs,hat=>by
  have hat0:=hat
  obtain ⟨_,ho,hpl,hl4,hlw⟩:=hwf
  obtain ⟨w,hc,hw⟩:=Mt.at_iff.1 hat
  have hcs:cs=[.int .i64 k, .int .i64 n, .str s, .slice (tysD L), .slice (ls.map Lab.d), .int .i64 tail,w]:=by
   cases hc;simp only [Ty.cs];rfl
  by_cases k1:k=1
  ·subst k1
   obtain ⟨ho1,_⟩:=ord_parts ho
   obtain ⟨j,hj,hjl⟩:=indexP_lt ps s (ord_param ho1)
   have hjm:j<l.length:=by omega
   have hnow: (Mt.mk (.mk 1 n s L ls tail) ps l).now=l[j].now:=by
    simp only [Mt.now,if_true,hj]
    exact nowL_get l j hjm
   rcases hw with ⟨_,rfl,rfl⟩ | ⟨a,ad,dl,rfl,ha,hr,hl⟩
   ·simp at hjm
   have hjd:j<dl.length:=by rw [mtsAt_len hl];exact hjm
   have hat1:=mtsAt_get hl j hjm hjd
   obtain ⟨cs1,h3,h4,h5⟩:=Mt.at_agg hat1
   rw [h3] at hat1
   obtain ⟨cs',h6,h7⟩:=it124 p σ l[j] (mtsWf_mem hlw (List.getElem_mem hjm)) cs1 hat1
   refine ⟨cs',by rw [hnow];exact h6,fun σ1 τ hσ=> ?_⟩
   rw [←h7 σ1 τ hσ]
   refine iterI_next ?_
   rw [hcs]
   have h89:=fun σ=>c89 ps s σ (by unfold maxL;omega)
   rw [hj] at h89
   have hjj: (j:Int) <dl.length:=by omega
   have y2:cs1.take 7=cs1:=List.take_of_length_le (by omega)
   have q89:qI 89=false:=rfl
   have x89:XB 89=false:=rfl
   have e1:=mtsAt_eqb hl
   have e2: (slD ps).eqb (slD ps)=true:=D.eqb_tree _ (plain_strs _).1
   have e4:=Mt.at_eqb hat1
   have ha2: ∀τ,(σ1++τ)[a]? =some (.box [slD ps,ad]):=fun τ=>getO (by rw [hσ];exact getO ha)
   clear hat hat0 hc hcs h7 hnow
   rcases hr with rfl| ⟨rfl,rfl⟩ | ⟨r,q,rfl,hrow,hq,_⟩
   ·generalize slD ps=pd at*
    generalize tysD L=LD at*
    generalize ls.map Lab.d=lsd at*
    simp [lp124_0,getA0,getA,setA0,setA,ha2,h89,hjd,hjj,h3,h4,h5,y2,e1,e2,e4,q89,x89,putCells,log65536,Nat.testBit_eq_decide_div_mod_eq]
   ·simp at hjd
   ·have hrow2: ∀τ,(σ1++τ)[r]? =some (.row 7 dl q):=fun τ=>getO (by rw [hσ];exact getO hrow)
    have hg:dl[j]? =some (.agg cs1):=by rw [List.getElem?_eq_getElem hjd,h3]
    generalize slD ps=pd at*
    generalize tysD L=LD at*
    generalize ls.map Lab.d=lsd at*
    simp [lp124_0,getA0,getA,setA0,setA,ha2,hrow2,hg,hq,h89,hjd,hjj,h3,h4,h5,y2,e1,e2,e4,q89,x89,putCells,log65536,Nat.testBit_eq_decide_div_mod_eq]
  ·have hnow: (Mt.mk (.mk k n s L ls tail) ps l).now=Mt.mk (.mk k n s L ls tail) ps l:=by
    simp only [Mt.now,if_neg k1]
   refine ⟨cs,by rw [hnow];exact hat0,fun σ1 τ hσ=> ?_⟩
   have b1: (k==1)=false:=by simpa using k1
   refine iterI_end ?_ (by simp)
   rw [hcs]
   simp [lp124_0,getA0,getA,b1]
termination_by m=>SizeOf.sizeOf m
decreasing_by
 have:=List.sizeOf_lt_of_mem (List.getElem_mem hjm)
 simp only [Mt.mk.sizeOf_spec]
 omega
theorem c124 (p:Prg) (m:Mt) (hwf:m.wf p) (σ:St) (cs:List D) (hat:m.at σ (.agg cs)): ∃cs',m.now.at σ (.agg cs')∧ ∀σ1 τ,σ1=σ++τ→CI (.fn 124) [.agg cs] σ1=some (.ret (.agg cs'),σ1):=by
 obtain ⟨cs',h1,hit⟩:=it124 p σ m hwf cs hat
 refine ⟨cs',h1,fun σ1 τ hσ=> ?_⟩
 have hit:=hit σ1 τ hσ
 obtain ⟨_,hx,_,y0⟩:=Mt.at_agg hat
 cases hx
 obtain ⟨_,hx,n1,n3⟩:=Mt.at_agg h1
 cases hx
 have n2:cs'.take 7=cs':=List.take_of_length_le (by omega)
 have n4:cs'.drop 7=[]:=List.drop_of_length_le (by omega)
 have hτ:bodyI CI XB GI af124 [.agg cs] σ1=some (.ret (.agg cs'),σ1++[.box cs', .box cs']):=by
  simp [bodyI,af124,getA0,getA,setA0,setA,y0,hit,n1,n2,n3,n4,putCells]
 exact CI_at tab124 hτ (by rw [hσ];exact Mt.at_app _ _ h1)
theorem set3 {σ τ:St} {a b c o:Obj} {r:Nat} : (σ++[a,b,c]++τ).set (σ.length+3+r) o=σ++[a,b,c]++τ.set r o:=by
 rw [List.append_assoc,Nat.add_assoc,setA,List.append_assoc]
 congr 1
 show ([a,b,c]++τ).set (3+r) o=[a,b,c]++τ.set r o
 rw [Nat.add_comm];rfl
theorem get3 {σ τ:St} {a b c:Obj} {r:Nat} : (σ++[a,b,c]++τ)[σ.length+3+r]? =τ[r]? :=by
 rw [List.append_assoc,Nat.add_assoc,getA]
 show ([a,b,c]++τ)[3+r]? =τ[r]?
 rw [Nat.add_comm];rfl
theorem set2 {σ τ:St} {a b c o:Obj} : (σ++[a,b,c]++τ).set (σ.length+2) o=σ++[a,b,o]++τ:=by
 rw [List.append_assoc,setA,List.append_assoc];rfl
theorem CI_new2 {f:FuncId} {af:AFunc} (hT:tabT f=some af) {args:List D} {σ τ:St} {i:Nat} {d:D} (h:bodyI CI XB GI af args σ=some (.ret (.tuple [d, .ptr (σ.length+i) 0]),σ++τ)) (hq:qI f=false)
 (hx:okF f:=by exact ⟨⟨rfl,rfl⟩,rfl⟩):CI (.fn f) args σ=some (.ret (.tuple [d, .ptr (σ.length+i) 0]),σ++τ):=by
 refine CI_fn hT h ?_ hx
 have ht:trim σ (some (.ret (.tuple [d, .ptr (σ.length+i) 0]),σ++τ))=some (.ret (.tuple [d, .ptr (σ.length+i) 0]),σ++τ):=by
  unfold trim
  have:trimV σ.length (σ++τ) (.ret (.tuple [d, .ptr (σ.length+i) 0]))=none:=by
   have h1:strip 16 (σ++τ) (.tuple [d, .ptr (σ.length+i) 0])=none:=by
    have hs:=strip_ptr 15 (σ++τ) (σ.length+i) 0
    have ht: (D.tuple [d, .ptr (σ.length+i) 0]).tree=false:=by simp [D.tree,treeL]
    rw [strip_tuple 15 _ _ ht,show [d,D.ptr (σ.length+i) 0]=[d]++[D.ptr (σ.length+i) 0] by rfl,List.mapM_append]
    generalize strip 15 (σ++τ)=st at*
    cases [d].mapM st with
    |none=>rfl
    |some y=>simp [hs]
   simp [trimV,h1,D.under,underL]
  simp only [this,if_pos keeps_app]
 unfold postI
 rw [ht]
 simp [hq]
abbrev E125 (q:Nat) (ld:List D) (n i:Nat):Env:=[(3, .ptr q 0),(6, .ptr (q+1) 0),(7, .ptr (q+2) 0),(28, .slice ld),(29, .int .i64 n),(30, .int .i64 i)]
def argsAt (σ:St) (ad:D) (dl:List D) (τ:St):Prop:=(ad= .empty∧dl=[])∨ ∃r,ad= .arr (σ.length+3+r) dl.length 0 dl.length∧τ[r]? =some (.row 7 dl 1)∧1≤dl.length
theorem log16384b:Nat.log2 16384=14:=by decide
set_option maxHeartbeats 8000000 in
theorem it125 (p:Prg) (k0 n0:Int) (s:Bs) (L:List Ty) (ls:List Lab) (tail:Int) (ps:List Bs) (l:List Mt) (hL:L.length≤4) (hwf: ∀t ∈ L,(Mt.mk t ps l).wf p) (w:D) (pd:D) (dc:List D) (σ:St) (hw:withAt σ ps l w):
 ∀ (k i:Nat),i+k=L.length→ ∀ (ad:D) (dl:List D) (τ:St),argsAt σ ad dl τ→dl.length=i→mtsAt σ ((inner ps l (L.take i)).map Mt.now) dl→
  ∃ad' dl' τ',argsAt σ ad' dl' τ'∧mtsAt σ ((inner ps l L).map Mt.now) dl'∧
   iterI (evalI CI XB GI 52 false lp125_0) (E125 σ.length (L.map Ty.d) L.length i) (σ++[.box ((Ty.mk k0 n0 s L ls tail).cs++[w]), .box dc, .box [pd,ad]]++τ)=
    some (.exit 0,E125 σ.length (L.map Ty.d) L.length L.length++[(31, .bool false)],σ++[.box ((Ty.mk k0 n0 s L ls tail).cs++[w]), .box dc, .box [pd,ad']]++τ')
 |0,i,hi,ad,dl,τ,hA,hd,hm=>by
  obtain rfl:i=L.length:=by omega
  rw [List.take_length] at hm
  refine ⟨ad,dl,τ,hA,hm,iterI_end ?_ (by simp)⟩
  simp [lp125_0]
 |k+1,i,hi,ad,dl,τ,hA,hd,hm=>by
  have hlt:i<L.length:=by omega
  have hwi:=hwf L[i] (List.getElem_mem hlt)
  obtain ⟨cs',h1,h124⟩:=c124 p (.mk L[i] ps l) hwi σ (L[i].cs++[w]) (Mt.at_iff.2 ⟨w,rfl,hw⟩)
  obtain ⟨_,hx,n1,n3⟩:=Mt.at_agg h1
  cases hx
  have hm2:mtsAt σ ((inner ps l (L.take (i+1))).map Mt.now) (dl++[.agg cs']):=by
   have e: (inner ps l (L.take (i+1))).map Mt.now=(inner ps l (L.take i)).map Mt.now++[(Mt.mk L[i] ps l).now]:=by
    unfold inner;rw [List.take_succ_eq_append_getElem hlt,List.map_append,List.map_append];rfl
   rw [e];exact mtsAt_snoc hm h1
  have hwr:=wrap_nat (n:=i) (by omega)
  obtain ⟨ld,hld,hll,hlg⟩:=opq Ty.d L
  obtain ⟨g2,g3⟩:=hlg i hlt
  have hii: (i:Int) <L.length:=by omega
  have y1:=L[i].cs_len
  have y2:=L[i].cs_take
  have y3:L[i].cs.all D.one=true:=by cases L[i];rfl
  have hcs: (Ty.mk k0 n0 s L ls tail).cs++[w]=[.int .i64 k0, .int .i64 n0, .str s, .slice (tysD L), .slice (ls.map Lab.d), .int .i64 tail,w]:=by simp only [Ty.cs];rfl
  have q124:qI 124=false:=rfl
  have x124:XB 124=false:=rfl
  have e1:=Mt.at_eqb h1
  have e2:eqbL (L[i].cs++[w]) (L[i].cs++[w])=true:=Mt.at_eqb (σ:=σ) (m:= .mk L[i] ps l) (Mt.at_iff.2 ⟨w,rfl,hw⟩)
  have ew:w.eqb w=true:=by rcases hw with ⟨rfl,_⟩ | ⟨a,_,_,rfl,_⟩<;>simp
  have hwf2:w= .nilptr∨ ∃a,w= .ptr a 0:=hw.elim (fun h=> .inl h.1) fun ⟨a,_,_,h,_⟩=> .inr ⟨a,h⟩
  have e3:eqbL L[i].cs L[i].cs=true:=eqbL_tree _ L[i].plain.1
  unfold Ty.d at g3
  obtain ⟨k1,m1,s1,a1,b1,t1,hc⟩: ∃k1 m1 s1 a1 b1 t1,L[i].cs=[.int .i64 k1, .int .i64 m1, .str s1, .slice a1, .slice b1, .int .i64 t1]:=by
   rcases L[i] with ⟨k,n,s,l,ls,tail⟩;exact ⟨_,_,_,_,_,_,by simp only [Ty.cs];rfl⟩
  rw [hld]
  rcases hA with ⟨rfl,rfl⟩ | ⟨r,rfl,hr,hr1⟩
  ·obtain ⟨ad',dl',τ',r1,r2,r3⟩:=it125 p k0 n0 s L ls tail ps l hL hwf w pd dc σ hw k (i+1) (by omega) (.arr (σ.length+3+ (τ.length+1)) 1 0 1) [.agg cs'] (τ++[.box L[i].cs, .row 7 [.agg cs'] 1])
    (.inr ⟨τ.length+1,rfl,by rw [getA];rfl,by simp⟩) (by simp at hd ⊢;omega) hm2
   refine ⟨ad',dl',τ',r1,r2, ?_⟩
   rw [hld] at r3
   rw [←r3]
   refine iterI_next ?_
   clear r3
   have hs:σ++[Obj.box ((Ty.mk k0 n0 s L ls tail).cs++[w]), .box dc, .box [pd, .arr (σ.length+3+ (τ.length+1)) 1 0 1]]++(τ++[.box L[i].cs, .row 7 [.agg cs'] 1])=(σ++[Obj.box ((Ty.mk k0 n0 s L ls tail).cs++[w]), .box dc, .box [pd, .empty]]++τ).set (σ.length+2) (Obj.box [pd, .arr (σ.length+3+ (τ.length+1)) 1 0 1])++[.box L[i].cs, .row 7 [.agg cs'] 1]:=by
    rw [set2,List.append_assoc,List.append_assoc,List.append_assoc]
   have hlen: (σ++[Obj.box ((Ty.mk k0 n0 s L ls tail).cs++[w]), .box dc, .box [pd, .empty]]++τ).length=σ.length+3+τ.length:=by simp;omega
   have p0: (σ++[Obj.box ((Ty.mk k0 n0 s L ls tail).cs++[w]), .box dc, .box [pd, .empty]]++τ)[σ.length]? =some (.box ((Ty.mk k0 n0 s L ls tail).cs++[w])):=by rw [List.append_assoc];exact getA0
   have p2: (σ++[Obj.box ((Ty.mk k0 n0 s L ls tail).cs++[w]), .box dc, .box [pd, .empty]]++τ)[σ.length+2]? =some (.box [pd, .empty]):=by rw [List.append_assoc];exact getA
   have h124:=fun τ'=>h124 (σ++[Obj.box ((Ty.mk k0 n0 s L ls tail).cs++[w]), .box dc, .box [pd, .empty]]++τ++τ') _ (by rw [List.append_assoc,List.append_assoc])
   rw [hs]
   rw [hcs] at p0 p2 hlen h124 ⊢
   clear hs
   rw [hc] at h124 g3 y1 y2 y3 e2 e3 ⊢
   simp only [List.cons_append,List.nil_append] at h124 e2
   have hlt2:σ.length+2< (σ++[Obj.box [.int .i64 k0, .int .i64 n0, .str s, .slice (tysD L), .slice (ls.map Lab.d), .int .i64 tail,w], .box dc, .box [pd, .empty]]++τ).length:=by omega
   generalize σ++[Obj.box [.int .i64 k0, .int .i64 n0, .str s, .slice (tysD L), .slice (ls.map Lab.d), .int .i64 tail,w], .box dc, .box [pd, .empty]]++τ=σ1 at*
   clear h1
   rcases hwf2 with rfl| ⟨wa,rfl⟩<;>(simp [lp125_0,hlt,hii,hwr,hll,g2,g3,getA0,getA,setA0,setA,getO p0,getO p2,setO hlt2,h124,n1,n3,e1,e2,ew,e3,q124,x124,fillD,fillRow,rowOf,putCells,hlen,log16384b,Nat.testBit_eq_decide_div_mod_eq];rfl)
  ·have hrl:=lt_of_get hr
   have hdl: (dl++[D.agg cs']).length=dl.length+1:=by simp
   obtain ⟨ad',dl',τ',r1,r2,r3⟩:=it125 p k0 n0 s L ls tail ps l hL hwf w pd dc σ hw k (i+1) (by omega) (.arr (σ.length+3+r) (dl.length+1) 0 (dl.length+1)) (dl++[.agg cs']) (τ.set r (.row 7 (dl++[.agg cs']) 1)++[.box L[i].cs])
    (.inr ⟨r,by rw [hdl],by rw [List.getElem?_append_left (by simpa using hrl),List.getElem?_set_self hrl],by omega⟩) (by omega) hm2
   refine ⟨ad',dl',τ',r1,r2, ?_⟩
   rw [hld] at r3
   rw [←r3]
   refine iterI_next ?_
   clear r3
   have hs:σ++[Obj.box ((Ty.mk k0 n0 s L ls tail).cs++[w]), .box dc, .box [pd, .arr (σ.length+3+r) (dl.length+1) 0 (dl.length+1)]]++(τ.set r (.row 7 (dl++[.agg cs']) 1)++[.box L[i].cs])=
    ((σ++[Obj.box ((Ty.mk k0 n0 s L ls tail).cs++[w]), .box dc, .box [pd, .arr (σ.length+3+r) dl.length 0 dl.length]]++τ).set (σ.length+3+r) (.row 7 (dl++[.agg cs']) 1)).set (σ.length+2) (.box [pd, .arr (σ.length+3+r) (dl.length+1) 0 (dl.length+1)])++[.box L[i].cs]:=by
    rw [set3,set2,List.append_assoc,List.append_assoc,List.append_assoc]
   have hlen: (σ++[Obj.box ((Ty.mk k0 n0 s L ls tail).cs++[w]), .box dc, .box [pd, .arr (σ.length+3+r) dl.length 0 dl.length]]++τ).length=σ.length+3+τ.length:=by simp;omega
   have p0: (σ++[Obj.box ((Ty.mk k0 n0 s L ls tail).cs++[w]), .box dc, .box [pd, .arr (σ.length+3+r) dl.length 0 dl.length]]++τ)[σ.length]? =some (.box ((Ty.mk k0 n0 s L ls tail).cs++[w])):=by rw [List.append_assoc];exact getA0
   have p2: (σ++[Obj.box ((Ty.mk k0 n0 s L ls tail).cs++[w]), .box dc, .box [pd, .arr (σ.length+3+r) dl.length 0 dl.length]]++τ)[σ.length+2]? =some (.box [pd, .arr (σ.length+3+r) dl.length 0 dl.length]):=by rw [List.append_assoc];exact getA
   have p3: (σ++[Obj.box ((Ty.mk k0 n0 s L ls tail).cs++[w]), .box dc, .box [pd, .arr (σ.length+3+r) dl.length 0 dl.length]]++τ)[σ.length+3+r]? =some (.row 7 dl 1):=by rw [get3];exact hr
   have h124:=fun τ'=>h124 (σ++[Obj.box ((Ty.mk k0 n0 s L ls tail).cs++[w]), .box dc, .box [pd, .arr (σ.length+3+r) dl.length 0 dl.length]]++τ++τ') _ (by rw [List.append_assoc,List.append_assoc])
   rw [hs]
   rw [hcs] at p0 p2 p3 hlen h124 ⊢
   clear hs
   rw [hc] at h124 g3 y1 y2 y3 e2 e3 ⊢
   simp only [List.cons_append,List.nil_append] at h124 e2
   have hlt2:σ.length+2< (σ++[Obj.box [.int .i64 k0, .int .i64 n0, .str s, .slice (tysD L), .slice (ls.map Lab.d), .int .i64 tail,w], .box dc, .box [pd, .arr (σ.length+3+r) dl.length 0 dl.length]]++τ).length:=by omega
   have hlt3:σ.length+3+r< (σ++[Obj.box [.int .i64 k0, .int .i64 n0, .str s, .slice (tysD L), .slice (ls.map Lab.d), .int .i64 tail,w], .box dc, .box [pd, .arr (σ.length+3+r) dl.length 0 dl.length]]++τ).length:=by omega
   generalize σ++[Obj.box [.int .i64 k0, .int .i64 n0, .str s, .slice (tysD L), .slice (ls.map Lab.d), .int .i64 tail,w], .box dc, .box [pd, .arr (σ.length+3+r) dl.length 0 dl.length]]++τ=σ1 at*
   have hne:σ.length+3+r≠σ.length+2:=by omega
   have hba: (dl.length+1) *96≤140737488355328:=by omega
   have p2': ∀o τ',(σ1.set (σ.length+3+r) o++τ')[σ.length+2]? =some (.box [pd, .arr (σ.length+3+r) dl.length 0 dl.length]):=fun o τ'=>getO (by rw [List.getElem?_set_ne hne];exact p2)
   have hlt2': ∀o,σ.length+2< (σ1.set (σ.length+3+r) o).length:=fun o=>by simpa using hlt2
   have s3: ∀o τ',(σ1++τ').set (σ.length+3+r) o=σ1.set (σ.length+3+r) o++τ':=fun o τ'=>setO hlt3
   have s2: ∀o o' τ',(σ1.set (σ.length+3+r) o++τ').set (σ.length+2) o'=(σ1.set (σ.length+3+r) o).set (σ.length+2) o'++τ':=fun o o' τ'=>setO (hlt2' o)
   clear hlt2 hlt2' hlt3 hne
   generalize σ.length+3+r=R at*
   clear h1
   rcases hwf2 with rfl| ⟨wa,rfl⟩<;>simp [lp125_0,hlt,hii,hwr,hll,g2,g3,getA0,getA,setA0,setA,getO p0,getO p2,getO p3,p2',s3,s2,hr1,hba,h124,n1,n3,e1,e2,ew,e3,q124,x124,fillD,fillRow,rowOf,putCells,log16384b,Nat.testBit_eq_decide_div_mod_eq]
theorem log8192b:Nat.log2 8192=13:=by decide
set_option maxHeartbeats 4000000 in
theorem c125 (p:Prg) (m:CMap) (hdl:p.data.length≤12) (k0 n0:Int) (s:Bs) (L:List Ty) (ls:List Lab) (tail:Int) (ps:List Bs) (l:List Mt) (hL:L.length≤4) (hwf: ∀t ∈ L,(Mt.mk t ps l).wf p) (cs:List D) (tb i:Nat) (hi:i<p.data.length) (hix:idxOf (fun x:Dat=>x.name==s) p.data=i)
 (σ:St) (hT:IsT σ tb p m) (hat: (Mt.mk (.mk k0 n0 s L ls tail) ps l).at σ (.agg cs)):
 ∃τ,CI (.fn 125) [.ptr tb 0, .agg cs] σ=some (.ret (.tuple [.slice (p.data[i].cons.map Con.d), .ptr (σ.length+2) 0]),σ++τ)∧withAt (σ++τ) p.data[i].params ((inner ps l L).map Mt.now) (.ptr (σ.length+2) 0):=by
 obtain ⟨w,hc,hw⟩:=Mt.at_iff.1 hat
 obtain ⟨ad',dl',τ',r1,r2,hit⟩:=it125 p k0 n0 s L ls tail ps l hL hwf w (.slice (p.data[i].params.map D.str)) p.data[i].cs σ hw L.length 0 (by omega) .empty [] [] (.inl ⟨rfl,rfl⟩) rfl (by simp [inner,mtsAt])
 have h117:=fun σ hT=>c117 p m (by unfold maxL;omega) s tb σ hT
 rw [hix] at h117
 refine ⟨[.box cs, .box p.data[i].cs, .box [.slice (p.data[i].params.map D.str),ad']]++τ', ?_, ?_⟩
 rotate_left
 ·refine .inr ⟨σ.length+2,ad',dl',rfl,by rw [←List.append_assoc,List.append_assoc];exact getA, ?_,mtsAt_app _ _ r2⟩
  rcases r1 with ⟨rfl,rfl⟩ | ⟨r,rfl,h1,h2⟩
  ·exact .inr (.inl ⟨rfl,rfl⟩)
  ·exact .inr (.inr ⟨_,1,rfl,by rw [←List.append_assoc];exact get3.trans h1,h2,h2⟩)
 refine CI_new2 tab125 ?_ rfl
 obtain ⟨ld,hld,hll,hlg⟩:=opq Dat.d p.data
 obtain ⟨g2,g3⟩:=hlg i hi
 have hii: (i:Int) <p.data.length:=by omega
 have hh:p.cs.head?=some (.slice ld):=by rw [p.cs_eq,←hld];rfl
 have f1:eqbL ld ld=true:=by rw [←hld];exact eqbL_tree _ (PlainL.map fun x _=>x.plain).1
 have hdc:p.data[i].cs=[.str p.data[i].name, .slice (p.data[i].params.map D.str), .slice (p.data[i].cons.map Con.d)]:=rfl
 have hdd:p.data[i].d= .agg [.str p.data[i].name, .slice (p.data[i].params.map D.str), .slice (p.data[i].cons.map Con.d)]:=rfl
 have f2:eqbL (p.data[i].cons.map Con.d) (p.data[i].cons.map Con.d)=true:=eqbL_tree _ (PlainL.map fun x _=>x.plain).1
 have f3:eqbL (p.data[i].params.map D.str) (p.data[i].params.map D.str)=true:=eqbL_tree _ (PlainL.map fun x _=>plain_str x).1
 rw [hdd] at g3
 rw [hdc] at hit ⊢
 cases hc
 have y0: (Ty.mk k0 n0 s L ls tail).cs++[w]=[.int .i64 k0, .int .i64 n0, .str s, .slice (L.map Ty.d), .slice (ls.map Lab.d), .int .i64 tail,w]:=by simp only [Ty.cs,tysD_map];rfl
 have hwf2:w= .nilptr∨ ∃a,w= .ptr a 0:=hw.elim (fun h=> .inl h.1) fun ⟨a,_,_,h,_⟩=> .inr ⟨a,h⟩
 rw [y0] at hit ⊢
 have hLl: (L.map Ty.d).length=L.length:=List.length_map _
 have q117:qI 117=true:=rfl
 have x117:XB 117=false:=rfl
 obtain ⟨j,hT1,hT2⟩:=hT
 have hTT: ∀τ,IsT (σ++τ) tb p m:=fun τ=>⟨j,getO hT1,getO hT2⟩
 have h117:=fun τ=>h117 (σ++τ) (hTT τ)
 have hT3: ∀τ,(σ++τ)[tb]? =some (.box (p.cs++[.map j])):=fun τ=>getO hT1
 have hhd: (p.cs++[D.map j]).head?=some (.slice ld):=by
  rw [p.cs_eq,←hld];rfl
 have hp0: (p.cs++[D.map j])[0]? =some (.slice ld):=by rw [←List.head?_eq_getElem?];exact hhd
 rw [←List.append_assoc]
 simp only [E125,Int.natCast_zero,List.cons_append,List.nil_append,List.append_nil] at hit
 clear hat hT1 hT2 hdd hdc hw r1 r2
 generalize p.data[i].cons.map Con.d=cd at*
 generalize p.data[i].params.map D.str=pl at*
 generalize p.data[i].name=dn at*
 generalize L.map Ty.d=LD at*
 generalize ls.map Lab.d=lsd at*
 generalize hσ2:σ++[Obj.box [.int .i64 k0, .int .i64 n0, .str s, .slice LD, .slice lsd, .int .i64 tail,w], .box [.str dn, .slice pl, .slice cd], .box [.slice pl,ad']]++τ'=σ2 at*
 have p1:σ2[σ.length+1]? =some (.box [.str dn, .slice pl, .slice cd]):=by rw [←hσ2,List.append_assoc];exact getA
 clear hσ2
 generalize p.cs++[D.map j]=pc at*
 rcases hwf2 with rfl| ⟨wa,rfl⟩<;>simp [bodyI,af125,getA0,getA,setA0,setA,hT3,hhd,hll,h117,hi,hii,g2,g3,f1,f2,f3,hp0,q117,x117,fillD,putCells,hLl,hit,p1,log8192b,Nat.testBit_eq_decide_div_mod_eq]
def sumTo (g:Nat→Nat):Nat→Nat
 |0=>0
 |m+1=>sumTo g m+g m
theorem sumTo_congr {g h:Nat→Nat} : ∀ {m:Nat},(∀i,i<m→g i=h i)→sumTo g m=sumTo h m
 |0,_=>rfl
 |m+1,hg=>by simp only [sumTo,sumTo_congr (m:=m) (fun i hi=>hg i (by omega)),hg m (by omega)]
theorem sumTo_le {g h:Nat→Nat} : ∀ {m:Nat},(∀i,i<m→g i≤h i)→sumTo g m≤sumTo h m
 |0,_=>Nat.le_refl _
 |m+1,hg=>by
  have h1:=sumTo_le (m:=m) (fun i hi=>hg i (by omega))
  have h2:=hg m (by omega)
  simp only [sumTo];omega
def togT (f:Ty→Nat→Nat):List Ty→Nat→Nat
 | [],m=>if m=0 then 1 else 0
 |t::r,m=>sumTo (fun i=>f t (i+1) *togT f r (m - (i+1))) m
theorem togT_congr {f g:Ty→Nat→Nat} : ∀ {l:List Ty} {m:Nat},(∀t j,j≤m→f t j=g t j)→togT f l m=togT g l m
 | [],m,_=>rfl
 |t::r,m,h=>by
  simp only [togT]
  refine sumTo_congr fun i hi=> ?_
  rw [h t (i+1) (by omega),togT_congr (l:=r) (m:=m - (i+1)) fun t j hj=>h t j (by omega)]
def Prg.datOf (p:Prg) (s:Bs):Option Dat:=p.data.find? (fun x=>x.name==s)
def Ty.cntF (p:Prg):Nat→Ty→Nat→Nat
 |0,_,_=>0
 |k+1, .mk kd _ s L _ _,n=>if n=0 then 0 else if kd=6 then (match p.datOf s with
  |some d=>(d.cons.map fun c=>togT (Ty.cntF p k) (c.args.map (Ty.rep d.params L)) (n - 1)).sum
  |none=>0)
  else if n=1 then (if kd=4 then 1 else 2) else 0
theorem cntF_fuel (p:Prg): ∀ (k k':Nat) (t:Ty) (n:Nat),n≤k→n≤k'→Ty.cntF p k t n=Ty.cntF p k' t n
 |0,0,t,n,h,h'=>rfl
 |0,k'+1, .mk kd m s L ls tl,n,h,h'=>by
  obtain rfl:n=0:=by omega
  simp [Ty.cntF]
 |k+1,0, .mk kd m s L ls tl,n,h,h'=>by
  obtain rfl:n=0:=by omega
  simp [Ty.cntF]
 |k+1,k'+1, .mk kd m s L ls tl,n,h,h'=>by
  simp only [Ty.cntF]
  have: ∀ (d:Dat) (c:Con),togT (Ty.cntF p k) (c.args.map (Ty.rep d.params L)) (n - 1)=togT (Ty.cntF p k') (c.args.map (Ty.rep d.params L)) (n - 1):=fun d c=>
   togT_congr fun t j hj=>cntF_fuel p k k' t j (by omega) (by omega)
  simp only [this]
def Ty.cnt (p:Prg) (t:Ty) (n:Nat):Nat:=Ty.cntF p n t n
theorem cnt_zero (p:Prg) (t:Ty):t.cnt p 0=0:=rfl
theorem cnt_data (p:Prg) {n1:Int} {s:Bs} {L:List Ty} {ls:List Lab} {tl:Int} {d:Dat} (hd:p.datOf s=some d) (n:Nat):
 (Ty.mk 6 n1 s L ls tl).cnt p (n+1)=(d.cons.map fun c=>togT (Ty.cnt p) (c.args.map (Ty.rep d.params L)) n).sum:=by
 unfold Ty.cnt
 simp only [Ty.cntF,hd]
 rw [if_neg (by omega),if_pos trivial,Nat.add_sub_cancel]
 congr 1
 refine List.map_congr_left fun c _=>togT_congr fun t j hj=> ?_
 exact cntF_fuel p n j t j hj (Nat.le_refl _)
theorem cnt_base (p:Prg) {kd n1:Int} {s:Bs} {L:List Ty} {ls:List Lab} {tl:Int} (h6:kd≠6) (n:Nat): (Ty.mk kd n1 s L ls tl).cnt p n=if n=1 then (if kd=4 then 1 else 2) else 0:=by
 unfold Ty.cnt
 cases n with
 |zero=>rfl
 |succ n=>simp only [Ty.cntF];rw [if_neg (by omega),if_neg h6]
def cB (n:Nat):Nat:=[0,8,64,512,8192,98304,1572864,27262976].getD n 0
def tB:Nat→Nat→Nat
 |0,m=>if m=0 then 1 else 0
 |k+1,m=>sumTo (fun i=>cB (i+1) *tB k (m - (i+1))) m
theorem tB_fact: ∀ (k:Fin 5) (m:Fin 7),8*tB k m≤cB (m+1):=by decide+kernel
theorem togT_le {f:Ty→Nat→Nat} : ∀ {l:List Ty} {m:Nat},(∀t j,j≤m→f t j≤cB j)→togT f l m≤tB l.length m
 | [],m,_=>Nat.le_refl _
 |t::r,m,h=>by
  simp only [togT,List.length_cons,tB]
  refine sumTo_le fun i hi=> ?_
  exact Nat.mul_le_mul (h t (i+1) (by omega)) (togT_le fun t j hj=>h t j (by omega))
theorem sum_le {α:Type} {f:α→Nat} {b:Nat} : ∀ {l:List α},(∀a ∈ l,f a≤b)→(l.map f).sum≤l.length*b
 | [],_=>by simp
 |a::r,h=>by
  have h1:=h a List.mem_cons_self
  have h2:=sum_le (l:=r) fun x hx=>h x (List.mem_cons_of_mem _ hx)
  simp only [List.map_cons,List.sum_cons,List.length_cons,Nat.succ_mul];omega
def Prg.few (p:Prg):Prop:= ∀d ∈ p.data,d.cons.length≤8∧ ∀c ∈ d.cons,c.args.length≤4
theorem cntF_le {p:Prg} (hp:p.few): ∀ (k:Nat) (t:Ty) (n:Nat),n≤7→Ty.cntF p k t n≤cB n
 |0,t,n,_=>Nat.zero_le _
 |k+1, .mk kd m s L ls tl,n,hn=>by
  simp only [Ty.cntF]
  split
  ·exact Nat.zero_le _
  ·split
   ·cases hd:p.datOf s with
    |none=>exact Nat.zero_le _
    |some d=>
     obtain ⟨h8,h4⟩:=hp d (List.mem_of_find?_eq_some hd)
     obtain ⟨m,rfl⟩: ∃m,n=m+1:=⟨n - 1,by omega⟩
     have h1: ∀c ∈ d.cons,togT (Ty.cntF p k) (c.args.map (Ty.rep d.params L)) m≤cB (m+1) / 8:=fun c hc=>by
      have h2:=togT_le (f:=Ty.cntF p k) (l:=c.args.map (Ty.rep d.params L)) (m:=m) fun t j hj=>cntF_le hp k t j (by omega)
      have h3:=tB_fact ⟨c.args.length,by have:=h4 c hc;omega⟩ ⟨m,by omega⟩
      simp only [List.length_map] at h2 h3
      omega
     have h5:=sum_le h1
     have h6:d.cons.length* (cB (m+1) / 8)≤8* (cB (m+1) / 8):=Nat.mul_le_mul_right _ h8
     simp only [Nat.add_sub_cancel]
     omega
   ·split
    ·rename_i h1;subst h1
     split<;>simp [cB]
    ·exact Nat.zero_le _
theorem cnt_le {p:Prg} (hp:p.few) (t:Ty) (n:Nat) (hn:n≤7):t.cnt p n≤cB n:=cntF_le hp n t n hn
theorem cB_le: ∀ (n:Nat),n≤7→cB n≤27262976:=fun n hn=>by
 match n,hn with
 |0,_|1,_|2,_|3,_|4,_|5,_|6,_|7,_=>simp [cB]
theorem tB_le (k m:Nat) (hk:k≤4) (hm:m≤6):tB k m≤27262976:=by
 have h1:=tB_fact ⟨k,by omega⟩ ⟨m,by omega⟩
 have h2:=cB_le (m+1) (by omega)
 simp only at h1
 omega
theorem tog_le {p:Prg} (hp:p.few) (l:List Ty) (hl:l.length≤4) (m:Nat) (hm:m≤6):togT (Ty.cnt p) l m≤27262976:=
 Nat.le_trans (togT_le fun t j hj=>cnt_le hp t j (by omega)) (tB_le _ _ hl hm)
def rowsT (f:Ty→Nat→List Ex):List Ty→Nat→List (List Ex)
 | [],m=>if m=0 then [[]] else []
 |t::r,m=>(List.range m).flatMap fun i=>(f t (i+1)).flatMap fun x=>(rowsT f r (m - (i+1))).map fun l=>x::l
def conV (s:Bs) (l:List Ex):Ex:= .mk 10 0 s [] [] l []
def baseV (kd:Int):List Ex:=if kd=4 then [.mk 3 0 [] [] [] [] []] else [.mk (kd - 1) 0 [] [] [] [] [], .mk (kd - 1) 1 [] [] [] [] []]
def Ty.valF (p:Prg):Nat→Ty→Nat→List Ex
 |0,_,_=>[]
 |k+1, .mk kd _ s L _ _,n=>if n=0 then [] else if kd=6 then (match p.datOf s with
  |some d=>d.cons.flatMap fun c=>(rowsT (Ty.valF p k) (c.args.map (Ty.rep d.params L)) (n - 1)).map (conV c.name)
  |none=>[])
  else if n=1 then baseV kd else []
def Ty.val (p:Prg) (t:Ty) (n:Nat):List Ex:=Ty.valF p n t n
theorem datOf_idx {p:Prg} {s:Bs} {i:Nat} (h:idxOf (fun x:Dat=>x.name==s) p.data=i) (hi:i<p.data.length):p.datOf s=some p.data[i]:=by
 rcases idxOf_find (fun x:Dat=>x.name==s) p.data with ⟨h1,_⟩ | ⟨j,hj,hjl,hf,_⟩
 ·omega
 ·obtain rfl:i=j:=by omega
  exact hf
theorem togT_few {f:Ty→Nat→Nat} : ∀ (l:List Ty) (m:Nat),m<l.length→togT f l m=0
 |t::r,m,h=>by
  simp only [togT]
  have: ∀n,sumTo (fun _=>0) n=0:=fun n=>by induction n with|zero=>rfl|succ n ih=>simp [sumTo,ih]
  rw [←this m]
  refine sumTo_congr fun i hi=> ?_
  rw [togT_few r (m - (i+1)) (by simp at h;omega),Nat.mul_zero]
theorem sumTo_tail {g:Nat→Nat} {a:Nat} : ∀ {b:Nat},a≤b→(∀i,a≤i→i<b→g i=0)→sumTo g b=sumTo g a
 |0,h,_=>by
  obtain rfl:a=0:=by omega
  rfl
 |b+1,h,hz=>by
  rcases Nat.lt_or_ge b a with hlt|hge
  ·obtain rfl:a=b+1:=by omega
   rfl
  ·simp only [sumTo]
   rw [sumTo_tail hge (fun i h1 h2=>hz i h1 (by omega)),hz b hge (by omega)];rfl
theorem sumTo_mono (g:Nat→Nat) {a:Nat} : ∀ {b:Nat},a≤b→sumTo g a≤sumTo g b
 |0,h=>by
  obtain rfl:a=0:=by omega
  exact Nat.le_refl _
 |b+1,h=>by
  rcases Nat.lt_or_ge b a with hlt|hge
  ·obtain rfl:a=b+1:=by omega
   exact Nat.le_refl _
  ·have:=sumTo_mono g hge
   simp only [sumTo];omega
theorem foldS_sum {α:Type} (g:α→Nat): ∀ (l:List α) (i b:Nat),foldS (γ:=Unit) (fun _ c b=> .inl (b+g c)) l i b= .inl (b+ (l.map g).sum)
 | [],i,b=>rfl
 |a::r,i,b=>by simp only [foldS,foldS_sum g r,List.map_cons,List.sum_cons,Nat.add_assoc]
def C119 (p:Prg) (m:CMap) (tb n:Nat):Prop:= ∀ (u:Mt) (cs:List D) (σ:St),u.wf p→u.at σ (.agg cs)→IsT σ tb p m→CI (.fn 119) [.ptr tb 0, .agg cs, .int .i64 n] σ=some (.ret (.int .i64 (u.ty.cnt p n)),σ)
set_option maxHeartbeats 4000000 in
theorem c166 (p:Prg) (m:CMap) (hfew:p.few) (tb K:Nat) (hK:K≤6) (h119: ∀j,j≤K→C119 p m tb j) (ps:List Bs) (ms:List Mt) (wi:Nat): ∀ (args:List Ty),args.length≤4→(∀t ∈ args,(Mt.mk t ps ms).wf p)→ ∀ (M:Nat),M≤K→ ∀ (σ:St),withAt σ ps ms (.ptr wi 0)→IsT σ tb p m→
 CI (.fn 166) [.ptr tb 0, .slice (args.map Ty.d), .ptr wi 0, .int .i64 M] σ=some (.ret (.int .i64 (togT (Ty.cnt p) (args.map (Ty.rep ps (mtsTy ms))) M)),σ)
 | [],_,_,M,hM,σ,hw,hT=>by
  have hτ:bodyI CI XB GI af166 [.ptr tb 0, .slice [], .ptr wi 0, .int .i64 M] σ=some (.ret (.int .i64 (togT (Ty.cnt p) [] M)),σ):=by
   simp only [togT]
   by_cases h0:M=0
   ·subst h0;simp [bodyI,af166]
   ·have h1: ((M:Int) ==0)=false:=by rw [beq_eq_false_iff_ne];omega
    simp [bodyI,af166,h0,h1]
  exact CI_tree0 tab166 hτ rfl rfl
 |t::rest,hl,hwf,M,hM,σ,hw,hT=>by
  have ih:=fun M hM=>c166 p m hfew tb K hK h119 ps ms wi rest (by simp at hl;omega) (fun t ht=>hwf t (List.mem_cons_of_mem _ ht)) M hM σ hw hT
  have hwt:=hwf t List.mem_cons_self
  have hat: (Mt.mk t ps ms).at σ (.agg (t.cs++[.ptr wi 0])):=Mt.at_iff.2 ⟨_,rfl,hw⟩
  have hcnt:=fun j (hj:j≤K)=>h119 j hj _ _ _ hwt hat hT
  have hbound:=tog_le hfew ((t::rest).map (Ty.rep ps (mtsTy ms))) (by simpa using hl) M (by omega)
  simp only [List.map_cons,togT] at hbound ⊢
  have e0: (Mt.mk t ps ms).ty=t.rep ps (mtsTy ms):=by simp only [Mt.ty]
  rw [e0] at hcnt
  have hfew2: ∀i,M - rest.length≤i→i<M→(t.rep ps (mtsTy ms)).cnt p (i+1) *togT (Ty.cnt p) (rest.map (Ty.rep ps (mtsTy ms))) (M - (i+1))=0:=fun i h1 h2=>by
   rw [togT_few _ _ (by rw [List.length_map];omega),Nat.mul_zero]
  have hsum:=sumTo_tail (by omega) hfew2
  have hmono:=fun j (hj:j≤M - rest.length)=>sumTo_mono (fun i=>(t.rep ps (mtsTy ms)).cnt p (i+1) *togT (Ty.cnt p) (rest.map (Ty.rep ps (mtsTy ms))) (M - (i+1))) hj
  rw [hsum] at hbound ⊢
  obtain ⟨k1,m1,s1,a1,b1,t1,hc⟩: ∃k1 m1 s1 a1 b1 t1,t.cs=[.int .i64 k1, .int .i64 m1, .str s1, .slice a1, .slice b1, .int .i64 t1]:=by
   rcases t with ⟨k,n,s,l,ls,tail⟩;exact ⟨_,_,_,_,_,_,by simp only [Ty.cs];rfl⟩
  have hr6: (rest.map Ty.d).all (fun e=>e.cells.length==6)=true:=by
   rw [List.all_eq_true];intro e he
   obtain ⟨x,_,rfl⟩:=List.mem_map.1 he
   simp [Ty.d,D.cells,x.cs_len]
  simp only [D.cells] at hr6
  have hrl: (rest.map Ty.d).length=rest.length:=List.length_map _
  have htd:t.d= .agg t.cs:=rfl
  rw [htd]
  rw [hc] at hcnt ⊢
  simp only [List.cons_append,List.nil_append] at hcnt
  generalize hgd: (fun i=>(t.rep ps (mtsTy ms)).cnt p (i+1) *togT (Ty.cnt p) (rest.map (Ty.rep ps (mtsTy ms))) (M - (i+1)))=g at*
  have hgi: ∀j,g j=(t.rep ps (mtsTy ms)).cnt p (j+1) *togT (Ty.cnt p) (rest.map (Ty.rep ps (mtsTy ms))) (M - (j+1)):=fun j=>by rw [←hgd]
  clear hgd hsum hfew2
  have hit: ∀ (k j:Nat),j+k=M - rest.length→iterI (evalI CI XB GI 49 false lp166_0) [(0, .ptr tb 0),(1, .slice (.agg [.int .i64 k1, .int .i64 m1, .str s1, .slice a1, .slice b1, .int .i64 t1]::rest.map Ty.d)),(2, .ptr wi 0),(3, .int .i64 M),(9, .int .i64 (sumTo g j:Nat)),(10, .int .i64 ((j:Int) +1))] σ=
   some (.exit 0,[(0, .ptr tb 0),(1, .slice (.agg [.int .i64 k1, .int .i64 m1, .str s1, .slice a1, .slice b1, .int .i64 t1]::rest.map Ty.d)),(2, .ptr wi 0),(3, .int .i64 M),(9, .int .i64 (sumTo g (M - rest.length):Nat)),(10, .int .i64 (((M - rest.length:Nat):Int) +1)),(23, .bool false)],σ):=by
   intro k
   induction k with
   |zero=>
    intro j hj
    obtain rfl:j=M - rest.length:=by omega
    refine iterI_end ?_ (by simp)
    have w1:IntKind.i64.wrap (((M - rest.length:Nat):Int) +1+ ((rest.length:Int) +1))=((M - rest.length:Nat):Int) +1+ ((rest.length:Int) +1):=wrap_i64 (by omega) (by simp at hl;omega)
    have w2:IntKind.i64.wrap (((M - rest.length:Nat):Int) +1+ ((rest.length:Int) +1) - 1)=((M - rest.length:Nat):Int) +1+ (rest.length:Int):=by rw [wrap_i64 (by omega) (by simp at hl;omega)];omega
    have w3: ¬(((M - rest.length:Nat):Int) +1+ (rest.length:Int)≤(M:Int)):=by omega
    generalize rest.map Ty.d=rd at*
    simp [lp166_0,hrl,w1,w2,w3]
   |succ k ihk=>
    intro j hj
    have hjM:j+1+rest.length≤M:=by omega
    rw [←ihk (j+1) (by omega)]
    refine iterI_next ?_
    have w1:IntKind.i64.wrap ((j:Int) +1+ ((rest.length:Int) +1))=(j:Int) +1+ ((rest.length:Int) +1):=wrap_i64 (by omega) (by simp at hl;omega)
    have w2:IntKind.i64.wrap ((j:Int) +1+ ((rest.length:Int) +1) - 1)=(j:Int) +1+ (rest.length:Int):=by rw [wrap_i64 (by omega) (by simp at hl;omega)];omega
    have w3: (j:Int) +1+ (rest.length:Int)≤(M:Int):=by omega
    have w4:IntKind.i64.wrap ((j:Int) +1+1)=(j:Int) +1+1:=wrap_i64 (by omega) (by omega)
    have w5:IntKind.i64.wrap ((M:Int) - ((j:Int) +1))=((M - (j+1):Nat):Int):=by rw [wrap_i64 (by omega) (by omega)];omega
    have hc1:=hcnt (j+1) (by omega)
    have ih1:=ih (M - (j+1)) (by omega)
    have hle:=hmono (j+1) (by omega)
    have hg:=hgi j
    have e1: ((j+1:Nat):Int)=(j:Int) +1:=by omega
    rw [e1] at hc1 ⊢
    have hsj:sumTo g (j+1)=sumTo g j+g j:=rfl
    have q119:qI 119=false:=rfl
    generalize rest.map Ty.d=rd at*
    generalize (t.rep ps (mtsTy ms)).cnt p (j+1)=f at*
    generalize togT (Ty.cnt p) (rest.map (Ty.rep ps (mtsTy ms))) (M - (j+1))=c at*
    rw [hsj,hg] at hle ⊢
    generalize sumTo g j=S at*
    have hfc:f*c≤27262976:=by omega
    have hcast: ((f*c:Nat):Int)=(f:Int) * (c:Int):=by simp
    have w6:IntKind.i64.wrap ((f:Int) * (c:Int))=(f:Int) * (c:Int):=by rw [←hcast];exact wrap_i64 (by omega) (by omega)
    have w7:IntKind.i64.wrap ((S:Int) + (f:Int) * (c:Int))=(S:Int) + (f:Int) * (c:Int):=by rw [←hcast];exact wrap_i64 (by omega) (by omega)
    by_cases hf:f=0
    ·subst hf
     simp [lp166_0,hrl,w1,w2,w3,w4,hc1,fillD,putCells]
    ·have hf2:0<f:=by omega
     have hr1: (1:Int)≤(rest.length:Int) +1:=by omega
     have htk:rd.take rest.length=rd:=List.take_of_length_le (by omega)
     simp [lp166_0,hrl,w1,w2,w3,w4,w5,w6,w7,hc1,ih1,hf,hf2,hr1,htk,hr6,bound,fillD,putCells, -List.all_eq_true]
  have hit0:=hit (M - rest.length) 0 (by omega)
  have hτ:bodyI CI XB GI af166 [.ptr tb 0, .slice (.agg [.int .i64 k1, .int .i64 m1, .str s1, .slice a1, .slice b1, .int .i64 t1]::rest.map Ty.d), .ptr wi 0, .int .i64 M] σ=some (.ret (.int .i64 (sumTo g (M - rest.length):Nat)),σ):=by
   simp only [sumTo,Int.natCast_zero,Int.zero_add] at hit0
   have w3: (((rest.length:Int) +1) ==0)=false:=by rw [beq_eq_false_iff_ne];omega
   generalize rest.map Ty.d=rd at*
   simp [bodyI,af166,hrl,w3,hit0]
  exact CI_tree0 tab166 hτ rfl rfl
theorem sum_take_le {α:Type} (g:α→Nat) (l:List α) (i:Nat): ((l.take i).map g).sum≤(l.map g).sum:=by
 conv=>rhs;rw [←List.take_append_drop i l]
 rw [List.map_append,List.sum_append];omega
theorem sum_take_succ {α:Type} (g:α→Nat) (l:List α) (i:Nat) (h:i<l.length): ((l.take (i+1)).map g).sum=((l.take i).map g).sum+g l[i]:=by
 rw [List.take_succ_eq_append_getElem h,List.map_append,List.sum_append];simp
set_option maxHeartbeats 4000000 in
theorem it119 (p:Prg) (m:CMap) (hfew:p.few) (tb n:Nat) (hn:n<7) (h119: ∀j,j≤n→C119 p m tb j) (ps:List Bs) (ms:List Mt) (wi:Nat) (cons:List Con) (hc8:cons.length≤8) (hwf: ∀c ∈ cons,c.args.length≤4∧ ∀t ∈ c.args,(Mt.mk t ps ms).wf p)
 (hB: (cons.map fun c=>togT (Ty.cnt p) (c.args.map (Ty.rep ps (mtsTy ms))) n).sum≤27262976) (σ:St) (hw:withAt σ ps ms (.ptr wi 0)) (hT:IsT σ tb p m) (τ:St):
 ∃τ',iterI (evalI CI XB GI 51 false lp119_0) [(0, .ptr tb 0),(2, .int .i64 ((n:Int) +1)),(8, .ptr wi 0),(9, .int .i64 (0:Nat)),(34, .slice (cons.map Con.d)),(35, .int .i64 cons.length),(36, .int .i64 (0:Nat))] (σ++τ)=
  some (.exit 1,[(0, .ptr tb 0),(2, .int .i64 ((n:Int) +1)),(8, .ptr wi 0),(9, .int .i64 ((cons.map fun c=>togT (Ty.cnt p) (c.args.map (Ty.rep ps (mtsTy ms))) n).sum:Nat)),(34, .slice (cons.map Con.d)),(35, .int .i64 cons.length),(36, .int .i64 cons.length),(37, .bool false)],σ++τ'):=by
 obtain ⟨cd,hcd,hcl,hcg⟩:=opq Con.d cons
 rw [hcd]
 obtain ⟨τ',hit⟩:=loop_foldS (γ:=Unit) (f:=evalI CI XB GI 51 false lp119_0) cons (fun i (b:Nat)=>[(0, .ptr tb 0),(2, .int .i64 ((n:Int) +1)),(8, .ptr wi 0),(9, .int .i64 b),(34, .slice cd),(35, .int .i64 cons.length),(36, .int .i64 (i:Nat))])
  (fun _=>σ) (fun i b=>b=((cons.take i).map fun c=>togT (Ty.cnt p) (c.args.map (Ty.rep ps (mtsTy ms))) n).sum) (fun _ c b=> .inl (b+togT (Ty.cnt p) (c.args.map (Ty.rep ps (mtsTy ms))) n)) (fun _=>(.ret,[])) (fun _=>[])
  (fun b=>(.exit 1,[(0, .ptr tb 0),(2, .int .i64 ((n:Int) +1)),(8, .ptr wi 0),(9, .int .i64 b),(34, .slice cd),(35, .int .i64 cons.length),(36, .int .i64 cons.length),(37, .bool false)])) (by simp) (by simp)
  (fun i hi b b' hb hs=>by
    cases hs
    rw [sum_take_succ _ _ _ hi,hb])
  (fun i hi b τ hb=>by
    have hwr:=wrap_nat (n:=i) (by omega)
    obtain ⟨g2,g3⟩:=hcg i hi
    have hii: (i:Int) <cons.length:=by omega
    obtain ⟨h4,hwf4⟩:=hwf _ (List.getElem_mem hi)
    have hle:=sum_take_le (fun c:Con=>togT (Ty.cnt p) (c.args.map (Ty.rep ps (mtsTy ms))) n) cons (i+1)
    rw [sum_take_succ _ _ _ hi,←hb] at hle
    refine ⟨τ++[.box cons[i].cs], ?_⟩
    have h166:=c166 p m hfew tb n (by omega) h119 ps ms wi cons[i].args h4 hwf4 n (Nat.le_refl _) (σ++τ++[.box cons[i].cs]) hw.app.app hT.app.app
    rw [←List.append_assoc]
    have hc2:cons[i].cs=[.str cons[i].name, .slice (cons[i].args.map Ty.d)]:=by unfold Con.cs;rw [tysD_map]
    have hdd:cons[i].d= .agg [.str cons[i].name, .slice (cons[i].args.map Ty.d)]:=by rw [←hc2];rfl
    rw [hdd] at g3
    rw [hc2] at h166 ⊢
    generalize cons[i].args.map Ty.d=ad at*
    generalize togT (Ty.cnt p) (cons[i].args.map (Ty.rep ps (mtsTy ms))) n=v at*
    generalize σ++τ=σ1 at*
    have w1:IntKind.i64.wrap ((n:Int) +1 - 1)=(n:Int):=by rw [wrap_i64 (by omega) (by omega)];omega
    have w1':IntKind.i64.wrap (n:Int)=(n:Int):=wrap_i64 (by omega) (by omega)
    have w2:IntKind.i64.wrap ((b:Int) + (v:Int))=(b:Int) + (v:Int):=wrap_i64 (by omega) (by omega)
    simp [lp119_0,hi,hii,hwr,hcl,g2,g3,getA0,getA,setA0,setA,h166,w1,w1',w2,putCells])
  (fun b τ hb=>⟨τ,by simp [lp119_0,hcl]⟩) 0 τ (by simp)
 rw [foldS_sum,Nat.zero_add] at hit
 exact ⟨τ',hit⟩
set_option maxHeartbeats 4000000 in
theorem c119 (p:Prg) (m:CMap) (hdl:p.data.length≤12) (hls: ∀d ∈ p.data,d.fit p) (hfew:p.few) (tb:Nat): ∀ (n:Nat),n≤7→C119 p m tb n:=by
 intro n
 induction n using Nat.strongRecOn with
 |ind n IH=>
 intro hn u cs σ hwf hat hT
 obtain ⟨cs',hat',h124⟩:=c124 p u hwf σ cs hat
 obtain ⟨nwf,nk⟩:=u.now_wf hwf
 have hty:=u.now_ty hwf
 obtain ⟨_,hxx,c1,c3⟩:=Mt.at_agg hat
 cases hxx
 have c2:cs.take 7=cs:=List.take_of_length_le (by omega)
 have c4:cs.drop 7=[]:=List.drop_of_length_le (by omega)
 suffices h: ∃τ,bodyI CI XB GI af119 [.ptr tb 0, .agg cs, .int .i64 n] σ=some (.ret (.int .i64 (u.ty.cnt p n)),σ++τ) by
  obtain ⟨τ,h⟩:=h
  exact CI_tree tab119 h rfl rfl
 rw [←hty]
 generalize u.now=u' at*
 rcases u' with ⟨⟨tk,tn,ts,L,tls,ttl⟩,ps,ml⟩
 simp only at nk
 obtain ⟨w,hc,hw⟩:=Mt.at_iff.1 hat'
 cases hc
 have hnc: (Ty.mk tk tn ts L tls ttl).cs++[w]=[.int .i64 tk, .int .i64 tn, .str ts, .slice (tysD L), .slice (tls.map Lab.d), .int .i64 ttl,w]:=by simp only [Ty.cs];rfl
 have h124:=fun τ=>h124 (σ++τ) τ rfl
 have hwf2:w= .nilptr∨ ∃a,w= .ptr a 0:=hw.elim (fun h=> .inl h.1) fun ⟨a,_,_,h,_⟩=> .inr ⟨a,h⟩
 simp only [Mt.ty,Ty.rep_np _ _ nk]
 obtain ⟨nsm,nord,npl,nm4,nml⟩:=nwf
 by_cases t6:tk=6
 rotate_left
 ·rw [cnt_base p t6]
  have n6: (tk != 6)=true:=by simpa using t6
  rw [hnc] at h124
  refine ⟨[.box [.int .i64 tk, .int .i64 tn, .str ts, .slice (tysD L), .slice (tls.map Lab.d), .int .i64 ttl,w]], ?_⟩
  by_cases n1:n=1
  ·subst n1
   by_cases t4:tk=4
   ·subst t4
    rcases hwf2 with rfl| ⟨wa,rfl⟩<;>simp [bodyI,af119,getA0,getA,setA0,setA,c1,c2,c3,c4,h124,putCells]
   ·have b4: (tk==4)=false:=by simpa using t4
    rcases hwf2 with rfl| ⟨wa,rfl⟩<;>simp [bodyI,af119,getA0,getA,setA0,setA,c1,c2,c3,c4,h124,putCells,n6,t4,b4]
  ·have b1: ((n:Int) != 1)=true:=by simp;omega
   rcases hwf2 with rfl| ⟨wa,rfl⟩<;>simp [bodyI,af119,getA0,getA,setA0,setA,c1,c2,c3,c4,h124,putCells,n6,n1,b1]
 subst t6
 rcases n with _|n
 ·rw [hnc] at h124
  refine ⟨[.box [.int .i64 6, .int .i64 tn, .str ts, .slice (tysD L), .slice (tls.map Lab.d), .int .i64 ttl,w]], ?_⟩
  rw [cnt_zero]
  rcases hwf2 with rfl| ⟨wa,rfl⟩<;>simp [bodyI,af119,getA0,getA,setA0,setA,c1,c2,c3,c4,h124,putCells]
 obtain ⟨nod,nop⟩:=ord_parts nord
 obtain ⟨i,hix,_,hi,hlen⟩:=ord_data nod
 have hdo:=datOf_idx hix hi
 rw [cnt_data p hdo]
 have hin1:=inner_wf npl nm4 nml L (fun y hy=>⟨tysSmall_mem nsm.2.2.2 hy,nop y hy⟩)
 obtain ⟨τ,h125,hwith⟩:=c125 p m hdl 6 tn ts L tls ttl ps ml nsm.1 (fun y hy=>mtsWf_mem hin1 (List.mem_map_of_mem (f:=fun t=>Mt.mk t ps ml) hy)) _ tb i hi hix (σ++[.box ((Ty.mk 6 tn ts L tls ttl).cs++[w])]) hT.app (Mt.at_app _ _ hat')
 have hl2: (σ++[Obj.box ((Ty.mk 6 tn ts L tls ttl).cs++[w])]).length=σ.length+1:=by simp
 rw [hl2] at h125 hwith
 have hdf:=hls _ (List.getElem_mem hi)
 have hfd:=hfew _ (List.getElem_mem hi)
 have hnowT:mtsTy ((inner ps ml L).map Mt.now)=L.map (Ty.rep ps (mtsTy ml)):=by
  rw [←inner_ty,mtsTy_map,mtsTy_map,List.map_map]
  exact List.map_congr_left fun y hy=>y.now_ty (mtsWf_mem hin1 hy)
 have hnowW:mtsWf p ((inner ps ml L).map Mt.now):=by
  have: ∀ (l:List Mt),mtsWf p l→mtsWf p (l.map Mt.now):=fun l=>by
   induction l with
   |nil=>exact fun _=>trivial
   |cons a r ih=>exact fun h=>⟨(a.now_wf h.1).1,ih h.2⟩
  exact this _ hin1
 have hB:=Nat.le_trans (cnt_le hfew (.mk 6 tn ts (L.map (Ty.rep ps (mtsTy ml))) tls ttl) (n+1) hn) (cB_le _ hn)
 rw [cnt_data p hdo] at hB
 obtain ⟨τ',hit⟩:=it119 p m hfew tb n (by omega) (fun j hj=>IH j (by omega) (by omega)) p.data[i].params ((inner ps ml L).map Mt.now) (σ.length+1+2) p.data[i].cons hfd.1
  (fun c hc=>⟨(hfd.2 c hc),fun t ht=>mtsWf_mem (inner_wf (p:=p) (ps:=p.data[i].params) (ml:=(inner ps ml L).map Mt.now) (by rw [List.length_map,inner_len];exact hlen) (by rw [List.length_map,inner_len];exact nsm.1) hnowW c.args (hdf.2.2 c hc).2) (List.mem_map_of_mem (f:=fun t=>Mt.mk t p.data[i].params ((inner ps ml L).map Mt.now)) ht)⟩)
  (by rw [hnowT];exact hB) _ hwith hT.app.app []
 rw [hnowT,List.append_nil,Int.natCast_zero] at hit
 refine ⟨[.box ((Ty.mk 6 tn ts L tls ttl).cs++[w])]++τ++τ', ?_⟩
 rw [←List.append_assoc,←List.append_assoc]
 generalize (p.data[i].cons.map fun c=>togT (Ty.cnt p) (c.args.map (Ty.rep p.data[i].params (L.map (Ty.rep ps (mtsTy ml))))) n).sum=v at*
 have hcl: (p.data[i].cons.map Con.d).length=p.data[i].cons.length:=List.length_map _
 clear IH hwith hat hat' hwf hT
 generalize hσ3:σ++[Obj.box ((Ty.mk 6 tn ts L tls ttl).cs++[w])]++τ=σ3 at*
 rw [hnc] at h124 h125
 clear hσ3
 generalize p.data[i].cons.map Con.d=cd at*
 have w1: ¬((n:Int) +1<1):=by omega
 rcases hwf2 with rfl| ⟨wa,rfl⟩<;>simp [bodyI,af119,getA0,getA,setA0,setA,c1,c2,c3,c4,h124,h125,putCells,hcl,hit,w1]
mutual
def Ty.ff (p:Prg) (A:Nat→Prop):Ty→Prop
 | .mk k _ s l _ _=>k≠5∧(k=6→A (datIx p s))∧tysFf p A l
def tysFf (p:Prg) (A:Nat→Prop):List Ty→Prop
 | []=>True
 |t::r=>t.ff p A∧tysFf p A r
end
theorem tysFf_iff {p:Prg} {A:Nat→Prop} : ∀ {l:List Ty},tysFf p A l↔ ∀t ∈ l,t.ff p A
 | []=>by simp [tysFf]
 |t::r=>by simp [tysFf,tysFf_iff (l:=r)]
mutual
theorem Ty.ff_mono {p:Prg} {A B:Nat→Prop} (h: ∀i,A i→B i): ∀ (t:Ty),t.ff p A→t.ff p B
 | .mk k _ s l _ _,hf=>by
  simp only [Ty.ff] at hf ⊢
  exact ⟨hf.1,fun h6=>h _ (hf.2.1 h6),tysFf_mono h l hf.2.2⟩
theorem tysFf_mono {p:Prg} {A B:Nat→Prop} (h: ∀i,A i→B i): ∀ (l:List Ty),tysFf p A l→tysFf p B l
 | [],_=>trivial
 |t::r,hf=>⟨t.ff_mono h hf.1,tysFf_mono h r hf.2⟩
end
def Dat.ff (p:Prg) (A:Nat→Prop) (d:Dat):Prop:= ∀c ∈ d.cons,∀a ∈ c.args,a.ff p A
def closedA (p:Prg) (A:Nat→Prop):Prop:= ∀i (hi:i<p.data.length),A i→p.data[i].ff p A
def noFun (p:Prg) (t:Ty):Prop:= ∃A,closedA p A∧t.ff p A
def setB (S:Nat→Bool) (i:Nat):Nat→Bool:=fun j=>S j||j==i
def unseen (S:Nat→Bool):Nat:=(List.range 12).countP fun j=> !S j
def incl (S S':Nat→Bool):Prop:= ∀i,S i=true→S' i=true
def newA (p:Prg) (S S':Nat→Bool):Prop:= ∀i (hi:i<p.data.length),S' i=true→S i=false→p.data[i].ff p (fun j=>S' j=true)
theorem countP_le {α:Type} {P Q:α→Bool} : ∀ (l:List α),(∀a ∈ l,P a=true→Q a=true)→l.countP P≤l.countP Q:=fun l h=>List.countP_mono_left h
theorem unseen_le {S S':Nat→Bool} (h:incl S S'):unseen S'≤unseen S:=countP_le _ fun a _ ha=>by
 cases hs:S a with
 |false=>rfl
 |true=>rw [h a hs] at ha;cases ha
theorem countP_lt {S:Nat→Bool} {i:Nat} (hs:S i=false): ∀ (l:List Nat),i ∈ l→(l.countP fun j=> !setB S i j) +1≤l.countP fun j=> !S j
 |a::r,hm=>by
  have hle: (r.countP fun j=> !setB S i j)≤r.countP fun j=> !S j:=countP_le _ fun a _ ha=>by
   unfold setB at ha
   cases hs:S a with
   |false=>rfl
   |true=>rw [hs] at ha;cases ha
  simp only [List.countP_cons]
  by_cases hai:a=i
  ·subst hai
   have h1:setB S a a=true:=by unfold setB;simp
   simp only [h1,hs]
   simp;exact hle
  ·have hm':i ∈ r:=by
    cases hm with
    |head=>exact absurd rfl hai
    |tail _ h=>exact h
   have:=countP_lt hs r hm'
   have h1:setB S i a=S a:=by unfold setB;simp [hai]
   rw [h1]
   omega
theorem unseen_lt {S:Nat→Bool} {i:Nat} (hs:S i=false) (hi:i<12):unseen (setB S i) +1≤unseen S:=countP_lt hs _ (List.mem_range.2 hi)
theorem incl_set (S:Nat→Bool) (i:Nat):incl S (setB S i):=fun j h=>by unfold setB;rw [h];rfl
theorem incl.trans {S S' S'':Nat→Bool} (h:incl S S') (h':incl S' S''):incl S S'':=fun i hi=>h' i (h i hi)
theorem newA.trans {p:Prg} {S S' S'':Nat→Bool} (h:newA p S S') (h':newA p S' S'') (hi2:incl S' S''):newA p S S'':=fun i hi h2 h0=>by
 cases hs:S' i with
 |false=>exact h' i hi h2 hs
 |true=>exact fun c hc a ha=>Ty.ff_mono (fun j hj=>hi2 j hj) a (h i hi hs h0 c hc a ha)
theorem newA_self (p:Prg) (S:Nat→Bool):newA p S S:=fun i _ h1 h2=>by rw [h1] at h2;cases h2
def postF (p:Prg) (S:Nat→Bool) (good: (Nat→Prop)→Prop) (r:Bool) (S':Nat→Bool):Prop:=
 incl S S'∧(r=false→good (fun j=>S' j=true)∧newA p S S')∧(r=true→ ∀A,closedA p A→ ¬good A)
def seenC (S:Nat→Bool):List D:=(List.range 12).map fun j=> .int .i64 (if S j then 1 else 0)
theorem seenC_len (S:Nat→Bool): (seenC S).length=12:=by simp [seenC]
theorem seenC_get (S:Nat→Bool) (i:Nat) (hi:i<12): (seenC S)[i]? =some (.int .i64 (if S i then 1 else 0)):=by
 unfold seenC
 rw [List.getElem?_map,List.getElem?_range hi];rfl
theorem seenC_set (S:Nat→Bool) (i:Nat): (seenC S).set i (.int .i64 1)=seenC (setB S i):=by
 refine List.ext_getElem? fun j=> ?_
 rw [List.getElem?_set]
 by_cases hj:j<12
 ·rw [seenC_get _ j hj,seenC_get _ j hj]
  by_cases h:i=j
  ·subst h
   simp [seenC_len,hj,setB]
  ·have h1:setB S i j=S j:=by unfold setB;simp;exact fun h'=>absurd h'.symm h
   rw [if_neg h,h1]
 ·have h1: ∀S,(seenC S)[j]? =none:=fun S=>List.getElem?_eq_none (by rw [seenC_len];omega)
  rw [h1,h1]
  split
  ·rw [if_neg (by rw [seenC_len];omega)]
  ·rfl
abbrev stS (σ:St) (q:Nat) (S:Nat→Bool):St:=σ.set q (.box (seenC S))
theorem loop_ff {α:Type} {f:Env→St→Option (AExit × Env × St)} (p:Prg) (l:List α) (good:α→(Nat→Prop)→Prop) (gm: ∀a ∈ l,∀A B:Nat→Prop,(∀i,A i→B i)→good a A→good a B) (σ:St) (q:Nat) (E:Nat→Env) (Y:AExit × Env) (hY:Y.1≠ .normal) (N:Nat)
 (h: ∀j (hj:j<l.length) (S:Nat→Bool) (τ:St),unseen S≤N→ ∃r S' τ',f (E j) (stS σ q S++τ)=some (if r then (.ret,[(6, .bool true)],stS σ q S'++τ') else (.normal,E (j+1),stS σ q S'++τ'))∧postF p S (good l[j]) r S')
 (hf: ∀S τ,f (E l.length) (stS σ q S++τ)=some (Y.1,Y.2,stS σ q S++τ)):
 ∀ (k j:Nat),j+k=l.length→ ∀ (S:Nat→Bool) (τ:St),unseen S≤N→ ∃r S' τ',iterI f (E j) (stS σ q S++τ)=some (if r then (.ret,[(6, .bool true)],stS σ q S'++τ') else (Y.1,Y.2,stS σ q S'++τ'))∧postF p S (fun A=> ∀a ∈ l.drop j,good a A) r S'
 |0,j,hj,S,τ,hS=>by
  obtain rfl:j=l.length:=by omega
  refine ⟨false,S,τ,iterI_end (hf S τ) hY,fun _ h=>h,fun _=>⟨?_,newA_self p S⟩,fun h=>by cases h⟩
  rw [List.drop_length]
  intro a ha;cases ha
 |k+1,j,hj,S,τ,hS=>by
  have hlt:j<l.length:=by omega
  obtain ⟨r,S1,τ1,h1,a1,a2,a3⟩:=h j hlt S τ hS
  rw [List.drop_eq_getElem_cons hlt]
  cases r with
  |true=>
   refine ⟨true,S1,τ1,iterI_end h1 (by simp),a1,fun h=>(by cases h),fun _ A hA hg=>a3 rfl A hA (hg _ List.mem_cons_self)⟩
  |false=>
   obtain ⟨r,S',τ',h2,b1,b2,b3⟩:=loop_ff p l good gm σ q E Y hY N h hf k (j+1) (by omega) S1 τ1 (Nat.le_trans (unseen_le a1) hS)
   simp only [Bool.false_eq_true,if_false] at h1
   refine ⟨r,S',τ',by rw [iterI_next h1];exact h2,a1.trans b1,fun hr=> ?_,fun hr A hA hg=>b3 hr A hA fun a ha=>hg a (List.mem_cons_of_mem _ ha)⟩
   obtain ⟨c1,c2⟩:=a2 rfl
   obtain ⟨d1,d2⟩:=b2 hr
   refine ⟨fun a ha=> ?_,c2.trans d2 b1⟩
   cases ha with
   |head=>exact gm _ (List.getElem_mem hlt) _ _ (fun i hi=>b1 i hi) c1
   |tail _ ha=>exact d1 a ha
theorem IsT.setS {σ:St} {tb:Nat} {p:Prg} {m:CMap} {q:Nat} {S:Nat→Bool} {o:Obj} (h:IsT σ tb p m) (hq:σ[q]? =some (.box (seenC S))):IsT (σ.set q o) tb p m:=by
 obtain ⟨j,h1,h2⟩:=h
 have n1:q≠tb:=by
  rintro rfl
  rw [hq] at h1
  have:=congrArg List.length (Obj.box.inj (Option.some.inj h1))
  rw [seenC_len,List.length_append,p.cs_len] at this
  simp at this
 have n2:q≠j:=by
  rintro rfl
  rw [hq] at h2;cases h2
 exact ⟨j,by rw [List.getElem?_set_ne n1];exact h1,by rw [List.getElem?_set_ne n2];exact h2⟩
def C118 (p:Prg) (m:CMap) (tb q N:Nat) (t:Ty):Prop:= ∀ (S:Nat→Bool),unseen S≤N→ ∀ (σ:St),IsT σ tb p m→σ[q]? =some (.box (seenC S))→
 ∃r S',CI (.fn 118) [.ptr tb 0, .agg t.cs, .ptr q 0] σ=some (.ret (.bool r),stS σ q S')∧postF p S (fun A=>t.ff p A) r S'
theorem stS_get {σ:St} {q:Nat} {S:Nat→Bool} {τ:St} (hq:q<σ.length): (stS σ q S++τ)[q]? =some (.box (seenC S)):=getSs hq
theorem stS_set {σ:St} {q:Nat} {S S':Nat→Bool} {τ:St} (hq:q<σ.length):stS (stS σ q S++τ) q S'=stS σ q S'++τ:=setSs hq
theorem rd_ff (p:Prg) (m:CMap) (tb q N:Nat) (t:Ty) (ht:C118 p m tb q N t) (σ:St) (hq:q<σ.length) (hT: ∀S τ,IsT (stS σ q S++τ) tb p m) (S:Nat→Bool) (τ:St) (hS:unseen S≤N):
 ∃r S',CI (.fn 118) [.ptr tb 0, .agg t.cs, .ptr q 0] (stS σ q S++τ)=some (.ret (.bool r),stS σ q S'++τ)∧postF p S (fun A=>t.ff p A) r S':=by
 obtain ⟨r,S',h1,h2⟩:=ht S hS (stS σ q S++τ) (hT S τ) (stS_get hq)
 rw [stS_set hq] at h1
 exact ⟨r,S',h1,h2⟩
set_option maxHeartbeats 2000000 in
theorem it118_0 (p:Prg) (m:CMap) (tb q N:Nat) (l:List Ty) (hl:l.length≤4) (d4:D) (hh: ∀t ∈ l,C118 p m tb q N t) (σ:St) (hq:q<σ.length) (hT: ∀S τ,IsT (stS σ q S++τ) tb p m) (S:Nat→Bool) (τ:St) (hS:unseen S≤N):
 ∃r S' τ',iterI (evalI CI XB GI 73 false lp118_0) [(0, .ptr tb 0),(2, .ptr q 0),(4,d4),(18, .slice (l.map Ty.d)),(19, .int .i64 l.length),(20, .int .i64 (0:Nat))] (stS σ q S++τ)=
  some (if r then (.ret,[(6, .bool true)],stS σ q S'++τ') else (.exit 0,[(0, .ptr tb 0),(2, .ptr q 0),(4,d4),(18, .slice (l.map Ty.d)),(19, .int .i64 l.length),(20, .int .i64 l.length),(21, .bool false)],stS σ q S'++τ'))∧postF p S (fun A=> ∀t ∈ l,t.ff p A) r S':=by
 obtain ⟨ld,hld,hll,hlg⟩:=opq Ty.d l
 rw [hld]
 exact loop_ff (f:=evalI CI XB GI 73 false lp118_0) p l (fun t A=>t.ff p A) (fun a _ A B h=>a.ff_mono h) σ q (fun j=>[(0, .ptr tb 0),(2, .ptr q 0),(4,d4),(18, .slice ld),(19, .int .i64 l.length),(20, .int .i64 (j:Nat))])
  (.exit 0,[(0, .ptr tb 0),(2, .ptr q 0),(4,d4),(18, .slice ld),(19, .int .i64 l.length),(20, .int .i64 l.length),(21, .bool false)]) (by simp) N
  (fun j hj S τ hS=>by
    obtain ⟨r,S',h1,h2⟩:=rd_ff p m tb q N l[j] (hh _ (List.getElem_mem hj)) σ hq hT S (τ++[.box l[j].cs]) hS
    refine ⟨r,S',τ++[.box l[j].cs], ?_,h2⟩
    simp only [←List.append_assoc] at h1 ⊢
    have hw:=wrap_nat (n:=j) (by omega)
    obtain ⟨g2,g3⟩:=hlg j hj
    have hjj: (j:Int) <l.length:=by omega
    have y1:=l[j].cs_len
    have y2:=l[j].cs_take
    have y3:l[j].cs.all D.one=true:=by cases l[j];rfl
    unfold Ty.d at g3
    clear h2 hh hT hS
    generalize l[j].cs=xc at*
    generalize stS σ q S++τ=σ1 at*
    generalize stS σ q S'++τ=σ2 at*
    cases r<;>simp [lp118_0,hj,hjj,hw,hll,g2,g3,y1,y2,y3,getA0,getA,setA0,setA,h1,putCells])
  (fun S τ=>by simp [lp118_0,hll]) l.length 0 (by omega) S τ hS
set_option maxHeartbeats 2000000 in
theorem it118_1 (p:Prg) (m:CMap) (tb q N:Nat) (l:List Ty) (hl:l.length≤4) (d54 d55 d56:D) (hh: ∀t ∈ l,C118 p m tb q N t) (σ:St) (hq:q<σ.length) (hT: ∀S τ,IsT (stS σ q S++τ) tb p m) (S:Nat→Bool) (τ:St) (hS:unseen S≤N):
 ∃r S' τ',iterI (evalI CI XB GI 73 false lp118_1) [(0, .ptr tb 0),(2, .ptr q 0),(54,d54),(55,d55),(56,d56),(61, .slice (l.map Ty.d)),(62, .int .i64 l.length),(63, .int .i64 (0:Nat))] (stS σ q S++τ)=
  some (if r then (.ret,[(6, .bool true)],stS σ q S'++τ') else (.exit 4,[(0, .ptr tb 0),(2, .ptr q 0),(54,d54),(55,d55),(56,d56),(61, .slice (l.map Ty.d)),(62, .int .i64 l.length),(63, .int .i64 l.length),(64, .bool false)],stS σ q S'++τ'))∧postF p S (fun A=> ∀t ∈ l,t.ff p A) r S':=by
 obtain ⟨ld,hld,hll,hlg⟩:=opq Ty.d l
 rw [hld]
 exact loop_ff (f:=evalI CI XB GI 73 false lp118_1) p l (fun t A=>t.ff p A) (fun a _ A B h=>a.ff_mono h) σ q (fun j=>[(0, .ptr tb 0),(2, .ptr q 0),(54,d54),(55,d55),(56,d56),(61, .slice ld),(62, .int .i64 l.length),(63, .int .i64 (j:Nat))])
  (.exit 4,[(0, .ptr tb 0),(2, .ptr q 0),(54,d54),(55,d55),(56,d56),(61, .slice ld),(62, .int .i64 l.length),(63, .int .i64 l.length),(64, .bool false)]) (by simp) N
  (fun j hj S τ hS=>by
    obtain ⟨r,S',h1,h2⟩:=rd_ff p m tb q N l[j] (hh _ (List.getElem_mem hj)) σ hq hT S (τ++[.box l[j].cs]) hS
    refine ⟨r,S',τ++[.box l[j].cs], ?_,h2⟩
    simp only [←List.append_assoc] at h1 ⊢
    have hw:=wrap_nat (n:=j) (by omega)
    obtain ⟨g2,g3⟩:=hlg j hj
    have hjj: (j:Int) <l.length:=by omega
    have y1:=l[j].cs_len
    have y2:=l[j].cs_take
    have y3:l[j].cs.all D.one=true:=by cases l[j];rfl
    unfold Ty.d at g3
    clear h2 hh hT hS
    generalize l[j].cs=xc at*
    generalize stS σ q S++τ=σ1 at*
    generalize stS σ q S'++τ=σ2 at*
    cases r<;>simp [lp118_1,hj,hjj,hw,hll,g2,g3,y1,y2,y3,getA0,getA,setA0,setA,h1,putCells])
  (fun S τ=>by simp [lp118_1,hll]) l.length 0 (by omega) S τ hS
set_option maxHeartbeats 2000000 in
theorem it118_2 (p:Prg) (m:CMap) (tb q N:Nat) (l:List Con) (hl:l.length≤100) (hh: ∀c ∈ l,c.args.length≤4∧ ∀t ∈ c.args,C118 p m tb q N t) (σ:St) (hq:q<σ.length) (hT: ∀S τ,IsT (stS σ q S++τ) tb p m) (S:Nat→Bool) (τ:St) (hS:unseen S≤N):
 ∃r S' τ',iterI (evalI CI XB GI 73 false lp118_2) [(0, .ptr tb 0),(2, .ptr q 0),(54, .slice (l.map Con.d)),(55, .int .i64 l.length),(56, .int .i64 (0:Nat))] (stS σ q S++τ)=
  some (if r then (.ret,[(6, .bool true)],stS σ q S'++τ') else (.exit 2,[(0, .ptr tb 0),(2, .ptr q 0),(54, .slice (l.map Con.d)),(55, .int .i64 l.length),(56, .int .i64 l.length),(57, .bool false)],stS σ q S'++τ'))∧postF p S (fun A=> ∀c ∈ l,∀t ∈ c.args,t.ff p A) r S':=by
 obtain ⟨ld,hld,hll,hlg⟩:=opq Con.d l
 rw [hld]
 exact loop_ff (f:=evalI CI XB GI 73 false lp118_2) p l (fun c A=> ∀t ∈ c.args,t.ff p A) (fun a _ A B h hg t ht=>t.ff_mono h (hg t ht)) σ q (fun j=>[(0, .ptr tb 0),(2, .ptr q 0),(54, .slice ld),(55, .int .i64 l.length),(56, .int .i64 (j:Nat))])
  (.exit 2,[(0, .ptr tb 0),(2, .ptr q 0),(54, .slice ld),(55, .int .i64 l.length),(56, .int .i64 l.length),(57, .bool false)]) (by simp) N
  (fun j hj S τ hS=>by
    obtain ⟨h4,hh⟩:=hh _ (List.getElem_mem hj)
    obtain ⟨r,S',τ',h1,h2⟩:=it118_1 p m tb q N l[j].args h4 (.slice ld) (.int .i64 l.length) (.int .i64 (j:Nat)) hh σ hq hT S (τ++[.box l[j].cs]) hS
    refine ⟨r,S',τ', ?_,h2⟩
    have hc2:l[j].cs=[.str l[j].name, .slice (l[j].args.map Ty.d)]:=by unfold Con.cs;rw [tysD_map]
    have hdd:l[j].d= .agg [.str l[j].name, .slice (l[j].args.map Ty.d)]:=by rw [←hc2];rfl
    rw [←List.append_assoc,hc2,Int.natCast_zero] at h1
    have hw:=wrap_nat (n:=j) (by omega)
    obtain ⟨g2,g3⟩:=hlg j hj
    have hjj: (j:Int) <l.length:=by omega
    rw [hdd] at g3
    have hal: (l[j].args.map Ty.d).length=l[j].args.length:=List.length_map _
    clear h2 hh hT hS
    generalize l[j].args.map Ty.d=ad at*
    generalize stS σ q S++τ=σ1 at*
    generalize stS σ q S'++τ'=σ2 at*
    cases r<;>simp [lp118_2,hj,hjj,hw,hll,g2,g3,hal,getA0,getA,setA0,setA,h1,putCells])
  (fun S τ=>by simp [lp118_2,hll]) l.length 0 (by omega) S τ hS
theorem stS_self {σ:St} {q:Nat} {S:Nat→Bool} (hq:σ[q]? =some (.box (seenC S))):stS σ q S=σ:=by
 obtain ⟨h1,h2⟩:=List.getElem?_eq_some_iff.1 hq
 unfold stS
 rw [←h2];exact List.set_getElem_self h1
set_option maxHeartbeats 4000000 in
theorem c118_step (p:Prg) (m:CMap) (hdl:p.data.length≤12) (hls: ∀d ∈ p.data,d.fit p) (tb q N:Nat) (hN: ∀N',N'<N→ ∀ (t:Ty) (params:List Bs),t.small→t.ord p params=0→C118 p m tb q N' t):
 ∀ (t:Ty) (params:List Bs),t.small→t.ord p params=0→C118 p m tb q N t
 | .mk k n s l ls tail,params,hsm,hord=>fun S hS σ hT hq=>by
  have ih:=fun y (hy:y ∈ l)=>c118_step p m hdl hls tb q N hN y params (tysSmall_mem hsm.2.2.2 hy) ((ord_parts hord).2 y hy)
  have hql:=lt_of_get hq
  have hcs: (Ty.mk k n s l ls tail).cs=[.int .i64 k, .int .i64 n, .str s, .slice (l.map Ty.d), .slice (ls.map Lab.d), .int .i64 tail]:=by simp only [Ty.cs,tysD_map]
  have hTS: ∀S τ,IsT (stS σ q S++τ) tb p m:=fun S τ=>(hT.setS hq).app
  have hsl: ∀S:Nat→Bool,(stS σ q S).length=σ.length:=fun S=>by simp
  have hfin: ∀ (r:Bool) (S':Nat→Bool) (τ:St),bodyI CI XB GI af118 [.ptr tb 0, .agg (Ty.mk k n s l ls tail).cs, .ptr q 0] σ=some (.ret (.bool r),stS σ q S'++τ)→CI (.fn 118) [.ptr tb 0, .agg (Ty.mk k n s l ls tail).cs, .ptr q 0] σ=some (.ret (.bool r),stS σ q S'):=fun r S' τ h=>by
   refine CI_fn tab118 h ?_
   rw [postI_set (by
    simp only [Obj.under]
    refine treeL_under _ ?_
    have: ∀l:List Nat,treeL (l.map fun j=>D.int .i64 (if S' j then 1 else 0))=true:=fun l=>by
     induction l with
     |nil=>rfl
     |cons a r ih=>simp only [List.map_cons,treeL,D.tree,ih,Bool.and_self]
    exact this _) rfl rfl]
   simp [D.weak]
  rw [hcs] at hfin ⊢
  by_cases k5:k=5
  ·subst k5
   refine ⟨true,S,hfin true S [.box [.int .i64 5, .int .i64 n, .str s, .slice (l.map Ty.d), .slice (ls.map Lab.d), .int .i64 tail]] ?_,fun _ h=>h,fun h=>(by cases h),fun _ A _ hg=> ?_⟩
   ·rw [stS_self hq]
    simp [bodyI,af118,getA0,getA]
   ·simp only [Ty.ff] at hg;exact hg.1 rfl
  have b5: (k==5)=false:=by simpa using k5
  have hb0: ∀S τ,stS (σ++[.box [.int .i64 k, .int .i64 n, .str s, .slice (l.map Ty.d), .slice (ls.map Lab.d), .int .i64 tail]]) q S++τ=stS σ q S++([.box [.int .i64 k, .int .i64 n, .str s, .slice (l.map Ty.d), .slice (ls.map Lab.d), .int .i64 tail]]++τ):=fun S τ=>by
   unfold stS;rw [setO hql,List.append_assoc]
  have hTS0: ∀S τ,IsT (stS (σ++[.box [.int .i64 k, .int .i64 n, .str s, .slice (l.map Ty.d), .slice (ls.map Lab.d), .int .i64 tail]]) q S++τ) tb p m:=fun S τ=>by rw [hb0];exact hTS _ _
  have hq0:q< (σ++[Obj.box [.int .i64 k, .int .i64 n, .str s, .slice (l.map Ty.d), .slice (ls.map Lab.d), .int .i64 tail]]).length:=by simp;omega
  obtain ⟨r,S1,τ1,hit,hp1,hp2,hp3⟩:=it118_0 p m tb q N l hsm.1 (.ptr σ.length 0) ih _ hq0 hTS0 S [] hS
  rw [List.append_nil,show stS (σ++[.box [.int .i64 k, .int .i64 n, .str s, .slice (l.map Ty.d), .slice (ls.map Lab.d), .int .i64 tail]]) q S=σ++[.box [.int .i64 k, .int .i64 n, .str s, .slice (l.map Ty.d), .slice (ls.map Lab.d), .int .i64 tail]] by
   have:=hb0 S [];rw [List.append_nil,List.append_nil,stS_self hq] at this;exact this,Int.natCast_zero,hb0] at hit
  have hll: (l.map Ty.d).length=l.length:=List.length_map _
  have hx1: ∀S τ,(stS σ q S++([.box [.int .i64 k, .int .i64 n, .str s, .slice (l.map Ty.d), .slice (ls.map Lab.d), .int .i64 tail]]++τ))[σ.length]? =some (.box [.int .i64 k, .int .i64 n, .str s, .slice (l.map Ty.d), .slice (ls.map Lab.d), .int .i64 tail]):=fun S τ=>by rw [←hsl S];exact getA0
  cases r with
  |true=>
   refine ⟨true,S1,hfin true S1 ([.box [.int .i64 k, .int .i64 n, .str s, .slice (l.map Ty.d), .slice (ls.map Lab.d), .int .i64 tail]]++τ1) ?_,hp1,fun h=>(by cases h),fun _ A hA hg=>hp3 rfl A hA ?_⟩
   ·clear hTS hfin hTS0 hb0 hx1
    generalize stS σ q S1++_=σ1 at*
    generalize l.map Ty.d=ld at*
    simp [bodyI,af118,getA0,getA,b5,hll,hit]
   ·simp only [Ty.ff] at hg;exact tysFf_iff.1 hg.2.2
  |false=>
  simp only [Bool.false_eq_true,if_false] at hit
  obtain ⟨g1,g2⟩:=hp2 rfl
  by_cases k6:k=6
  rotate_left
  ·have n6: (k != 6)=true:=by simpa using k6
   refine ⟨false,S1,hfin false S1 ([.box [.int .i64 k, .int .i64 n, .str s, .slice (l.map Ty.d), .slice (ls.map Lab.d), .int .i64 tail]]++τ1) ?_,hp1,fun _=>⟨?_,g2⟩,fun h=>(by cases h)⟩
   ·have hx1:=hx1 S1 τ1
    clear hTS hfin hTS0 hb0
    generalize stS σ q S1++_=σ1 at*
    generalize l.map Ty.d=ld at*
    simp [bodyI,af118,getA0,getA,b5,hll,hit,hx1,n6]
   ·simp only [Ty.ff];exact ⟨k5,fun h=>absurd h k6,tysFf_iff.2 g1⟩
  subst k6
  obtain ⟨nod,nop⟩:=ord_parts hord
  obtain ⟨i,hix,hdx,hi,hlen⟩:=ord_data nod
  have h117:=fun σ hT=>c117 p m (by unfold maxL;omega) s tb σ hT
  rw [hix] at h117
  have hTa:=hTS S1 ([.box [.int .i64 6, .int .i64 n, .str s, .slice (l.map Ty.d), .slice (ls.map Lab.d), .int .i64 tail]]++τ1)
  have h117:=h117 _ hTa
  have hqa: (stS σ q S1++([.box [.int .i64 6, .int .i64 n, .str s, .slice (l.map Ty.d), .slice (ls.map Lab.d), .int .i64 tail]]++τ1))[q]? =some (.box (seenC S1)):=getSs hql
  have hseen:=seenC_get S1 i (by omega)
  have hsl12:=seenC_len S1
  have hi12: (i:Int) <12:=by omega
  have hi0: (0:Int)≤i:=by omega
  have hhd: (List.drop i (seenC S1)).head?=some (.int .i64 (if S1 i then 1 else 0)):=by rw [List.head?_drop];exact hseen
  have hx1:=hx1 S1 τ1
  cases hs:S1 i with
  |true=>
   rw [hs] at hseen hhd
   refine ⟨false,S1,hfin false S1 ([.box [.int .i64 6, .int .i64 n, .str s, .slice (l.map Ty.d), .slice (ls.map Lab.d), .int .i64 tail]]++τ1) ?_,hp1,fun _=>⟨?_,g2⟩,fun h=>(by cases h)⟩
   ·clear hTS hfin hTS0 hb0 hTa
    generalize stS σ q S1++_=σ1 at*
    generalize l.map Ty.d=ld at*
    generalize seenC S1=sc at*
    simp [bodyI,af118,getA0,getA,hll,hit,hx1,h117,hqa,hi12,hi0,hseen,hhd,hsl12]
   ·simp only [Ty.ff];exact ⟨by decide,fun _=>by rw [hdx];exact hs,tysFf_iff.2 g1⟩
  |false=>
   rw [hs] at hseen hhd
   have hu:=unseen_lt hs (by omega)
   have hu1:=unseen_le hp1
   have hdf:=hls _ (List.getElem_mem hi)
   obtain ⟨r,S2,τ2,hit2,hq1,hq2,hq3⟩:=it118_2 p m tb q (unseen (setB S1 i)) p.data[i].cons hdf.2.1 (fun c hc=>⟨(hdf.2.2 c hc).1,fun t ht=>hN _ (by omega) t _ ((hdf.2.2 c hc).2 t ht).1 ((hdf.2.2 c hc).2 t ht).2⟩) σ hql hTS (setB S1 i) ([.box [.int .i64 6, .int .i64 n, .str s, .slice (l.map Ty.d), .slice (ls.map Lab.d), .int .i64 tail]]++τ1) (Nat.le_refl _)
   rw [Int.natCast_zero] at hit2
   have hset: (stS σ q S1++([Obj.box [.int .i64 6, .int .i64 n, .str s, .slice (l.map Ty.d), .slice (ls.map Lab.d), .int .i64 tail]]++τ1)).set q (.box (List.take i (seenC S1)++ .int .i64 1::List.drop (i+1) (seenC S1)))=stS σ q (setB S1 i)++([.box [.int .i64 6, .int .i64 n, .str s, .slice (l.map Ty.d), .slice (ls.map Lab.d), .int .i64 tail]]++τ1):=by
    have e:List.take i (seenC S1)++ .int .i64 1::List.drop (i+1) (seenC S1)=(seenC S1).set i (.int .i64 1):=by
     rw [List.set_eq_take_append_cons_drop,if_pos (by omega)]
    rw [e,seenC_set];exact stS_set hql
   have hi12':i+1≤12:=by omega
   have hTb:=hTS (setB S1 i) ([.box [.int .i64 6, .int .i64 n, .str s, .slice (l.map Ty.d), .slice (ls.map Lab.d), .int .i64 tail]]++τ1)
   obtain ⟨j,hT1,_⟩:=hTb
   obtain ⟨ld,hld,hll2,hlg⟩:=opq Dat.d p.data
   obtain ⟨f2,f3⟩:=hlg i hi
   have hii: (i:Int) <p.data.length:=by omega
   have hhd2: (p.cs++[D.map j]).head?=some (.slice ld):=by rw [p.cs_eq,←hld];rfl
   have hdd:p.data[i].d= .agg [.str p.data[i].name,slD p.data[i].params, .slice (p.data[i].cons.map Con.d)]:=rfl
   rw [hdd] at f3
   have hcl: (p.data[i].cons.map Con.d).length=p.data[i].cons.length:=List.length_map _
   have hbody:bodyI CI XB GI af118 [.ptr tb 0, .agg [.int .i64 6, .int .i64 n, .str s, .slice (l.map Ty.d), .slice (ls.map Lab.d), .int .i64 tail], .ptr q 0] σ=some (.ret (.bool r),stS σ q S2++τ2):=by
    clear hTS hfin hTS0 hb0 hTa hq1 hq2 hq3
    generalize stS σ q (setB S1 i)++_=σ2 at*
    generalize stS σ q S1++_=σ1 at*
    generalize stS σ q S2++τ2=σ3 at*
    generalize l.map Ty.d=td at*
    generalize p.data[i].cons.map Con.d=cd at*
    generalize seenC S1=sc at*
    generalize p.cs++[D.map j]=pc at*
    cases r<;>simp [bodyI,af118,getA0,getA,hll,hit,hx1,h117,hqa,hi12,hi0,hseen,hhd,hsl12,hi12',hset,hT1,hhd2,hll2,hi,hii,f2,f3,hcl,hit2]
   refine ⟨r,S2,hfin r S2 τ2 hbody,hp1.trans ((incl_set S1 i).trans hq1),fun hr=> ?_,fun hr A hA hg=> ?_⟩
   ·obtain ⟨c1,c2⟩:=hq2 hr
    have hmono:=fun (j:Nat) (h:S1 j=true)=>hq1 j (incl_set S1 i j h)
    refine ⟨?_,fun j hj h2 h0=> ?_⟩
    ·simp only [Ty.ff]
     refine ⟨by decide,fun _=>by rw [hdx];exact hq1 i (by unfold setB;simp),tysFf_iff.2 fun t ht=>t.ff_mono (fun j h=>hmono j h) (g1 t ht)⟩
    ·cases hs1:S1 j with
     |true=>exact fun c hc a ha=>a.ff_mono (fun j h=>hmono j h) (g2 j hj hs1 h0 c hc a ha)
     |false=>
      by_cases hji:j=i
      ·subst hji;exact c1
      ·exact c2 j hj h2 (by unfold setB;rw [hs1];simp [hji])
   ·simp only [Ty.ff] at hg
    have hAi:A i:=by rw [←hdx];exact hg.2.1 trivial
    exact hq3 hr A hA (hA i hi hAi)
theorem c118 (p:Prg) (m:CMap) (hdl:p.data.length≤12) (hls: ∀d ∈ p.data,d.fit p) (tb q:Nat): ∀ (N:Nat) (t:Ty) (params:List Bs),t.small→t.ord p params=0→C118 p m tb q N t:=by
 intro N
 induction N using Nat.strongRecOn with
 |ind N IH=>exact c118_step p m hdl hls tb q N IH
open Classical in
noncomputable def Prg.hasF (p:Prg) (t:Ty):Bool:= !decide (noFun p t)
theorem c118_top (p:Prg) (m:CMap) (hdl:p.data.length≤12) (hls: ∀d ∈ p.data,d.fit p) (tb q:Nat) (t:Ty) (hsm:t.small) (ho:t.ord p []=0) (σ:St) (hT:IsT σ tb p m) (hq:σ[q]? =some (.box (seenC fun _=>false))):
 ∃S',CI (.fn 118) [.ptr tb 0, .agg t.cs, .ptr q 0] σ=some (.ret (.bool (p.hasF t)),stS σ q S'):=by
 obtain ⟨r,S',h1,_,h2,h3⟩:=c118 p m hdl hls tb q _ t [] hsm ho (fun _=>false) (Nat.le_refl _) σ hT hq
 refine ⟨S', ?_⟩
 have:p.hasF t=r:=by
  unfold Prg.hasF
  cases r with
  |true=>
   have: ¬noFun p t:=fun ⟨A,hA,hg⟩=>h3 rfl A hA hg
   simp [this]
  |false=>
   obtain ⟨g1,g2⟩:=h2 rfl
   have:noFun p t:=⟨fun j=>S' j=true,fun i hi hA=>g2 i hi hA rfl,g1⟩
   simp [this]
 rw [this];exact h1
end Go.AI
namespace Go.AI
open Go Go.Proofs Go.Lx
set_option maxRecDepth 100000
theorem log128b:Nat.log2 128=7:=by decide
noncomputable def Prg.cntE (p:Prg) (t:Ty) (n:Int):Int:=orE (p.tyE t) (if n<0∨7<n then 1 else if p.hasF t then 8 else 0)
def Prg.tot (p:Prg) (t:Ty) (n:Nat):Nat:=sumTo (t.cnt p) (n+1)
theorem cntE_zero {p:Prg} {t:Ty} {n:Int} (h:p.cntE t n=0):p.tyE t=0∧0≤n∧n≤7∧p.hasF t=false:=by
 obtain ⟨h1,h2⟩:=orE_zero.1 h
 split at h2
 ·cases h2
 ·split at h2
  ·cases h2
  ·rename_i h3 h4
   exact ⟨h1,by omega,by omega,by simpa using h4⟩
theorem decls_few {p:Prg} (h:p.decls=0):p.few:=by
 obtain ⟨hs,_⟩:=orE_zero.1 h
 obtain ⟨_,_,_,hs3,_⟩:=Prg.syn_data hs
 intro d hd
 obtain ⟨_,a2,_⟩:=datE_cons (hs3 d hd)
 exact ⟨a2,fun c hc=>(decls_con h hd hc).2.1⟩
theorem sumTo_bound {g:Nat→Nat} {b:Nat} : ∀ (m:Nat),(∀i,i<m→g i≤b)→sumTo g m≤m*b
 |0,_=>by simp [sumTo]
 |m+1,h=>by
  have h1:=sumTo_bound m fun i hi=>h i (by omega)
  have h2:=h m (by omega)
  simp only [sumTo,Nat.succ_mul];omega
theorem tot_le {p:Prg} (h:p.few) (t:Ty) (n:Nat) (hn:n≤7):p.tot t n≤218103808:=by
 obtain ⟨b,hb⟩: ∃b,b=27262976:=⟨_,rfl⟩
 have h1:=sumTo_bound (g:=t.cnt p) (b:=b) (n+1) fun i hi=>hb ▸ Nat.le_trans (cnt_le h t i (by omega)) (cB_le i (by omega))
 have h2: (n+1) *b≤8*b:=Nat.mul_le_mul_right _ (by omega)
 unfold Prg.tot;omega
theorem seen0:seenC (fun _=>false)=[.int .i64 0, .int .i64 0, .int .i64 0, .int .i64 0, .int .i64 0, .int .i64 0, .int .i64 0, .int .i64 0, .int .i64 0, .int .i64 0, .int .i64 0, .int .i64 0]:=rfl
theorem top_wf {p:Prg} {t:Ty} (h:p.tyE t=0): (Mt.mk t [] []).wf p:=by
 obtain ⟨_,z2,_,z4⟩:=tyE_zero h
 exact ⟨Ty.small_chk z2,z4,rfl,by simp,trivial⟩
theorem top_at (t:Ty) (σ:St): (Mt.mk t [] []).at σ (.agg (t.cs++[.nilptr])):=Mt.at_iff.2 ⟨_,rfl, .inl ⟨rfl,rfl,rfl⟩⟩
theorem top_ty (t:Ty): (Mt.mk t [] []).ty=t:=by simp only [Mt.ty,mtsTy,Ty.rep_nil]
set_option maxHeartbeats 4000000 in
theorem c69 (p:Prg) (hok:p.ok) (t:Ty) (ht:t.ok) (n:Int) (σ:St):
 (p.cntE t n=0→ ∃i τ,CI (.fn 69) [.agg p.cs, .agg t.cs, .int .i64 n] σ=some (.ret (.ptr (σ.length+i) 0),σ++τ)∧IsT (σ++τ) (σ.length+i) p p.cm)∧
 (p.cntE t n≠0→CI (.fn 69) [.agg p.cs, .agg t.cs, .int .i64 n] σ=some (.panic (refD (p.cntE t n)),σ)):=by
 have hall:=p.cs_all
 have hpl:=p.cs_len
 have hpt:=p.cs_take
 have y1:=t.cs_len
 have y2:=t.cs_take
 have y3:t.cs.all D.one=true:=by cases t;rfl
 have hl2: (σ++[Obj.box p.cs, .box t.cs]).length=σ.length+2:=by simp
 obtain ⟨τ1,h55⟩:=c55 p hok.dl hok.d (σ++[.box p.cs, .box t.cs])
 have hT:=lookS_T p (σ++[Obj.box p.cs, .box t.cs]) τ1
 have h65:=c65 p p.cm hok t ht _ _ hT
 have e1:lookS p (σ++[Obj.box p.cs, .box t.cs]) p.cm++τ1=σ++([.box p.cs, .box t.cs]++([.box p.cs, .map (kvs p.cm), .box (p.cs++[.map (σ.length+2+1)])]++τ1)):=by
  unfold lookS;simp
 have hb: ∀τ,(lookS p (σ++[Obj.box p.cs, .box t.cs]) p.cm++τ1++τ)[σ.length+1]? =some (.box t.cs):=fun τ=>by rw [e1,List.append_assoc];exact getA
 have h58:=fun e σ=>c58 e σ
 rw [hl2] at h55 h65 hT
 unfold Prg.cntE orE
 by_cases he:p.tyE t=0
 ·rw [if_pos he]
  rw [he,outR_zero] at h65
  obtain ⟨z1,z2,_,z4⟩:=tyE_zero he
  obtain ⟨hdl,hls⟩:=decls_fit z1
  obtain ⟨S',h118⟩:=c118_top p p.cm hdl hls (σ.length+2+2) (lookS p (σ++[Obj.box p.cs, .box t.cs]) p.cm++τ1).length t (Ty.small_chk z2) z4 (lookS p (σ++[Obj.box p.cs, .box t.cs]) p.cm++τ1++[.box (seenC fun _=>false)]) hT.app (by rw [getA0];rfl)
  have hst:stS (lookS p (σ++[Obj.box p.cs, .box t.cs]) p.cm++τ1++[.box (seenC fun _=>false)]) (lookS p (σ++[Obj.box p.cs, .box t.cs]) p.cm++τ1).length S'=lookS p (σ++[Obj.box p.cs, .box t.cs]) p.cm++τ1++[.box (seenC S')]:=by
   unfold stS;rw [setA0];rfl
  rw [hst,seen0] at h118
  have hTS:IsT (lookS p (σ++[Obj.box p.cs, .box t.cs]) p.cm++τ1++[.box (seenC S')]) (σ.length+2+2) p p.cm:=hT.app
  by_cases hn:n<0∨7<n
  ·rw [if_pos hn]
   refine ⟨fun h=>(by cases h),fun _=> ?_⟩
   refine CI_panic tab69 (τ:=([.box p.cs, .box t.cs]++([.box p.cs, .map (kvs p.cm), .box (p.cs++[.map (σ.length+2+1)])]++τ1))) ?_ rfl
   rw [←e1]
   have hb0:=hb []
   rw [List.append_nil] at hb0
   clear h118 hst hTS hT e1 hb
   generalize lookS p (σ++[Obj.box p.cs, .box t.cs]) p.cm++τ1=σ2 at*
   generalize p.cs=pc at*
   generalize t.cs=tc at*
   by_cases h0:n<0
   ·simp [bodyI,af69,getA0,getA,hall,hpl,hpt,y1,y2,y3,h55,h65,hb0,h0,h58,refD]
   ·have h7:7<n:=by omega
    simp [bodyI,af69,getA0,getA,hall,hpl,hpt,y1,y2,y3,h55,h65,hb0,h0,h7,h58,refD]
  ·rw [if_neg hn]
   have h0: ¬n<0:=by omega
   have h7: ¬7<n:=by omega
   cases hf:p.hasF t with
   |true=>
    rw [hf] at h118
    simp only [if_true]
    refine ⟨fun h=>(by cases h),fun _=> ?_⟩
    refine CI_panic tab69 (τ:=([.box p.cs, .box t.cs]++([.box p.cs, .map (kvs p.cm), .box (p.cs++[.map (σ.length+2+1)])]++τ1))++[.box (seenC S')]) ?_ rfl
    rw [←List.append_assoc,←e1]
    have hb0:=hb []
    rw [List.append_nil] at hb0
    clear hst hTS hT e1 hb
    generalize lookS p (σ++[Obj.box p.cs, .box t.cs]) p.cm++τ1=σ2 at*
    generalize p.cs=pc at*
    generalize t.cs=tc at*
    generalize seenC S'=sc at*
    simp [bodyI,af69,getA0,getA,hall,hpl,hpt,y1,y2,y3,h55,h65,hb0,h0,h7,h58,h118,fillD,refD]
   |false=>
    rw [hf] at h118
    refine ⟨fun _=>⟨2+2,([.box p.cs, .box t.cs]++([.box p.cs, .map (kvs p.cm), .box (p.cs++[.map (σ.length+2+1)])]++τ1))++[.box (seenC S')], ?_, ?_⟩,fun h=>absurd rfl h⟩
    rotate_left
    ·rw [←List.append_assoc,←e1,←Nat.add_assoc];exact hTS
    refine CI_new tab69 ?_ rfl
    rw [←List.append_assoc,←e1]
    have hb0:=hb []
    rw [List.append_nil] at hb0
    clear hst hTS hT e1 hb
    generalize lookS p (σ++[Obj.box p.cs, .box t.cs]) p.cm++τ1=σ2 at*
    generalize p.cs=pc at*
    generalize t.cs=tc at*
    generalize seenC S'=sc at*
    simp [bodyI,af69,getA0,getA,hall,hpl,hpt,y1,y2,y3,h55,h65,hb0,h0,h7,h58,h118,fillD]
 ·rw [if_neg he]
  refine ⟨fun h=>absurd h he,fun _=> ?_⟩
  rw [outR_ne he] at h65
  refine CI_panic tab69 (τ:=([.box p.cs, .box t.cs]++([.box p.cs, .map (kvs p.cm), .box (p.cs++[.map (σ.length+2+1)])]++τ1))) ?_ rfl
  rw [←e1]
  have hb0:=hb []
  rw [List.append_nil] at hb0
  clear hT e1 hb
  generalize lookS p (σ++[Obj.box p.cs, .box t.cs]) p.cm++τ1=σ2 at*
  generalize p.tyE t=e at*
  generalize p.cs=pc at*
  generalize t.cs=tc at*
  simp [bodyI,af69,getA0,getA,hall,hpl,hpt,y1,y2,y3,h55,h65,hb0]
set_option maxHeartbeats 2000000 in
theorem it70 (p:Prg) (m:CMap) (hfew:p.few) (t:Ty) (hty: (Mt.mk t [] []).wf p) (tb n:Nat) (hn:n≤7) (h119: ∀j,j≤n→C119 p m tb j) (b:Nat) (σ:St) (hT:IsT σ tb p m) (hb:σ[b]? =some (.box t.cs)): ∀ (k j:Nat),j+k=n+1→
 iterI (evalI CI XB GI 23 false lp70_0) [(0, .ptr tb 0),(4, .ptr b 0),(7, .int .i64 (sumTo (t.cnt p) j:Nat)),(10, .int .i64 ((n:Int) +1)),(11, .int .i64 (j:Nat))] σ=
  some (.exit 0,[(0, .ptr tb 0),(4, .ptr b 0),(7, .int .i64 (p.tot t n:Nat)),(10, .int .i64 ((n:Int) +1)),(11, .int .i64 ((n:Int) +1)),(12, .bool false)],σ)
 |0,j,hj=>by
  obtain rfl:j=n+1:=by omega
  refine iterI_end ?_ (by simp)
  unfold Prg.tot
  generalize sumTo (t.cnt p) (n+1)=S
  simp [lp70_0]
 |k+1,j,hj=>by
  rw [←it70 p m hfew t hty tb n hn h119 b σ hT hb k (j+1) (by omega)]
  refine iterI_next ?_
  have hc:=h119 j (by omega) _ _ σ hty (top_at t σ) hT
  rw [top_ty] at hc
  have hw:=wrap_nat (n:=j) (by omega)
  have hjj: (j:Int) < (n:Int) +1:=by omega
  have h1:=sumTo_mono (t.cnt p) (show j+1≤n+1 by omega)
  have h2:=tot_le hfew t n hn
  unfold Prg.tot at h2
  have h3:sumTo (t.cnt p) (j+1)=sumTo (t.cnt p) j+t.cnt p j:=rfl
  rw [h3] at h1 ⊢
  have w1:IntKind.i64.wrap ((sumTo (t.cnt p) j:Int) + (t.cnt p j:Int))=(sumTo (t.cnt p) j:Int) + (t.cnt p j:Int):=wrap_i64 (by omega) (by omega)
  obtain ⟨k1,n1,s1,a1,b1,t1,htc⟩: ∃k1 n1 s1 a1 b1 t1,t.cs=[.int .i64 k1, .int .i64 n1, .str s1, .slice a1, .slice b1, .int .i64 t1]:=by
   rcases t with ⟨k,n,s,l,ls,tail⟩;exact ⟨_,_,_,_,_,_,by simp only [Ty.cs];rfl⟩
  rw [htc] at hb hc
  simp only [List.cons_append,List.nil_append] at hc
  generalize t.cnt p j=c at*
  generalize sumTo (t.cnt p) j=S at*
  simp [lp70_0,hjj,hw,hb,hc,w1,fillD,putCells]
theorem c70 (p:Prg) (m:CMap) (hdl:p.data.length≤12) (hls: ∀d ∈ p.data,d.fit p) (hfew:p.few) (t:Ty) (hty: (Mt.mk t [] []).wf p) (tb n:Nat) (hn:n≤7) (σ:St) (hT:IsT σ tb p m):
 CI (.fn 70) [.ptr tb 0, .agg t.cs, .int .i64 n] σ=some (.ret (.int .i64 (p.tot t n)),σ):=by
 have hit:=it70 p m hfew t hty tb n hn (fun j hj=>c119 p m hdl hls hfew tb j (by omega)) σ.length (σ++[.box t.cs]) hT.app (by rw [getA0];rfl) (n+1) 0 (by omega)
 have hall:t.cs.all D.one=true:=by cases t;rfl
 have hw:=wrap_nat (n:=n) (by omega)
 simp only [sumTo,Int.natCast_zero] at hit
 have hτ:bodyI CI XB GI af70 [.ptr tb 0, .agg t.cs, .int .i64 n] σ=some (.ret (.int .i64 (p.tot t n)),σ++[.box t.cs]):=by
  generalize t.cs=tc at*
  generalize p.tot t n=v at*
  simp [bodyI,af70,hall,hw,hit]
 exact CI_tree tab70 hτ rfl rfl
noncomputable def Prg.cntV (p:Prg) (t:Ty) (n:Int):Nat:=if p.cntE t n=0 then p.tot t n.toNat else 0
set_option maxHeartbeats 4000000 in
theorem c68 (p:Prg) (hok:p.ok) (t:Ty) (ht:t.ok) (n:Int) (a b q c:Nat) (σ:St) (ha:σ[a]? =some (.box p.cs)) (hb:σ[b]? =some (.box t.cs)) (hq:σ[q]? =some (.box [.int .i64 n])) (hc:σ[c]? =some (.box [.int .i64 0])):
 CI (.fn 68) [.ptr a 0, .ptr b 0, .ptr q 0, .ptr c 0] σ=some (outR (p.cntE t n),σ.set c (.box [.int .i64 (p.cntV t n)])):=by
 obtain ⟨h69a,h69b⟩:=c69 p hok t ht n σ
 have hpl:=p.cs_len
 have hpt:=p.cs_take
 have y1:=t.cs_len
 have y2:=t.cs_take
 have hcl:=lt_of_get hc
 have e3:eqbL p.cs p.cs=true:=eqbL_tree _ p.plain.1
 have e4:eqbL t.cs t.cs=true:=eqbL_tree _ t.plain.1
 have q69:qI 69=false:=rfl
 have x69:XB 69=false:=rfl
 have q70:qI 70=false:=rfl
 have x70:XB 70=false:=rfl
 unfold Prg.cntV
 by_cases he:p.cntE t n=0
 ·obtain ⟨h1,h2,h3,_⟩:=cntE_zero he
  obtain ⟨z1,_,_,_⟩:=tyE_zero h1
  obtain ⟨hdl,hls⟩:=decls_fit z1
  obtain ⟨i,τ,h69,hT⟩:=h69a he
  obtain ⟨k,rfl⟩: ∃k:Nat,n=k:=⟨n.toNat,by omega⟩
  have h70:=c70 p p.cm hdl hls (decls_few z1) t (top_wf h1) (σ.length+i) k (by omega) (σ++τ) hT
  have hb2: (σ++τ)[b]? =some (.box t.cs):=getO hb
  have hq2: (σ++τ)[q]? =some (.box [.int .i64 k]):=getO hq
  have hc2: (σ++τ)[c]? =some (.box [.int .i64 0]):=getO hc
  rw [he,if_pos rfl,outR_zero,Int.toNat_natCast]
  have hset: ∀o,(σ++τ).set c o=σ.set c o++τ:=fun o=>setO hcl
  have hτ:bodyI CI XB GI af68 [.ptr a 0, .ptr b 0, .ptr q 0, .ptr c 0] σ=some (.ret (.tuple []),σ.set c (.box [.int .i64 (p.tot t k)])++τ):=by
   rw [←hset]
   clear hset hT
   generalize p.tot t k=v at*
   generalize σ++τ=σ2 at*
   generalize p.cs=pc at*
   generalize t.cs=tc at*
   simp [bodyI,af68,ha,hb,hq,hb2,hq2,hc2,hpl,hpt,y1,y2,e3,e4,h69,h70,q69,x69,q70,x70,putCells,log128b,Nat.testBit_eq_decide_div_mod_eq]
  refine CI_fn tab68 hτ ?_
  rw [postI_set (by simp [Obj.under,underL,D.under]) rfl rfl]
  simp [D.weak,weakL]
 ·rw [if_neg he]
  have hid:σ.set c (.box [.int .i64 ((0:Nat):Int)])=σ:=by
   obtain ⟨h1,h2⟩:=List.getElem?_eq_some_iff.1 hc
   rw [Int.natCast_zero,←h2];exact List.set_getElem_self h1
  rw [hid,outR_ne he]
  have h69:=h69b he
  refine CI_panic tab68 (τ:=[]) ?_ rfl
  rw [List.append_nil]
  generalize p.cntE t n=e at*
  generalize p.cs=pc at*
  generalize t.cs=tc at*
  simp [bodyI,af68,ha,hb,hq,hpl,hpt,y1,y2,e3,e4,h69,q69,x69,q70,x70,log128b,Nat.testBit_eq_decide_div_mod_eq]
theorem c22 (p:Prg) (hok:p.ok) (t:Ty) (ht:t.ok) (n:Int) (σ:St):CI (.fn 22) [.agg p.cs, .agg t.cs, .int .i64 n] σ=some (.ret (.tuple [.int .i64 (p.cntV t n), .int .i64 (p.cntE t n)]),σ):=by
 have h68:=c68 p hok t ht n σ.length (σ.length+1) (σ.length+2) (σ.length+3) (σ++[Obj.box p.cs, .box t.cs, .box [.int .i64 n], .box [.int .i64 0]]++[Obj.box [.int .i64 0]]) (by rw [List.append_assoc];exact getA0) (by rw [List.append_assoc];exact getA) (by rw [List.append_assoc];exact getA) (by rw [List.append_assoc];exact getA)
 have hset: ∀o,(σ++[Obj.box p.cs, .box t.cs, .box [.int .i64 n], .box [.int .i64 0]]++[Obj.box [.int .i64 0]]).set (σ.length+3) o=σ++[Obj.box p.cs, .box t.cs, .box [.int .i64 n],o]++[Obj.box [.int .i64 0]]:=fun o=>by
  rw [List.append_assoc,setA,List.append_assoc];rfl
 rw [hset] at h68
 have h54:=c54g 68 [] [.ptr σ.length 0, .ptr (σ.length+1) 0, .ptr (σ.length+2) 0, .ptr (σ.length+3) 0] _ (σ++[Obj.box p.cs, .box t.cs, .box [.int .i64 n], .box [.int .i64 0]]) (σ++[Obj.box p.cs, .box t.cs, .box [.int .i64 n], .box [.int .i64 (p.cntV t n)]]) (by simp) (fun j hj=>by
  by_cases h2:j=σ.length+3
  ·subst h2
   exact .inr ⟨_,by rw [getA];rfl,by simp [Obj.under,underL,D.under]⟩
  ·left
   rcases Nat.lt_or_ge j σ.length with hlt|hge
   ·rw [List.getElem?_append_left hlt,List.getElem?_append_left hlt]
   ·obtain ⟨i,rfl⟩: ∃i,j=σ.length+i:=⟨j - σ.length,by omega⟩
    rw [getA,getA]
    simp at hj
    match i,hj,h2 with
    |0,_,_=>rfl
    |1,_,_=>rfl
    |2,_,_=>rfl
    |3,_,h2=>omega) h68
 have hτ:bodyI CI XB GI af22 [.agg p.cs, .agg t.cs, .int .i64 n] σ=some (.ret (.tuple [.int .i64 (p.cntV t n), .int .i64 (p.cntE t n)]),σ++[.box p.cs, .box t.cs, .box [.int .i64 n], .box [.int .i64 (p.cntV t n)]]):=by
  have h1:=p.cs_all
  have h2:t.cs.all D.one=true:=by cases t;rfl
  have hz:p.cntE t n≠0→p.cntV t n=0:=fun h=>by unfold Prg.cntV;rw [if_neg h]
  generalize p.cntE t n=e at*
  generalize p.cntV t n=v at*
  generalize p.cs=pc at*
  generalize t.cs=tc at*
  by_cases he:e=0
  ·subst he
   simp [bodyI,af22,h1,h2,h54,getA,getA0,setA,putCells]
  ·obtain rfl:=hz he
   have he': (e != 0)=true:=by simpa using he
   simp [bodyI,af22,h1,h2,h54,getA,getA0,setA,putCells,he']
 exact CI_tree tab22 hτ rfl rfl
structure Big (p q:Prg):Prop where
 data: ∃ds,q.data=p.data++ds
 eff: ∃es,q.effects=p.effects++es
theorem idx_app {α:Type} {Q:α→Bool} {l m:List α} (h:0≤idxOf Q l):idxOf Q (l++m)=idxOf Q l:=by
 unfold idxOf at h ⊢
 cases hf:l.findIdx? Q with
 |none=>rw [hf] at h;simp only at h;omega
 |some i=>rw [List.findIdx?_append,hf];rfl
theorem Big.find {p q:Prg} (h:Big p q) {Q:Dat→Bool} {d:Dat} (hf:p.data.find? Q=some d):q.data.find? Q=some d:=by
 obtain ⟨ds,hd⟩:=h.data
 rw [hd,List.find?_append,hf];rfl
theorem Big.get {p q:Prg} (h:Big p q) {i:Nat} (hi:i<p.data.length):q.data[i]? =some p.data[i]:=by
 obtain ⟨ds,hd⟩:=h.data
 rw [hd,List.getElem?_append_left hi,List.getElem?_eq_getElem hi]
theorem Big.effE {p q:Prg} (h:Big p q) {s:Bs} (hf:findEffE p.effects s=0):findEffE q.effects s=0:=by
 obtain ⟨es,he⟩:=h.eff
 unfold findEffE at hf ⊢
 split at hf
 ·rename_i h0
  rw [he,idx_app h0,if_pos h0]
 ·split at hf
  ·rename_i h1
   rw [if_pos h1];split<;>rfl
  ·cases hf
theorem Big.effI {p q:Prg} (h:Big p q) (hq:q.decls=0) {s:Bs} (hf:findEffE p.effects s=0):findEffI q.effects s=findEffI p.effects s∧opNames q (findEffI p.effects s)=opNames p (findEffI p.effects s):=by
 obtain ⟨es,he⟩:=h.eff
 unfold findEffE at hf
 split at hf
 ·rename_i h0
  have h1:findEffI p.effects s=idxOf (fun x:Eff=>x.name==s) p.effects:=by unfold findEffI;rw [if_pos h0]
  refine ⟨?_, ?_⟩
  ·rw [h1];unfold findEffI;rw [he,idx_app h0,if_pos h0]
  ·rw [h1]
   rcases idxOf_find (fun x:Eff=>x.name==s) p.effects with ⟨hn,_⟩ | ⟨j,hj,hjl,_⟩
   ·omega
   ·rw [hj]
    unfold opNames
    rw [if_neg (by omega),if_neg (by omega),he]
    have e0: ((j:Int)).toNat=j:=by omega
    rw [e0,List.getElem?_append_left hjl]
 ·rename_i h0
  split at hf
  ·rename_i h1
   have hn: ¬0≤idxOf (fun x:Eff=>x.name==s) q.effects:=by
    have hen:=(Prg.inOrder hq).en
    intro h2
    rcases idxOf_find (fun x:Eff=>x.name==s) q.effects with ⟨hn,_⟩ | ⟨j,_,hjl,hfj,_⟩
    ·omega
    ·have h3:=List.find?_some hfj
     simp only [beq_iff_eq] at h1 h3
     rw [List.cons_append,List.nil_append,List.nodup_cons] at hen
     exact hen.1 (by rw [←h1,←h3];exact List.mem_map_of_mem (List.getElem_mem hjl))
   refine ⟨?_, ?_⟩
   ·unfold findEffI;rw [if_neg h0,if_neg hn]
   ·unfold findEffI;rw [if_neg h0,if_pos h1];rfl
  ·cases hf
theorem Big.ordN {p q:Prg} (h:Big p q) {ps:List Bs} {k:Int} {s:Bs} {n:Nat} {ls:List Lab} (ho:Go.AI.ordN p ps k s n ls=0):Go.AI.ordN q ps k s n ls=0:=by
 unfold Go.AI.ordN at ho ⊢
 by_cases k1:k=1
 ·rw [if_pos k1] at ho ⊢;exact ho
 ·rw [if_neg k1] at ho ⊢
  by_cases k6:k=6
  ·rw [if_pos k6] at ho ⊢
   cases hf:p.data.find? (fun x:Dat=>x.name==s) with
   |none=>rw [hf] at ho;cases ho
   |some d=>rw [hf] at ho;rw [h.find hf];exact ho
  ·rw [if_neg k6] at ho ⊢
   by_cases k5:k=5
   ·rw [if_pos k5] at ho ⊢
    rw [firstE_zero] at ho ⊢
    intro e he
    obtain ⟨x,hx,rfl⟩:=List.mem_map.1 he
    exact h.effE (ho _ (List.mem_map_of_mem hx))
   ·rw [if_neg k5]
theorem Big.ord {p q:Prg} (h:Big p q) {ps:List Bs} : ∀t:Ty,t.ord p ps=0→t.ord q ps=0
 | .mk k n s l ls tail,ho=>by
  obtain ⟨h1,h2⟩:=ord_parts ho
  have ih:=fun x (hx:x ∈ l)=>h.ord x (h2 x hx)
  simp only [Ty.ord]
  rw [h.ordN h1,if_pos rfl,tysOrd_first,firstE_zero]
  intro e he
  obtain ⟨x,hx,rfl⟩:=List.mem_map.1 he
  exact ih x hx
termination_by x=>SizeOf.sizeOf x
decreasing_by
 have:=List.sizeOf_lt_of_mem hx
 simp only [Ty.mk.sizeOf_spec]
 omega
theorem findConL_app (s:Bs): ∀ (l m:List Dat) (i:Nat),findConL s (l++m) i=(findConL s l i).or (findConL s m (i+l.length))
 | [],m,i=>by simp [findConL]
 |d::r,m,i=>by
  rw [List.cons_append]
  simp only [findConL]
  cases d.cons.findIdx? (fun c=>c.name==s) with
  |some k=>rfl
  |none=>
   simp only
   rw [findConL_app s r m (i+1),List.length_cons,show i+1+r.length=i+ (r.length+1) by omega]
theorem Big.conOf {p q:Prg} (h:Big p q) {s:Bs} {x:Dat × Con} (hc:p.conOf s=some x):q.conOf s=some x:=by
 cases hf:findConL s p.data 0 with
 |none=>rw [conOf_none hf] at hc;cases hc
 |some y=>
  obtain ⟨i,k⟩:=y
  obtain ⟨hi,hk,h1,_⟩:=conOf_some hf
  rw [h1] at hc
  cases hc
  obtain ⟨ds,hd⟩:=h.data
  have hq:findConL s q.data 0=some (i,k):=by rw [hd,findConL_app,hf];rfl
  unfold Prg.conOf
  rw [hq]
  simp only
  rw [h.get hi]
  simp [hk]
theorem findOpL_app (s:Bs): ∀ (l m:List Eff) (i:Nat),findOpL s (l++m) i=(findOpL s l i).or (findOpL s m (i+l.length))
 | [],m,i=>by simp [findOpL]
 |d::r,m,i=>by
  rw [List.cons_append]
  simp only [findOpL]
  cases (d.ops.map Opn.name).findIdx? (· ==s) with
  |some k=>rfl
  |none=>
   simp only
   rw [findOpL_app s r m (i+1),List.length_cons,show i+1+r.length=i+ (r.length+1) by omega]
theorem Big.opErr {p q:Prg} (h:Big p q) {s:Bs} (hf:Go.AI.opErr p s=0):Go.AI.opErr q s=0:=by
 obtain ⟨es,he⟩:=h.eff
 unfold Go.AI.opErr at hf ⊢
 rw [he,findOpL_app]
 cases h1:findOpL s p.effects 0 with
 |some x=>rfl
 |none=>
  rw [h1] at hf
  simp only at hf
  cases findOpL s es (0+p.effects.length) with
  |some x=>rfl
  |none=>exact hf
theorem Big.ordErr {p q:Prg} (h:Big p q) (hq:q.decls=0) (x:Ex) (hx:x.ordErr p=0):x.ordErr q=0:=by
 rcases x with ⟨k,n,s,t,names,l,arms⟩
 simp only [Ex.ordErr] at hx ⊢
 have hcon: ∀n,conErr p s n=0→conErr q s n=0:=fun n hc=>by
  unfold conErr at hc ⊢
  cases hf:p.conOf s with
  |none=>rw [hf] at hc;cases hc
  |some y=>rw [hf] at hc;rw [h.conOf hf];exact hc
 have hmat:matchErr p arms=0→matchErr q arms=0:=fun hc=>by
  unfold matchErr at hc ⊢
  cases arms with
  |nil=>exact hc
  |cons a r=>
   simp only at hc ⊢
   cases hf:p.conOf a.op with
   |none=>rw [hf] at hc;cases hc
   |some y=>rw [hf] at hc;rw [h.conOf hf];exact hc
 have hhan:handlerErr p s arms=0→handlerErr q s arms=0:=fun hc=>by
  unfold handlerErr at hc ⊢
  split at hc
  ·rename_i h0
   obtain ⟨h1,h2⟩:=h.effI hq h0
   rw [h.effE h0,if_pos rfl,h1,h2]
   exact hc
  ·rename_i h0;exact absurd hc h0
 have huse:usingErr p names=0→usingErr q names=0:=fun hc=>by
  unfold usingErr at hc ⊢
  rw [firstE_zero] at hc ⊢
  intro e he
  obtain ⟨y,hy,rfl⟩:=List.mem_map.1 he
  have:=hc _ (List.mem_map_of_mem hy)
  unfold useE at this ⊢
  split at this
  ·cases this
  ·rename_i h1
   rw [if_neg h1]
   exact h.effE this
 repeat' split at hx
 all_goals simp_all
 ·exact h.opErr hx
 ·exact h.opErr hx
 ·exact h.effE hx
theorem ordStep_zero {p:Prg} {x:Ex} {u:Unit} :ordStep p x u= .inl ()↔x.ordErr p=0:=by
 unfold ordStep
 split<;>simp_all
mutual
theorem Ex.walk_ext {p q:Prg} (h: ∀x:Ex,x.ordErr p=0→x.ordErr q=0): ∀e:Ex,e.walk (ordStep p) ()= .inl ()→e.walk (ordStep q) ()= .inl ()
 | .mk k n s t names l arms,hw=>by
  simp only [Ex.walk] at hw ⊢
  cases hs:ordStep p (.mk k n s t names l arms) () with
  |inr e=>rw [hs] at hw;cases hw
  |inl u=>
   rw [hs] at hw
   rw [ordStep_zero.2 (h _ (ordStep_zero.1 hs))]
   simp only at hw ⊢
   cases hl:exsWalk (ordStep p) l () with
   |inr e=>rw [hl] at hw;cases hw
   |inl u=>
    rw [hl] at hw
    rw [exsWalk_ext h l hl]
    simp only at hw ⊢
    exact armsWalk_ext h arms hw
theorem exsWalk_ext {p q:Prg} (h: ∀x:Ex,x.ordErr p=0→x.ordErr q=0): ∀l:List Ex,exsWalk (ordStep p) l ()= .inl ()→exsWalk (ordStep q) l ()= .inl ()
 | [],_=>rfl
 |x::r,hw=>by
  simp only [exsWalk] at hw ⊢
  cases hl:x.walk (ordStep p) () with
  |inr e=>rw [hl] at hw;cases hw
  |inl u=>
   rw [hl] at hw
   rw [x.walk_ext h hl]
   exact exsWalk_ext h r hw
theorem armsWalk_ext {p q:Prg} (h: ∀x:Ex,x.ordErr p=0→x.ordErr q=0): ∀l:List Arm,armsWalk (ordStep p) l ()= .inl ()→armsWalk (ordStep q) l ()= .inl ()
 | [],_=>rfl
 | .mk op ns x::r,hw=>by
  simp only [armsWalk] at hw ⊢
  cases hl:x.walk (ordStep p) () with
  |inr e=>rw [hl] at hw;cases hw
  |inl u=>
   rw [hl] at hw
   rw [x.walk_ext h hl]
   exact armsWalk_ext h r hw
end
theorem Big.ordE {p q:Prg} (h:Big p q) (hq:q.decls=0) {e:Ex} (he:e.ordE p=0):e.ordE q=0:=by
 rw [Ex.ordE_zero] at he ⊢
 exact e.walk_ext (h.ordErr hq) he
theorem Big.exprE {p q:Prg} (h:Big p q) (hq:q.decls=0) {x:Ex} (hx:p.exprE x=0):q.exprE x=0:=by
 obtain ⟨_,h2⟩:=orE_zero.1 hx
 obtain ⟨h2,h3⟩:=orE_zero.1 h2
 exact orE_zero.2 ⟨hq,orE_zero.2 ⟨h2,h.ordE hq h3⟩⟩
theorem Big.tyE {p q:Prg} (h:Big p q) (hq:q.decls=0) {t:Ty} (ht:p.tyE t=0):q.tyE t=0:=by
 obtain ⟨_,h1,h2,h3⟩:=tyE_zero ht
 unfold Prg.tyE
 refine orE_zero.2 ⟨hq,orE_zero.2 ⟨h1, ?_⟩⟩
 rw [if_pos h2]
 exact h.ord t h3
theorem Big.chk {p q:Prg} (h:Big p q) (hq:q.decls=0) (hdf:q.defs=p.defs) (hm:q.main=p.main) (hp:p.chk=0):q.chk=0:=by
 unfold Prg.chk at hp ⊢
 obtain ⟨h1,h2⟩:=orE_zero.1 hp
 obtain ⟨h2,h3⟩:=orE_zero.1 h2
 obtain ⟨h3,h4⟩:=orE_zero.1 h3
 have hs:q.syn=0:=by
  obtain ⟨hb,_⟩:=orE_zero.1 hq
  unfold Prg.syn at h1 hb ⊢
  split at h1
  ·cases h1
  rename_i c1
  split at hb
  ·cases hb
  rename_i c2
  simp only [Prg.bare] at c2 hb
  obtain ⟨a1,hb⟩:=orE_zero.1 hb
  obtain ⟨a2,_⟩:=orE_zero.1 hb
  obtain ⟨_,h1⟩:=orE_zero.1 h1
  obtain ⟨_,h1⟩:=orE_zero.1 h1
  rw [hdf,hm,if_neg (by omega)]
  exact orE_zero.2 ⟨a1,orE_zero.2 ⟨a2,h1⟩⟩
 refine orE_zero.2 ⟨hs,orE_zero.2 ⟨hq,orE_zero.2 ⟨?_, ?_⟩⟩⟩
 ·rw [hdf]
  rw [firstE_zero] at h3 ⊢
  intro e he
  obtain ⟨d,hd,rfl⟩:=List.mem_map.1 he
  exact h.ordE hq (h3 _ (List.mem_map_of_mem hd))
 ·rw [hm];exact h.ordE hq h4
theorem Big.ix {p q:Prg} (h:Big p q) {ps:List Bs} {s:Bs} {n:Nat} {ls:List Lab} (ho:Go.AI.ordN p ps 6 s n ls=0):datIx q s=datIx p s∧datIx p s<p.data.length:=by
 obtain ⟨i,hi,hix,hil,_⟩:=ord_data ho
 obtain ⟨ds,hd⟩:=h.data
 refine ⟨?_,by omega⟩
 rw [hix]
 unfold datIx
 rw [hd,idx_app (by omega),hi];rfl
theorem Big.has {p q:Prg} (h:Big p q) {ps:List Bs} {T T':Nat→Nat→Bool} (hT: ∀i,i<p.data.length→ ∀s,T' i s=T i s) (set:Nat): ∀t:Ty,t.ord p ps=0→t.has q ps T' set=t.has p ps T set
 | .mk k n s l ls tail,ho=>by
  obtain ⟨h1,h2⟩:=ord_parts ho
  have ih:=fun x (hx:x ∈ l)=>h.has hT set x (h2 x hx)
  simp only [Ty.has]
  by_cases k1:k=1
  ·rw [if_pos k1,if_pos k1]
  ·rw [if_neg k1,if_neg k1]
   by_cases k6:k=6
   ·rw [if_pos k6,if_pos k6]
    subst k6
    obtain ⟨e1,e2⟩:=h.ix h1
    rw [e1,hT _ e2,tysBits_map,tysBits_map,List.map_congr_left ih]
   ·rw [if_neg k6,if_neg k6]
termination_by x=>SizeOf.sizeOf x
decreasing_by
 have:=List.sizeOf_lt_of_mem hx
 simp only [Ty.mk.sizeOf_spec]
 omega
theorem Big.jac {p q:Prg} (h:Big p q) (hls: ∀d ∈ p.data,d.fit p): ∀ (n i:Nat),i<p.data.length→ ∀s,Go.AI.jac (plF q) n (i,s)=Go.AI.jac (plF p) n (i,s)
 |0,_,_,_=>rfl
 |n+1,i,hi,s=>by
  have ih:=h.jac hls n
  show plF q (Go.AI.jac (plF q) n) (i,s)=plF p (Go.AI.jac (plF p) n) (i,s)
  unfold plF
  simp only
  rw [h.get hi,List.getElem?_eq_getElem hi]
  simp only
  refine any_same fun c hc=> ?_
  unfold conHas
  refine all_same fun x hx=> ?_
  exact h.has (fun i hi s=>ih i hi s) s x ((hls _ (List.getElem_mem hi)).2.2 c hc |>.2 x hx).2
theorem inh_jac {p:Prg} (hls: ∀d ∈ p.data,d.fit p) {t:Ty} (ht:t.ord p []=0) {N:Nat} (hN: (places p).length≤N):p.inh t=t.has p [] (cur (jac (plF p) N)) 0:=by
 have hM:MT (jac (plF p) N):=jac_M (F:=plF p) MT_0 (MT_F p hls) _
 have h1:leT (places p) (fillT p) (jac (plF p) N):=fun x hx hf=>by
  unfold fillT at hf
  rw [Bool.and_eq_true] at hf
  exact jac_mono (plF_mono p hls) MT_0 (MT_F p hls) hN x hx hf.2
 have h2:leT (places p) (jac (plF p) N) (fillT p):=fun x hx hf=>by
  unfold fillT
  rw [Bool.and_eq_true]
  exact ⟨by simpa using hx,jac_le (plF_mono p hls) MT_0 (MT_F p hls) (jac_closed (plF_mono p hls) MT_0 (MT_F p hls) (Nat.le_refl _)) N x hx hf⟩
 rw [Bool.eq_iff_iff]
 exact ⟨has_mono p [] h1 (.inr hM) (fun _ h=>h) t ht,has_mono p [] h2 (.inl hM) (fun _ h=>h) t ht⟩
theorem Big.inh {p q:Prg} (h:Big p q) (hp:p.decls=0) (hq:q.decls=0) {t:Ty} (ht:t.ord p []=0):q.inh t=p.inh t:=by
 obtain ⟨_,hls⟩:=decls_fit hp
 obtain ⟨_,hlq⟩:=decls_fit hq
 rw [inh_jac (N:=(places p).length+ (places q).length) hls ht (by omega),inh_jac (N:=(places p).length+ (places q).length) hlq (h.ord t ht) (by omega)]
 exact h.has (fun i hi s=>h.jac hls _ i hi s) 0 t ht
theorem togT_congrM {f g:Ty→Nat→Nat} : ∀ {l:List Ty} {m:Nat},(∀t ∈ l,∀j,f t j=g t j)→togT f l m=togT g l m
 | [],m,_=>rfl
 |t::r,m,h=>by
  simp only [togT]
  refine sumTo_congr fun i _=> ?_
  rw [h t List.mem_cons_self,togT_congrM (l:=r) fun y hy=>h y (List.mem_cons_of_mem _ hy)]
theorem Big.cntF {p q:Prg} (h:Big p q) (hls: ∀d ∈ p.data,d.fit p): ∀ (k:Nat) (t:Ty) (n:Nat),t.ord p []=0→Ty.cntF q k t n=Ty.cntF p k t n
 |0,_,_,_=>rfl
 |k+1, .mk kd m s L ls tl,n,ho=>by
  obtain ⟨h1,h2⟩:=ord_parts ho
  simp only [Ty.cntF]
  by_cases n0:n=0
  ·rw [if_pos n0,if_pos n0]
  ·rw [if_neg n0,if_neg n0]
   by_cases k6:kd=6
   ·rw [if_pos k6,if_pos k6]
    subst k6
    obtain ⟨i,hi,_,hil,hlen⟩:=ord_data h1
    have hd:=datOf_idx hi hil
    have hdq:q.datOf s=some p.data[i]:=h.find hd
    rw [hd,hdq]
    simp only
    congr 1
    refine List.map_congr_left fun c hc=>togT_congrM fun t ht j=> ?_
    obtain ⟨a,ha,rfl⟩:=List.mem_map.1 ht
    exact h.cntF hls k _ j (a.rep_ord hlen.symm h2 ((hls _ (List.getElem_mem hil)).2.2 c hc |>.2 a ha).2)
   ·rw [if_neg k6,if_neg k6]
theorem Big.tot {p q:Prg} (h:Big p q) (hls: ∀d ∈ p.data,d.fit p) {t:Ty} (ht:t.ord p []=0) (n:Nat):q.tot t n=p.tot t n:=by
 unfold Prg.tot
 exact sumTo_congr fun i _=>h.cntF hls i t i ht
theorem Big.ff {p q:Prg} (h:Big p q) {A:Nat→Prop} {ps:List Bs} : ∀t:Ty,t.ord p ps=0→(t.ff p A→t.ff q fun i=>A i∧i<p.data.length)∧(t.ff q A→t.ff p A)
 | .mk k n s l ls tail,ho=>by
  obtain ⟨h1,h2⟩:=ord_parts ho
  have ih:=fun x (hx:x ∈ l)=>h.ff (A:=A) x (h2 x hx)
  simp only [Ty.ff,tysFf_iff]
  constructor
  ·rintro ⟨k5,k6,hl⟩
   refine ⟨k5,fun e=> ?_,fun x hx=>(ih x hx).1 (hl x hx)⟩
   subst e
   obtain ⟨e1,e2⟩:=h.ix h1
   rw [e1]
   exact ⟨k6 rfl,e2⟩
  ·rintro ⟨k5,k6,hl⟩
   refine ⟨k5,fun e=> ?_,fun x hx=>(ih x hx).2 (hl x hx)⟩
   subst e
   obtain ⟨e1,_⟩:=h.ix h1
   rw [←e1]
   exact k6 rfl
termination_by x=>SizeOf.sizeOf x
decreasing_by
 have:=List.sizeOf_lt_of_mem hx
 simp only [Ty.mk.sizeOf_spec]
 omega
theorem Big.noFun {p q:Prg} (h:Big p q) (hls: ∀d ∈ p.data,d.fit p) {t:Ty} (ht:t.ord p []=0):Go.AI.noFun q t↔Go.AI.noFun p t:=by
 have hlt: ∀ {i} (hi:i<p.data.length),∃hq:i<q.data.length,q.data[i]=p.data[i]:=fun {i} hi=>by
  have:=h.get hi
  obtain ⟨hq,he⟩:=List.getElem?_eq_some_iff.1 this
  exact ⟨hq,he⟩
 constructor
 ·rintro ⟨A,hA,hf⟩
  refine ⟨A,fun i hi hAi c hc a ha=> ?_,(h.ff t ht).2 hf⟩
  obtain ⟨hq,he⟩:=hlt hi
  have h1:=hA i hq hAi
  rw [he] at h1
  exact (h.ff a ((hls _ (List.getElem_mem hi)).2.2 c hc |>.2 a ha).2).2 (h1 c hc a ha)
 ·rintro ⟨A,hA,hf⟩
  refine ⟨fun i=>A i∧i<p.data.length,fun i hi hAi c hc a ha=> ?_,(h.ff t ht).1 hf⟩
  obtain ⟨hAi,hip⟩:=hAi
  obtain ⟨_,he⟩:=hlt hip
  rw [he] at hc
  exact (h.ff a ((hls _ (List.getElem_mem hip)).2.2 c hc |>.2 a ha).2).1 (hA i hip hAi c hc a ha)
theorem Big.cntE {p q:Prg} (h:Big p q) (hq:q.decls=0) {t:Ty} (ht:p.tyE t=0) (n:Int):q.cntE t n=p.cntE t n:=by
 obtain ⟨z1,_,_,z4⟩:=tyE_zero ht
 obtain ⟨_,hls⟩:=decls_fit z1
 unfold Prg.cntE
 rw [ht,h.tyE hq ht]
 have:q.hasF t=p.hasF t:=by
  unfold Prg.hasF
  rw [decide_eq_decide.2 (h.noFun hls z4)]
 rw [this]
theorem Big.cntV {p q:Prg} (h:Big p q) (hq:q.decls=0) {t:Ty} (ht:p.tyE t=0) (n:Int):q.cntV t n=p.cntV t n:=by
 obtain ⟨z1,_,_,z4⟩:=tyE_zero ht
 obtain ⟨_,hls⟩:=decls_fit z1
 unfold Prg.cntV
 rw [h.cntE hq ht,h.tot hls z4]
def numT:Ty:= .mk 2 0 [] [] [] 0
theorem c17 (s:Bs) (σ:St):CI (.fn 17) [.str s] σ=some (.ret (.agg (paramT s).cs),σ):=by
 have hτ:bodyI CI XB GI af17 [.str s] σ=some (.ret (.agg [.int .i64 1, .int .i64 0, .str s, .empty, .empty, .int .i64 0]),σ++[.box [.int .i64 1, .int .i64 0, .str s, .empty, .empty, .int .i64 0]]):=by
  simp [bodyI,af17,getA0,setA0,fillD,putCells]
 exact CI_tree tab17 hτ rfl rfl
theorem c18 (σ:St):CI (.fn 18) [] σ=some (.ret (.agg numT.cs),σ):=by
 have hτ:bodyI CI XB GI af18 [] σ=some (.ret (.agg [.int .i64 2, .int .i64 0, .str [], .empty, .empty, .int .i64 0]),σ++[.box [.int .i64 2, .int .i64 0, .str [], .empty, .empty, .int .i64 0]]):=by
  simp [bodyI,af18,getA0,setA0,fillD,putCells]
 exact CI_tree tab18 hτ rfl rfl
theorem c19 (s:Bs) (l:List Ty) (σ:St):CI (.fn 19) [.str s, .slice (tysD l)] σ=some (.ret (.agg (dataT s l).cs),σ):=by
 have hp:=tys_plain l
 have hτ:bodyI CI XB GI af19 [.str s, .slice (tysD l)] σ=some (.ret (.agg [.int .i64 6, .int .i64 0, .str s, .slice (tysD l), .empty, .int .i64 0]),σ++[.box [.int .i64 6, .int .i64 0, .str s, .slice (tysD l), .empty, .int .i64 0]]):=by
  generalize tysD l=ld
  simp [bodyI,af19,getA0,setA0,fillD,putCells]
 refine CI_tree tab19 hτ (by simp only [D.tree,treeL,hp.1];rfl) ?_
 simp only [D.weak,weakL,hp.2,dataT,Ty.cs,List.map_nil]
theorem Prg.pl (p:Prg): (D.agg p.cs).tree=true∧(D.agg p.cs).weak= .agg p.cs:=p.plain
theorem k14 (p:Prg) (hok:p.ok) (σ:St):CL (.fn 14) [.agg p.cs] σ=some (.ret (.int .i64 p.decls),σ):=
 CL_plain rfl (by simpa [treeL] using p.pl.1) (by simpa [weakL] using p.pl.2) (c14 p hok []) rfl σ
theorem k20 (p:Prg) (hok:p.ok) (t:Ty) (ht:t.ok) (σ:St):CL (.fn 20) [.agg p.cs, .agg t.cs] σ=some (.ret (.tuple [.bool (p.inh t&&p.tyE t==0), .int .i64 (p.tyE t)]),σ):=
 CL_plain rfl (by simp only [treeL,p.pl.1,t.plain.agg.1];rfl) (by simp only [weakL,p.pl.2,t.plain.agg.2]) (c20 p hok t ht []) rfl σ
theorem k17 (s:Bs) (σ:St):CL (.fn 17) [.str s] σ=some (.ret (.agg (paramT s).cs),σ):=
 CL_plain rfl rfl rfl (c17 s []) rfl σ
theorem k18 (σ:St):CL (.fn 18) [] σ=some (.ret (.agg numT.cs),σ):=
 CL_plain rfl rfl rfl (c18 []) rfl σ
theorem Ty.cs_all (t:Ty):t.cs.all D.one=true:=by cases t;rfl
end Go.AI
