/- Texts of the proof: what functions of the program compute, step by step. No conditions of its own. -/
import Derived.Test.YtgenoggafhhgfaaGreatDoorF12
import Derived.Test.YtgenoggafhhgfaaGreatDoorF10
import Derived.Test.YtgenoggafhhgfaaGreatDoorF11
import Derived.Test.YtgenoggafhhgfaaGreatDoorF9
set_option linter.unusedVariables false
set_option linter.unusedSimpArgs false
namespace Go.AI
open Go Go.Proofs Go.Lx
set_option maxRecDepth 100000
theorem set3 {σ τ:St} {a b c o:Obj} {r:Nat} : (σ++[a,b,c]++τ).set (σ.length+3+r) o=σ++[a,b,c]++τ.set r o:=by
 rw [List.append_assoc,Nat.add_assoc,setA,List.append_assoc]
 congr 1
 show ([a,b,c]++τ).set (3+r) o=[a,b,c]++τ.set r o
 rw [Nat.add_comm];rfl
theorem get3 {σ τ:St} {a b c:Obj} {r:Nat} : (σ++[a,b,c]++τ)[σ.length+3+r]? =τ[r]? :=by
 rw [List.append_assoc,Nat.add_assoc,getA]
 show ([a,b,c]++τ)[3+r]? =τ[r]?
 rw [Nat.add_comm];rfl
theorem set2 {σ τ:St} {a b c o:Obj} : (σ++[a,b,c]++τ).set (σ.length+2) o=σ++[a,b,o]++τ:=by
 rw [List.append_assoc,setA,List.append_assoc];rfl
theorem CI_new2 {f:FuncId} {af:AFunc} (hT:tabT f=some af) {args:List D} {σ τ:St} {i:Nat} {d:D} (h:bodyI CI XB GI af args σ=some (.ret (.tuple [d, .ptr (σ.length+i) 0]),σ++τ)) (hq:qI f=false)
 (hx:okF f:=by exact ⟨⟨rfl,rfl⟩,rfl⟩):CI (.fn f) args σ=some (.ret (.tuple [d, .ptr (σ.length+i) 0]),σ++τ):=by
 refine CI_fn hT h ?_ hx
 have ht:trim σ (some (.ret (.tuple [d, .ptr (σ.length+i) 0]),σ++τ))=some (.ret (.tuple [d, .ptr (σ.length+i) 0]),σ++τ):=by
  unfold trim
  have:trimV σ.length (σ++τ) (.ret (.tuple [d, .ptr (σ.length+i) 0]))=none:=by
   have h1:strip 16 (σ++τ) (.tuple [d, .ptr (σ.length+i) 0])=none:=by
    have hs:=strip_ptr 15 (σ++τ) (σ.length+i) 0
    have ht: (D.tuple [d, .ptr (σ.length+i) 0]).tree=false:=by simp [D.tree,treeL]
    rw [strip_tuple 15 _ _ ht,show [d,D.ptr (σ.length+i) 0]=[d]++[D.ptr (σ.length+i) 0] by rfl,List.mapM_append]
    generalize strip 15 (σ++τ)=st at*
    cases [d].mapM st with
    |none=>rfl
    |some y=>simp [hs]
   simp [trimV,h1,D.under,underL]
  simp only [this,if_pos keeps_app]
 unfold postI
 rw [ht]
 simp [hq]
abbrev E125 (q:Nat) (ld:List D) (n i:Nat):Env:=[(3, .ptr q 0),(6, .ptr (q+1) 0),(7, .ptr (q+2) 0),(28, .slice ld),(29, .int .i64 n),(30, .int .i64 i)]
def argsAt (σ:St) (ad:D) (dl:List D) (τ:St):Prop:=(ad= .empty∧dl=[])∨ ∃r,ad= .arr (σ.length+3+r) dl.length 0 dl.length∧τ[r]? =some (.row 7 dl 1)∧1≤dl.length
theorem log16384b:Nat.log2 16384=14:=by decide
set_option maxHeartbeats 8000000 in
theorem it125 (p:Prg) (k0 n0:Int) (s:Bs) (L:List Ty) (ls:List Lab) (tail:Int) (ps:List Bs) (l:List Mt) (hL:L.length≤4) (hwf: ∀t ∈ L,(Mt.mk t ps l).wf p) (w:D) (pd:D) (dc:List D) (σ:St) (hw:withAt σ ps l w):
 ∀ (k i:Nat),i+k=L.length→ ∀ (ad:D) (dl:List D) (τ:St),argsAt σ ad dl τ→dl.length=i→mtsAt σ ((inner ps l (L.take i)).map Mt.now) dl→
  ∃ad' dl' τ',argsAt σ ad' dl' τ'∧mtsAt σ ((inner ps l L).map Mt.now) dl'∧
   iterI (evalI CI XB GI 52 false lp125_0) (E125 σ.length (L.map Ty.d) L.length i) (σ++[.box ((Ty.mk k0 n0 s L ls tail).cs++[w]), .box dc, .box [pd,ad]]++τ)=
    some (.exit 0,E125 σ.length (L.map Ty.d) L.length L.length++[(31, .bool false)],σ++[.box ((Ty.mk k0 n0 s L ls tail).cs++[w]), .box dc, .box [pd,ad']]++τ')
 |0,i,hi,ad,dl,τ,hA,hd,hm=>by
  obtain rfl:i=L.length:=by omega
  rw [List.take_length] at hm
  refine ⟨ad,dl,τ,hA,hm,iterI_end ?_ (by simp)⟩
  simp [lp125_0]
 |k+1,i,hi,ad,dl,τ,hA,hd,hm=>by
  have hlt:i<L.length:=by omega
  have hwi:=hwf L[i] (List.getElem_mem hlt)
  obtain ⟨cs',h1,h124⟩:=c124 p (.mk L[i] ps l) hwi σ (L[i].cs++[w]) (Mt.at_iff.2 ⟨w,rfl,hw⟩)
  obtain ⟨_,hx,n1,n3⟩:=Mt.at_agg h1
  cases hx
  have hm2:mtsAt σ ((inner ps l (L.take (i+1))).map Mt.now) (dl++[.agg cs']):=by
   have e: (inner ps l (L.take (i+1))).map Mt.now=(inner ps l (L.take i)).map Mt.now++[(Mt.mk L[i] ps l).now]:=by
    unfold inner;rw [List.take_succ_eq_append_getElem hlt,List.map_append,List.map_append];rfl
   rw [e];exact mtsAt_snoc hm h1
  have hwr:=wrap_nat (n:=i) (by omega)
  obtain ⟨ld,hld,hll,hlg⟩:=opq Ty.d L
  obtain ⟨g2,g3⟩:=hlg i hlt
  have hii: (i:Int) <L.length:=by omega
  have y1:=L[i].cs_len
  have y2:=L[i].cs_take
  have y3:L[i].cs.all D.one=true:=by cases L[i];rfl
  have hcs: (Ty.mk k0 n0 s L ls tail).cs++[w]=[.int .i64 k0, .int .i64 n0, .str s, .slice (tysD L), .slice (ls.map Lab.d), .int .i64 tail,w]:=by simp only [Ty.cs];rfl
  have q124:qI 124=false:=rfl
  have x124:XB 124=false:=rfl
  have e1:=Mt.at_eqb h1
  have e2:eqbL (L[i].cs++[w]) (L[i].cs++[w])=true:=Mt.at_eqb (σ:=σ) (m:= .mk L[i] ps l) (Mt.at_iff.2 ⟨w,rfl,hw⟩)
  have ew:w.eqb w=true:=by rcases hw with ⟨rfl,_⟩ | ⟨a,_,_,rfl,_⟩<;>simp
  have hwf2:w= .nilptr∨ ∃a,w= .ptr a 0:=hw.elim (fun h=> .inl h.1) fun ⟨a,_,_,h,_⟩=> .inr ⟨a,h⟩
  have e3:eqbL L[i].cs L[i].cs=true:=eqbL_tree _ L[i].plain.1
  unfold Ty.d at g3
  obtain ⟨k1,m1,s1,a1,b1,t1,hc⟩: ∃k1 m1 s1 a1 b1 t1,L[i].cs=[.int .i64 k1, .int .i64 m1, .str s1, .slice a1, .slice b1, .int .i64 t1]:=by
   rcases L[i] with ⟨k,n,s,l,ls,tail⟩;exact ⟨_,_,_,_,_,_,by simp only [Ty.cs];rfl⟩
  rw [hld]
  rcases hA with ⟨rfl,rfl⟩ | ⟨r,rfl,hr,hr1⟩
  ·obtain ⟨ad',dl',τ',r1,r2,r3⟩:=it125 p k0 n0 s L ls tail ps l hL hwf w pd dc σ hw k (i+1) (by omega) (.arr (σ.length+3+ (τ.length+1)) 1 0 1) [.agg cs'] (τ++[.box L[i].cs, .row 7 [.agg cs'] 1])
    (.inr ⟨τ.length+1,rfl,by rw [getA];rfl,by simp⟩) (by simp at hd ⊢;omega) hm2
   refine ⟨ad',dl',τ',r1,r2, ?_⟩
   rw [hld] at r3
   rw [←r3]
   refine iterI_next ?_
   clear r3
   have hs:σ++[Obj.box ((Ty.mk k0 n0 s L ls tail).cs++[w]), .box dc, .box [pd, .arr (σ.length+3+ (τ.length+1)) 1 0 1]]++(τ++[.box L[i].cs, .row 7 [.agg cs'] 1])=(σ++[Obj.box ((Ty.mk k0 n0 s L ls tail).cs++[w]), .box dc, .box [pd, .empty]]++τ).set (σ.length+2) (Obj.box [pd, .arr (σ.length+3+ (τ.length+1)) 1 0 1])++[.box L[i].cs, .row 7 [.agg cs'] 1]:=by
    rw [set2,List.append_assoc,List.append_assoc,List.append_assoc]
   have hlen: (σ++[Obj.box ((Ty.mk k0 n0 s L ls tail).cs++[w]), .box dc, .box [pd, .empty]]++τ).length=σ.length+3+τ.length:=by simp;omega
   have p0: (σ++[Obj.box ((Ty.mk k0 n0 s L ls tail).cs++[w]), .box dc, .box [pd, .empty]]++τ)[σ.length]? =some (.box ((Ty.mk k0 n0 s L ls tail).cs++[w])):=by rw [List.append_assoc];exact getA0
   have p2: (σ++[Obj.box ((Ty.mk k0 n0 s L ls tail).cs++[w]), .box dc, .box [pd, .empty]]++τ)[σ.length+2]? =some (.box [pd, .empty]):=by rw [List.append_assoc];exact getA
   have h124:=fun τ'=>h124 (σ++[Obj.box ((Ty.mk k0 n0 s L ls tail).cs++[w]), .box dc, .box [pd, .empty]]++τ++τ') _ (by rw [List.append_assoc,List.append_assoc])
   rw [hs]
   rw [hcs] at p0 p2 hlen h124 ⊢
   clear hs
   rw [hc] at h124 g3 y1 y2 y3 e2 e3 ⊢
   simp only [List.cons_append,List.nil_append] at h124 e2
   have hlt2:σ.length+2< (σ++[Obj.box [.int .i64 k0, .int .i64 n0, .str s, .slice (tysD L), .slice (ls.map Lab.d), .int .i64 tail,w], .box dc, .box [pd, .empty]]++τ).length:=by omega
   generalize σ++[Obj.box [.int .i64 k0, .int .i64 n0, .str s, .slice (tysD L), .slice (ls.map Lab.d), .int .i64 tail,w], .box dc, .box [pd, .empty]]++τ=σ1 at*
   clear h1
   rcases hwf2 with rfl| ⟨wa,rfl⟩<;>(simp [lp125_0,hlt,hii,hwr,hll,g2,g3,getA0,getA,setA0,setA,getO p0,getO p2,setO hlt2,h124,n1,n3,e1,e2,ew,e3,q124,x124,fillD,fillRow,rowOf,putCells,hlen,log16384b,Nat.testBit_eq_decide_div_mod_eq];rfl)
  ·have hrl:=lt_of_get hr
   have hdl: (dl++[D.agg cs']).length=dl.length+1:=by simp
   obtain ⟨ad',dl',τ',r1,r2,r3⟩:=it125 p k0 n0 s L ls tail ps l hL hwf w pd dc σ hw k (i+1) (by omega) (.arr (σ.length+3+r) (dl.length+1) 0 (dl.length+1)) (dl++[.agg cs']) (τ.set r (.row 7 (dl++[.agg cs']) 1)++[.box L[i].cs])
    (.inr ⟨r,by rw [hdl],by rw [List.getElem?_append_left (by simpa using hrl),List.getElem?_set_self hrl],by omega⟩) (by omega) hm2
   refine ⟨ad',dl',τ',r1,r2, ?_⟩
   rw [hld] at r3
   rw [←r3]
   refine iterI_next ?_
   clear r3
   have hs:σ++[Obj.box ((Ty.mk k0 n0 s L ls tail).cs++[w]), .box dc, .box [pd, .arr (σ.length+3+r) (dl.length+1) 0 (dl.length+1)]]++(τ.set r (.row 7 (dl++[.agg cs']) 1)++[.box L[i].cs])=
    ((σ++[Obj.box ((Ty.mk k0 n0 s L ls tail).cs++[w]), .box dc, .box [pd, .arr (σ.length+3+r) dl.length 0 dl.length]]++τ).set (σ.length+3+r) (.row 7 (dl++[.agg cs']) 1)).set (σ.length+2) (.box [pd, .arr (σ.length+3+r) (dl.length+1) 0 (dl.length+1)])++[.box L[i].cs]:=by
    rw [set3,set2,List.append_assoc,List.append_assoc,List.append_assoc]
   have hlen: (σ++[Obj.box ((Ty.mk k0 n0 s L ls tail).cs++[w]), .box dc, .box [pd, .arr (σ.length+3+r) dl.length 0 dl.length]]++τ).length=σ.length+3+τ.length:=by simp;omega
   have p0: (σ++[Obj.box ((Ty.mk k0 n0 s L ls tail).cs++[w]), .box dc, .box [pd, .arr (σ.length+3+r) dl.length 0 dl.length]]++τ)[σ.length]? =some (.box ((Ty.mk k0 n0 s L ls tail).cs++[w])):=by rw [List.append_assoc];exact getA0
   have p2: (σ++[Obj.box ((Ty.mk k0 n0 s L ls tail).cs++[w]), .box dc, .box [pd, .arr (σ.length+3+r) dl.length 0 dl.length]]++τ)[σ.length+2]? =some (.box [pd, .arr (σ.length+3+r) dl.length 0 dl.length]):=by rw [List.append_assoc];exact getA
   have p3: (σ++[Obj.box ((Ty.mk k0 n0 s L ls tail).cs++[w]), .box dc, .box [pd, .arr (σ.length+3+r) dl.length 0 dl.length]]++τ)[σ.length+3+r]? =some (.row 7 dl 1):=by rw [get3];exact hr
   have h124:=fun τ'=>h124 (σ++[Obj.box ((Ty.mk k0 n0 s L ls tail).cs++[w]), .box dc, .box [pd, .arr (σ.length+3+r) dl.length 0 dl.length]]++τ++τ') _ (by rw [List.append_assoc,List.append_assoc])
   rw [hs]
   rw [hcs] at p0 p2 p3 hlen h124 ⊢
   clear hs
   rw [hc] at h124 g3 y1 y2 y3 e2 e3 ⊢
   simp only [List.cons_append,List.nil_append] at h124 e2
   have hlt2:σ.length+2< (σ++[Obj.box [.int .i64 k0, .int .i64 n0, .str s, .slice (tysD L), .slice (ls.map Lab.d), .int .i64 tail,w], .box dc, .box [pd, .arr (σ.length+3+r) dl.length 0 dl.length]]++τ).length:=by omega
   have hlt3:σ.length+3+r< (σ++[Obj.box [.int .i64 k0, .int .i64 n0, .str s, .slice (tysD L), .slice (ls.map Lab.d), .int .i64 tail,w], .box dc, .box [pd, .arr (σ.length+3+r) dl.length 0 dl.length]]++τ).length:=by omega
   generalize σ++[Obj.box [.int .i64 k0, .int .i64 n0, .str s, .slice (tysD L), .slice (ls.map Lab.d), .int .i64 tail,w], .box dc, .box [pd, .arr (σ.length+3+r) dl.length 0 dl.length]]++τ=σ1 at*
   have hne:σ.length+3+r≠σ.length+2:=by omega
   have hba: (dl.length+1) *96≤140737488355328:=by omega
   have p2': ∀o τ',(σ1.set (σ.length+3+r) o++τ')[σ.length+2]? =some (.box [pd, .arr (σ.length+3+r) dl.length 0 dl.length]):=fun o τ'=>getO (by rw [List.getElem?_set_ne hne];exact p2)
   have hlt2': ∀o,σ.length+2< (σ1.set (σ.length+3+r) o).length:=fun o=>by simpa using hlt2
   have s3: ∀o τ',(σ1++τ').set (σ.length+3+r) o=σ1.set (σ.length+3+r) o++τ':=fun o τ'=>setO hlt3
   have s2: ∀o o' τ',(σ1.set (σ.length+3+r) o++τ').set (σ.length+2) o'=(σ1.set (σ.length+3+r) o).set (σ.length+2) o'++τ':=fun o o' τ'=>setO (hlt2' o)
   clear hlt2 hlt2' hlt3 hne
   generalize σ.length+3+r=R at*
   clear h1
   rcases hwf2 with rfl| ⟨wa,rfl⟩<;>simp [lp125_0,hlt,hii,hwr,hll,g2,g3,getA0,getA,setA0,setA,getO p0,getO p2,getO p3,p2',s3,s2,hr1,hba,h124,n1,n3,e1,e2,ew,e3,q124,x124,fillD,fillRow,rowOf,putCells,log16384b,Nat.testBit_eq_decide_div_mod_eq]
theorem exsFitT_zip (p:Prg) (f:Ty→Ty): ∀ (ms:List Ty) (l:List Ex),exsFitT p (ms.map f) l=(ms.zip l).all fun y=>y.2.fitsT p (f y.1)
 | [],[]=>by simp [exsFitT]
 | [],_::_=>by simp [exsFitT]
 |_::_,[]=>by simp [exsFitT]
 |m::ms,x::r=>by simp only [exsFitT,List.map_cons,List.zip_cons_cons,List.all_cons,exsFitT_zip p f ms r]
def fitsC (p:Prg) (s ts:Bs) (L:List Ty) (l:List Ex):Bool:=match p.conOf s with
 |some (d,c)=>(d.name==ts&&c.args.length==l.length)&&exsFitT p (c.args.map (Ty.rep d.params L)) l
 |none=>false
theorem fitsT_eq (p:Prg) (k n:Int) (s t:Bs) (names:List Bs) (l:List Ex) (arms:List Arm) (tk tn:Int) (ts:Bs) (L:List Ty) (tls:List Lab) (ttl:Int):
 (Ex.mk k n s t names l arms).fitsT p (.mk tk tn ts L tls ttl)=if tk=2 then k==1 else if tk=3 then k==2 else if tk=4 then k==3 else if tk=6 then (k==10&&fitsC p s ts L l) else false:=by
 simp only [Ex.fitsT];rfl
theorem fitsC_some {p:Prg} {s ts:Bs} {L:List Ty} {l:List Ex} {d:Dat} {c:Con} (h:p.conOf s=some (d,c)):fitsC p s ts L l=((d.name==ts&&c.args.length==l.length)&&exsFitT p (c.args.map (Ty.rep d.params L)) l):=by
 unfold fitsC;rw [h]
theorem fitsC_none {p:Prg} {s ts:Bs} {L:List Ty} {l:List Ex} (h: ∀d c,p.conOf s=some (d,c)→(d.name==ts)=false):fitsC p s ts L l=false:=by
 unfold fitsC
 cases hc:p.conOf s with
 |none=>rfl
 |some y=>
  obtain ⟨d,c⟩:=y
  have:=h d c hc
  simp only [this,Bool.false_and]
theorem find_allQ {α:Type} {l:List α} {p:α→Bool} (h:l.find? (fun a=> !p a)=none):l.all p=true:=by
 rw [List.find?_eq_none] at h
 exact List.all_eq_true.2 fun a ha=>by simpa using h a ha
theorem find_notQ {α:Type} {l:List α} {p:α→Bool} {a:α} (h:l.find? (fun a=> !p a)=some a):l.all p=false:=by
 have h1:=List.find?_some h
 have h2:=List.mem_of_find?_eq_some h
 cases hc:l.all p with
 |false=>rfl
 |true=>have:=List.all_eq_true.1 hc _ h2;simp [this] at h1
theorem conOf_idx {p:Prg} (hin:p.InOrder) {i:Nat} (hi:i<p.data.length) {s:Bs} {k:Nat} (h:p.data[i].cons.findIdx? (fun c=>c.name==s)=some k): ∃hk:k<p.data[i].cons.length,p.conOf s=some (p.data[i],p.data[i].cons[k]):=by
 obtain ⟨hk,h1,_⟩:=List.findIdx?_eq_some_iff_getElem.1 h
 refine ⟨hk, ?_⟩
 have hs:p.data[i].cons[k].name=s:=by simpa using h1
 have h2:=findConL_at p.data 0 i k p.data[i] p.data[i].cons[k] hin.cn (List.getElem?_eq_getElem hi) (List.getElem?_eq_getElem hk)
 rw [hs,Nat.zero_add] at h2
 obtain ⟨_,_,h3,_⟩:=conOf_some h2
 exact h3
theorem conOf_nix {p:Prg} (hnd:p.diff) {i:Nat} (hi:i<p.data.length) {s:Bs} (h:p.data[i].cons.findIdx? (fun c=>c.name==s)=none) {d:Dat} {c:Con} (hc:p.conOf s=some (d,c)): (d.name==p.data[i].name)=false:=by
 cases hf:findConL s p.data 0 with
 |none=>rw [conOf_none hf] at hc;cases hc
 |some y=>
  obtain ⟨j,k⟩:=y
  obtain ⟨hj,hk,h1,h2⟩:=conOf_some hf
  rw [h1] at hc
  cases hc
  cases hn: (p.data[j].name==p.data[i].name) with
  |false=>rfl
  |true=>
   have hn':p.data[j].name=p.data[i].name:=by simpa using hn
   have a1:=hnd i hi
   have a2:=hnd j hj
   rw [hn'] at a2
   have:i=j:=by omega
   subst this
   rw [List.findIdx?_eq_none_iff] at h
   have:=h _ (List.getElem_mem hk)
   rw [h2] at this
   simp at this
set_option maxHeartbeats 4000000 in
theorem it81 (p:Prg) (args:List Ty) (l:List Ex) (hl:args.length=l.length) (h4:args.length≤4) (al:List Ty) (params:List Bs) (wi tb b:Nat) (k n:Int) (s t:Bs) (nm am:D) (σ:St) (hb:σ[b]? =some (.box [.int .i64 k, .int .i64 n, .str s, .str t,nm, .slice (l.map Ex.d),am]))
 (ih: ∀j (h1:j<args.length) (h2:j<l.length) τ,CI (.fn 81) [.ptr tb 0, .agg (args[j].cs++[.ptr wi 0]), .agg l[j].cs] (σ++τ)=some (.ret (.bool (l[j].fitsT p (args[j].rep params al))),σ++τ)) (τ:St):
 ∃τ',iterI (evalI CI XB GI 85 false lp81_0) [(0, .ptr tb 0),(5, .ptr b 0),(8, .ptr wi 0),(66, .slice (args.map Ty.d)),(67, .int .i64 args.length),(68, .int .i64 (0:Nat))] (σ++τ)=
  some (if exsFitT p (args.map (Ty.rep params al)) l then (.exit 1,[(0, .ptr tb 0),(5, .ptr b 0),(8, .ptr wi 0),(66, .slice (args.map Ty.d)),(67, .int .i64 args.length),(68, .int .i64 args.length),(69, .bool false)],σ++τ') else (.ret,[(6, .bool false)],σ++τ')):=by
 obtain ⟨td,htd,htl,htg⟩:=opq Ty.d args
 obtain ⟨ld,hld,hll,hlg⟩:=opq Ex.d l
 rw [hld] at hb
 have hzl: (args.zip l).length=args.length:=by rw [List.length_zip];omega
 rw [htd]
 have h:=loop_seek (f:=evalI CI XB GI 85 false lp81_0) (σ:=σ) (args.zip l) (fun j=>[(0, .ptr tb 0),(5, .ptr b 0),(8, .ptr wi 0),(66, .slice td),(67, .int .i64 args.length),(68, .int .i64 (j:Nat))]) (fun y=> !y.2.fitsT p (y.1.rep params al)) (fun _=>(.ret,[(6, .bool false)]))
  (.exit 1,[(0, .ptr tb 0),(5, .ptr b 0),(8, .ptr wi 0),(66, .slice td),(67, .int .i64 args.length),(68, .int .i64 args.length),(69, .bool false)]) (by simp) (by simp)
  (fun j hj τ=>by
    rw [hzl] at hj
    have hj2:j<l.length:=by omega
    rw [List.getElem_zip]
    have hw:=wrap_nat (n:=j) (by omega)
    obtain ⟨g2,g3⟩:=htg j hj
    obtain ⟨g4,g5⟩:=hlg j hj2
    have hjj: (j:Int) <args.length:=by omega
    have hjj2: (j:Int) <l.length:=by omega
    have y1:=args[j].cs_len
    have y2:=args[j].cs_take
    have y3:args[j].cs.all D.one=true:=by cases args[j];rfl
    have z1:l[j].cs.length=7:=by rcases l[j] with ⟨k,n,s,t,nm,l',ar⟩;simp [Ex.cs]
    have z2:l[j].cs.take 7=l[j].cs:=List.take_of_length_le (by omega)
    have e1:eqbL args[j].cs args[j].cs=true:=eqbL_tree _ args[j].plain.1
    have e2:eqbL l[j].cs l[j].cs=true:=eqbL_tree _ l[j].plain.1
    have q81:qI 81=false:=rfl
    have x81:XB 81=false:=rfl
    refine ⟨τ++[.box args[j].cs], ?_⟩
    have ih:=ih j hj hj2 (τ++[.box args[j].cs])
    rw [←List.append_assoc] at ih ⊢
    have hb2: ∀τ',(σ++τ++τ')[b]? =some (.box [.int .i64 k, .int .i64 n, .str s, .str t,nm, .slice ld,am]):=fun τ'=>getO (getO hb)
    unfold Ty.d at g3
    unfold Ex.d at g5
    generalize l[j].fitsT p (args[j].rep params al)=v at*
    obtain ⟨k1,m1,s1,a1,b1,t1,hc⟩: ∃k1 m1 s1 a1 b1 t1,args[j].cs=[.int .i64 k1, .int .i64 m1, .str s1, .slice a1, .slice b1, .int .i64 t1]:=by
     rcases args[j] with ⟨k,n,s,l,ls,tail⟩;exact ⟨_,_,_,_,_,_,by simp only [Ty.cs];rfl⟩
    rw [hc] at g3 y1 y2 y3 e1 ih ⊢
    simp only [List.cons_append,List.nil_append] at ih
    clear hb
    generalize l[j].cs=xc at*
    generalize σ++τ=σ1 at*
    cases v<;>simp [lp81_0,hj,hj2,hjj,hjj2,hw,htl,hll,g2,g3,g4,g5,getA0,getA,setA0,setA,hb2,z1,z2,e1,e2,ih,q81,x81,fillD,putCells,Nat.testBit_eq_decide_div_mod_eq])
  (fun τ=>⟨τ,by
    rw [hzl]
    simp [lp81_0,htl]⟩) τ
 obtain ⟨τ',h⟩:=h
 refine ⟨τ', ?_⟩
 rw [h,exsFitT_zip]
 cases hf: (args.zip l).find? (fun y=> !y.2.fitsT p (y.1.rep params al)) with
 |none=>rw [find_allQ (p:=fun (y:Ty × Ex)=>y.2.fitsT p (y.1.rep params al)) hf];rfl
 |some y=>rw [find_notQ (p:=fun (y:Ty × Ex)=>y.2.fitsT p (y.1.rep params al)) hf];rfl
theorem log8192b:Nat.log2 8192=13:=by decide
theorem c129 (s cn:Bs) (ad:List D) (k n:Int) (t:Bs) (nm l am:D) (b:Nat) (σ:St) (hb:σ[b]? =some (.box [.int .i64 k, .int .i64 n, .str s, .str t,nm,l,am])):CI (.fn 129) [.agg [.str cn, .slice ad], .ptr b 0] σ=some (.ret (.bool (cn==s)),σ):=by
 refine CI_tree tab129 (d:= .bool (cn==s)) (τ:=[.box [.str cn, .slice ad]]) ?_ rfl rfl
 simp [bodyI,af129,getA0,getO hb]
set_option maxHeartbeats 4000000 in
theorem c125 (p:Prg) (m:CMap) (hdl:p.data.length≤12) (k0 n0:Int) (s:Bs) (L:List Ty) (ls:List Lab) (tail:Int) (ps:List Bs) (l:List Mt) (hL:L.length≤4) (hwf: ∀t ∈ L,(Mt.mk t ps l).wf p) (cs:List D) (tb i:Nat) (hi:i<p.data.length) (hix:idxOf (fun x:Dat=>x.name==s) p.data=i)
 (σ:St) (hT:IsT σ tb p m) (hat: (Mt.mk (.mk k0 n0 s L ls tail) ps l).at σ (.agg cs)):
 ∃τ,CI (.fn 125) [.ptr tb 0, .agg cs] σ=some (.ret (.tuple [.slice (p.data[i].cons.map Con.d), .ptr (σ.length+2) 0]),σ++τ)∧withAt (σ++τ) p.data[i].params ((inner ps l L).map Mt.now) (.ptr (σ.length+2) 0):=by
 obtain ⟨w,hc,hw⟩:=Mt.at_iff.1 hat
 obtain ⟨ad',dl',τ',r1,r2,hit⟩:=it125 p k0 n0 s L ls tail ps l hL hwf w (.slice (p.data[i].params.map D.str)) p.data[i].cs σ hw L.length 0 (by omega) .empty [] [] (.inl ⟨rfl,rfl⟩) rfl (by simp [inner,mtsAt])
 have h117:=fun σ hT=>c117 p m (by unfold maxL;omega) s tb σ hT
 rw [hix] at h117
 refine ⟨[.box cs, .box p.data[i].cs, .box [.slice (p.data[i].params.map D.str),ad']]++τ', ?_, ?_⟩
 rotate_left
 ·refine .inr ⟨σ.length+2,ad',dl',rfl,by rw [←List.append_assoc,List.append_assoc];exact getA, ?_,mtsAt_app _ _ r2⟩
  rcases r1 with ⟨rfl,rfl⟩ | ⟨r,rfl,h1,h2⟩
  ·exact .inr (.inl ⟨rfl,rfl⟩)
  ·exact .inr (.inr ⟨_,1,rfl,by rw [←List.append_assoc];exact get3.trans h1,h2⟩)
 refine CI_new2 tab125 ?_ rfl
 obtain ⟨ld,hld,hll,hlg⟩:=opq Dat.d p.data
 obtain ⟨g2,g3⟩:=hlg i hi
 have hii: (i:Int) <p.data.length:=by omega
 have hh:p.cs.head?=some (.slice ld):=by rw [p.cs_eq,←hld];rfl
 have f1:eqbL ld ld=true:=by rw [←hld];exact eqbL_tree _ (PlainL.map fun x _=>x.plain).1
 have hdc:p.data[i].cs=[.str p.data[i].name, .slice (p.data[i].params.map D.str), .slice (p.data[i].cons.map Con.d)]:=rfl
 have hdd:p.data[i].d= .agg [.str p.data[i].name, .slice (p.data[i].params.map D.str), .slice (p.data[i].cons.map Con.d)]:=rfl
 have f2:eqbL (p.data[i].cons.map Con.d) (p.data[i].cons.map Con.d)=true:=eqbL_tree _ (PlainL.map fun x _=>x.plain).1
 have f3:eqbL (p.data[i].params.map D.str) (p.data[i].params.map D.str)=true:=eqbL_tree _ (PlainL.map fun x _=>plain_str x).1
 rw [hdd] at g3
 rw [hdc] at hit ⊢
 cases hc
 have y0: (Ty.mk k0 n0 s L ls tail).cs++[w]=[.int .i64 k0, .int .i64 n0, .str s, .slice (L.map Ty.d), .slice (ls.map Lab.d), .int .i64 tail,w]:=by simp only [Ty.cs,tysD_map];rfl
 have hwf2:w= .nilptr∨ ∃a,w= .ptr a 0:=hw.elim (fun h=> .inl h.1) fun ⟨a,_,_,h,_⟩=> .inr ⟨a,h⟩
 rw [y0] at hit ⊢
 have hLl: (L.map Ty.d).length=L.length:=List.length_map _
 have q117:qI 117=true:=rfl
 have x117:XB 117=false:=rfl
 obtain ⟨j,hT1,hT2⟩:=hT
 have hTT: ∀τ,IsT (σ++τ) tb p m:=fun τ=>⟨j,getO hT1,getO hT2⟩
 have h117:=fun τ=>h117 (σ++τ) (hTT τ)
 have hT3: ∀τ,(σ++τ)[tb]? =some (.box (p.cs++[.map j])):=fun τ=>getO hT1
 have hhd: (p.cs++[D.map j]).head?=some (.slice ld):=by
  rw [p.cs_eq,←hld];rfl
 have hp0: (p.cs++[D.map j])[0]? =some (.slice ld):=by rw [←List.head?_eq_getElem?];exact hhd
 rw [←List.append_assoc]
 simp only [E125,Int.natCast_zero,List.cons_append,List.nil_append,List.append_nil] at hit
 clear hat hT1 hT2 hdd hdc hw r1 r2
 generalize p.data[i].cons.map Con.d=cd at*
 generalize p.data[i].params.map D.str=pl at*
 generalize p.data[i].name=dn at*
 generalize L.map Ty.d=LD at*
 generalize ls.map Lab.d=lsd at*
 generalize hσ2:σ++[Obj.box [.int .i64 k0, .int .i64 n0, .str s, .slice LD, .slice lsd, .int .i64 tail,w], .box [.str dn, .slice pl, .slice cd], .box [.slice pl,ad']]++τ'=σ2 at*
 have p1:σ2[σ.length+1]? =some (.box [.str dn, .slice pl, .slice cd]):=by rw [←hσ2,List.append_assoc];exact getA
 clear hσ2
 generalize p.cs++[D.map j]=pc at*
 rcases hwf2 with rfl| ⟨wa,rfl⟩<;>simp [bodyI,af125,getA0,getA,setA0,setA,hT3,hhd,hll,h117,hi,hii,g2,g3,f1,f2,f3,hp0,q117,x117,fillD,putCells,hLl,hit,p1,log8192b,Nat.testBit_eq_decide_div_mod_eq]
set_option maxHeartbeats 8000000 in
theorem c81 (p:Prg) (m:CMap) (hdl:p.data.length≤12) (hls: ∀d ∈ p.data,d.fit p) (hnd:p.diff) (hin:p.InOrder) (tb:Nat): ∀ (x:Ex) (u:Mt) (cs:List D) (σ:St),x.ok→u.wf p→u.at σ (.agg cs)→IsT σ tb p m→
 CI (.fn 81) [.ptr tb 0, .agg cs, .agg x.cs] σ=some (.ret (.bool (x.fitsT p u.ty)),σ)
 | .mk k n s t names l arms,u,cs,σ,hx,hwf,hat,hT=>by
  have ih:=fun y (_:y ∈ l) u cs σ=>c81 p m hdl hls hnd hin tb y u cs σ
  obtain ⟨cs',hat',h124⟩:=c124 p u hwf σ cs hat
  obtain ⟨nwf,nk⟩:=u.now_wf hwf
  have hty:=u.now_ty hwf
  obtain ⟨_,hxx,c1,c3⟩:=Mt.at_agg hat
  cases hxx
  have c2:cs.take 7=cs:=List.take_of_length_le (by omega)
  have c4:cs.drop 7=[]:=List.drop_of_length_le (by omega)
  have hxc: (Ex.mk k n s t names l arms).cs=[.int .i64 k, .int .i64 n, .str s, .str t,slD names, .slice (l.map Ex.d), .slice (armsD arms)]:=by simp only [Ex.cs,exsD_map]
  suffices h: ∃τ,bodyI CI XB GI af81 [.ptr tb 0, .agg cs, .agg (Ex.mk k n s t names l arms).cs] σ=some (.ret (.bool ((Ex.mk k n s t names l arms).fitsT p u.ty)),σ++τ) by
   obtain ⟨τ,h⟩:=h
   exact CI_tree tab81 h rfl rfl
  rw [hxc,←hty]
  generalize u.now=u' at*
  rcases u' with ⟨⟨tk,tn,ts,L,tls,ttl⟩,ps,ml⟩
  simp only at nk
  obtain ⟨w,hc,hw⟩:=Mt.at_iff.1 hat'
  cases hc
  have hnc: (Ty.mk tk tn ts L tls ttl).cs++[w]=[.int .i64 tk, .int .i64 tn, .str ts, .slice (tysD L), .slice (tls.map Lab.d), .int .i64 ttl,w]:=by simp only [Ty.cs];rfl
  have h124:=fun τ=>h124 (σ++τ) τ rfl
  have hwf2:w= .nilptr∨ ∃a,w= .ptr a 0:=hw.elim (fun h=> .inl h.1) fun ⟨a,_,_,h,_⟩=> .inr ⟨a,h⟩
  simp only [Mt.ty,Ty.rep_np _ _ nk,fitsT_eq]
  obtain ⟨nsm,nord,npl,nm4,nml⟩:=nwf
  have hsn:slD names= .slice (names.map D.str):=rfl
  rw [hsn]
  by_cases t2:tk=2
  ·subst t2
   rw [hnc] at h124
   refine ⟨[.box [.int .i64 2, .int .i64 tn, .str ts, .slice (tysD L), .slice (tls.map Lab.d), .int .i64 ttl,w], .box [.int .i64 k, .int .i64 n, .str s, .str t, .slice (names.map D.str), .slice (l.map Ex.d), .slice (armsD arms)]], ?_⟩
   rcases hwf2 with rfl| ⟨wa,rfl⟩<;>simp [bodyI,af81,getA0,getA,setA0,setA,c1,c2,c3,c4,h124,putCells]
  rw [if_neg t2]
  have b2: (tk==2)=false:=by simpa using t2
  by_cases t3:tk=3
  ·subst t3
   rw [hnc] at h124
   refine ⟨[.box [.int .i64 3, .int .i64 tn, .str ts, .slice (tysD L), .slice (tls.map Lab.d), .int .i64 ttl,w], .box [.int .i64 k, .int .i64 n, .str s, .str t, .slice (names.map D.str), .slice (l.map Ex.d), .slice (armsD arms)]], ?_⟩
   rcases hwf2 with rfl| ⟨wa,rfl⟩<;>simp [bodyI,af81,getA0,getA,setA0,setA,c1,c2,c3,c4,h124,putCells]
  rw [if_neg t3]
  have b3: (tk==3)=false:=by simpa using t3
  by_cases t4:tk=4
  ·subst t4
   rw [hnc] at h124
   refine ⟨[.box [.int .i64 4, .int .i64 tn, .str ts, .slice (tysD L), .slice (tls.map Lab.d), .int .i64 ttl,w], .box [.int .i64 k, .int .i64 n, .str s, .str t, .slice (names.map D.str), .slice (l.map Ex.d), .slice (armsD arms)]], ?_⟩
   rcases hwf2 with rfl| ⟨wa,rfl⟩<;>simp [bodyI,af81,getA0,getA,setA0,setA,c1,c2,c3,c4,h124,putCells]
  rw [if_neg t4]
  have b4: (tk==4)=false:=by simpa using t4
  by_cases t6:tk=6
  rotate_left
  ·rw [if_neg t6]
   have b6: (tk==6)=false:=by simpa using t6
   rw [hnc] at h124
   refine ⟨[.box [.int .i64 tk, .int .i64 tn, .str ts, .slice (tysD L), .slice (tls.map Lab.d), .int .i64 ttl,w], .box [.int .i64 k, .int .i64 n, .str s, .str t, .slice (names.map D.str), .slice (l.map Ex.d), .slice (armsD arms)]], ?_⟩
   rcases hwf2 with rfl| ⟨wa,rfl⟩<;>simp [bodyI,af81,getA0,getA,setA0,setA,c1,c2,c3,c4,h124,putCells,b2,b3,b4,b6]
  subst t6
  rw [if_pos rfl]
  obtain ⟨nod,nop⟩:=ord_parts nord
  obtain ⟨i,hix,_,hi,hlen⟩:=ord_data nod
  have hin1:=inner_wf npl nm4 nml L (fun y hy=>⟨tysSmall_mem nsm.2.2.2 hy,nop y hy⟩)
  have hname:p.data[i].name=ts:=by
   have:=idxOf_find (fun x:Dat=>x.name==ts) p.data
   rw [hix] at this
   rcases this with ⟨h,_⟩ | ⟨j,hj,hjl,hf,_⟩
   ·omega
   ·obtain rfl:i=j:=by omega
    simpa using List.find?_some hf
  obtain ⟨τ,h125,hwith⟩:=c125 p m hdl 6 tn ts L tls ttl ps ml nsm.1 (fun y hy=>mtsWf_mem hin1 (List.mem_map_of_mem (f:=fun t=>Mt.mk t ps ml) hy)) _ tb i hi hix (σ++[.box ((Ty.mk 6 tn ts L tls ttl).cs++[w]), .box [.int .i64 k, .int .i64 n, .str s, .str t, .slice (names.map D.str), .slice (l.map Ex.d), .slice (armsD arms)]]) hT.app (Mt.at_app _ _ hat')
  have hl2: (σ++[Obj.box ((Ty.mk 6 tn ts L tls ttl).cs++[w]), .box [.int .i64 k, .int .i64 n, .str s, .str t, .slice (names.map D.str), .slice (l.map Ex.d), .slice (armsD arms)]]).length=σ.length+2:=by simp
  rw [hl2] at h125 hwith
  have hb: ∀τ',(σ++[Obj.box ((Ty.mk 6 tn ts L tls ttl).cs++[w]), .box [.int .i64 k, .int .i64 n, .str s, .str t, .slice (names.map D.str), .slice (l.map Ex.d), .slice (armsD arms)]]++τ')[σ.length+1]? =some (.box [.int .i64 k, .int .i64 n, .str s, .str t, .slice (names.map D.str), .slice (l.map Ex.d), .slice (armsD arms)]):=fun τ'=>by rw [List.append_assoc];exact getA
  have hdf:=hls _ (List.getElem_mem hi)
  have h87:=p87 p.data[i].cons 129 [.ptr (σ.length+1) 0] (fun c=>c.name==s) _ (by unfold maxL;have:=hdf.2.1;omega) (fun c hc=>c129 s c.name (tysD c.args) k n t _ _ _ _ _ (hb τ))
  have hT3:IsT (σ++[Obj.box ((Ty.mk 6 tn ts L tls ttl).cs++[w]), .box [.int .i64 k, .int .i64 n, .str s, .str t, .slice (names.map D.str), .slice (l.map Ex.d), .slice (armsD arms)]]++τ) tb p m:=hT.app.app
  have hnowT:mtsTy ((inner ps ml L).map Mt.now)=L.map (Ty.rep ps (mtsTy ml)):=by
   rw [←inner_ty,mtsTy_map,mtsTy_map,List.map_map]
   exact List.map_congr_left fun y hy=>y.now_ty (mtsWf_mem hin1 hy)
  have hnowW:mtsWf p ((inner ps ml L).map Mt.now):=by
   have: ∀ (l:List Mt),mtsWf p l→mtsWf p (l.map Mt.now):=fun l=>by
    induction l with
    |nil=>exact fun _=>trivial
    |cons a r ih=>exact fun h=>⟨(a.now_wf h.1).1,ih h.2⟩
   exact this _ hin1
  by_cases k10:k=10
  rotate_left
  ·have b10: (k==10)=false:=by simpa using k10
   have n10: (k != 10)=true:=by simpa using k10
   rw [b10,Bool.false_and]
   refine ⟨[.box ((Ty.mk 6 tn ts L tls ttl).cs++[w]), .box [.int .i64 k, .int .i64 n, .str s, .str t, .slice (names.map D.str), .slice (l.map Ex.d), .slice (armsD arms)]]++τ, ?_⟩
   rw [←List.append_assoc]
   have hb1:=hb τ
   clear ih hT3 hwith hat hat' hwf hb
   generalize hσ3:σ++[Obj.box ((Ty.mk 6 tn ts L tls ttl).cs++[w]), .box [.int .i64 k, .int .i64 n, .str s, .str t, .slice (names.map D.str), .slice (l.map Ex.d), .slice (armsD arms)]]++τ=σ3 at*
   rw [hnc] at h124 h125
   clear hσ3
   generalize p.data[i].cons.map Con.d=cd at*
   rcases hwf2 with rfl| ⟨wa,rfl⟩<;>simp [bodyI,af81,getA0,getA,setA0,setA,c1,c2,c3,c4,h124,h125,h87,hb1,putCells,n10,Nat.testBit_eq_decide_div_mod_eq]
  subst k10
  rw [show ((10:Int) ==10)=true by rfl,Bool.true_and]
  cases hf:p.data[i].cons.findIdx? (fun c=>c.name==s) with
  |none=>
   rw [fitsC_none fun d c hc=>by rw [←hname];exact conOf_nix hnd hi hf hc]
   have hidx:idxOf (fun c:Con=>c.name==s) p.data[i].cons= -1:=by unfold idxOf;rw [hf]
   rw [hidx] at h87
   refine ⟨[.box ((Ty.mk 6 tn ts L tls ttl).cs++[w]), .box [.int .i64 10, .int .i64 n, .str s, .str t, .slice (names.map D.str), .slice (l.map Ex.d), .slice (armsD arms)]]++τ, ?_⟩
   rw [←List.append_assoc]
   have hb1:=hb τ
   clear ih hT3 hwith hat hat' hwf hb
   generalize hσ3:σ++[Obj.box ((Ty.mk 6 tn ts L tls ttl).cs++[w]), .box [.int .i64 10, .int .i64 n, .str s, .str t, .slice (names.map D.str), .slice (l.map Ex.d), .slice (armsD arms)]]++τ=σ3 at*
   rw [hnc] at h124 h125
   clear hσ3
   generalize p.data[i].cons.map Con.d=cd at*
   rcases hwf2 with rfl| ⟨wa,rfl⟩<;>simp [bodyI,af81,getA0,getA,setA0,setA,c1,c2,c3,c4,h124,h125,h87,hb1,putCells,Nat.testBit_eq_decide_div_mod_eq]
  |some j=>
   obtain ⟨hj,hco⟩:=conOf_idx hin hi hf
   rw [fitsC_some hco,hname,beq_self_eq_true,Bool.true_and]
   have hidx:idxOf (fun c:Con=>c.name==s) p.data[i].cons=j:=by unfold idxOf;rw [hf]
   rw [hidx] at h87
   obtain ⟨hca4,hcas⟩:=hdf.2.2 _ (List.getElem_mem hj)
   have hx2:=fun y (hy:y ∈ l)=>exsOk_mem hx.2.2.2.1 hy
   obtain ⟨cd,hcd,hcl,hcg⟩:=opq Con.d p.data[i].cons
   obtain ⟨h4,h5⟩:=hcg j hj
   have hcd1:p.data[i].cons[j].d= .agg [.str p.data[i].cons[j].name, .slice (p.data[i].cons[j].args.map Ty.d)]:=by unfold Con.d Con.cs;rw [tysD_map]
   rw [hcd1] at h5
   have hal: (p.data[i].cons[j].args.map Ty.d).length=p.data[i].cons[j].args.length:=List.length_map _
   have hel: (l.map Ex.d).length=l.length:=List.length_map _
   have hjj: (j:Int) <p.data[i].cons.length:=by omega
   have hj0: ¬((j:Int) <0):=by omega
   have f2:eqbL cd cd=true:=by rw [←hcd];exact eqbL_tree _ (PlainL.map fun x _=>x.plain).1
   have hb1:=hb τ
   cases hle: (p.data[i].cons[j].args.length==l.length)
   ·have hle': ((p.data[i].cons[j].args.length:Int) ==(l.length:Int))=false:=by
     rw [beq_eq_false_iff_ne] at hle ⊢;omega
    have hle2: ((p.data[i].cons[j].args.length:Int) != (l.length:Int))=true:=by rw [bne,hle'];rfl
    rw [Bool.false_and]
    refine ⟨[.box ((Ty.mk 6 tn ts L tls ttl).cs++[w]), .box [.int .i64 10, .int .i64 n, .str s, .str t, .slice (names.map D.str), .slice (l.map Ex.d), .slice (armsD arms)]]++τ, ?_⟩
    rw [←List.append_assoc]
    clear ih hT3 hwith hat hat' hwf hb
    generalize hσ3:σ++[Obj.box ((Ty.mk 6 tn ts L tls ttl).cs++[w]), .box [.int .i64 10, .int .i64 n, .str s, .str t, .slice (names.map D.str), .slice (l.map Ex.d), .slice (armsD arms)]]++τ=σ3 at*
    rw [hnc] at h124 h125
    clear hσ3
    rw [hcd] at h125 h87
    generalize p.data[i].cons[j].args.map Ty.d=ad at*
    generalize l.map Ex.d=xd at*
    rcases hwf2 with rfl| ⟨wa,rfl⟩<;>simp [bodyI,af81,getA0,getA,setA0,setA,c1,c2,c3,c4,h124,h125,h87,hb1,putCells,hj,hjj,hj0,hcl,h4,h5,f2,hal,hel,hle,hle',hle2,Nat.testBit_eq_decide_div_mod_eq]
   ·have hle1:p.data[i].cons[j].args.length=l.length:=by simpa using hle
    have hle2: ((p.data[i].cons[j].args.length:Int) != (l.length:Int))=false:=by simp [hle1]
    have hin2:=inner_wf (p:=p) (ps:=p.data[i].params) (ml:=(inner ps ml L).map Mt.now) (by rw [List.length_map,inner_len];exact hlen) (by rw [List.length_map,inner_len];exact nsm.1) hnowW p.data[i].cons[j].args hcas
    obtain ⟨τ',hloop⟩:=it81 p p.data[i].cons[j].args l hle1 hca4 (L.map (Ty.rep ps (mtsTy ml))) p.data[i].params (σ.length+2+2) tb (σ.length+1) 10 n s t (.slice (names.map D.str)) (.slice (armsD arms)) _ hb1
     (fun q h1 h2 τ'=>by
       have:=ih l[q] (List.getElem_mem h2) (.mk p.data[i].cons[j].args[q] p.data[i].params ((inner ps ml L).map Mt.now)) _ _ (hx2 _ (List.getElem_mem h2)) (mtsWf_mem hin2 (List.mem_map_of_mem (f:=fun t=>Mt.mk t p.data[i].params ((inner ps ml L).map Mt.now)) (List.getElem_mem h1))) (Mt.at_iff.2 ⟨_,rfl,hwith.app⟩) (hT3.app (τ:=τ'))
       simp only [Mt.ty,hnowT] at this
       exact this) []
    rw [List.append_nil,Int.natCast_zero] at hloop
    simp only [hle1] at hloop
    rw [Bool.true_and]
    refine ⟨[.box ((Ty.mk 6 tn ts L tls ttl).cs++[w]), .box [.int .i64 10, .int .i64 n, .str s, .str t, .slice (names.map D.str), .slice (l.map Ex.d), .slice (armsD arms)]]++τ++τ', ?_⟩
    rw [←List.append_assoc,←List.append_assoc]
    clear ih hT3 hwith hat hat' hwf hb
    generalize hσ3:σ++[Obj.box ((Ty.mk 6 tn ts L tls ttl).cs++[w]), .box [.int .i64 10, .int .i64 n, .str s, .str t, .slice (names.map D.str), .slice (l.map Ex.d), .slice (armsD arms)]]++τ=σ3 at*
    rw [hnc] at h124 h125
    clear hσ3
    rw [hcd] at h125 h87
    generalize exsFitT p (p.data[i].cons[j].args.map (Ty.rep p.data[i].params (L.map (Ty.rep ps (mtsTy ml))))) l=v at*
    generalize p.data[i].cons[j].args.map Ty.d=ad at*
    generalize l.map Ex.d=xd at*
    rcases hwf2 with rfl| ⟨wa,rfl⟩<;>cases v<;>simp [bodyI,af81,getA0,getA,setA0,setA,c1,c2,c3,c4,h124,h125,h87,hb1,putCells,hj,hjj,hj0,hcl,h4,h5,f2,hal,hel,hle1,hle2,hloop,Nat.testBit_eq_decide_div_mod_eq]
theorem fits_top (p:Prg) (t:Ty) (x:Ex) (h:p.fitE t x=0):x.fits p (.mk t [] [])=x.fitsT p t:=by
 obtain ⟨h1,_⟩:=orE_zero.1 h
 obtain ⟨z1,z2,_,z4⟩:=tyE_zero h1
 obtain ⟨hdl,hls⟩:=decls_fit z1
 rw [Ex.fits_T hls (decls_diff z1) x (.mk t [] []) ⟨Ty.small_chk z2,z4,rfl,by simp,trivial⟩]
 simp only [Mt.ty,mtsTy,Ty.rep_nil]
set_option maxHeartbeats 4000000 in
theorem c79 (p:Prg) (hok:p.ok) (t:Ty) (ht:t.ok) (x:Ex) (hx:x.ok) (a b q c:Nat) (σ:St) (ha:σ[a]? =some (.box p.cs)) (hb:σ[b]? =some (.box t.cs)) (hq:σ[q]? =some (.box x.cs)) (hc:σ[c]? =some (.box [.bool false])):
 CI (.fn 79) [.ptr a 0, .ptr b 0, .ptr q 0, .ptr c 0] σ=some (outR (p.fitE t x),σ.set c (.box [.bool (x.fitsT p t&&p.fitE t x==0)])):=by
 obtain ⟨τ1,h55⟩:=c55 p hok.dl hok.d σ
 have hT:=lookS_T p σ τ1
 have e1:lookS p σ p.cm++τ1=σ++([.box p.cs, .map (kvs p.cm), .box (p.cs++[.map (σ.length+1)])]++τ1):=by unfold lookS;rw [List.append_assoc]
 have hb2: (lookS p σ p.cm++τ1)[b]? =some (.box t.cs):=by rw [e1];exact getO hb
 have hq2: (lookS p σ p.cm++τ1)[q]? =some (.box x.cs):=by rw [e1];exact getO hq
 have hc2: (lookS p σ p.cm++τ1)[c]? =some (.box [.bool false]):=by rw [e1];exact getO hc
 have h65:=c65 p p.cm hok t ht _ _ hT
 have h80:=fun σ=>c80 x hx σ
 have h59:=fun σ=>c59 x.chk σ
 have hpl:=p.cs_len
 have hpt:=p.cs_take
 have y1:=t.cs_len
 have y2:=t.cs_take
 have x1:=x.cs_len
 have x2:=x.cs_take
 have hcl:=lt_of_get hc
 have hid: ∀v:Bool,p.fitE t x≠0→σ.set c (.box [.bool (v&&p.fitE t x==0)])=σ:=fun v he=>by
  have hf: (v&&p.fitE t x==0)=false:=by simp [he]
  rw [hf]
  obtain ⟨h1,h2⟩:=List.getElem?_eq_some_iff.1 hc
  rw [←h2];exact List.set_getElem_self h1
 by_cases he:p.tyE t=0
 ·by_cases hx0:x.chk=0
  ·have hfe:p.fitE t x=0:=orE_zero.2 ⟨he,hx0⟩
   obtain ⟨z1,z2,_,z4⟩:=tyE_zero he
   obtain ⟨hdl,hls⟩:=decls_fit z1
   have h81:=c81 p p.cm hdl hls (decls_diff z1) (Prg.inOrder z1) (σ.length+2) x (.mk t [] []) (t.cs++[.nilptr]) (lookS p σ p.cm++τ1) hx ⟨Ty.small_chk z2,z4,rfl,by simp,trivial⟩ (Mt.at_iff.2 ⟨_,rfl, .inl ⟨rfl,rfl,rfl⟩⟩) hT
   simp only [Mt.ty,mtsTy,Ty.rep_nil] at h81
   rw [hfe]
   rw [he,outR_zero] at h65
   rw [hx0,outR_zero] at h59
   rw [hx0] at h80
   rw [outR_zero]
   have hset: ∀o,(lookS p σ p.cm++τ1).set c o=σ.set c o++([.box p.cs, .map (kvs p.cm), .box (p.cs++[.map (σ.length+1)])]++τ1):=fun o=>by
    rw [e1,setO hcl]
   have hτ:bodyI CI XB GI af79 [.ptr a 0, .ptr b 0, .ptr q 0, .ptr c 0] σ=some (.ret (.tuple []),σ.set c (.box [.bool (x.fitsT p t)])++([.box p.cs, .map (kvs p.cm), .box (p.cs++[.map (σ.length+1)])]++τ1)):=by
    rw [←hset]
    clear hset e1
    generalize x.fitsT p t=v at*
    generalize lookS p σ p.cm++τ1=σ2 at*
    generalize p.cs=pc at*
    obtain ⟨k1,n1,s1,a1,b1,t1,htc⟩: ∃k1 n1 s1 a1 b1 t1,t.cs=[.int .i64 k1, .int .i64 n1, .str s1, .slice a1, .slice b1, .int .i64 t1]:=by
     rcases t with ⟨k,n,s,l,ls,tail⟩;exact ⟨_,_,_,_,_,_,by simp only [Ty.cs];rfl⟩
    rw [htc] at hb hb2 h65 h81 y1 y2
    simp only [List.cons_append,List.nil_append] at h81
    generalize x.cs=xc at*
    simp [bodyI,af79,ha,hb,hq,hb2,hq2,hc2,hpl,hpt,y1,y2,x1,x2,h55,h65,h80,h59,h81,fillD,putCells]
   refine CI_fn tab79 hτ ?_
   rw [postI_set (by simp [Obj.under,underL,D.under]) rfl rfl]
   simp [D.weak,weakL]
  ·have hfe:p.fitE t x=x.chk:=by unfold Prg.fitE orE;rw [if_pos he]
   have hne:p.fitE t x≠0:=by rw [hfe];exact hx0
   rw [hid _ hne,hfe]
   rw [outR_ne hx0] at h59 ⊢
   rw [he,outR_zero] at h65
   refine CI_panic tab79 (τ:=[.box p.cs, .map (kvs p.cm), .box (p.cs++[.map (σ.length+1)])]++τ1) ?_ rfl
   rw [←e1]
   generalize lookS p σ p.cm++τ1=σ2 at*
   clear e1
   generalize p.cs=pc at*
   generalize t.cs=tc at*
   generalize x.cs=xc at*
   generalize x.chk=e at*
   simp [bodyI,af79,ha,hb,hq,hb2,hq2,hpl,hpt,y1,y2,x1,x2,h55,h65,h80,h59]
 ·have hfe:p.fitE t x=p.tyE t:=by unfold Prg.fitE orE;rw [if_neg he]
  have hne:p.fitE t x≠0:=by rw [hfe];exact he
  rw [hid _ hne,hfe]
  rw [outR_ne he] at h65 ⊢
  refine CI_panic tab79 (τ:=[.box p.cs, .map (kvs p.cm), .box (p.cs++[.map (σ.length+1)])]++τ1) ?_ rfl
  rw [←e1]
  generalize lookS p σ p.cm++τ1=σ2 at*
  clear e1
  generalize p.cs=pc at*
  generalize t.cs=tc at*
  generalize p.tyE t=e at*
  simp [bodyI,af79,ha,hb,hb2,hpl,hpt,y1,y2,h55,h65]
theorem c26 (p:Prg) (hok:p.ok) (t:Ty) (ht:t.ok) (x:Ex) (hx:x.ok) (σ:St):CI (.fn 26) [.agg p.cs, .agg t.cs, .agg x.cs] σ=some (.ret (.tuple [.bool (x.fitsT p t&&p.fitE t x==0), .int .i64 (p.fitE t x)]),σ):=by
 have h79:=c79 p hok t ht x hx σ.length (σ.length+1) (σ.length+2) (σ.length+3) (σ++[Obj.box p.cs, .box t.cs, .box x.cs, .box [.bool false]]++[Obj.box [.int .i64 0]]) (by rw [List.append_assoc];exact getA0) (by rw [List.append_assoc];exact getA) (by rw [List.append_assoc];exact getA) (by rw [List.append_assoc];exact getA)
 have hset: ∀o,(σ++[Obj.box p.cs, .box t.cs, .box x.cs, .box [.bool false]]++[Obj.box [.int .i64 0]]).set (σ.length+3) o=σ++[Obj.box p.cs, .box t.cs, .box x.cs,o]++[Obj.box [.int .i64 0]]:=fun o=>by
  rw [List.append_assoc,setA,List.append_assoc];rfl
 rw [hset] at h79
 have h54:=c54g 79 [] [.ptr σ.length 0, .ptr (σ.length+1) 0, .ptr (σ.length+2) 0, .ptr (σ.length+3) 0] _ (σ++[Obj.box p.cs, .box t.cs, .box x.cs, .box [.bool false]]) (σ++[Obj.box p.cs, .box t.cs, .box x.cs, .box [.bool (x.fitsT p t&&p.fitE t x==0)]]) (by simp) (fun j hj=>by
  by_cases h2:j=σ.length+3
  ·subst h2
   exact .inr ⟨_,by rw [getA];rfl,by simp [Obj.under,underL,D.under]⟩
  ·left
   rcases Nat.lt_or_ge j σ.length with hlt|hge
   ·rw [List.getElem?_append_left hlt,List.getElem?_append_left hlt]
   ·obtain ⟨i,rfl⟩: ∃i,j=σ.length+i:=⟨j - σ.length,by omega⟩
    rw [getA,getA]
    simp at hj
    match i,hj,h2 with
    |0,_,_=>rfl
    |1,_,_=>rfl
    |2,_,_=>rfl
    |3,_,h2=>omega) h79
 have hτ:bodyI CI XB GI af26 [.agg p.cs, .agg t.cs, .agg x.cs] σ=some (.ret (.tuple [.bool (x.fitsT p t&&p.fitE t x==0), .int .i64 (p.fitE t x)]),σ++[.box p.cs, .box t.cs, .box x.cs, .box [.bool (x.fitsT p t&&p.fitE t x==0)]]):=by
  have h1:=p.cs_all
  have h2:t.cs.all D.one=true:=by cases t;rfl
  have h3:=x.cs_all
  generalize p.fitE t x=e at*
  generalize p.cs=pc at*
  generalize t.cs=tc at*
  generalize x.fitsT p t=v at*
  generalize x.cs=xc at*
  cases hv: (v&&e==0)
  ·rw [hv] at h54
   simp [bodyI,af26,h1,h2,h3,h54,getA,getA0,setA,putCells]
  ·rw [hv] at h54
   have h4:e=0:=by simp at hv;exact hv.2
   subst h4
   simp [bodyI,af26,h1,h2,h3,h54,getA,getA0,setA,putCells]
 exact CI_tree tab26 hτ rfl rfl
theorem c43' (p:Prg) (hok:p.ok) (t:Ty) (ht:t.ok) (x:Ex) (hx:x.ok) (σ:St):CI (.fn 43) [.agg p.cs, .agg t.cs, .agg x.cs] σ=some (.ret (.tuple [.bool (x.fitsT p t&&p.fitE t x==0), .int .i64 (p.fitE t x)]),σ):=by
 rw [c43 p hok decls_diff t ht x hx σ]
 by_cases he:p.fitE t x=0
 ·rw [fits_top p t x he]
 ·have hb: (p.fitE t x==0)=false:=by simpa using he
  rw [hb,Bool.and_false,Bool.and_false]
theorem law8 (p:Prg) (hok:p.ok) (t:Ty) (ht:t.ok) (x:Ex) (hx:x.ok) (σ:St):CI (.fn 8) [.agg p.cs, .agg t.cs, .agg x.cs] σ=some (.ret (.bool true),σ):=by
 have h20:=fun σ=>c20 p hok t ht σ
 have h42:=fun σ=>c42' p hok t ht σ
 have h26:=fun σ=>c26 p hok t ht x hx σ
 have h43:=fun σ=>c43' p hok t ht x hx σ
 have h16:=fun σ=>k16 σ
 have hall:=p.cs_all
 have hpl:=p.cs_len
 have hpt:=p.cs_take
 have y1:=t.cs_len
 have y2:=t.cs_take
 have y3:t.cs.all D.one=true:=by cases t;rfl
 have x1:=x.cs_len
 have x2:=x.cs_take
 have x3:=x.cs_all
 have hτ:bodyI CI XB GI af8 [.agg p.cs, .agg t.cs, .agg x.cs] σ=some (.ret (.bool true),σ++[.box p.cs, .box t.cs, .box x.cs]):=by
  generalize (x.fitsT p t&&p.fitE t x==0)=v1 at*
  generalize p.fitE t x=e1 at*
  generalize (p.inh t&&p.tyE t==0)=v2 at*
  generalize p.tyE t=e2 at*
  generalize p.cs=pc at*
  generalize t.cs=tc at*
  generalize x.cs=xc at*
  simp [bodyI,af8,getA0,getA,hall,hpl,hpt,y1,y2,y3,x1,x2,x3,h20,h42,h26,h43,h16,eqD]
 exact CI_tree tab8 hτ rfl rfl
end Go.AI
