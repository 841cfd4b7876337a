/- Texts of the proof: what functions of the program compute, step by step. No conditions of its own. -/
import Derived.Test.YtgenoggafhhgfaaGreatDoorF11
import Derived.Test.YtgenoggafhhgfaaGreatDoorF8
import Derived.Test.YtgenoggafhhgfaaGreatDoorF10
set_option linter.unusedVariables false
set_option linter.unusedSimpArgs false
namespace Go.AI
open Go Go.Proofs Go.Lx
set_option maxRecDepth 100000
theorem S67_get1 {σ:St} {bl:Obj} {τ0:St} {T:Nat→Nat→Bool} (y:St): (S67 σ bl τ0 T++y)[σ.length+1]? =some bl:=by
 unfold S67;simp
theorem S67_set1 {σ:St} {bl bl':Obj} {τ0:St} {T:Nat→Nat→Bool} (y:St): (S67 σ bl τ0 T++y).set (σ.length+1) bl'=S67 σ bl' τ0 T++y:=by
 unfold S67;simp
theorem tabC_one (T:Nat→Nat→Bool): (tabC T).all D.one=true:=by
 rw [tabC_tabI,List.all_map];exact List.all_eq_true.2 fun _ _=>rfl
abbrev b67c (tb:Nat) (σ:St):Env:=[(0, .ptr tb 0),(3, .ptr σ.length 0),(4, .ptr (σ.length+1) 0)]
set_option maxHeartbeats 2000000 in
theorem rnd67_4 (p:Prg) (m:CMap) (hdl:p.data.length≤12) (hls: ∀d ∈ p.data,d.fit p) (T L:Nat→Nat→Bool) (tb:Nat) (σ:St) (hT:IsT σ tb p m) (first:Bool) (τ:St):
 ∃τ',evalI CI XB GI 67 false lp67_4 (b67c tb σ++[(5, .bool first)]) (S67 σ (.box (tabC L)) [] T++τ)=
  some (if (first|| !(tabI T==tabI L))=true then (.normal,b67c tb σ++[(5, .bool false)],S67 σ (.box (tabC T)) [] (rndGo p p.data 0 T)++τ') else (.exit 0,b67c tb σ++[(18, .bool false)],S67 σ (.box (tabC L)) [] T++τ')):=by
 obtain ⟨j,hj,_⟩:=hT
 have heq:=eqD_tab T L
 have g0:=S67_get (σ:=σ) (bl:= .box (tabC L)) (τ0:=[]) (T:=T) τ
 have g1:=S67_get1 (σ:=σ) (bl:= .box (tabC L)) (τ0:=[]) (T:=T) τ
 have lT:=tabC_len T
 have lL:=tabC_len L
 have tT: (tabC T).take 192=tabC T:=List.take_of_length_le (by omega)
 have tL: (tabC L).take 192=tabC L:=List.take_of_length_le (by omega)
 have oT:=tabC_one T
 have dL: (tabC L).drop 192=[]:=List.drop_of_length_le (by omega)
 have oL:=tabC_one L
 have hcell: ∀y,(S67 σ (.box (tabC T)) [] T++y)[tb]? =some (.box (p.cs++[.map j])):=fun y=>by unfold S67;rw [List.append_assoc];exact getO hj
 have s1:=S67_set1 (σ:=σ) (bl:= .box (tabC L)) (bl':= .box (tabC T)) (τ0:=[]) (T:=T) τ
 obtain ⟨rest,hrest⟩: ∃rest,p.cs++[D.map j]= .slice (p.data.map Dat.d)::rest:=⟨_,rfl⟩
 rw [hrest] at hcell
 obtain ⟨τ1,hit⟩:=it67_3 p m hdl T p.data hdl hls tb (.ptr (σ.length+1) 0) σ (.box (tabC T)) ⟨j,hj,by assumption⟩ τ
 have hlen: (p.data.map Dat.d).length=p.data.length:=List.length_map _
 simp only [Int.natCast_zero] at hit
 generalize p.data.map Dat.d=ld at*
 generalize S67 σ (.box (tabC T)) [] (rndGo p p.data 0 T)=σ3 at*
 generalize hb: (tabI T==tabI L)=b at*
 by_cases hc: (first|| !b)=true
 ·refine ⟨τ1, ?_⟩
  rw [if_pos hc]
  cases first
  ·have hbf:b=false:=by simpa using hc
   subst hbf
   generalize tabC T=cT at*
   generalize tabC L=cL at*
   generalize S67 σ (.box cT) [] T=σ2 at*
   generalize S67 σ (.box cL) [] T=σ1 at*
   simp [lp67_4,g0,g1,lT,lL,tT,tL,oT,oL,dL,heq,s1,hcell,hlen,putCells] at hit ⊢
   simp [hit]
  ·generalize tabC T=cT at*
   generalize tabC L=cL at*
   generalize S67 σ (.box cT) [] T=σ2 at*
   generalize S67 σ (.box cL) [] T=σ1 at*
   simp [lp67_4,g0,g1,lT,lL,tT,tL,oT,oL,dL,heq,s1,hcell,hlen,putCells] at hit ⊢
   simp [hit]
 ·refine ⟨τ, ?_⟩
  rw [if_neg hc]
  obtain ⟨rfl,rfl⟩:first=false∧b=true:=by revert hc;cases first<;>cases b<;>simp
  generalize tabC T=cT at*
  generalize tabC L=cL at*
  generalize S67 σ (.box cT) [] T=σ2 at*
  generalize S67 σ (.box cL) [] T=σ1 at*
  simp [lp67_4,g0,g1,lT,lL,tT,tL,oT,oL,heq]
end Go.AI
namespace Go.AI
section
variable {α:Type} [DecidableEq α] (L:List α) (F: (α→Bool)→α→Bool)
def leT (A B:α→Bool):Prop:= ∀x ∈ L,A x=true→B x=true
def jac:Nat→α→Bool
 |0=>fun _=>false
 |n+1=>fun x=>F (jac n) x
def upd (T:α→Bool) (x:α):α→Bool:=if F T x then fun y=>if y=x then true else T y else T
def seidel (T:α→Bool):α→Bool:=L.foldl (upd F) T
def closedT (C:α→Bool):Prop:= ∀x ∈ L,F C x=true→C x=true
variable {L F} {M: (α→Bool)→Prop} (mono: ∀A B,leT L A B→M A∨M B→ ∀x ∈ L,F A x=true→F B x=true) (m0:M fun _=>false) (ms: ∀A,M A→M fun x=>F A x)
include m0 ms in
theorem jac_M: ∀n:Nat,M (jac F n):=by
 have _h:=‹DecidableEq α›
 intro n
 induction n with
 |zero=>exact m0
 |succ n ih=>exact ms _ ih
include mono m0 ms in
theorem jac_up (n:Nat):leT L (jac F n) (jac F (n+1)):=by
 induction n with
 |zero=>intro x _ h;cases h
 |succ n ih=>intro x hx h;exact mono _ _ ih (.inl (jac_M m0 ms n)) x hx h
include mono m0 ms in
theorem jac_le {C:α→Bool} (hC:closedT L F C) (n:Nat):leT L (jac F n) C:=by
 induction n with
 |zero=>intro x _ h;cases h
 |succ n ih=>intro x hx h;exact hC x hx (mono _ _ ih (.inl (jac_M m0 ms n)) x hx h)
include mono in
theorem upd_le {C T:α→Bool} (hC:closedT L F C) (hCM:M C) (hT:leT L T C) (x:α) (hx:x ∈ L):leT L (upd F T x) C:=by
 intro y hy h
 unfold upd at h
 split at h
 ·rename_i hf
  simp only at h
  split at h
  ·rename_i he;subst he;exact hC y hy (mono _ _ hT (.inr hCM) y hy hf)
  ·exact hT y hy h
 ·exact hT y hy h
include mono in
theorem foldl_le {C:α→Bool} (hC:closedT L F C) (hCM:M C): ∀ (N:List α) (T:α→Bool),(∀x ∈ N,x ∈ L)→leT L T C→leT L (N.foldl (upd F) T) C
 | [],_,_,hT=>hT
 |x::N,T,hN,hT=>foldl_le hC hCM N _ (fun y hy=>hN y (List.mem_cons_of_mem _ hy)) (upd_le mono hC hCM hT x (hN x List.mem_cons_self))
include mono in
theorem seidel_le {C T:α→Bool} (hC:closedT L F C) (hCM:M C) (hT:leT L T C):leT L (seidel L F T) C:=foldl_le mono hC hCM L T (fun _ h=>h) hT
theorem jac_stay {n:Nat} (h:leT L (jac F (n+1)) (jac F n)):closedT L F (jac F n):=by
 have _h:=‹DecidableEq α›
 exact fun x hx hf=>h x hx hf
theorem count_lt {A B:α→Bool} : ∀ (M:List α),(∀x ∈ M,A x=true→B x=true)→(∃x ∈ M,B x=true∧A x=false)→M.countP A<M.countP B
 | [],_,⟨_,hx,_⟩=>by
  have _h:=‹DecidableEq α›
  cases hx
 |y::M,h,⟨x,hx,hb,ha⟩=>by
  have hle:M.countP A≤M.countP B:=List.countP_mono_left fun z hz hA=>h z (List.mem_cons_of_mem _ hz) hA
  rw [List.countP_cons,List.countP_cons]
  cases hx with
  |head=>simp [hb,ha];omega
  |tail _ hx=>
   have:=count_lt M (fun z hz=>h z (List.mem_cons_of_mem _ hz)) ⟨x,hx,hb,ha⟩
   have hy:=h y List.mem_cons_self
   cases h1:A y<;>cases h2:B y<;>simp_all<;>omega
include mono m0 ms in
theorem jac_grow (n:Nat): (∃m,m≤n∧closedT L F (jac F m))∨n<L.countP (jac F (n+1)):=by
 induction n with
 |zero=>
  by_cases h:leT L (jac F 1) (jac F 0)
  ·exact .inl ⟨0,Nat.le_refl _,jac_stay h⟩
  ·right
   simp only [leT,Classical.not_forall] at h
   obtain ⟨x,hx,h1,h2⟩:=h
   have:=count_lt (A:=jac F 0) (B:=jac F 1) L (fun x hx h=>jac_up mono m0 ms 0 x hx h) ⟨x,hx,h1,by simpa using h2⟩
   show 0<L.countP (jac F 1)
   omega
 |succ n ih=>
  rcases ih with ⟨m,hm,hc⟩ |hlt
  ·exact .inl ⟨m,by omega,hc⟩
  ·by_cases h:leT L (jac F (n+2)) (jac F (n+1))
   ·exact .inl ⟨n+1,Nat.le_refl _,jac_stay h⟩
   ·right
    simp only [leT,Classical.not_forall] at h
    obtain ⟨x,hx,h1,h2⟩:=h
    have:=count_lt (A:=jac F (n+1)) (B:=jac F (n+2)) L (fun x hx h=>jac_up mono m0 ms (n+1) x hx h) ⟨x,hx,h1,by simpa using h2⟩
    show n+1<L.countP (jac F (n+2))
    omega
include mono m0 ms in
theorem jac_mono {m n:Nat} (h:m≤n):leT L (jac F m) (jac F n):=by
 induction h with
 |refl=>exact fun x _ h=>h
 |step _ ih=>exact fun x hx h=>jac_up mono m0 ms _ x hx (ih x hx h)
include mono m0 ms in
theorem jac_closed {n:Nat} (hn:L.length≤n):closedT L F (jac F n):=by
 rcases jac_grow mono m0 ms L.length with ⟨m,hm,hc⟩ |hlt
 ·intro x hx hf
  have h1:=jac_le mono m0 ms hc n
  exact jac_mono mono m0 ms (Nat.le_trans hm hn) x hx (hc x hx (mono _ _ h1 (.inl (jac_M m0 ms n)) x hx hf))
 ·have:=List.countP_le_length (p:=jac F (L.length+1)) (l:=L)
  omega
theorem upd_up (T:α→Bool) (x y:α) (h:T y=true):upd F T x y=true:=by
 unfold upd
 split
 ·simp only;split<;>simp_all
 ·exact h
theorem foldl_up: ∀ (N:List α) (T:α→Bool) (y:α),T y=true→N.foldl (upd F) T y=true
 | [],_,_,h=>h
 |x::N,T,y,h=>foldl_up N _ y (upd_up T x y h)
theorem stay_closed: ∀ (N:List α) (T:α→Bool),N.foldl (upd F) T=T→ ∀x ∈ N,F T x=true→T x=true
 | [],_,_,x,hx,_=>by cases hx
 |y::N,T,hT,x,hx,hf=>by
  have hstep:upd F T y=T:=by
   funext z
   rw [Bool.eq_iff_iff]
   constructor
   ·intro h
    have:=foldl_up (F:=F) N _ z h
    rw [List.foldl_cons] at hT
    rw [hT] at this
    exact this
   ·exact upd_up T y z
  cases hx with
  |head=>
   have:upd F T y y=true:=by unfold upd;rw [if_pos hf];simp
   rw [hstep] at this
   exact this
  |tail _ hx=>
   rw [List.foldl_cons,hstep] at hT
   exact stay_closed N T hT x hx hf
include mono m0 ms in
theorem seidel_jac {T:α→Bool} {n:Nat} (hn:L.length≤n) (hle: ∀C,closedT L F C→M C→leT L T C) (hs:seidel L F T=T): ∀x ∈ L,T x=jac F n x:=by
 have hc:closedT L F T:=fun x hx hf=>stay_closed L T hs x hx hf
 intro x hx
 rw [Bool.eq_iff_iff]
 exact ⟨hle _ (jac_closed mono m0 ms hn) (jac_M m0 ms n) x hx,jac_le mono m0 ms hc n x hx⟩
end
end Go.AI
namespace Go.AI
open Go Go.Proofs Go.Lx
abbrev PT:=Nat × Nat→Bool
abbrev cur (T:PT):Nat→Nat→Bool:=fun a b=>T (a,b)
def plF (p:Prg) (T:PT) (x:Nat × Nat):Bool:=match p.data[x.1]? with
 |some d=>d.cons.any (conHas p d.params (cur T) x.2)
 |none=>false
def plGo:List Dat→Nat→List (Nat × Nat)
 | [],_=>[]
 |d::r,i=>(List.range (2 ^ d.params.length)).map (fun s=>(i,s))++plGo r (i+1)
def places (p:Prg):List (Nat × Nat):=plGo p.data 0
theorem plGo_mem (i s:Nat): ∀ (l:List Dat) (k:Nat),(i,s) ∈ plGo l k↔ ∃d,k≤i∧l[i - k]? =some d∧s<2 ^ d.params.length
 | [],k=>by simp [plGo]
 |d::r,k=>by
  rw [plGo,List.mem_append,plGo_mem i s r (k+1)]
  constructor
  ·rintro (h| ⟨e,h1,h2,h3⟩)
   ·obtain ⟨t,ht,he⟩:=List.mem_map.1 h
    cases he
    exact ⟨d,Nat.le_refl _,by simp,List.mem_range.1 ht⟩
   ·refine ⟨e,by omega, ?_,h3⟩
    rw [show i - k=(i - (k+1)) +1 by omega];simpa using h2
  ·rintro ⟨e,h1,h2,h3⟩
   by_cases hk:i=k
   ·subst hk
    rw [Nat.sub_self] at h2
    simp at h2
    subst h2
    exact .inl (List.mem_map.2 ⟨s,List.mem_range.2 h3,rfl⟩)
   ·right
    refine ⟨e,by omega, ?_,h3⟩
    rw [show i - k=(i - (k+1)) +1 by omega] at h2
    simpa using h2
theorem places_mem {p:Prg} {i s:Nat} : (i,s) ∈ places p↔ ∃d,p.data[i]? =some d∧s<2 ^ d.params.length:=by
 unfold places
 rw [plGo_mem]
 simp
theorem upd_set (p:Prg) (d:Dat) (i s:Nat) (T:PT) (h:p.data[i]? =some d):plcStep p d i (cur T) s=cur (upd (plF p) T (i,s)):=by
 unfold plcStep
 rw [conStep_fold]
 have hF:plF p T (i,s)=d.cons.any (conHas p d.params (cur T) s):=by unfold plF;rw [h]
 unfold upd
 rw [hF]
 cases d.cons.any (conHas p d.params (cur T) s)
 ·rfl
 ·funext a b
  simp only [if_true,setT,cur,Prod.mk.injEq]
theorem dtStep_upd (p:Prg) (d:Dat) (i:Nat) (h:p.data[i]? =some d): ∀ (l:List Nat) (T:PT),l.foldl (plcStep p d i) (cur T)=cur ((l.map fun s=>(i,s)).foldl (upd (plF p)) T)
 | [],_=>rfl
 |s::r,T=>by rw [List.foldl_cons,List.map_cons,List.foldl_cons,upd_set p d i s T h,dtStep_upd p d i h r]
theorem rndGo_upd (p:Prg): ∀ (l:List Dat) (k:Nat) (T:PT),(∀j d,l[j]? =some d→p.data[k+j]? =some d)→rndGo p l k (cur T)=cur ((plGo l k).foldl (upd (plF p)) T)
 | [],_,_,_=>rfl
 |d::r,k,T,h=>by
  have h0:=h 0 d (by simp)
  rw [rndGo,dtStep,dtStep_upd p d k h0,plGo,List.foldl_append]
  refine rndGo_upd p r (k+1) _ fun j e hj=> ?_
  rw [show k+1+j=k+ (j+1) by omega]
  exact h (j+1) e (by simpa using hj)
theorem rnd_seidel (p:Prg) (T:PT):rndGo p p.data 0 (cur T)=cur (seidel (places p) (plF p) T):=
 rndGo_upd p p.data 0 T fun j d h=>by rw [Nat.zero_add];exact h
def subB (s t:Nat):Prop:= ∀j,s / 2 ^ j % 2=1→t / 2 ^ j % 2=1
def MT (T:PT):Prop:= ∀i s t,subB s t→T (i,s)=true→T (i,t)=true
theorem bitsL_bit: ∀ (l:List Bool) (j:Nat),bitsL l / 2 ^ j % 2=1↔l[j]? =some true
 | [],j=>by simp [bitsL]
 |b::r,0=>by
  simp only [bitsL,Nat.pow_zero,Nat.div_one,List.getElem?_cons_zero,Option.some.injEq]
  cases b<;>simp<;>omega
 |b::r,j+1=>by
  rw [List.getElem?_cons_succ,←bitsL_bit r j]
  have:bitsL (b::r) / 2 ^ (j+1)=bitsL r / 2 ^ j:=by
   rw [Nat.pow_succ,Nat.mul_comm,←Nat.div_div_eq_div_mul]
   congr 1
   simp only [bitsL]
   split<;>omega
  rw [this]
theorem bitsL_sub {α:Type} (l:List α) (f g:α→Bool) (h: ∀x ∈ l,f x=true→g x=true):subB (bitsL (l.map f)) (bitsL (l.map g)):=by
 intro j hj
 rw [bitsL_bit] at hj ⊢
 rw [List.getElem?_map] at hj ⊢
 cases hl:l[j]? with
 |none=>rw [hl] at hj;cases hj
 |some x=>
  rw [hl] at hj
  simp only [Option.map_some,Option.some.injEq] at hj ⊢
  exact h x (List.mem_of_getElem? hl) hj
theorem has_mono (p:Prg) (params:List Bs) {A B:PT} (hAB:leT (places p) A B) (hM:MT A∨MT B) {s t:Nat} (hs:subB s t):
 ∀x:Ty,x.ord p params=0→x.has p params (cur A) s=true→x.has p params (cur B) t=true
 | .mk k n nm l ls tail,hord,h=>by
  obtain ⟨ho,hop⟩:=ord_parts hord
  have ih:=fun x (hx:x ∈ l)=>has_mono p params hAB hM hs x (hop x hx)
  simp only [Ty.has] at h ⊢
  by_cases k1:k=1
  ·rw [if_pos k1] at h ⊢
   rw [beq_iff_eq] at h ⊢
   exact hs _ h
  ·rw [if_neg k1] at h ⊢
   by_cases k6:k=6
   ·rw [if_pos k6] at h ⊢
    subst k6
    obtain ⟨i,_,hix,hil,hlen⟩:=ord_data ho
    rw [hix,tysBits_map] at h ⊢
    have hsub:=bitsL_sub l (fun x=>x.has p params (cur A) s) (fun x=>x.has p params (cur B) t) ih
    have hlt (f:Ty→Bool):bitsL (l.map f) <2 ^ p.data[i].params.length:=by
     have:=bitsL_lt (l.map f)
     rw [List.length_map] at this
     rw [hlen];exact this
    have hmem (f:Ty→Bool): (i,bitsL (l.map f)) ∈ places p:=places_mem.2 ⟨p.data[i],by rw [List.getElem?_eq_getElem hil],hlt f⟩
    rcases hM with hM|hM
    ·exact hAB _ (hmem _) (hM _ _ _ hsub h)
    ·exact hM _ _ _ hsub (hAB _ (hmem _) h)
   ·rw [if_neg k6]
termination_by x=>SizeOf.sizeOf x
decreasing_by
 have:=List.sizeOf_lt_of_mem hx
 simp only [Ty.mk.sizeOf_spec]
 omega
theorem any_mono {α:Type} (l:List α) (f g:α→Bool) (h: ∀x ∈ l,f x=true→g x=true):l.any f=true→l.any g=true:=by
 rw [List.any_eq_true,List.any_eq_true]
 rintro ⟨x,hx,hf⟩
 exact ⟨x,hx,h x hx hf⟩
theorem plF_mono2 (p:Prg) (hls: ∀d ∈ p.data,d.fit p) {A B:PT} (hAB:leT (places p) A B) (hM:MT A∨MT B) {s t:Nat} (hs:subB s t) (i:Nat) (h:plF p A (i,s)=true):plF p B (i,t)=true:=by
 unfold plF at h ⊢
 simp only at h ⊢
 cases hd:p.data[i]? with
 |none=>rw [hd] at h;cases h
 |some d=>
  rw [hd] at h
  simp only at h ⊢
  obtain ⟨_,_,hcs⟩:=hls d (List.mem_of_getElem? hd)
  refine any_mono _ _ _ (fun c hc hh=> ?_) h
  unfold conHas at hh ⊢
  rw [List.all_eq_true] at hh ⊢
  exact fun x hx=>has_mono p d.params hAB hM hs x ((hcs c hc).2 x hx).2 (hh x hx)
theorem plF_mono (p:Prg) (hls: ∀d ∈ p.data,d.fit p) (A B:PT) (hAB:leT (places p) A B) (hM:MT A∨MT B) (x:Nat × Nat) (_:x ∈ places p) (h:plF p A x=true):plF p B x=true:=
 plF_mono2 p hls hAB hM (fun _ h=>h) x.1 h
theorem MT_F (p:Prg) (hls: ∀d ∈ p.data,d.fit p) (A:PT) (hA:MT A):MT fun x=>plF p A x:=
 fun i _ _ hs h=>plF_mono2 p hls (fun _ _ h=>h) (.inl hA) hs i h
theorem MT_0:MT fun _=>false:=fun _ _ _ _ h=>by cases h
end Go.AI
namespace Go.AI
open Go Go.Proofs Go.Lx
set_option maxRecDepth 100000
structure Way (p:Prg) (T:PT):Prop where
 inn: ∀x,T x=true→x ∈ places p
 le: ∀C,closedT (places p) (plF p) C→MT C→leT (places p) T C
theorem Way.zero (p:Prg):Way p fun _=>false:=⟨fun _ h=>(by cases h),fun _ _ _ _ _ h=>(by cases h)⟩
theorem upd_inn {p:Prg} : ∀ (N:List (Nat × Nat)) (T:PT),(∀x ∈ N,x ∈ places p)→(∀x,T x=true→x ∈ places p)→ ∀x,N.foldl (upd (plF p)) T x=true→x ∈ places p
 | [],_,_,hT,x,h=>hT x h
 |y::N,T,hN,hT,x,h=>by
  refine upd_inn N _ (fun z hz=>hN z (List.mem_cons_of_mem _ hz)) (fun z hz=> ?_) x h
  unfold upd at hz
  split at hz
  ·simp only at hz
   split at hz
   ·rename_i he;subst he;exact hN _ List.mem_cons_self
   ·exact hT z hz
  ·exact hT z hz
theorem Way.next {p:Prg} (hls: ∀d ∈ p.data,d.fit p) {T:PT} (h:Way p T):Way p (seidel (places p) (plF p) T):=
 ⟨upd_inn _ _ (fun _ h=>h) h.inn,fun C hC hM=>seidel_le (plF_mono p hls) hC hM (h.le C hC hM)⟩
theorem Way.inT {p:Prg} (hdl:p.data.length≤12) (hls: ∀d ∈ p.data,d.fit p) {T:PT} (h:Way p T):inT (cur T):=by
 intro i s hx
 obtain ⟨d,hd,hs⟩:=places_mem.1 (h.inn _ hx)
 have h1:=(hls d (List.mem_of_getElem? hd)).1
 have h2:i<p.data.length:=by
  rcases Nat.lt_or_ge i p.data.length with hlt|hge
  ·exact hlt
  ·rw [List.getElem?_eq_none hge] at hd;cases hd
 have h3:2 ^ d.params.length≤2 ^ 4:=Nat.pow_le_pow_right (by omega) h1
 omega
theorem cur_inj {T U:PT} (h:cur T=cur U):T=U:=by
 funext ⟨a,b⟩;exact congrFun (congrFun h a) b
theorem Way.grow {p:Prg} {T:PT} (hne:seidel (places p) (plF p) T≠T) (hn:Way p (seidel (places p) (plF p) T)): (places p).countP T< (places p).countP (seidel (places p) (plF p) T):=by
 have hup: ∀y,T y=true→seidel (places p) (plF p) T y=true:=fun y h=>foldl_up _ _ y h
 refine count_lt _ (fun x _ h=>hup x h) ?_
 apply Classical.byContradiction
 intro hno
 apply hne
 funext x
 rw [Bool.eq_iff_iff]
 refine ⟨fun h=> ?_,hup x⟩
 apply Classical.byContradiction
 intro hf
 exact hno ⟨x,hn.inn x h,h,by simpa using hf⟩
def fillT (p:Prg):PT:=fun x=>(places p).contains x&&jac (plF p) (places p).length x
theorem Way.fill {p:Prg} (hls: ∀d ∈ p.data,d.fit p) {T:PT} (h:Way p T) (hs:seidel (places p) (plF p) T=T):T=fillT p:=by
 funext x
 unfold fillT
 cases hc: (places p).contains x
 ·rw [Bool.false_and,Bool.eq_false_iff]
  intro hx
  have:=h.inn x hx
  simp [this] at hc
 ·rw [Bool.true_and]
  exact seidel_jac (plF_mono p hls) MT_0 (MT_F p hls) (Nat.le_refl _) h.le hs x (by simpa using hc)
theorem lp67 (p:Prg) (m:CMap) (hdl:p.data.length≤12) (hls: ∀d ∈ p.data,d.fit p) (tb:Nat) (σ:St) (hT:IsT σ tb p m): ∀ (n:Nat) (T:PT) (τ:St),Way p T→(places p).length< (places p).countP T+n→
 ∃τ' L,iterI (evalI CI XB GI 67 false lp67_4) (b67c tb σ++[(5, .bool false)]) (S67 σ (.box (tabC (cur T))) [] (cur (seidel (places p) (plF p) T))++τ)=
  some (.exit 0,b67c tb σ++[(18, .bool false)],S67 σ (.box L) [] (cur (fillT p))++τ')
 |0,T,_,_,hc=>by
  have:=List.countP_le_length (p:=T) (l:=places p)
  omega
 |n+1,T,τ,hW,hc=>by
  have hW2:=hW.next hls
  obtain ⟨τ1,hr⟩:=rnd67_4 p m hdl hls (cur (seidel (places p) (plF p) T)) (cur T) tb σ hT false τ
  by_cases he:tabI (cur (seidel (places p) (plF p) T))=tabI (cur T)
  ·rw [if_neg (by simp [he])] at hr
   have hs:=cur_inj (tabI_inj (hW2.inT hdl hls) (hW.inT hdl hls) he)
   have hf:=hW.fill hls hs
   rw [hs,hf] at hr ⊢
   exact ⟨τ1,_,iterI_end hr (by simp)⟩
  ·rw [if_pos (by simpa using he),rnd_seidel] at hr
   have hne:seidel (places p) (plF p) T≠T:=fun h=>he (by rw [h])
   have hg:=Way.grow hne hW2
   rw [iterI_next hr]
   exact lp67 p m hdl hls tb σ hT n _ τ1 hW2 (by omega)
set_option maxHeartbeats 1000000 in
theorem c67 (p:Prg) (m:CMap) (hdl:p.data.length≤12) (hls: ∀d ∈ p.data,d.fit p) (tb:Nat) (σ:St) (hT:IsT σ tb p m):
 ∃τ,CI (.fn 67) [.ptr tb 0] σ=some (.ret (.ptr σ.length 0),σ++(.box (tabC (cur (fillT p)))::τ)):=by
 obtain ⟨τ1,hr⟩:=rnd67_4 p m hdl hls (cur fun _=>false) (cur fun _=>false) tb σ hT true []
 rw [if_pos (by simp),rnd_seidel] at hr
 obtain ⟨τ2,L,hit⟩:=lp67 p m hdl hls tb σ hT ((places p).length+1) (fun _=>false) τ1 (.zero p) (by omega)
 have h:=(iterI_next hr).trans hit
 rw [List.append_nil] at h
 have e1:S67 σ (.box (tabC (cur fun _=>false))) [] (cur fun _=>false)=σ++[.box z192, .box z192]:=by
  have:tabC (cur fun _=>false)=z192:=rfl
  unfold S67;rw [this]
 have e2:S67 σ (.box L) [] (cur (fillT p))++τ2=σ++(.box (tabC (cur (fillT p))):: .box L::τ2):=by unfold S67;simp
 rw [e1,e2] at h
 refine ⟨.box L::τ2, ?_⟩
 have hτ:bodyI CI XB GI af67 [.ptr tb 0] σ=some (.ret (.ptr σ.length 0),σ++(.box (tabC (cur (fillT p))):: .box L::τ2)):=by
  generalize tabC (cur (fillT p))=ct at*
  simp only [b67c,List.cons_append,List.nil_append] at h
  simp [bodyI,af67,h]
 exact CI_new (i:=0) tab67 hτ rfl
def Prg.fields (p:Prg) (s:Bs) (args:List Ty):List Ty:=match p.conOf s with
 |none=>[]
 |some (d,c)=>c.args.map (Ty.rep d.params args)
theorem conOf_mem {p:Prg} {s:Bs} {d:Dat} {c:Con} (h:p.conOf s=some (d,c)):d ∈ p.data∧c ∈ d.cons:=by
 unfold Prg.conOf at h
 cases hf:findConL s p.data 0 with
 |none=>rw [hf] at h;cases h
 |some x=>
  obtain ⟨i,k⟩:=x
  rw [hf] at h
  simp only at h
  obtain ⟨d',hd,h⟩:=Option.bind_eq_some_iff.1 h
  obtain ⟨c',hc,h⟩:=Option.map_eq_some_iff.1 h
  cases h
  exact ⟨List.mem_of_getElem? hd,List.mem_of_getElem? hc⟩
theorem decls_con {p:Prg} (h:p.decls=0) {d:Dat} (hd:d ∈ p.data) {c:Con} (hc:c ∈ d.cons):d.params.length≤4∧c.args.length≤4∧ ∀t ∈ c.args,t.chk=0:=by
 obtain ⟨hs,_⟩:=orE_zero.1 h
 obtain ⟨_,_,_,hs3,_⟩:=Prg.syn_data hs
 obtain ⟨a1,a2,_,_,a5⟩:=datE_cons (hs3 d hd)
 have:=a5 c hc
 unfold conE at this
 split at this
 ·cases this
 ·rename_i h4
  split at this
  ·refine ⟨a1,by omega,fun t ht=> ?_⟩
   unfold declE at this
   rw [firstE_zero] at this
   have h1:=this _ (List.mem_map_of_mem ht)
   unfold declE1 at h1
   split at h1
   ·assumption
   ·rename_i h2;exact absurd h1 h2
  ·cases this
theorem c54g (g:Nat) (first captured:List D) (e:Int) (σ σ':St) (hl:σ'.length=σ.length) (hk: ∀j,j<σ.length→σ'[j]? =σ[j]? ∨ ∃o,σ'[j]? =some o∧o.under σ.length) (h:CI (.fn g) (first++captured) (σ++[.box [.int .i64 0]])=some (outR e,σ'++[.box [.int .i64 0]])):
 CI (.fn 54) [.func g first captured] σ=some (.ret (.int .i64 e),σ'):=by
 have hev:evalCatch CI 154 [.func g first captured] σ=some (.ret (.int .i64 e),σ'++[.box [.int .i64 e]]):=by
  unfold evalCatch
  simp only [h]
  rw [←hl]
  by_cases he:e=0
  ·subst he
   rw [outR_zero]
   simp [getA0,setA0]
  ·rw [outR_ne he]
   simp [refD,getA0,setA0]
 exact callI_catch (ty:=154) postN ext_none rfl rfl hev (postI_same (q:=qI) (f:=54) hl hk rfl rfl)
theorem foldS_each {α β γ:Type} {step:Nat→α→β→β ⊕ γ} : ∀ (l:List α) (i:Nat) (b b':β),foldS step l i b= .inl b'→ ∀a ∈ l,∃j c c',step j a c= .inl c'
 | [],_,_,_,_,a,ha=>by cases ha
 |x::r,i,b,b',h,a,ha=>by
  simp only [foldS] at h
  cases hs:step i x b with
  |inr e=>rw [hs] at h;cases h
  |inl c=>
   rw [hs] at h
   cases ha with
   |head=>exact ⟨i,b,c,hs⟩
   |tail _ ha=>exact foldS_each r (i+1) c b' h a ha
theorem foldS_left {α β γ:Type} {step:Nat→α→β→β ⊕ γ} : ∀ (l:List α) (i:Nat) (b:β) (e:γ),foldS step l i b= .inr e→ ∃a j c,step j a c= .inr e
 | [],_,_,_,h=>by cases h
 |x::r,i,b,e,h=>by
  simp only [foldS] at h
  cases hs:step i x b with
  |inr e'=>rw [hs] at h;cases h;exact ⟨x,i,b,hs⟩
  |inl c=>rw [hs] at h;exact foldS_left r (i+1) c e h
theorem datStep_ne0 {p:Prg} {j:Nat} {d:Dat} {c:List Bs × List Bs} (h:datStep p j d c= .inr 0):False:=by
 unfold datStep at h
 split at h
 ·cases h
 ·split at h
  ·cases h
  ·rename_i z hz
   cases h
   obtain ⟨a,i,b,h⟩:=foldS_left _ _ _ _ hz
   unfold consStep at h
   split at h
   ·cases h
   ·split at h
    ·cases h
    ·rename_i hne
     exact hne (Sum.inr.inj h)
theorem decls_fit {p:Prg} (h:p.decls=0):p.data.length≤12∧ ∀d ∈ p.data,d.fit p:=by
 obtain ⟨hs,ho⟩:=orE_zero.1 h
 obtain ⟨h12,_,_,hs3,_⟩:=Prg.syn_data hs
 refine ⟨h12,fun d hd=> ?_⟩
 obtain ⟨a1,a2,_,_,_⟩:=datE_cons (hs3 d hd)
 refine ⟨a1,by omega,fun c hc=> ?_⟩
 obtain ⟨_,b2,b3⟩:=decls_con h hd hc
 refine ⟨b2,fun x hx=>⟨Ty.small_chk (b3 x hx), ?_⟩⟩
 unfold Prg.ordE at ho
 cases hf:foldS (datStep p) p.data 0 (builtins,[]) with
 |inr e=>
  rw [hf] at ho
  simp only at ho
  subst ho
  obtain ⟨a,j,c,h⟩:=foldS_left _ _ _ _ hf
  exact (datStep_ne0 h).elim
 |inl y=>
  obtain ⟨j,b,b',hst⟩:=foldS_each _ _ _ _ hf d hd
  unfold datStep at hst
  split at hst
  ·cases hst
  ·split at hst
   ·rename_i z hz
    obtain ⟨j2,e,e',hst2⟩:=foldS_each _ _ _ _ hz c hc
    unfold consStep at hst2
    split at hst2
    ·cases hst2
    ·split at hst2
     ·rename_i h0
      rw [firstE_zero] at h0
      exact h0 _ (List.mem_map_of_mem hx)
     ·cases hst2
   ·cases hst
theorem log32:Nat.log2 32=5:=by decide
def Prg.inh (p:Prg) (t:Ty):Bool:=t.has p [] (cur (fillT p)) 0
theorem tyE_zero {p:Prg} {t:Ty} (h:p.tyE t=0):p.decls=0∧t.chk=0∧t.cl tailC=true∧t.ord p []=0:=by
 unfold Prg.tyE at h
 rw [orE_zero,orE_zero] at h
 obtain ⟨h1,h2,h3⟩:=h
 split at h3
 ·rename_i hc;exact ⟨h1,h2,hc,h3⟩
 ·cases h3
set_option maxHeartbeats 2000000 in
theorem c64 (p:Prg) (hok:p.ok) (t:Ty) (ht:t.ok) (a b c:Nat) (σ:St) (ha:σ[a]? =some (.box p.cs)) (hb:σ[b]? =some (.box t.cs)) (hc:σ[c]? =some (.box [.bool false])) (hac:a≠c) (hbc:b≠c):
 CI (.fn 64) [.ptr a 0, .ptr b 0, .ptr c 0] σ=some (outR (p.tyE t),σ.set c (.box [.bool (p.inh t&&p.tyE t==0)])):=by
 obtain ⟨τ1,h55⟩:=c55 p hok.dl hok.d σ
 have hT:=lookS_T p σ τ1
 have e1:lookS p σ p.cm++τ1=σ++([.box p.cs, .map (kvs p.cm), .box (p.cs++[.map (σ.length+1)])]++τ1):=by unfold lookS;rw [List.append_assoc]
 have hb2: (lookS p σ p.cm++τ1)[b]? =some (.box t.cs):=by rw [e1];exact getO hb
 have h65:=c65 p p.cm hok t ht _ _ hT
 have hpl:=p.cs_len
 have hpt:=p.cs_take
 have y1:=t.cs_len
 have y2:=t.cs_take
 have e3:eqbL p.cs p.cs=true:=eqbL_tree _ p.plain.1
 have e4:eqbL t.cs t.cs=true:=eqbL_tree _ t.plain.1
 have q55:qI 55=false:=rfl
 have x55:XB 55=false:=rfl
 have q65:qI 65=false:=rfl
 have x65:XB 65=false:=rfl
 have q67:qI 67=false:=rfl
 have x67:XB 67=false:=rfl
 have q66:qI 66=false:=rfl
 have x66:XB 66=false:=rfl
 have hcl:=lt_of_get hc
 by_cases he:p.tyE t=0
 ·obtain ⟨z1,z2,_,z4⟩:=tyE_zero he
  obtain ⟨hdl,hls⟩:=decls_fit z1
  obtain ⟨τ2,h67⟩:=c67 p p.cm hdl hls _ _ hT
  have h66:=c66 p p.cm hdl (cur (fillT p)) [] (by simp) .empty (.inr ⟨rfl,rfl⟩) 0 (by omega) (σ.length+2) (lookS p σ p.cm++τ1).length t (Ty.small_chk z2) z4 (lookS p σ p.cm++τ1++(.box (tabC (cur (fillT p)))::τ2)) hT.app (by rw [getA0];rfl)
  rw [Int.natCast_zero] at h66
  have hb3: (lookS p σ p.cm++τ1++(.box (tabC (cur (fillT p)))::τ2))[b]? =some (.box t.cs):=getO hb2
  have hc3: (lookS p σ p.cm++τ1++(.box (tabC (cur (fillT p)))::τ2))[c]? =some (.box [.bool false]):=by rw [e1];exact getO (getO hc)
  rw [he] at h65 ⊢
  rw [outR_zero] at h65 ⊢
  have hset: ∀o,(lookS p σ p.cm++τ1++(.box (tabC (cur (fillT p)))::τ2)).set c o=σ.set c o++([.box p.cs, .map (kvs p.cm), .box (p.cs++[.map (σ.length+1)])]++τ1++(.box (tabC (cur (fillT p)))::τ2)):=fun o=>by
   rw [e1,List.append_assoc,setO hcl]
  have hτ:bodyI CI XB GI af64 [.ptr a 0, .ptr b 0, .ptr c 0] σ=some (.ret (.tuple []),σ.set c (.box [.bool (p.inh t)])++([.box p.cs, .map (kvs p.cm), .box (p.cs++[.map (σ.length+1)])]++τ1++(.box (tabC (cur (fillT p)))::τ2))):=by
   rw [←hset]
   unfold Prg.inh
   clear hset e1
   generalize t.has p [] (cur (fillT p)) 0=v at*
   generalize tabC (cur (fillT p))=ct at*
   generalize lookS p σ p.cm++τ1=σ2 at*
   generalize p.cs=pc at*
   generalize t.cs=tc at*
   generalize hσ3:σ2++(.box ct::τ2)=σ3 at*
   simp [bodyI,af64,ha,hb,hb2,hb3,hc3,e3,e4,hpl,hpt,y1,y2,h55,h65,h66,h67,putCells,q55,x55,q65,x65,q66,x66,q67,x67,log32,Nat.testBit_eq_decide_div_mod_eq]
  refine CI_fn tab64 hτ ?_
  rw [postI_set (by simp [Obj.under,underL,D.under]) rfl rfl]
  simp [D.weak,weakL]
 ·rw [outR_ne he] at h65 ⊢
  have hid:σ.set c (.box [.bool (p.inh t&&p.tyE t==0)])=σ:=by
   have hf: (p.inh t&&p.tyE t==0)=false:=by simp [he]
   rw [hf]
   obtain ⟨h1,h2⟩:=List.getElem?_eq_some_iff.1 hc
   rw [←h2];exact List.set_getElem_self h1
  rw [hid]
  refine CI_panic tab64 (τ:=[.box p.cs, .map (kvs p.cm), .box (p.cs++[.map (σ.length+1)])]++τ1) ?_ rfl
  rw [←e1]
  generalize lookS p σ p.cm++τ1=σ2 at*
  clear e1
  generalize p.cs=pc at*
  generalize t.cs=tc at*
  generalize p.tyE t=e at*
  simp [bodyI,af64,ha,hb,hb2,e3,e4,hpl,hpt,y1,y2,h55,h65,q55,x55,q65,x65]
theorem c20 (p:Prg) (hok:p.ok) (t:Ty) (ht:t.ok) (σ:St):CI (.fn 20) [.agg p.cs, .agg t.cs] σ=some (.ret (.tuple [.bool (p.inh t&&p.tyE t==0), .int .i64 (p.tyE t)]),σ):=by
 have h64:=c64 p hok t ht σ.length (σ.length+1) (σ.length+2) (σ++[Obj.box p.cs, .box t.cs, .box [.bool false]]++[Obj.box [.int .i64 0]]) (by rw [List.append_assoc];exact getA0) (by rw [List.append_assoc];exact getA) (by rw [List.append_assoc];exact getA) (by omega) (by omega)
 have hset: ∀o,(σ++[Obj.box p.cs, .box t.cs, .box [.bool false]]++[Obj.box [.int .i64 0]]).set (σ.length+2) o=σ++[Obj.box p.cs, .box t.cs,o]++[Obj.box [.int .i64 0]]:=fun o=>by
  rw [List.append_assoc,setA,List.append_assoc];rfl
 rw [hset] at h64
 have h54:=c54g 64 [] [.ptr σ.length 0, .ptr (σ.length+1) 0, .ptr (σ.length+2) 0] _ (σ++[Obj.box p.cs, .box t.cs, .box [.bool false]]) (σ++[Obj.box p.cs, .box t.cs, .box [.bool (p.inh t&&p.tyE t==0)]]) (by simp) (fun j hj=>by
  by_cases h2:j=σ.length+2
  ·subst h2
   exact .inr ⟨_,by rw [getA];rfl,by simp [Obj.under,underL,D.under]⟩
  ·left
   rcases Nat.lt_or_ge j σ.length with hlt|hge
   ·rw [List.getElem?_append_left hlt,List.getElem?_append_left hlt]
   ·obtain ⟨i,rfl⟩: ∃i,j=σ.length+i:=⟨j - σ.length,by omega⟩
    rw [getA,getA]
    simp at hj
    match i,hj,h2 with
    |0,_,_=>rfl
    |1,_,_=>rfl
    |2,_,h2=>omega) h64
 have hτ:bodyI CI XB GI af20 [.agg p.cs, .agg t.cs] σ=some (.ret (.tuple [.bool (p.inh t&&p.tyE t==0), .int .i64 (p.tyE t)]),σ++[Obj.box p.cs, .box t.cs, .box [.bool (p.inh t&&p.tyE t==0)]]):=by
  have h1:=p.cs_all
  have h2:t.cs.all D.one=true:=by cases t;rfl
  generalize p.tyE t=e at*
  generalize p.cs=pc at*
  generalize t.cs=tc at*
  generalize p.inh t=v at*
  have hee: (v&&e==0)=(if (v&&e==0)=true then e==0 else false):=by cases v<;>simp
  cases hv: (v&&e==0)
  ·rw [hv] at h54
   simp [bodyI,af20,h1,h2,h54,getA,getA0,setA,putCells]
  ·rw [hv] at h54
   have h3:e=0:=by simp at hv;exact hv.2
   subst h3
   simp [bodyI,af20,h1,h2,h54,getA,getA0,setA,putCells]
 exact CI_tree tab20 hτ rfl rfl
theorem bitsL_drop (l:List Bool) (j:Nat) (hj:j<l.length):bitsL (l.drop j)=2*bitsL (l.drop (j+1)) + (if l[j] then 1 else 0):=by
 rw [List.drop_eq_getElem_cons hj]
 simp only [bitsL]
 omega
theorem it153 (l:List Bool) (hl:l.length≤4) (r:Nat) (σ:St) (hr:σ[r]? =some (.row 1 (l.map D.bool) 0)): ∀j:Nat,j≤l.length→
 iterI (evalI CI XB GI 21 false lp153_0) [(0, .arr r l.length 0 l.length),(3, .int .i64 (bitsL (l.drop j):Nat)),(4, .int .i64 ((j:Int) - 1))] σ=some (.exit 0,[(0, .arr r l.length 0 l.length),(3, .int .i64 (bitsL l:Nat)),(4, .int .i64 (-1)),(9, .bool false)],σ)
 |0,_=>iterI_end (by simp [lp153_0]) (by simp)
 |j+1,hj=>by
  have hlt:j<l.length:=by omega
  have hb:=bitsL_lt (l.drop (j+1))
  have hb0:=bitsL_lt (l.drop j)
  rw [List.length_drop] at hb hb0
  have hp4:2 ^ (l.length - j)≤2 ^ 4:=Nat.pow_le_pow_right (by omega) (by omega)
  have hp5:2 ^ (l.length - (j+1))≤2 ^ 4:=Nat.pow_le_pow_right (by omega) (by omega)
  have hd:=bitsL_drop l j hlt
  have hw1:IntKind.i64.wrap ((j:Int) - 1)=(j:Int) - 1:=wrap_i64 (by omega) (by omega)
  have hw2:IntKind.i64.wrap (2* (bitsL (l.drop (j+1)):Int))=2* (bitsL (l.drop (j+1)):Int):=wrap_i64 (by omega) (by omega)
  have hw3:IntKind.i64.wrap (2* (bitsL (l.drop (j+1)):Int) +1)=2* (bitsL (l.drop (j+1)):Int) +1:=wrap_i64 (by omega) (by omega)
  have e1: ((j+1:Nat):Int) - 1=j:=by omega
  have h2:j< (l.map D.bool).length:=by rw [List.length_map];exact hlt
  have h3: (l.map D.bool)[j]= .bool l[j]:=List.getElem_map _
  have hlen: (l.map D.bool).length=l.length:=List.length_map _
  have hjj: (j:Int) <l.length:=by omega
  have hj0: (0:Int)≤j:=by omega
  rw [iterI_next (e':=[(0, .arr r l.length 0 l.length),(3, .int .i64 (bitsL (l.drop j):Nat)),(4, .int .i64 ((j:Int) - 1))]) (σ':=σ)]
  ·exact it153 l hl r σ hr j (by omega)
  ·rw [e1,hd]
   generalize bitsL (l.drop (j+1))=n at*
   generalize l[j]=b at*
   generalize l.map D.bool=bl at*
   cases b<;>simp [lp153_0,hr,h2,h3,hlen,hjj,hj0,hlt,hw1,hw2,hw3,arithD,intArith,IntKind.bits]
theorem c153r (l:List Bool) (hl:l.length≤4) (r:Nat) (σ:St) (hr:σ[r]? =some (.row 1 (l.map D.bool) 0)):CI (.fn 153) [.arr r l.length 0 l.length] σ=some (.ret (.int .i64 (bitsL l:Nat)),σ):=by
 have hit:=it153 l hl r σ hr l.length (Nat.le_refl _)
 rw [List.drop_length] at hit
 have hw1:IntKind.i64.wrap ((l.length:Int) - 1)=(l.length:Int) - 1:=wrap_i64 (by omega) (by omega)
 refine CI_tree0 tab153 (d:= .int .i64 (bitsL l:Nat)) ?_ rfl rfl
 have e0: ((bitsL []:Nat):Int)=0:=rfl
 rw [e0] at hit
 generalize bitsL l=n at*
 simp [bodyI,af153,hw1,hit,arithD,intArith,IntKind.bits]
def rowB (T:Nat→Nat→Bool) (i n:Nat):List D:=(List.range n).map fun s=> .bool (T i s)
def tabRows (p:Prg) (T:Nat→Nat→Bool):List D:=p.data.mapIdx fun i d=> .slice (rowB T i (2 ^ d.params.length))
theorem tabRows_get (p:Prg) (T:Nat→Nat→Bool) (i:Nat) (hi:i<p.data.length): (tabRows p T)[i]? =some (.slice (rowB T i (2 ^ p.data[i].params.length))):=by
 unfold tabRows
 rw [List.getElem?_mapIdx,List.getElem?_eq_getElem hi]
 rfl
theorem tabRows_len (p:Prg) (T:Nat→Nat→Bool): (tabRows p T).length=p.data.length:=by simp [tabRows]
theorem rowB_get (T:Nat→Nat→Bool) (i n s:Nat) (hs:s<n): (rowB T i n)[s]? =some (.bool (T i s)):=by
 unfold rowB
 rw [List.getElem?_map,List.getElem?_range hs];rfl
theorem rowB_len (T:Nat→Nat→Bool) (i n:Nat): (rowB T i n).length=n:=by simp [rowB]
theorem plainL_of: ∀ (l:List D),(∀e ∈ l,Plain e)→PlainL l
 | [],_=> .nil
 |a::r,h=> .cons (h a List.mem_cons_self) (plainL_of r fun e he=>h e (List.mem_cons_of_mem _ he))
theorem tabRows_plain (p:Prg) (T:Nat→Nat→Bool):PlainL (tabRows p T):=by
 refine plainL_of _ fun e he=> ?_
 unfold tabRows at he
 obtain ⟨i,_,rfl⟩:=List.mem_mapIdx.1 he
 exact (PlainL.map fun x _=>plain_bool _).slice
def TabD (p:Prg) (T:Nat→Nat→Bool) (σ:St) (td:D):Prop:=td= .slice (tabRows p T)∨ ∃r es,td= .arr r p.data.length 0 p.data.length∧σ[r]? =some (.row 1 es 0)∧es.length=p.data.length∧
 ∀i (hi:i<p.data.length),∃k,es[i]? =some (.arr k (2 ^ p.data[i].params.length) 0 (2 ^ p.data[i].params.length))∧σ[k]? =some (.row 1 (rowB T i (2 ^ p.data[i].params.length)) 0)
theorem TabD.app {p:Prg} {T:Nat→Nat→Bool} {σ τ:St} {td:D} (h:TabD p T σ td):TabD p T (σ++τ) td:=by
 rcases h with h| ⟨r,es,h1,h2,h3,h4⟩
 ·exact .inl h
 ·refine .inr ⟨r,es,h1,getO h2,h3,fun i hi=> ?_⟩
  obtain ⟨k,a,b⟩:=h4 i hi
  exact ⟨k,a,getO b⟩
theorem it102_0 (σ:St): ∀ (j set:Nat),j≤4→set<16→
 iterI (evalI CI XB GI 64 false lp102_0) [(3, .int .i64 set),(11, .int .i64 j)] σ=some (.exit 0,[(3, .int .i64 (set / 2 ^ j:Nat)),(11, .int .i64 0),(22, .bool false)],σ)
 |0,set,_,_=>iterI_end (by simp [lp102_0]) (by simp)
 |j+1,set,hj,hs=>by
  have ih:=it102_0 σ j (set / 2) (by omega) (by omega)
  have e:set / 2 ^ (j+1)=set / 2 / 2 ^ j:=by rw [Nat.pow_succ,Nat.mul_comm,Nat.div_div_eq_div_mul]
  rw [e,←ih]
  refine iterI_next ?_
  have hw:IntKind.i64.wrap (((set / 2:Nat):Int))=((set / 2:Nat):Int):=wrap_i64 (by omega) (by omega)
  have hq: (set:Int).tdiv 2=((set / 2:Nat):Int):=by simp
  have e1:IntKind.i64.wrap ((j:Int) +1 - 1)=j:=by rw [wrap_i64 (by omega) (by omega)];omega
  have h0: (0:Int) < (j:Int) +1:=by omega
  simp [lp102_0,arithD,intArith,IntKind.bits,h0,e1,hq,hw]
  exact ⟨wrap_i64 (by omega) (by omega),wrap_i64 (by omega) (by omega)⟩
theorem foldS_snocG {α β:Type} (g:α→β): ∀ (l:List α) (i:Nat) (b:List β),foldS (γ:=Unit) (fun _ t b=> .inl (b++[g t])) l i b= .inl (b++l.map g)
 | [],i,b=>by simp [foldS]
 |a::r,i,b=>by simp only [foldS,foldS_snocG g r];simp
set_option maxHeartbeats 4000000 in
theorem c102 (p:Prg) (hdl:p.data.length≤12) (T:Nat→Nat→Bool) (params:List Bs) (hpl:params.length≤4) (pd:D) (hpd:StrsD pd params) (set:Nat) (hset:set<16) (td:D):
 ∀ (t:Ty),t.small→t.ord p params=0→ ∀ (σ:St),TabD p T σ td→CI (.fn 102) [.agg p.cs, .agg t.cs,pd, .int .i64 set,td] σ=some (.ret (.bool (t.has p params T set)),σ)
 | .mk k n s l ls tail,hsm,hord,σ,hT=>by
  obtain ⟨hl4,_,_,hls⟩:=hsm
  obtain ⟨ho,hop⟩:=ord_parts hord
  have ih:=fun x (hx:x ∈ l) σ=>c102 p hdl T params hpl pd hpd set hset td x (tysSmall_mem hls hx) (hop x hx) σ
  obtain ⟨ld,hld,hll,hlg⟩:=opq Ty.d l
  obtain ⟨sd,hsd,hsl,hsg⟩:=opq Lab.d ls
  have hcs: (Ty.mk k n s l ls tail).cs=[.int .i64 k, .int .i64 n, .str s, .slice ld, .slice sd, .int .i64 tail]:=by simp only [Ty.cs,tysD_map,hld,hsd]
  rw [hcs]
  have hall:=p.cs_all
  have hpcl:=p.cs_len
  have hpct:=p.cs_take
  suffices h: ∃τ,bodyI CI XB GI af102 [.agg p.cs, .agg [.int .i64 k, .int .i64 n, .str s, .slice ld, .slice sd, .int .i64 tail],pd, .int .i64 set,td] σ=some (.ret (.bool ((Ty.mk k n s l ls tail).has p params T set)),σ++τ) by
   obtain ⟨τ,h⟩:=h
   exact CI_tree tab102 h rfl rfl
  simp only [Ty.has]
  by_cases k1:k=1
  ·subst k1
   obtain ⟨j,hj,hjl⟩:=indexP_lt params s (ord_param ho)
   have hpd':pd=slD params:=by
    rcases hpd with h| ⟨_,h⟩
    ·exact h
    ·rw [h] at hjl;simp at hjl
   subst hpd'
   have h152:=fun σ=>c152 params s σ (by unfold maxL;omega)
   rw [hj] at h152
   refine ⟨[.box p.cs, .box [.int .i64 1, .int .i64 n, .str s, .slice ld, .slice sd, .int .i64 tail]], ?_⟩
   rw [if_pos rfl,hj]
   have e0: ((j:Int)).toNat=j:=by omega
   rw [e0]
   have hit:=it102_0 (σ++[.box p.cs, .box [.int .i64 1, .int .i64 n, .str s, .slice ld, .slice sd, .int .i64 tail]]) j set (by omega) hset
   have hlt:set / 2 ^ j≤set:=Nat.div_le_self _ _
   generalize set / 2 ^ j=v at*
   have hw:IntKind.i64.wrap ((v:Int).tmod 2)=((v % 2:Nat):Int):=by
    rw [show (v:Int).tmod 2=((v % 2:Nat):Int) by simp [Int.tmod_eq_emod]];exact wrap_i64 (by omega) (by omega)
   have hb: (((v % 2:Nat):Int) ==1)=(v % 2==1):=by
    rw [Bool.eq_iff_iff,beq_iff_eq,beq_iff_eq];omega
   generalize p.cs=pc at*
   generalize slD params=pd at*
   simp [bodyI,af102,getA0,getA,hall,h152,hit,arithD,intArith,IntKind.bits,hw]
   exact hb
  rw [if_neg k1]
  have b1: (k==1)=false:=by simpa using k1
  by_cases k6:k=6
  rotate_left
  ·rw [if_neg k6]
   have b6: (k != 6)=true:=by simpa using k6
   refine ⟨[.box p.cs, .box [.int .i64 k, .int .i64 n, .str s, .slice ld, .slice sd, .int .i64 tail]], ?_⟩
   generalize p.cs=pc at*
   simp [bodyI,af102,getA0,getA,hall,b1,b6]
  subst k6
  rw [if_pos rfl]
  obtain ⟨τ,hit⟩:=loop_foldS (γ:=Unit) (f:=evalI CI XB GI 64 false lp102_1) l (fun j (b:List Bool)=>[(2,pd),(3, .int .i64 set),(4,td),(5, .ptr σ.length 0),(6, .ptr (σ.length+1) 0),(12, .arr (σ.length+2) b.length 0 b.length),(13, .int .i64 (j:Nat))])
   (fun b=>σ++[.box p.cs, .box [.int .i64 6, .int .i64 n, .str s, .slice ld, .slice sd, .int .i64 tail], .row 1 (b.map D.bool) 0]) (fun j b=>b.length=j) (fun _ (t:Ty) b=> .inl (b++[t.has p params T set])) (fun _=>(.ret,[])) (fun _=>[])
   (fun b=>(.exit 2,[(2,pd),(3, .int .i64 set),(4,td),(5, .ptr σ.length 0),(6, .ptr (σ.length+1) 0),(12, .arr (σ.length+2) b.length 0 b.length),(13, .int .i64 l.length),(37, .bool false)])) (by simp) (by simp)
   (fun j hj b b' hb hs=>by cases hs;simp [hb])
   (fun j hj b τ hbl=>by
     have hw:=wrap_nat (n:=j) (by omega)
     obtain ⟨h2,h3⟩:=hlg j hj
     have y1:=l[j].cs_len
     have y2:=l[j].cs_take
     have g0: (σ++[Obj.box p.cs, .box [.int .i64 6, .int .i64 n, .str s, .slice ld, .slice sd, .int .i64 tail], .row 1 (b.map D.bool) 0]++τ)[σ.length]? =some (.box p.cs):=by rw [List.append_assoc];exact getA0
     have g1: (σ++[Obj.box p.cs, .box [.int .i64 6, .int .i64 n, .str s, .slice ld, .slice sd, .int .i64 tail], .row 1 (b.map D.bool) 0]++τ)[σ.length+1]? =some (.box [.int .i64 6, .int .i64 n, .str s, .slice ld, .slice sd, .int .i64 tail]):=by rw [List.append_assoc];exact getA
     have g2: (σ++[Obj.box p.cs, .box [.int .i64 6, .int .i64 n, .str s, .slice ld, .slice sd, .int .i64 tail], .row 1 (b.map D.bool) 0]++τ)[σ.length+2]? =some (.row 1 (b.map D.bool) 0):=by rw [List.append_assoc];exact getA
     have ih:=ih l[j] (List.getElem_mem hj) (σ++[Obj.box p.cs, .box [.int .i64 6, .int .i64 n, .str s, .slice ld, .slice sd, .int .i64 tail], .row 1 (b.map D.bool) 0]++τ) hT.app.app
     have hs2: (σ++[Obj.box p.cs, .box [.int .i64 6, .int .i64 n, .str s, .slice ld, .slice sd, .int .i64 tail], .row 1 (b.map D.bool) 0]++τ).set (σ.length+2) (.row 1 (b.map D.bool++[.bool (l[j].has p params T set)]) 0)=σ++[Obj.box p.cs, .box [.int .i64 6, .int .i64 n, .str s, .slice ld, .slice sd, .int .i64 tail], .row 1 ((b++[l[j].has p params T set]).map D.bool) 0]++τ:=by
      rw [List.append_assoc,setA];simp
     have hbm: (b.map D.bool).length=b.length:=List.length_map _
     have hjj: (j:Int) <l.length:=by omega
     have hba: (b.length+1)≤140737488355328:=by omega
     have q102:qI 102=false:=rfl
     have x102:XB 102=false:=rfl
     refine ⟨τ, ?_⟩
     simp only [List.length_append,List.length_cons,List.length_nil]
     rw [←hs2]
     clear hs2
     unfold Ty.d at h3
     generalize σ++[Obj.box p.cs, .box [.int .i64 6, .int .i64 n, .str s, .slice ld, .slice sd, .int .i64 tail], .row 1 (b.map D.bool) 0]++τ=σ1 at*
     generalize b.map D.bool=bd at*
     generalize l[j].has p params T set=v at*
     generalize l[j].cs=xc at*
     generalize p.cs=pc at*
     simp [lp102_1,g0,g1,g2,hj,hjj,hw,hll,h2,h3,y1,y2,ih,rowOf,fillRow,fillD,putCells,hbm,hba,hpcl,hpct,q102,x102,Nat.testBit_eq_decide_div_mod_eq])
   (fun b τ hbl=>⟨τ,by
     have g1: (σ++[Obj.box p.cs, .box [.int .i64 6, .int .i64 n, .str s, .slice ld, .slice sd, .int .i64 tail], .row 1 (b.map D.bool) 0]++τ)[σ.length+1]? =some (.box [.int .i64 6, .int .i64 n, .str s, .slice ld, .slice sd, .int .i64 tail]):=by rw [List.append_assoc];exact getA
     generalize σ++[Obj.box p.cs, .box [.int .i64 6, .int .i64 n, .str s, .slice ld, .slice sd, .int .i64 tail], .row 1 (b.map D.bool) 0]++τ=σ1 at*
     simp [lp102_1,g1,hll]⟩) [] [] rfl
  rw [foldS_snocG,List.append_nil,List.nil_append,Int.natCast_zero] at hit
  simp only at hit
  obtain ⟨i,hi,hix,hil,hlen⟩:=ord_data ho
  have h123:=fun σ=>c123 p (by unfold maxL;omega) s σ
  simp only [hi] at h123
  rw [hix,tysBits_map]
  have hbl: (l.map fun t=>t.has p params T set).length=l.length:=List.length_map _
  rw [hbl] at hit
  have g0: (σ++[Obj.box p.cs, .box [.int .i64 6, .int .i64 n, .str s, .slice ld, .slice sd, .int .i64 tail], .row 1 ((l.map fun t=>t.has p params T set).map D.bool) 0]++τ)[σ.length]? =some (.box p.cs):=by rw [List.append_assoc];exact getA0
  have g1: (σ++[Obj.box p.cs, .box [.int .i64 6, .int .i64 n, .str s, .slice ld, .slice sd, .int .i64 tail], .row 1 ((l.map fun t=>t.has p params T set).map D.bool) 0]++τ)[σ.length+1]? =some (.box [.int .i64 6, .int .i64 n, .str s, .slice ld, .slice sd, .int .i64 tail]):=by rw [List.append_assoc];exact getA
  have g2: (σ++[Obj.box p.cs, .box [.int .i64 6, .int .i64 n, .str s, .slice ld, .slice sd, .int .i64 tail], .row 1 ((l.map fun t=>t.has p params T set).map D.bool) 0]++τ)[σ.length+2]? =some (.row 1 ((l.map fun t=>t.has p params T set).map D.bool) 0):=by rw [List.append_assoc];exact getA
  have h153:=c153r (l.map fun t=>t.has p params T set) (by omega) (σ.length+2) _ g2
  rw [hbl] at h153
  have hlt:=bitsL_lt (l.map fun t=>t.has p params T set)
  rw [hbl,←hlen] at hlt
  have hTe:=hT.app (τ:=[.box p.cs, .box [.int .i64 6, .int .i64 n, .str s, .slice ld, .slice sd, .int .i64 tail], .row 1 ((l.map fun t=>t.has p params T set).map D.bool) 0]++τ)
  rw [←List.append_assoc] at hTe
  have e0: (([]:List Bool).map D.bool)=[]:=rfl
  rw [e0] at hit
  simp only [List.length_nil] at hit
  refine ⟨[.box p.cs, .box [.int .i64 6, .int .i64 n, .str s, .slice ld, .slice sd, .int .i64 tail], .row 1 ((l.map fun t=>t.has p params T set).map D.bool) 0]++τ, ?_⟩
  rw [←List.append_assoc]
  have hrl:=rowB_len T i (2 ^ p.data[i].params.length)
  have hrg:=rowB_get T i (2 ^ p.data[i].params.length) _ hlt
  have hre:eqbL (rowB T i (2 ^ p.data[i].params.length)) (rowB T i (2 ^ p.data[i].params.length))=true:=eqbL_tree _ (by unfold rowB;exact (PlainL.map fun x _=>plain_bool _).1)
  have e3:eqbL p.cs p.cs=true:=eqbL_tree _ p.plain.1
  have q123:qI 123=true:=rfl
  have x123:XB 123=false:=rfl
  have q153:qI 153=false:=rfl
  have x153:XB 153=false:=rfl
  have hii: (i:Int) <p.data.length:=by omega
  generalize (l.map fun t=>t.has p params T set).map D.bool=bd at*
  generalize bitsL (l.map fun t=>t.has p params T set)=own at*
  rcases hTe with rfl| ⟨r,es,rfl,q1,q2,q3⟩
  ·have htl:=tabRows_len p T
   have htg:=tabRows_get p T i hil
   have hte:eqbL (tabRows p T) (tabRows p T)=true:=eqbL_tree _ (tabRows_plain p T).1
   generalize tabRows p T=tr at*
   generalize rowB T i (2 ^ p.data[i].params.length)=rw0 at*
   obtain ⟨h2,h3⟩:=List.getElem?_eq_some_iff.1 htg
   obtain ⟨h4,h5⟩:=List.getElem?_eq_some_iff.1 hrg
   generalize T i own=v at*
   generalize hσ1:σ++[Obj.box p.cs, .box [.int .i64 6, .int .i64 n, .str s, .slice ld, .slice sd, .int .i64 tail], .row 1 bd 0]++τ=σ1 at*
   have hoo: (own:Int) <rw0.length:=by omega
   have hi2: (i:Int) <tr.length:=by omega
   generalize p.cs=pc at*
   simp [bodyI,af102,getA0,getA,hall,hit,g0,g1,g2,hpcl,hpct,h123,h153,h2,h3,h4,h5,hoo,hi2,hre,hte,e3,q123,x123,q153,x153,Nat.testBit_eq_decide_div_mod_eq]
  ·obtain ⟨k,htg,hk⟩:=q3 i hil
   generalize rowB T i (2 ^ p.data[i].params.length)=rw0 at*
   generalize 2 ^ p.data[i].params.length=nn at*
   obtain ⟨h2,h3⟩:=List.getElem?_eq_some_iff.1 htg
   obtain ⟨h4,h5⟩:=List.getElem?_eq_some_iff.1 hrg
   generalize T i own=v at*
   generalize hσ1:σ++[Obj.box p.cs, .box [.int .i64 6, .int .i64 n, .str s, .slice ld, .slice sd, .int .i64 tail], .row 1 bd 0]++τ=σ1 at*
   have hoo: (own:Int) <nn:=by omega
   have hi2: (i:Int) <p.data.length:=by omega
   generalize p.cs=pc at*
   simp [bodyI,af102,getA0,getA,hall,hit,g0,g1,g2,hpcl,hpct,h123,h153,h2,h3,h4,h5,hoo,hi2,hil,hlt,q1,q2,hk,hrl,e3,q123,x123,q153,x153,Nat.testBit_eq_decide_div_mod_eq]
termination_by t=>SizeOf.sizeOf t
decreasing_by
 have:=List.sizeOf_lt_of_mem hx
 simp only [Ty.mk.sizeOf_spec]
 omega
set_option maxHeartbeats 4000000 in
theorem it154_0 (p:Prg) (hdl:p.data.length≤12) (T:Nat→Nat→Bool) (d:Dat) (hdf:d.fit p) (set:Nat) (hset:set<16) (td v5 v6 v8 v10:D) (a dq:Nat) (k:Nat) (hk:k<d.cons.length) (σ:St) (hT:TabD p T σ td) (ha:σ[a]? =some (.box p.cs)) (hd:σ[dq]? =some (.box d.cs)):
 iterI (evalI CI XB GI 84 false lp154_0) [(1,td),(2, .ptr a 0),(5,v5),(6,v6),(7, .ptr dq 0),(8,v8),(9, .int .i64 set),(10,v10),(11, .int .i64 k),(12, .bool true),(13, .int .i64 (0:Nat))] σ=
  some (.exit 6,[(1,td),(2, .ptr a 0),(5,v5),(6,v6),(7, .ptr dq 0),(8,v8),(9, .int .i64 set),(10,v10),(11, .int .i64 k),(12, .bool (conHas p d.params T set d.cons[k])),(13, .int .i64 d.cons[k].args.length),(50, .bool false)],σ):=by
 obtain ⟨hpl,hcl,hcs⟩:=hdf
 obtain ⟨hal,has⟩:=hcs d.cons[k] (List.getElem_mem hk)
 have hdc:d.cs=[.str d.name,slD d.params, .slice (d.cons.map Con.d)]:=rfl
 rw [hdc] at hd
 obtain ⟨cd,hcd,hcl2,hcg⟩:=opq Con.d d.cons
 obtain ⟨h2,h3⟩:=hcg k hk
 rw [hcd] at hd
 have hcd1:d.cons[k].d= .agg [.str d.cons[k].name, .slice (d.cons[k].args.map Ty.d)]:=by unfold Con.d Con.cs;rw [tysD_map]
 rw [hcd1] at h3
 have hpcl:=p.cs_len
 have hpct:=p.cs_take
 have hkk: (k:Int) <d.cons.length:=by omega
 unfold conHas
 generalize d.cons[k]=c at*
 obtain ⟨ad,had,hal2,hag⟩:=opq Ty.d c.args
 rw [had] at h3
 have h:=loop_find (f:=evalI CI XB GI 84 false lp154_0) (σ:=σ) c.args (fun j=>[(1,td),(2, .ptr a 0),(5,v5),(6,v6),(7, .ptr dq 0),(8,v8),(9, .int .i64 set),(10,v10),(11, .int .i64 k),(12, .bool ((c.args.take j).all fun x=>x.has p d.params T set)),(13, .int .i64 (j:Nat))]) (fun _=>false) (fun _=>(.ret,[],σ))
  (.exit 6,[(1,td),(2, .ptr a 0),(5,v5),(6,v6),(7, .ptr dq 0),(8,v8),(9, .int .i64 set),(10,v10),(11, .int .i64 k),(12, .bool ((c.args.take c.args.length).all fun x=>x.has p d.params T set)),(13, .int .i64 c.args.length),(50, .bool false)],σ) (by simp) (by simp)
  (fun j hj=>by
    have hw:=wrap_nat (n:=j) (by omega)
    obtain ⟨g2,g3⟩:=hag j hj
    have y1:=c.args[j].cs_len
    have y2:=c.args[j].cs_take
    obtain ⟨hs1,hs2⟩:=has c.args[j] (List.getElem_mem hj)
    have h102:=c102 p hdl T d.params hpl (slD d.params) (.inl rfl) set hset td c.args[j] hs1 hs2 σ hT
    have htk: (c.args.take (j+1)).all (fun x=>x.has p d.params T set)=((c.args.take j).all (fun x=>x.has p d.params T set)&&c.args[j].has p d.params T set):=by
     rw [List.take_succ_eq_append_getElem hj,List.all_append];simp
    rw [htk]
    have hjj: (j:Int) <c.args.length:=by omega
    have q102:qI 102=false:=rfl
    have x102:XB 102=false:=rfl
    unfold Ty.d at g3
    generalize (c.args.take j).all (fun x=>x.has p d.params T set)=b at*
    generalize c.args[j].has p d.params T set=v at*
    generalize c.args[j].cs=xc at*
    generalize slD d.params=pd at*
    generalize p.cs=pc at*
    cases b<;>simp [lp154_0,ha,hd,hcl2,h2,h3,hk,hkk,hal2,g2,g3,hj,hjj,hw,y1,y2,h102,hpcl,hpct,q102,x102,Nat.testBit_eq_decide_div_mod_eq])
  (by
    generalize (c.args.take c.args.length).all (fun x=>x.has p d.params T set)=b
    generalize slD d.params=pd at*
    simp [lp154_0,hd,hcl2,h2,h3,hk,hkk,hal2])
 rw [List.take_length] at h
 simp only [List.take_zero,List.all_nil] at h
 rw [h,List.findIdx?_eq_none_iff.2 (by simp)]
set_option maxHeartbeats 4000000 in
theorem it154_1 (p:Prg) (hdl:p.data.length≤12) (T:Nat→Nat→Bool) (d:Dat) (hdf:d.fit p) (set:Nat) (hset:set<16) (td v5 v6 v8:D) (a dq:Nat) (σ:St) (hT:TabD p T σ td) (ha:σ[a]? =some (.box p.cs)) (hd:σ[dq]? =some (.box d.cs)):
 iterI (evalI CI XB GI 84 false lp154_1) [(1,td),(2, .ptr a 0),(5,v5),(6,v6),(7, .ptr dq 0),(8,v8),(9, .int .i64 set),(10, .bool false),(11, .int .i64 (0:Nat))] σ=
  some (.exit 4,[(1,td),(2, .ptr a 0),(5,v5),(6,v6),(7, .ptr dq 0),(8,v8),(9, .int .i64 set),(10, .bool (d.cons.any (conHas p d.params T set))),(11, .int .i64 d.cons.length),(39, .bool false)],σ):=by
 have hcl:=hdf.2.1
 have hdc:d.cs=[.str d.name,slD d.params, .slice (d.cons.map Con.d)]:=rfl
 have hd':=hd
 rw [hdc] at hd'
 have hcl2: (d.cons.map Con.d).length=d.cons.length:=List.length_map _
 have h:=loop_find (f:=evalI CI XB GI 84 false lp154_1) (σ:=σ) d.cons (fun k=>[(1,td),(2, .ptr a 0),(5,v5),(6,v6),(7, .ptr dq 0),(8,v8),(9, .int .i64 set),(10, .bool ((d.cons.take k).any (conHas p d.params T set))),(11, .int .i64 (k:Nat))]) (fun _=>false) (fun _=>(.ret,[],σ))
  (.exit 4,[(1,td),(2, .ptr a 0),(5,v5),(6,v6),(7, .ptr dq 0),(8,v8),(9, .int .i64 set),(10, .bool ((d.cons.take d.cons.length).any (conHas p d.params T set))),(11, .int .i64 d.cons.length),(39, .bool false)],σ) (by simp) (by simp)
  (fun k hk=>by
    have hw:=wrap_nat (n:=k) (by omega)
    have hkk: (k:Int) <d.cons.length:=by omega
    have htk: (d.cons.take (k+1)).any (conHas p d.params T set)=((d.cons.take k).any (conHas p d.params T set) ||conHas p d.params T set d.cons[k]):=by
     rw [List.take_succ_eq_append_getElem hk,List.any_append];simp
    have h0:=it154_0 p hdl T d hdf set hset td v5 v6 v8 (.bool ((d.cons.take k).any (conHas p d.params T set))) a dq k hk σ hT ha hd
    rw [htk]
    simp only [Int.natCast_zero] at h0
    generalize (d.cons.take k).any (conHas p d.params T set)=b at*
    generalize conHas p d.params T set d.cons[k]=v at*
    generalize d.cons.map Con.d=cd at*
    generalize slD d.params=pd at*
    cases b<;>simp [lp154_1,hd',hcl2,hk,hkk,hw,h0])
  (by
    generalize (d.cons.take d.cons.length).any (conHas p d.params T set)=b
    generalize d.cons.map Con.d=cd at*
    generalize slD d.params=pd at*
    simp [lp154_1,hd',hcl2])
 rw [List.take_length] at h
 simp only [List.take_zero,List.any_nil] at h
 rw [h,List.findIdx?_eq_none_iff.2 (by simp)]
def rndR (p:Prg) (T:Nat→Nat→Bool):Nat→Nat→Bool:=fun i s=>plF p (fun x=>T x.1 x.2) (i,s)
theorem rndR_at (p:Prg) (T:Nat→Nat→Bool) (i s:Nat) (hi:i<p.data.length):rndR p T i s=p.data[i].cons.any (conHas p p.data[i].params T s):=by
 unfold rndR plF
 simp only [List.getElem?_eq_getElem hi]
theorem tab_len {p:Prg} {T:Nat→Nat→Bool} {σ:St} {td:D} (hT:TabD p T σ td) (i:Nat) (hi:i<p.data.length):
 (∃es,td= .slice es∧ ∃h:i<es.length,es.length=p.data.length∧ ∃rw0:List D,es[i]= .slice rw0∧rw0.length=2 ^ p.data[i].params.length)∨
 (∃r es k,td= .arr r p.data.length 0 p.data.length∧σ[r]? =some (.row 1 es 0)∧es.length=p.data.length∧ ∃h:i<es.length,es[i]= .arr k (2 ^ p.data[i].params.length) 0 (2 ^ p.data[i].params.length)):=by
 rcases hT with rfl| ⟨r,es,rfl,h2,h3,h4⟩
 ·left
  obtain ⟨h5,h6⟩:=List.getElem?_eq_some_iff.1 (tabRows_get p T i hi)
  exact ⟨_,rfl,h5,tabRows_len p T,_,h6,rowB_len ..⟩
 ·right
  obtain ⟨k,h5,_⟩:=h4 i hi
  obtain ⟨h6,h7⟩:=List.getElem?_eq_some_iff.1 h5
  exact ⟨r,es,k,rfl,h2,h3,h6,h7⟩
set_option maxHeartbeats 4000000 in
theorem it154_2 (p:Prg) (hdl:p.data.length≤12) (T:Nat→Nat→Bool) (i:Nat) (hi:i<p.data.length) (hdf:p.data[i].fit p) (td v5:D) (a:Nat) (σ:St) (hT:TabD p T σ td) (ha:σ[a]? =some (.box p.cs)):
 ∃τ,iterI (evalI CI XB GI 84 false lp154_2) [(1,td),(2, .ptr a 0),(5,v5),(6, .int .i64 i),(7, .ptr σ.length 0),(8, .arr (σ.length+1) 0 0 0),(9, .int .i64 (0:Nat))] (σ++[.box p.data[i].cs, .row 1 [] 0])=
  some (.exit 2,[(1,td),(2, .ptr a 0),(5,v5),(6, .int .i64 i),(7, .ptr σ.length 0),(8, .arr (σ.length+1) (2 ^ p.data[i].params.length) 0 (2 ^ p.data[i].params.length)),(9, .int .i64 (2 ^ p.data[i].params.length:Nat)),(32, .bool false)],σ++[.box p.data[i].cs, .row 1 (rowB (rndR p T) i (2 ^ p.data[i].params.length)) 0]++τ):=by
 have hpl:=hdf.1
 have hp4:2 ^ p.data[i].params.length≤2 ^ 4:=Nat.pow_le_pow_right (by omega) hpl
 have hl: (List.range (2 ^ p.data[i].params.length)).length=2 ^ p.data[i].params.length:=List.length_range
 have hii: (i:Int) <p.data.length:=by omega
 have hi0: (0:Int)≤i:=by omega
 have htab:=tab_len hT i hi
 obtain ⟨dc,hdc⟩: ∃dc,p.data[i].cs=dc:=⟨_,rfl⟩
 rw [hdc]
 obtain ⟨τ,hit⟩:=loop_foldS (γ:=Unit) (f:=evalI CI XB GI 84 false lp154_2) (List.range (2 ^ p.data[i].params.length)) (fun j (b:List Bool)=>[(1,td),(2, .ptr a 0),(5,v5),(6, .int .i64 i),(7, .ptr σ.length 0),(8, .arr (σ.length+1) b.length 0 b.length),(9, .int .i64 (j:Nat))])
  (fun b=>σ++[.box dc, .row 1 (b.map D.bool) 0]) (fun j b=>b.length=j) (fun _ s b=> .inl (b++[rndR p T i s])) (fun _=>(.ret,[])) (fun _=>[])
  (fun b=>(.exit 2,[(1,td),(2, .ptr a 0),(5,v5),(6, .int .i64 i),(7, .ptr σ.length 0),(8, .arr (σ.length+1) b.length 0 b.length),(9, .int .i64 (2 ^ p.data[i].params.length:Nat)),(32, .bool false)])) (by simp) (by simp)
  (fun j hj b b' hb hs=>by cases hs;simp [hb])
  (fun j hj b τ hbl=>by
    rw [hl] at hj
    have hw:=wrap_nat (n:=j) (by omega)
    rw [List.getElem_range]
    have g2: (σ++[Obj.box dc, .row 1 (b.map D.bool) 0]++τ)[σ.length+1]? =some (.row 1 (b.map D.bool) 0):=by rw [List.append_assoc];exact getA
    have h0:=it154_1 p hdl T p.data[i] hdf j (by omega) td v5 (.int .i64 i) (.arr (σ.length+1) b.length 0 b.length) a σ.length (σ++[Obj.box dc, .row 1 (b.map D.bool) 0]++τ) hT.app.app (getO (getO ha)) (by rw [List.append_assoc];rw [hdc];exact getA0)
    have hs2: (σ++[Obj.box dc, .row 1 (b.map D.bool) 0]++τ).set (σ.length+1) (.row 1 (b.map D.bool++[.bool (rndR p T i j)]) 0)=σ++[Obj.box dc, .row 1 ((b++[rndR p T i j]).map D.bool) 0]++τ:=by
     rw [List.append_assoc,setA];simp
    rw [←rndR_at p T i j hi] at h0
    have hbm: (b.map D.bool).length=b.length:=List.length_map _
    have hba: (b.length+1)≤140737488355328:=by omega
    have hjj: (j:Int) < (2 ^ p.data[i].params.length:Nat):=by omega
    refine ⟨τ, ?_⟩
    simp only [List.length_append,List.length_cons,List.length_nil]
    rw [←hs2]
    clear hs2
    simp only [Int.natCast_zero] at h0
    have gr: ∀r o,σ[r]? =some o→(σ++[Obj.box dc, .row 1 (b.map D.bool) 0]++τ)[r]? =some o:=fun r o h=>getO (getO h)
    generalize σ++[Obj.box dc, .row 1 (b.map D.bool) 0]++τ=σ1 at*
    generalize b.map D.bool=bd at*
    generalize rndR p T i j=v at*
    generalize 2 ^ p.data[i].params.length=nn at*
    rcases htab with ⟨es,rfl,h2,h3,rw0,h4,h5⟩ | ⟨r,es,k,rfl,h1,h2,h3,h4⟩
    ·have hie: (i:Int) <es.length:=by omega
     simp [lp154_2,g2,hj,hjj,hw,hi,hii,h2,h3,h4,h5,hie,h0,rowOf,fillRow,fillD,putCells,hbm,hba]
    ·have h1:=gr _ _ h1
     simp [lp154_2,g2,hj,hjj,hw,hi,hii,h1,h2,h3,h4,h0,rowOf,fillRow,fillD,putCells,hbm,hba])
  (fun b τ hbl=>⟨τ,by
    rw [hl]
    have gr: ∀r o,σ[r]? =some o→(σ++[Obj.box dc, .row 1 (b.map D.bool) 0]++τ)[r]? =some o:=fun r o h=>getO (getO h)
    generalize σ++[Obj.box dc, .row 1 (b.map D.bool) 0]++τ=σ1 at*
    generalize 2 ^ p.data[i].params.length=nn at*
    rcases htab with ⟨es,rfl,h2,h3,rw0,h4,h5⟩ | ⟨r,es,k,rfl,h1,h2,h3,h4⟩
    ·have hie: (i:Int) <es.length:=by omega
     simp [lp154_2,hi,hii,h2,h3,h4,h5,hie]
    ·have h1:=gr _ _ h1
     simp [lp154_2,hi,hii,h1,h2,h3,h4]⟩) [] [] rfl
 rw [foldS_snocG,List.append_nil,List.nil_append] at hit
 have e0: (([]:List Bool).map D.bool)=[]:=rfl
 simp only [e0,List.length_nil,List.length_map,hl,List.map_map] at hit
 exact ⟨τ,hit⟩
theorem get_snoc {α:Type} {l:List α} {a:α} {i:Nat} (h:l.length=i): (l++[a])[i]? =some a:=by subst h;simp
def Rows3 (p:Prg) (U:Nat→Nat→Bool) (b i:Nat) (es:List D) (τ:St):Prop:=es.length=i∧ ∀j (_:j<i) (hd:j<p.data.length),∃q,es[j]? =some (.arr (b+q) (2 ^ p.data[j].params.length) 0 (2 ^ p.data[j].params.length))∧τ[q]? =some (.row 1 (rowB U j (2 ^ p.data[j].params.length)) 0)
set_option maxHeartbeats 4000000 in
theorem it154_3 (p:Prg) (hdl:p.data.length≤12) (hls: ∀d ∈ p.data,d.fit p) (T:Nat→Nat→Bool) (td:D) (σ:St) (hT:TabD p T σ td): ∀ (m i:Nat),i+m=p.data.length→ ∀ (es:List D) (τ:St),Rows3 p (rndR p T) (σ.length+2) i es τ→
 ∃es' τ',Rows3 p (rndR p T) (σ.length+2) p.data.length es' τ'∧iterI (evalI CI XB GI 84 false lp154_3) [(1,td),(2, .ptr σ.length 0),(5, .arr (σ.length+1) i 0 i),(6, .int .i64 (i:Nat))] (σ++[.box p.cs, .row 1 es 0]++τ)=
  some (.exit 0,[(1,td),(2, .ptr σ.length 0),(5, .arr (σ.length+1) p.data.length 0 p.data.length),(6, .int .i64 p.data.length),(18, .bool false)],σ++[.box p.cs, .row 1 es' 0]++τ')
 |0,i,hm,es,τ,hR=>by
  obtain rfl:i=p.data.length:=by omega
  refine ⟨es,τ,hR,iterI_end ?_ (by simp)⟩
  have g0: (σ++[Obj.box p.cs, .row 1 es 0]++τ)[σ.length]? =some (.box p.cs):=by rw [List.append_assoc];exact getA0
  have hh:p.cs.head?=some (.slice (p.data.map Dat.d)):=by rw [p.cs_eq];rfl
  have hlen: (p.data.map Dat.d).length=p.data.length:=List.length_map _
  generalize σ++[Obj.box p.cs, .row 1 es 0]++τ=σ1 at*
  generalize p.data.map Dat.d=ld at*
  generalize p.cs=pc at*
  simp [lp154_3,g0,hh,hlen]
 |m+1,i,hm,es,τ,hR=>by
  have hi:i<p.data.length:=by omega
  obtain ⟨hesl,hes⟩:=hR
  obtain ⟨ld,hld,hll,hlg⟩:=opq Dat.d p.data
  obtain ⟨h2,h3⟩:=hlg i hi
  have hw:=wrap_nat (n:=i) (by omega)
  have hii: (i:Int) <p.data.length:=by omega
  have g0: (σ++[Obj.box p.cs, .row 1 es 0]++τ)[σ.length]? =some (.box p.cs):=by rw [List.append_assoc];exact getA0
  have hh:p.cs.head?=some (.slice ld):=by rw [p.cs_eq,←hld];rfl
  have hTe:TabD p T (σ++[.box p.cs, .row 1 es 0]++τ) td:=hT.app.app
  obtain ⟨τ2,hit⟩:=it154_2 p hdl T i hi (hls _ (List.getElem_mem hi)) td (.arr (σ.length+1) i 0 i) σ.length _ hTe g0
  have hdcs:p.data[i].cs=[.str p.data[i].name,slD p.data[i].params, .slice (p.data[i].cons.map Con.d)]:=rfl
  have hdd:p.data[i].d= .agg [.str p.data[i].name,slD p.data[i].params, .slice (p.data[i].cons.map Con.d)]:=rfl
  rw [hdcs] at hit
  rw [hdd] at h3
  have hrow: ∀x y:St,(σ++[Obj.box p.cs, .row 1 es 0]++τ++x++y)[σ.length+1]? =some (.row 1 es 0):=fun x y=>by simp only [List.append_assoc];exact getA
  have hset: ∀ (x y:St) (e:D),(σ++[Obj.box p.cs, .row 1 es 0]++τ++x++y).set (σ.length+1) (.row 1 (es++[e]) 0)=σ++[Obj.box p.cs, .row 1 (es++[e]) 0]++(τ++x++y):=fun x y e=>by simp only [List.append_assoc];rw [setA];rfl
  have hrow:=hrow [Obj.box [.str p.data[i].name,slD p.data[i].params, .slice (p.data[i].cons.map Con.d)], .row 1 (rowB (rndR p T) i (2 ^ p.data[i].params.length)) 0] τ2
  have hset:=hset [Obj.box [.str p.data[i].name,slD p.data[i].params, .slice (p.data[i].cons.map Con.d)], .row 1 (rowB (rndR p T) i (2 ^ p.data[i].params.length)) 0] τ2 (.arr ((σ++[Obj.box p.cs, .row 1 es 0]++τ).length+1) (2 ^ p.data[i].params.length) 0 (2 ^ p.data[i].params.length))
  have hlen1: (σ++[Obj.box p.cs, .row 1 es 0]++τ).length+1=σ.length+2+ (τ.length+1):=by simp;omega
  obtain ⟨es',τ',hR',hrest⟩:=it154_3 p hdl hls T td σ hT m (i+1) (by omega) (es++[.arr (σ.length+2+ (τ.length+1)) (2 ^ p.data[i].params.length) 0 (2 ^ p.data[i].params.length)]) (τ++[Obj.box [.str p.data[i].name,slD p.data[i].params, .slice (p.data[i].cons.map Con.d)], .row 1 (rowB (rndR p T) i (2 ^ p.data[i].params.length)) 0]++τ2) ⟨by simp [hesl],fun j hj hd=>by
   by_cases hji:j<i
   ·obtain ⟨q,a1,a2⟩:=hes j hji hd
    exact ⟨q,by rw [List.getElem?_append_left (by omega)];exact a1,getO (getO a2)⟩
   ·obtain rfl:j=i:=by omega
    exact ⟨τ.length+1,get_snoc hesl,by rw [List.append_assoc];exact getA⟩⟩
  refine ⟨es',τ',hR', ?_⟩
  rw [←hrest]
  refine iterI_next ?_
  rw [←hlen1,←hset]
  clear hset hrest hR'
  have hba: (i+1) *24≤140737488355328:=by omega
  simp only [Int.natCast_zero] at hit
  have hsl:slD p.data[i].params= .slice (p.data[i].params.map D.str):=rfl
  rw [hsl] at hit h3 hrow ⊢
  generalize p.data[i].params.map D.str=pd at*
  generalize p.data[i].cons.map Con.d=cd at*
  generalize p.data[i].name=nm at*
  generalize rowB (rndR p T) i (2 ^ p.data[i].params.length)=rw0 at*
  generalize 2 ^ p.data[i].params.length=nn at*
  generalize σ++[Obj.box p.cs, .row 1 es 0]++τ=σ1 at*
  generalize p.cs=pc at*
  simp [lp154_3,g0,hh,hi,hii,hll,h2,h3,hw,getA0,getA,setA0,setA,rowOf,fillRow,fillD,putCells,hesl,hba] at hit hrow ⊢
  simp [hit,hrow,hesl,hba,rowOf,fillRow,fillD,putCells,hw]
theorem mapM_all {α β:Type} (f:α→Option β): ∀ (l:List α) (l':List β),l.length=l'.length→(∀i (h:i<l.length) (h':i<l'.length),f l[i]=some l'[i])→l.mapM f=some l'
 | [],[],_,_=>rfl
 | [],_::_,h,_=>by simp at h
 |_::_,[],h,_=>by simp at h
 |a::r,b::s,h,hf=>by
  have h0:=hf 0 (by simp) (by simp)
  simp only [List.getElem_cons_zero] at h0
  have ih:=mapM_all f r s (by simpa using h) (fun i h1 h2=>by
   have:=hf (i+1) (by simp;omega) (by simp;omega)
   simpa using this)
  rw [List.mapM_cons,h0,ih]
  rfl
theorem strip_tab (p:Prg) (U:Nat→Nat→Bool) (σ τ:St) (pc:D) (cs:List D) (es:List D) (hR:Rows3 p U (σ.length+2) p.data.length es τ):
 strip 16 (σ++([.box cs, .row 1 es 0]++τ)) (.arr (σ.length+1) p.data.length 0 p.data.length)=some (.slice (tabRows p U))∧
  ∀i ∈ leads 16 (σ++([.box cs, .row 1 es 0]++τ)) (.arr (σ.length+1) p.data.length 0 p.data.length),σ.length≤i:=by
 obtain ⟨hl,hes⟩:=hR
 have hg: (σ++([Obj.box cs, .row 1 es 0]++τ))[σ.length+1]? =some (.row 1 es 0):=getA
 have hk: ∀q,(σ++([Obj.box cs, .row 1 es 0]++τ))[σ.length+2+q]? =τ[q]? :=fun q=>by
  rw [Nat.add_assoc,getA];exact getA (σ:=[Obj.box cs, .row 1 es 0]) (i:=q)
 have hrow:rowOf (σ++([Obj.box cs, .row 1 es 0]++τ)) (.arr (σ.length+1) p.data.length 0 p.data.length)=some es:=by
  simp [rowOf,hg,hl]
  rw [List.take_of_length_le (by omega)]
 have he: ∀j (h:j<es.length),∃q,es[j]= .arr (σ.length+2+q) (2 ^ (p.data[j]'(by omega)).params.length) 0 (2 ^ (p.data[j]'(by omega)).params.length)∧(σ++([Obj.box cs, .row 1 es 0]++τ))[σ.length+2+q]? =some (.row 1 (rowB U j (2 ^ (p.data[j]'(by omega)).params.length)) 0):=fun j h=>by
  obtain ⟨q,a1,a2⟩:=hes j (by omega) (by omega)
  obtain ⟨_,a3⟩:=List.getElem?_eq_some_iff.1 a1
  exact ⟨q,a3,(hk q).trans a2⟩
 have hst: ∀j (h:j<es.length),strip 15 (σ++([Obj.box cs, .row 1 es 0]++τ)) es[j]=some (.slice (rowB U j (2 ^ (p.data[j]'(by omega)).params.length)))∧ ∀i ∈ leads 15 (σ++([Obj.box cs, .row 1 es 0]++τ)) es[j],σ.length≤i:=fun j h=>by
  obtain ⟨q,a1,a2⟩:=he j h
  obtain ⟨s1,s2⟩:=strip_row a2 (by omega) (show treeL (rowB U j _)=true from (PlainL.map fun x _=>plain_bool _).1) 14
  rw [rowB_len] at s1 s2
  rw [a1,s1,s2]
  exact ⟨rfl,fun i hi=>by simp at hi;omega⟩
 constructor
 ·unfold strip
  simp only [D.tree,Bool.false_eq_true,if_false,hrow]
  rw [mapM_all _ es (tabRows p U) (by rw [hl,tabRows_len]) fun j h1 h2=>by
   rw [(hst j h1).1]
   have:=tabRows_get p U j (by omega)
   obtain ⟨_,h3⟩:=List.getElem?_eq_some_iff.1 this
   rw [h3]]
  rfl
 ·unfold leads
  simp only [D.tree,Bool.false_eq_true,if_false,hrow]
  intro i hi
  rcases List.mem_cons.1 hi with rfl|hi
  ·omega
  ·obtain ⟨e,he1,he2⟩:=List.mem_flatMap.1 hi
   obtain ⟨j,hj,rfl⟩:=List.getElem_of_mem he1
   exact (hst j hj).2 i he2
theorem c154 (p:Prg) (hdl:p.data.length≤12) (hls: ∀d ∈ p.data,d.fit p) (T:Nat→Nat→Bool) (td:D) (σ:St) (hT:TabD p T σ td):
 CI (.fn 154) [.agg p.cs,td] σ=some (.ret (.slice (tabRows p (rndR p T))),σ):=by
 obtain ⟨es,τ,hR,hit⟩:=it154_3 p hdl hls T td σ hT p.data.length 0 (by omega) [] [] ⟨rfl,fun j hj=>by omega⟩
 have hτ:bodyI CI XB GI af154 [.agg p.cs,td] σ=some (.ret (.arr (σ.length+1) p.data.length 0 p.data.length),σ++([.box p.cs, .row 1 es 0]++τ)):=by
  have hall:=p.cs_all
  rw [←List.append_assoc]
  simp only [Int.natCast_zero,List.append_nil] at hit
  generalize σ++[Obj.box p.cs, .row 1 es 0]++τ=σ2 at*
  generalize p.cs=pc at*
  simp [bodyI,af154,hall,hit]
 refine CI_fn tab154 hτ ?_
 obtain ⟨s1,s2⟩:=strip_tab p (rndR p T) σ τ .any p.cs es hR
 rw [postI_rows s1 s2]
 have:=(tabRows_plain p (rndR p T)).slice.2
 rw [this]
theorem it103_0 (p:Prg) (i:Nat) (hi:i<p.data.length) (hdl:p.data.length≤12) (hpl:p.data[i].params.length≤4) (v3 v4:D) (a:Nat) (σ:St) (ha:σ[a]? =some (.box p.cs)):
 iterI (evalI CI XB GI 46 false lp103_0) [(1, .ptr a 0),(3,v3),(4,v4),(5, .int .i64 i),(6, .int .i64 1),(7, .int .i64 (0:Nat))] σ=
  some (.exit 2,[(1, .ptr a 0),(3,v3),(4,v4),(5, .int .i64 i),(6, .int .i64 (2 ^ p.data[i].params.length:Nat)),(7, .int .i64 p.data[i].params.length),(24, .bool false)],σ):=by
 obtain ⟨ld,hld,hll,hlg⟩:=opq Dat.d p.data
 obtain ⟨h2,h3⟩:=hlg i hi
 have hii: (i:Int) <p.data.length:=by omega
 have hh:p.cs.head?=some (.slice ld):=by rw [p.cs_eq,←hld];rfl
 have hdd:p.data[i].d= .agg [.str p.data[i].name, .slice (p.data[i].params.map D.str), .slice (p.data[i].cons.map Con.d)]:=rfl
 rw [hdd] at h3
 generalize p.data[i]=d at*
 have hpn: (d.params.map D.str).length=d.params.length:=List.length_map _
 have h:=loop_find (f:=evalI CI XB GI 46 false lp103_0) (σ:=σ) d.params (fun k=>[(1, .ptr a 0),(3,v3),(4,v4),(5, .int .i64 i),(6, .int .i64 (2 ^ k:Nat)),(7, .int .i64 (k:Nat))]) (fun _=>false) (fun _=>(.ret,[],σ))
  (.exit 2,[(1, .ptr a 0),(3,v3),(4,v4),(5, .int .i64 i),(6, .int .i64 (2 ^ d.params.length:Nat)),(7, .int .i64 d.params.length),(24, .bool false)],σ) (by simp) (by simp)
  (fun k hk=>by
    have hw:=wrap_nat (n:=k) (by omega)
    have hkk: (k:Int) <d.params.length:=by omega
    have hp4:2 ^ k≤2 ^ 4:=Nat.pow_le_pow_right (by omega) (by omega)
    have hw2:IntKind.i64.wrap (2* ((2 ^ k:Nat):Int))=((2 ^ (k+1):Nat):Int):=by
     rw [Nat.pow_succ]
     generalize 2 ^ k=n0 at*
     rw [wrap_i64 (by omega) (by omega)];omega
    generalize 2 ^ (k+1)=n1 at*
    generalize 2 ^ k=n0 at*
    generalize d.params.map D.str=pd at*
    generalize d.cons.map Con.d=cd at*
    generalize p.cs=pc at*
    simp [lp103_0,ha,hh,hll,h2,h3,hi,hii,hpn,hk,hkk,hw,hw2,arithD,intArith,IntKind.bits])
  (by
    generalize d.params.map D.str=pd at*
    generalize d.cons.map Con.d=cd at*
    generalize 2 ^ d.params.length=n0 at*
    generalize p.cs=pc at*
    simp [lp103_0,ha,hh,hll,h2,h3,hi,hii,hpn])
 have e0: ((2 ^ 0:Nat):Int)=1:=rfl
 rw [e0] at h
 rw [h,List.findIdx?_eq_none_iff.2 (by simp)]
def cntP (p:Prg) (i:Nat):Nat:=((p.data.take i).map fun d=>2 ^ d.params.length).sum
theorem cntP_succ (p:Prg) (i:Nat) (hi:i<p.data.length):cntP p (i+1)=cntP p i+2 ^ p.data[i].params.length:=by
 unfold cntP
 rw [List.take_succ_eq_append_getElem hi,List.map_append,List.sum_append];simp
theorem plGo_len: ∀ (l:List Dat) (k:Nat),(plGo l k).length=(l.map fun d=>2 ^ d.params.length).sum
 | [],_=>rfl
 |d::r,k=>by simp only [plGo,List.length_append,List.length_map,List.length_range,plGo_len r,List.map_cons,List.sum_cons]
theorem cntP_all (p:Prg):cntP p p.data.length=(places p).length:=by
 unfold cntP places;rw [plGo_len,List.take_length]
theorem rowB_false (i n:Nat):List.replicate n (D.bool false)=rowB (fun _ _=>false) i n:=by
 unfold rowB;rw [List.map_const',List.length_range]
set_option maxHeartbeats 4000000 in
theorem it103_1 (p:Prg) (hdl:p.data.length≤12) (hls: ∀d ∈ p.data,d.fit p) (σ:St): ∀ (m i:Nat),i+m=p.data.length→cntP p i≤16*i→ ∀ (es:List D) (τ:St),Rows3 p (fun _ _=>false) (σ.length+2) i es τ→
 ∃es' τ',Rows3 p (fun _ _=>false) (σ.length+2) p.data.length es' τ'∧cntP p p.data.length≤192∧iterI (evalI CI XB GI 46 false lp103_1) [(1, .ptr σ.length 0),(3, .arr (σ.length+1) i 0 i),(4, .int .i64 (cntP p i:Nat)),(5, .int .i64 (i:Nat))] (σ++[.box p.cs, .row 1 es 0]++τ)=
  some (.exit 0,[(1, .ptr σ.length 0),(3, .arr (σ.length+1) p.data.length 0 p.data.length),(4, .int .i64 (cntP p p.data.length:Nat)),(5, .int .i64 p.data.length),(13, .bool false)],σ++[.box p.cs, .row 1 es' 0]++τ')
 |0,i,hm,hc,es,τ,hR=>by
  obtain rfl:i=p.data.length:=by omega
  refine ⟨es,τ,hR,by omega,iterI_end ?_ (by simp)⟩
  have g0: (σ++[Obj.box p.cs, .row 1 es 0]++τ)[σ.length]? =some (.box p.cs):=by rw [List.append_assoc];exact getA0
  have hh:p.cs.head?=some (.slice (p.data.map Dat.d)):=by rw [p.cs_eq];rfl
  have hlen: (p.data.map Dat.d).length=p.data.length:=List.length_map _
  generalize σ++[Obj.box p.cs, .row 1 es 0]++τ=σ1 at*
  generalize p.data.map Dat.d=ld at*
  generalize p.cs=pc at*
  simp [lp103_1,g0,hh,hlen]
 |m+1,i,hm,hc,es,τ,hR=>by
  have hi:i<p.data.length:=by omega
  obtain ⟨hesl,hes⟩:=hR
  have hpl:=(hls _ (List.getElem_mem hi)).1
  have hp4:2 ^ p.data[i].params.length≤2 ^ 4:=Nat.pow_le_pow_right (by omega) hpl
  have hcs:=cntP_succ p i hi
  have hw:=wrap_nat (n:=i) (by omega)
  have hii: (i:Int) <p.data.length:=by omega
  have g0: (σ++[Obj.box p.cs, .row 1 es 0]++τ)[σ.length]? =some (.box p.cs):=by rw [List.append_assoc];exact getA0
  have hh:p.cs.head?=some (.slice (p.data.map Dat.d)):=by rw [p.cs_eq];rfl
  have hlen: (p.data.map Dat.d).length=p.data.length:=List.length_map _
  have hit:=it103_0 p i hi hdl hpl (.arr (σ.length+1) i 0 i) (.int .i64 (cntP p i:Nat)) σ.length _ g0
  have hrow: ∀x:St,(σ++[Obj.box p.cs, .row 1 es 0]++τ++x)[σ.length+1]? =some (.row 1 es 0):=fun x=>by simp only [List.append_assoc];exact getA
  have hset: ∀ (x:St) (e:D),(σ++[Obj.box p.cs, .row 1 es 0]++τ++x).set (σ.length+1) (.row 1 (es++[e]) 0)=σ++[Obj.box p.cs, .row 1 (es++[e]) 0]++(τ++x):=fun x e=>by simp only [List.append_assoc];rw [setA];rfl
  have hrow:=hrow [.row 1 (List.replicate (2 ^ p.data[i].params.length) (.bool false)) 0]
  have hset:=hset [.row 1 (List.replicate (2 ^ p.data[i].params.length) (.bool false)) 0] (.arr (σ++[Obj.box p.cs, .row 1 es 0]++τ).length (2 ^ p.data[i].params.length) 0 (2 ^ p.data[i].params.length))
  have hlen1: (σ++[Obj.box p.cs, .row 1 es 0]++τ).length=σ.length+2+τ.length:=by simp;omega
  obtain ⟨es',τ',hR',hc',hrest⟩:=it103_1 p hdl hls σ m (i+1) (by omega) (by omega) (es++[.arr (σ.length+2+τ.length) (2 ^ p.data[i].params.length) 0 (2 ^ p.data[i].params.length)]) (τ++[.row 1 (List.replicate (2 ^ p.data[i].params.length) (.bool false)) 0]) ⟨by simp [hesl],fun j hj hd=>by
   by_cases hji:j<i
   ·obtain ⟨q,a1,a2⟩:=hes j hji hd
    exact ⟨q,by rw [List.getElem?_append_left (by omega)];exact a1,getO a2⟩
   ·obtain rfl:j=i:=by omega
    exact ⟨τ.length,get_snoc hesl,by rw [←rowB_false];simp⟩⟩
  refine ⟨es',τ',hR',hc', ?_⟩
  rw [←hrest]
  refine iterI_next ?_
  rw [←hlen1,←hset]
  clear hset hrest hR'
  have hba: (i+1) *24≤140737488355328:=by omega
  have hwc:IntKind.i64.wrap ((cntP p i:Nat) + ((2 ^ p.data[i].params.length:Nat):Int))=((cntP p (i+1):Nat):Int):=by
   rw [wrap_i64 (by omega) (by omega)];omega
  have hnb: (2 ^ p.data[i].params.length:Nat)≤140737488355328:=by omega
  simp only [Int.natCast_zero] at hit
  generalize 2 ^ p.data[i].params.length=nn at*
  generalize cntP p (i+1)=c1 at*
  generalize cntP p i=c0 at*
  generalize σ++[Obj.box p.cs, .row 1 es 0]++τ=σ1 at*
  generalize p.data.map Dat.d=ld at*
  generalize p.cs=pc at*
  simp [lp103_1,g0,hh,hlen,hi,hii,hit,hrow,hesl,hba,hnb,rowOf,fillRow,fillD,putCells,hw,hwc,arithD,intArith,IntKind.bits]
def rR (p:Prg) (n:Nat):Nat→Nat→Bool:=cur (jac (plF p) n)
theorem rR_succ (p:Prg) (n:Nat):rndR p (rR p n)=rR p (n+1):=rfl
theorem it103_2 (p:Prg) (hdl:p.data.length≤12) (hls: ∀d ∈ p.data,d.fit p) (N:Nat) (hN:N≤192) (a:Nat) (σ:St) (ha:σ[a]? =some (.box p.cs)): ∀ (m j:Nat),j+m=N→ ∀ (td:D),TabD p (rR p j) σ td→
 ∃td',(td'= .slice (tabRows p (rR p N))∨m=0∧td'=td)∧iterI (evalI CI XB GI 46 false lp103_2) [(1, .ptr a 0),(3,td),(4, .int .i64 N),(8, .int .i64 (j:Nat))] σ=some (.exit 4,[(1, .ptr a 0),(3,td'),(4, .int .i64 N),(8, .int .i64 N),(39, .bool false)],σ)
 |0,j,hm,td,_=>by
  obtain rfl:j=N:=by omega
  exact ⟨td, .inr ⟨rfl,rfl⟩,iterI_end (by simp [lp103_2]) (by simp)⟩
 |m+1,j,hm,td,hT=>by
  have h154:=c154 p hdl hls (rR p j) td σ hT
  rw [rR_succ] at h154
  have hw:=wrap_nat (n:=j) (by omega)
  have hjj: (j:Int) <N:=by omega
  have hj:j<N:=by omega
  have hpcl:=p.cs_len
  have hpct:=p.cs_take
  obtain ⟨td',h1,h2⟩:=it103_2 p hdl hls N hN a σ ha m (j+1) (by omega) (.slice (tabRows p (rR p (j+1)))) (.inl rfl)
  refine ⟨td', .inl ?_, ?_⟩
  ·rcases h1 with h1| ⟨h0,h1⟩
   ·exact h1
   ·subst h0
    obtain rfl:j+1=N:=by omega
    exact h1
  ·rw [←h2]
   refine iterI_next ?_
   generalize tabRows p (rR p (j+1))=tr at*
   generalize p.cs=pc at*
   simp [lp103_2,ha,hj,hjj,hw,hpcl,hpct,h154]
theorem c103 (p:Prg) (hdl:p.data.length≤12) (hls: ∀d ∈ p.data,d.fit p) (σ:St):CI (.fn 103) [.agg p.cs] σ=some (.ret (.slice (tabRows p (rR p (places p).length))),σ):=by
 obtain ⟨es,τ,hR,hc,hit⟩:=it103_1 p hdl hls σ p.data.length 0 (by omega) (by simp [cntP]) [] [] ⟨rfl,fun j hj=>by omega⟩
 have ec:cntP p 0=0:=by simp [cntP]
 rw [cntP_all] at hc hit
 rw [ec] at hit
 simp only [Int.natCast_zero,List.append_nil] at hit
 have g0: (σ++[Obj.box p.cs, .row 1 es 0]++τ)[σ.length]? =some (.box p.cs):=by rw [List.append_assoc];exact getA0
 have hT:TabD p (rR p 0) (σ++[Obj.box p.cs, .row 1 es 0]++τ) (.arr (σ.length+1) p.data.length 0 p.data.length):=by
  refine .inr ⟨_,es,rfl,by rw [List.append_assoc];exact getA,hR.1,fun i hi=> ?_⟩
  obtain ⟨q,a1,a2⟩:=hR.2 i hi hi
  refine ⟨_,a1, ?_⟩
  rw [List.append_assoc,Nat.add_assoc,getA]
  exact (getA (σ:=[Obj.box p.cs, .row 1 es 0]) (i:=q)).trans a2
 obtain ⟨td',h1,h2⟩:=it103_2 p hdl hls (places p).length (by omega) σ.length _ g0 (places p).length 0 (by omega) _ hT
 have hτ:bodyI CI XB GI af103 [.agg p.cs] σ=some (.ret td',σ++([.box p.cs, .row 1 es 0]++τ)):=by
  have hall:=p.cs_all
  rw [←List.append_assoc]
  simp only [Int.natCast_zero] at h2
  generalize σ++[Obj.box p.cs, .row 1 es 0]++τ=σ2 at*
  generalize p.cs=pc at*
  simp [bodyI,af103,hall,hit,h2]
 have hp:=tabRows_plain p (rR p (places p).length)
 rcases h1 with rfl| ⟨h0,rfl⟩
 ·exact CI_tree tab103 hτ hp.slice.1 hp.slice.2
 ·refine CI_fn tab103 hτ ?_
  obtain ⟨s1,s2⟩:=strip_tab p (fun _ _=>false) σ τ .any p.cs es hR
  rw [postI_rows s1 s2,h0]
  have:=(tabRows_plain p (fun _ _=>false)).slice.2
  rw [this]
  rfl
def Prg.inhR (p:Prg) (t:Ty):Bool:=t.has p [] (rR p (places p).length) 0
set_option maxHeartbeats 1000000 in
theorem c42 (p:Prg) (hok:p.ok) (t:Ty) (ht:t.ok) (σ:St):CI (.fn 42) [.agg p.cs, .agg t.cs] σ=some (.ret (.tuple [.bool (p.inhR t&&p.tyE t==0), .int .i64 (p.tyE t)]),σ):=by
 have h23:=fun σ=>c23 p hok t ht σ
 have hall:=p.cs_all
 have hpl:=p.cs_len
 have hpt:=p.cs_take
 have y1:=t.cs_len
 have y2:=t.cs_take
 have y3:t.cs.all D.one=true:=by cases t;rfl
 have e3:eqbL p.cs p.cs=true:=eqbL_tree _ p.plain.1
 have e4:eqbL t.cs t.cs=true:=eqbL_tree _ t.plain.1
 by_cases he:p.tyE t=0
 ·obtain ⟨z1,z2,_,z4⟩:=tyE_zero he
  obtain ⟨hdl,hls⟩:=decls_fit z1
  have h103:=fun σ=>c103 p hdl hls σ
  have h102:=fun σ=>c102 p hdl (rR p (places p).length) [] (by simp) .empty (.inr ⟨rfl,rfl⟩) 0 (by omega) (.slice (tabRows p (rR p (places p).length))) t (Ty.small_chk z2) z4 σ (.inl rfl)
  rw [he] at h23 ⊢
  have hτ:bodyI CI XB GI af42 [.agg p.cs, .agg t.cs] σ=some (.ret (.tuple [.bool (p.inhR t), .int .i64 0]),σ++[.box p.cs, .box t.cs]):=by
   unfold Prg.inhR
   simp only [Int.natCast_zero] at h102
   have q103:qI 103=false:=rfl
   have x103:XB 103=false:=rfl
   have q102:qI 102=false:=rfl
   have x102:XB 102=false:=rfl
   generalize t.has p [] (rR p (places p).length) 0=v at*
   generalize tabRows p (rR p (places p).length)=tr at*
   generalize p.cs=pc at*
   generalize t.cs=tc at*
   simp [bodyI,af42,getA0,getA,hall,hpl,hpt,y1,y2,y3,e3,e4,h23,h103,h102,q103,x103,q102,x102,Nat.testBit_eq_decide_div_mod_eq]
  have:=CI_tree tab42 hτ rfl rfl
  rw [this]
  simp
 ·have hn: (p.tyE t != 0)=true:=by simpa using he
  have hf: (p.inhR t&&p.tyE t==0)=false:=by simp [he]
  rw [hf]
  have hτ:bodyI CI XB GI af42 [.agg p.cs, .agg t.cs] σ=some (.ret (.tuple [.bool false, .int .i64 (p.tyE t)]),σ++[.box p.cs, .box t.cs]):=by
   generalize p.tyE t=e at*
   generalize p.cs=pc at*
   generalize t.cs=tc at*
   simp [bodyI,af42,getA0,getA,hall,hpl,hpt,y1,y2,y3,h23,hn]
  exact CI_tree tab42 hτ rfl rfl
theorem inh_same (p:Prg) (t:Ty) (h:p.tyE t=0):p.inh t=p.inhR t:=by
 obtain ⟨z1,_,_,z4⟩:=tyE_zero h
 obtain ⟨_,hls⟩:=decls_fit z1
 have hM:MT (jac (plF p) (places p).length):=jac_M (F:=plF p) MT_0 (MT_F p hls) _
 have h1:leT (places p) (fillT p) (jac (plF p) (places p).length):=fun x _ hf=>by
  unfold fillT at hf
  rw [Bool.and_eq_true] at hf
  exact hf.2
 have h2:leT (places p) (jac (plF p) (places p).length) (fillT p):=fun x hx hf=>by
  unfold fillT
  rw [Bool.and_eq_true]
  exact ⟨by simpa using hx,hf⟩
 rw [Bool.eq_iff_iff]
 exact ⟨has_mono p [] h1 (.inr hM) (fun _ h=>h) t z4,has_mono p [] h2 (.inl hM) (fun _ h=>h) t z4⟩
theorem c42' (p:Prg) (hok:p.ok) (t:Ty) (ht:t.ok) (σ:St):CI (.fn 42) [.agg p.cs, .agg t.cs] σ=some (.ret (.tuple [.bool (p.inh t&&p.tyE t==0), .int .i64 (p.tyE t)]),σ):=by
 rw [c42 p hok t ht σ]
 by_cases he:p.tyE t=0
 ·rw [inh_same p t he]
 ·have hb: (p.tyE t==0)=false:=by simpa using he
  rw [hb,Bool.and_false,Bool.and_false]
inductive Mt where
 |mk (t:Ty) (ps:List Bs) (l:List Mt)
mutual
def Mt.cs:Mt→List D
 | .mk t ps l=>t.cs++[slD ps, .slice (mtsD l)]
def mtsD:List Mt→List D
 | []=>[]
 |m::r=> .agg m.cs::mtsD r
end
def Mt.d (m:Mt):D:= .agg m.cs
theorem mtsD_map: ∀ (l:List Mt),mtsD l=l.map Mt.d
 | []=>rfl
 |m::r=>by rw [mtsD,mtsD_map r];rfl
mutual
theorem Mt.plainL: ∀m:Mt,PlainL m.cs
 | .mk t ps l=> .app t.plain (.cons (plain_strs _) (.cons (mts_plain l).slice .nil))
theorem mts_plain: ∀l:List Mt,PlainL (mtsD l)
 | []=> .nil
 |m::r=> .cons m.plainL.agg (mts_plain r)
end
theorem Mt.cs_len (m:Mt):m.cs.length=8:=by
 rcases m with ⟨t,ps,l⟩
 simp [Mt.cs,t.cs_len]
def inner (ps:List Bs) (l:List Mt) (ts:List Ty):List Mt:=ts.map fun t=> .mk t ps l
set_option maxHeartbeats 2000000 in
theorem c195 (t0:Ty) (ps:List Bs) (l:List Mt) (ts:List Ty) (hts:ts.length≤4) (σ:St):CI (.fn 195) [.agg (Mt.mk t0 ps l).cs, .slice (ts.map Ty.d)] σ=some (.ret (.slice (mtsD (inner ps l ts))),σ):=by
 obtain ⟨td,htd,htl,htg⟩:=opq Ty.d ts
 rw [htd]
 have hmc: (Mt.mk t0 ps l).cs=t0.cs++[slD ps, .slice (mtsD l)]:=by simp only [Mt.cs]
 have y0:=t0.cs_len
 have y0a:t0.cs.all D.one=true:=by cases t0;rfl
 have hone: (t0.cs++[slD ps,D.slice (mtsD l)]).all D.one=true:=by rw [List.all_append,y0a];rfl
 have hd6: (t0.cs++[slD ps,D.slice (mtsD l)]).drop 6=[slD ps, .slice (mtsD l)]:=by rw [←y0,List.drop_left]
 have hd7: (t0.cs++[slD ps,D.slice (mtsD l)]).drop 7=[.slice (mtsD l)]:=by
  rw [show 7=6+1 by rfl,←List.drop_drop,hd6];rfl
 rw [hmc]
 obtain ⟨τ,hit⟩:=loop_foldS (γ:=Unit) (f:=evalI CI XB GI 26 false lp195_0) ts (fun j (b:List Mt)=>[(1, .slice td),(2, .ptr σ.length 0),(5, .arr (σ.length+1) b.length 0 b.length),(6, .int .i64 (j:Nat))])
  (fun b=>σ++[.box (t0.cs++[slD ps, .slice (mtsD l)]), .row 8 (mtsD b) 0]) (fun j b=>b.length=j) (fun _ t b=> .inl (b++[Mt.mk t ps l])) (fun _=>(.ret,[])) (fun _=>[])
  (fun b=>(.exit 0,[(1, .slice td),(2, .ptr σ.length 0),(5, .arr (σ.length+1) b.length 0 b.length),(6, .int .i64 ts.length),(10, .bool false)])) (by simp) (by simp)
  (fun j hj b b' hb hs=>by cases hs;simp [hb])
  (fun j hj b τ hbl=>by
    have hw:=wrap_nat (n:=j) (by omega)
    obtain ⟨h2,h3⟩:=htg j hj
    have hjj: (j:Int) <ts.length:=by omega
    have y1:=ts[j].cs_len
    have y2:=ts[j].cs_take
    have y3:ts[j].cs.all D.one=true:=by cases ts[j];rfl
    have g0: (σ++[Obj.box (t0.cs++[slD ps, .slice (mtsD l)]), .row 8 (mtsD b) 0]++τ)[σ.length]? =some (.box (t0.cs++[slD ps, .slice (mtsD l)])):=by rw [List.append_assoc];exact getA0
    have g2: (σ++[Obj.box (t0.cs++[slD ps, .slice (mtsD l)]), .row 8 (mtsD b) 0]++τ)[σ.length+1]? =some (.row 8 (mtsD b) 0):=by rw [List.append_assoc];exact getA
    have hmm:mtsD (b++[Mt.mk ts[j] ps l])=mtsD b++[.agg (ts[j].cs++[slD ps, .slice (mtsD l)])]:=by
     rw [mtsD_map,mtsD_map b,List.map_append];simp only [List.map_cons,List.map_nil,Mt.d,Mt.cs]
    have hs2: (σ++[Obj.box (t0.cs++[slD ps, .slice (mtsD l)]), .row 8 (mtsD b) 0]++τ).set (σ.length+1) (.row 8 (mtsD b++[.agg (ts[j].cs++[slD ps, .slice (mtsD l)])]) 0)=σ++[Obj.box (t0.cs++[slD ps, .slice (mtsD l)]), .row 8 (mtsD (b++[Mt.mk ts[j] ps l])) 0]++τ:=by
     rw [List.append_assoc,setA,hmm];simp
    have hbm: (mtsD b).length=b.length:=by rw [mtsD_map];simp
    have hba: (b.length+1) *136≤140737488355328:=by omega
    refine ⟨τ, ?_⟩
    simp only [List.length_append,List.length_cons,List.length_nil]
    rw [←hs2]
    clear hs2
    unfold Ty.d at h3
    obtain ⟨k1,n1,s1,a1,b1,t1,hc⟩: ∃k1 n1 s1 a1 b1 t1,ts[j].cs=[.int .i64 k1, .int .i64 n1, .str s1, .slice a1, .slice b1, .int .i64 t1]:=by
     rcases ts[j] with ⟨k,n,s,l,ls,tail⟩;exact ⟨_,_,_,_,_,_,by simp only [Ty.cs];rfl⟩
    have hsl:slD ps= .slice (ps.map D.str):=rfl
    rw [hc] at h3 ⊢
    rw [hsl] at g0 g2 hd6 hd7 ⊢
    clear hmc hone hmm y1 y2 hc
    generalize σ++[Obj.box (t0.cs++[D.slice (ps.map D.str), .slice (mtsD l)]), .row 8 (mtsD b) 0]++τ=σ1 at*
    generalize t0.cs++[D.slice (ps.map D.str), .slice (mtsD l)]=mc at*
    generalize ps.map D.str=pd at*
    generalize mtsD b=bd at*
    generalize mtsD l=ldd at*
    simp [lp195_0,g0,g2,hj,hjj,hw,htl,h2,h3,hd6,hd7,rowOf,fillRow,fillD,putCells,hbm,hba,Nat.testBit_eq_decide_div_mod_eq])
  (fun b τ hbl=>⟨τ,by
    generalize σ++[Obj.box (t0.cs++[slD ps, .slice (mtsD l)]), .row 8 (mtsD b) 0]++τ=σ1 at*
    simp [lp195_0,htl]⟩) [] [] rfl
 rw [foldS_snocG,List.append_nil,List.nil_append] at hit
 have hml: (mtsD (ts.map fun t=>Mt.mk t ps l)).length=ts.length:=by rw [mtsD_map];simp
 have hτ:bodyI CI XB GI af195 [.agg (t0.cs++[slD ps, .slice (mtsD l)]), .slice td] σ=some (.ret (.arr (σ.length+1) ts.length 0 ts.length),σ++([.box (t0.cs++[slD ps, .slice (mtsD l)]), .row 8 (mtsD (ts.map fun t=>Mt.mk t ps l)) 0]++τ)):=by
  rw [←List.append_assoc]
  simp only [Int.natCast_zero,mtsD,List.length_nil,List.length_map] at hit
  generalize σ++[Obj.box (t0.cs++[slD ps, .slice (mtsD l)]), .row 8 (mtsD (ts.map fun t=>Mt.mk t ps l)) 0]++τ=σ2 at*
  generalize t0.cs++[slD ps,D.slice (mtsD l)]=mc at*
  simp [bodyI,af195,hone,hit]
 refine CI_fn tab195 hτ ?_
 have hrow: (σ++([Obj.box (t0.cs++[slD ps, .slice (mtsD l)]), .row 8 (mtsD (ts.map fun t=>Mt.mk t ps l)) 0]++τ))[σ.length+1]? =some (.row 8 (mtsD (ts.map fun t=>Mt.mk t ps l)) 0):=getA
 obtain ⟨p1,p2⟩:=strip_row hrow (by omega) (mts_plain _).1 15
 rw [hml] at p1 p2
 rw [postI_rows p1 (by rw [p2];intro j hj;simp at hj;omega)]
 rw [(mts_plain (ts.map fun t=>Mt.mk t ps l)).slice.2]
 rfl
theorem log512b:Nat.log2 512=9:=by decide
theorem log1024b:Nat.log2 1024=10:=by decide
set_option maxHeartbeats 4000000 in
theorem c156 (p:Prg) (hdl:p.data.length≤12) (k0 n0:Int) (s:Bs) (L:List Ty) (ls:List Lab) (tail:Int) (hL:L.length≤4) (ps:List Bs) (l:List Mt) (i:Nat) (hi:i<p.data.length) (hix:idxOf (fun x:Dat=>x.name==s) p.data=i)
 (k:Nat) (hk:k<p.data[i].cons.length) (hka:p.data[i].cons[k].args.length≤4) (σ:St):
 CI (.fn 156) [.agg p.cs, .agg (Mt.mk (.mk k0 n0 s L ls tail) ps l).cs, .int .i64 k] σ=some (.ret (.slice (mtsD (inner p.data[i].params (inner ps l L) p.data[i].cons[k].args))),σ):=by
 have h195:=fun σ=>c195 (.mk k0 n0 s L ls tail) ps l L hL σ
 have h195b:=fun σ=>c195 (.mk 0 0 [] [] [] 0) p.data[i].params (inner ps l L) p.data[i].cons[k].args hka σ
 have h123:=fun σ=>c123 p (by unfold maxL;omega) s σ
 simp only [hix] at h123
 have hp:=mts_plain (inner p.data[i].params (inner ps l L) p.data[i].cons[k].args)
 suffices h: ∃τ,bodyI CI XB GI af156 [.agg p.cs, .agg (Mt.mk (.mk k0 n0 s L ls tail) ps l).cs, .int .i64 k] σ=some (.ret (.slice (mtsD (inner p.data[i].params (inner ps l L) p.data[i].cons[k].args))),σ++τ) by
  obtain ⟨τ,h⟩:=h
  exact CI_tree tab156 h hp.slice.1 hp.slice.2
 have f1:eqbL (p.data.map Dat.d) (p.data.map Dat.d)=true:=eqbL_tree _ (PlainL.map fun x _=>x.plain).1
 have f2:eqbL (p.data[i].cons.map Con.d) (p.data[i].cons.map Con.d)=true:=eqbL_tree _ (PlainL.map fun x _=>x.plain).1
 have f3:eqbL (p.data[i].params.map D.str) (p.data[i].params.map D.str)=true:=eqbL_tree _ (PlainL.map fun x _=>plain_str x).1
 have f4:eqbL (ps.map D.str) (ps.map D.str)=true:=eqbL_tree _ (PlainL.map fun x _=>plain_str x).1
 have f5:eqbL (ls.map Lab.d) (ls.map Lab.d)=true:=eqbL_tree _ (PlainL.map fun x _=>x.plain).1
 have f6:eqbL (mtsD (inner ps l L)) (mtsD (inner ps l L))=true:=eqbL_tree _ (mts_plain _).1
 have f7:eqbL (p.data[i].cons[k].args.map Ty.d) (p.data[i].cons[k].args.map Ty.d)=true:=eqbL_tree _ (by rw [←tysD_map];exact (tys_plain _).1)
 obtain ⟨ld,hld,hll,hlg⟩:=opq Dat.d p.data
 rw [hld] at f1
 obtain ⟨h2,h3⟩:=hlg i hi
 have hh:p.cs.head?=some (.slice ld):=by rw [p.cs_eq,←hld];rfl
 have hdd:p.data[i].d= .agg [.str p.data[i].name, .slice (p.data[i].params.map D.str), .slice (p.data[i].cons.map Con.d)]:=rfl
 rw [hdd] at h3
 have hcs: (Mt.mk (.mk k0 n0 s L ls tail) ps l).cs=[.int .i64 k0, .int .i64 n0, .str s, .slice (tysD L), .slice (ls.map Lab.d), .int .i64 tail, .slice (ps.map D.str), .slice (mtsD l)]:=by simp only [Mt.cs,Ty.cs];rfl
 have hcs2: (Mt.mk (.mk 0 0 [] [] [] 0) p.data[i].params (inner ps l L)).cs=[.int .i64 0, .int .i64 0, .str [], .slice [], .slice [], .int .i64 0, .slice (p.data[i].params.map D.str), .slice (mtsD (inner ps l L))]:=by simp only [Mt.cs,Ty.cs];rfl
 rw [hcs] at h195 ⊢
 rw [hcs2] at h195b
 have hall:=p.cs_all
 have hpcl:=p.cs_len
 have hpct:=p.cs_take
 have hii: (i:Int) <p.data.length:=by omega
 obtain ⟨cd,hcd,hcl,hcg⟩:=opq Con.d p.data[i].cons
 obtain ⟨h4,h5⟩:=hcg k hk
 rw [hcd] at h3 f2
 have hcc:p.data[i].cons[k].d= .agg [.str p.data[i].cons[k].name, .slice (p.data[i].cons[k].args.map Ty.d)]:=by unfold Con.d Con.cs;rw [tysD_map]
 rw [hcc] at h5
 have hkk: (k:Int) <p.data[i].cons.length:=by omega
 rw [←tysD_map] at h195
 have q195:qI 195=true:=rfl
 have x195:XB 195=false:=rfl
 have q123:qI 123=true:=rfl
 have x123:XB 123=false:=rfl
 have e3:eqbL p.cs p.cs=true:=eqbL_tree _ p.plain.1
 have e4:eqbL (mtsD l) (mtsD l)=true:=eqbL_tree _ (mts_plain l).1
 have e5:eqbL (tysD L) (tysD L)=true:=eqbL_tree _ (tys_plain L).1
 generalize mtsD (inner p.data[i].params (inner ps l L) p.data[i].cons[k].args)=res at*
 generalize mtsD (inner ps l L)=mid at*
 generalize p.data[i].cons[k].args.map Ty.d=ad at*
 generalize p.data[i].cons[k].name=cn at*
 generalize p.data[i].params.map D.str=pd at*
 generalize p.data[i].name=dn at*
 generalize tysD L=LD at*
 generalize ls.map Lab.d=lsd at*
 generalize ps.map D.str=psd at*
 generalize mtsD l=mld at*
 refine ⟨[.box p.cs, .box [.int .i64 k0, .int .i64 n0, .str s, .slice LD, .slice lsd, .int .i64 tail, .slice psd, .slice mld], .box [.str dn, .slice pd, .slice cd], .box [.int .i64 0, .int .i64 0, .str [], .slice [], .slice [], .int .i64 0, .slice pd, .slice mid]], ?_⟩
 have hp0':p.cs[0]? =some (.slice ld):=by rw [←List.head?_eq_getElem?];exact hh
 obtain ⟨w0,hp0⟩:=List.getElem?_eq_some_iff.1 hp0'
 have g0: (D.slice ld).eqb (.slice ld)=true:=by rw [D.eqb];exact f1
 generalize p.cs=pc at*
 simp [bodyI,af156,hp0,g0,getA0,getA,setA0,setA,hall,hpcl,hpct,hh,hll,h2,h3,h4,h5,hi,hii,hk,hkk,hcl,h123,h195,h195b,fillD,putCells,q195,x195,q123,x123,e3,e4,e5,f1,f2,f3,f4,f5,f6,f7,log512b,log1024b,Nat.testBit_eq_decide_div_mod_eq]
mutual
def Mt.now:Mt→Mt
 | .mk (.mk k n s L ls tail) ps l=>if k=1 then nowL l (indexP ps s).toNat else .mk (.mk k n s L ls tail) ps l
def nowL:List Mt→Nat→Mt
 | [],_=> .mk (.mk 0 0 [] [] [] 0) [] []
 |m::_,0=>m.now
 |_::r,i+1=>nowL r i
end
theorem nowL_get: ∀ (l:List Mt) (i:Nat) (h:i<l.length),nowL l i=l[i].now
 |m::_,0,_=>by simp only [nowL];rfl
 |_::r,i+1,h=>by
  have:=nowL_get r i (by simpa using h)
  simp only [nowL,this];rfl
mutual
def Mt.wf (p:Prg):Mt→Prop
 | .mk t ps l=>t.small∧t.ord p ps=0∧ps.length=l.length∧l.length≤4∧mtsWf p l
def mtsWf (p:Prg):List Mt→Prop
 | []=>True
 |m::r=>m.wf p∧mtsWf p r
end
theorem mtsWf_mem {p:Prg} : ∀ {l:List Mt} {m:Mt},mtsWf p l→m ∈ l→m.wf p
 |_::_,_,h, .head _=>h.1
 |_::_,_,h, .tail _ hm=>mtsWf_mem h.2 hm
set_option maxHeartbeats 4000000 in
theorem it155 (p:Prg) (σ:St): ∀ (m:Mt),m.wf p→iterI (evalI CI XB GI 18 false lp155_0) [(1, .ptr σ.length 0),(2, .ptr (σ.length+1) 0)] (σ++[.box m.cs, .box z8])=some (.exit 0,[(1, .ptr σ.length 0),(2, .ptr (σ.length+1) 0),(6, .bool false)],σ++[.box m.now.cs, .box z8])
 | .mk (.mk k n s L ls tail) ps l,hwf=>by
  obtain ⟨_,ho,hpl,hl4,hlw⟩:=hwf
  have hcs: (Mt.mk (.mk k n s L ls tail) ps l).cs=[.int .i64 k, .int .i64 n, .str s, .slice (tysD L), .slice (ls.map Lab.d), .int .i64 tail,slD ps, .slice (mtsD l)]:=by simp only [Mt.cs,Ty.cs];rfl
  by_cases k1:k=1
  ·subst k1
   obtain ⟨ho1,_⟩:=ord_parts ho
   obtain ⟨j,hj,hjl⟩:=indexP_lt ps s (ord_param ho1)
   have hjm:j<l.length:=by omega
   have hnow: (Mt.mk (.mk 1 n s L ls tail) ps l).now=l[j].now:=by
    simp only [Mt.now,if_true,hj]
    exact nowL_get l j hjm
   rw [hnow,←it155 p σ l[j] (mtsWf_mem hlw (List.getElem_mem hjm))]
   refine iterI_next ?_
   rw [hcs]
   have h152:=fun σ=>c152 ps s σ (by unfold maxL;omega)
   rw [hj] at h152
   obtain ⟨md,hmd,hml,hmg⟩:=opq Mt.d l
   rw [mtsD_map,hmd]
   obtain ⟨h2,h3⟩:=hmg j hjm
   have y1:=l[j].cs_len
   have y2:l[j].cs.take 8=l[j].cs:=List.take_of_length_le (by omega)
   have y3:l[j].cs.all D.one=true:=by
    rcases l[j] with ⟨t,ps',l'⟩
    simp only [Mt.cs];rw [List.all_append]
    have:t.cs.all D.one=true:=by cases t;rfl
    rw [this];rfl
   have hjj: (j:Int) <l.length:=by omega
   have q152:qI 152=false:=rfl
   have x152:XB 152=false:=rfl
   have e1:eqbL md md=true:=by rw [←hmd,←mtsD_map];exact eqbL_tree _ (mts_plain l).1
   have e2: (slD ps).eqb (slD ps)=true:=D.eqb_tree _ (plain_strs _).1
   unfold Mt.d at h3
   have y4:eqbL l[j].cs l[j].cs=true:=eqbL_tree _ l[j].plainL.1
   generalize l[j].cs=mc at*
   generalize slD ps=pd at*
   generalize tysD L=LD at*
   generalize ls.map Lab.d=lsd at*
   simp [lp155_0,getA0,getA,setA0,setA,h152,hjm,hjj,hml,h2,h3,y1,y2,y3,y4,e1,e2,q152,x152,putCells,log1024b,Nat.testBit_eq_decide_div_mod_eq]
  ·have hnow: (Mt.mk (.mk k n s L ls tail) ps l).now=Mt.mk (.mk k n s L ls tail) ps l:=by
    simp only [Mt.now,if_neg k1]
   rw [hnow]
   have b1: (k==1)=false:=by simpa using k1
   refine iterI_end ?_ (by simp)
   rw [hcs]
   simp [lp155_0,getA0,getA,b1]
termination_by m=>SizeOf.sizeOf m
decreasing_by
 have:=List.sizeOf_lt_of_mem (List.getElem_mem hjm)
 simp only [Mt.mk.sizeOf_spec]
 omega
theorem Mt.cs_one (m:Mt):m.cs.all D.one=true:=by
 rcases m with ⟨t,ps',l'⟩
 simp only [Mt.cs];rw [List.all_append]
 have:t.cs.all D.one=true:=by cases t;rfl
 rw [this];rfl
theorem c155 (p:Prg) (m:Mt) (hwf:m.wf p) (σ:St):CI (.fn 155) [.agg m.cs] σ=some (.ret (.agg m.now.cs),σ):=by
 have hit:=it155 p σ m hwf
 have h1:=m.cs_one
 have n1:=m.now.cs_len
 have n2:m.now.cs.take 8=m.now.cs:=List.take_of_length_le (by omega)
 have n3:=m.now.cs_one
 have n4:m.now.cs.drop 8=[]:=List.drop_of_length_le (by omega)
 have hp:=m.now.plainL.agg
 have hτ:bodyI CI XB GI af155 [.agg m.cs] σ=some (.ret (.agg m.now.cs),σ++[.box m.now.cs, .box m.now.cs]):=by
  generalize m.now.cs=nc at*
  generalize m.cs=mc at*
  simp [bodyI,af155,getA0,getA,setA0,setA,h1,hit,n1,n2,n3,n4,putCells]
 exact CI_tree tab155 hτ hp.1 hp.2
mutual
theorem Mt.now_wf {p:Prg} : ∀m:Mt,m.wf p→m.now.wf p∧(match m.now with| .mk (.mk k _ _ _ _ _) _ _=>k≠1)
 | .mk (.mk k n s L ls tail) ps l,hwf=>by
  by_cases k1:k=1
  ·subst k1
   have ho:=hwf.2.1
   obtain ⟨ho1,_⟩:=ord_parts ho
   obtain ⟨j,hj,hjl⟩:=indexP_lt ps s (ord_param ho1)
   have hpl:=hwf.2.2.1
   have hnow: (Mt.mk (.mk 1 n s L ls tail) ps l).now=nowL l j:=by
    simp only [Mt.now,if_true,hj];rfl
   rw [hnow]
   exact nowL_wf l hwf.2.2.2.2 j (by omega)
  ·have hnow: (Mt.mk (.mk k n s L ls tail) ps l).now=Mt.mk (.mk k n s L ls tail) ps l:=by
    simp only [Mt.now,if_neg k1]
   rw [hnow]
   exact ⟨hwf,k1⟩
theorem nowL_wf {p:Prg} : ∀ (l:List Mt),mtsWf p l→ ∀j,j<l.length→(nowL l j).wf p∧(match nowL l j with| .mk (.mk k _ _ _ _ _) _ _=>k≠1)
 |m::_,h,0,_=>by
  have:=m.now_wf h.1
  simp only [nowL];exact this
 |_::r,h,j+1,hj=>by
  have:=nowL_wf r h.2 j (by simpa using hj)
  simp only [nowL];exact this
end
mutual
def Ex.fits (p:Prg) (m:Mt):Ex→Bool
 | .mk k _ s _ _ l _=>match m.now with
  | .mk (.mk tk _ ts L _ _) ps ml=>if tk=2 then k==1 else if tk=3 then k==2 else if tk=4 then k==3 else if tk=6 then
   (k==10&&match p.conOf s with
     |some (d,c)=>(d.name==ts&&c.args.length==l.length)&&exsFit p (inner d.params (inner ps ml L) c.args) l
     |none=>false)
   else false
def exsFit (p:Prg) (ms:List Mt):List Ex→Bool
 | []=>true
 |x::r=>match ms with
  | []=>true
  |m::ms=>x.fits p m&&exsFit p ms r
end
theorem exsFit_zip (p:Prg): ∀ (ms:List Mt) (l:List Ex),exsFit p ms l=(ms.zip l).all fun y=>y.2.fits p y.1
 | [],[]=>by simp [exsFit]
 | [],_::_=>by simp [exsFit]
 |_::_,[]=>by simp [exsFit]
 |m::ms,x::r=>by simp only [exsFit,List.zip_cons_cons,List.all_cons,exsFit_zip p ms r]
set_option maxHeartbeats 4000000 in
theorem it104_0 (p:Prg) (ms:List Mt) (l:List Ex) (hml:ms.length=l.length) (hm4:ms.length≤4) (a b:Nat) (k n:Int) (s t:Bs) (nm am:D) (σ:St) (ha:σ[a]? =some (.box p.cs)) (hb:σ[b]? =some (.box [.int .i64 k, .int .i64 n, .str s, .str t,nm, .slice (l.map Ex.d),am]))
 (ih: ∀j (h1:j<ms.length) (h2:j<l.length),CI (.fn 104) [.agg p.cs, .agg ms[j].cs, .agg l[j].cs] σ=some (.ret (.bool (l[j].fits p ms[j])),σ)):
 iterI (evalI CI XB GI 98 false lp104_0) [(3, .ptr a 0),(5, .ptr b 0),(10, .slice (mtsD ms)),(11, .int .i64 (0:Nat))] σ=
  some (if exsFit p ms l then (.exit 1,[(3, .ptr a 0),(5, .ptr b 0),(10, .slice (mtsD ms)),(11, .int .i64 ms.length),(83, .bool false)],σ) else (.ret,[(6, .bool false)],σ)):=by
 have hpcl:=p.cs_len
 have hpct:=p.cs_take
 obtain ⟨md,hmd,hmdl,hmg⟩:=opq Mt.d ms
 rw [mtsD_map,hmd]
 obtain ⟨ld,hld,hldl,hlg⟩:=opq Ex.d l
 rw [hld] at hb
 have hzl: (ms.zip l).length=ms.length:=by rw [List.length_zip];omega
 have h:=loop_find (f:=evalI CI XB GI 98 false lp104_0) (σ:=σ) (ms.zip l) (fun j=>[(3, .ptr a 0),(5, .ptr b 0),(10, .slice md),(11, .int .i64 (j:Nat))]) (fun y=> !y.2.fits p y.1) (fun _=>(.ret,[(6, .bool false)],σ))
  (.exit 1,[(3, .ptr a 0),(5, .ptr b 0),(10, .slice md),(11, .int .i64 ms.length),(83, .bool false)],σ) (by simp) (by simp)
  (fun j hj=>by
    rw [hzl] at hj
    have hj2:j<l.length:=by omega
    rw [List.getElem_zip]
    have hw:=wrap_nat (n:=j) (by omega)
    obtain ⟨h2,h3⟩:=hmg j hj
    obtain ⟨h4,h5⟩:=hlg j hj2
    have hjj: (j:Int) <ms.length:=by omega
    have hjj2: (j:Int) <l.length:=by omega
    have y1:=ms[j].cs_len
    have y2:ms[j].cs.take 8=ms[j].cs:=List.take_of_length_le (by omega)
    have z1:l[j].cs.length=7:=by rcases l[j] with ⟨k,n,s,t,nm,l',ar⟩;simp [Ex.cs]
    have z2:l[j].cs.take 7=l[j].cs:=List.take_of_length_le (by omega)
    have ih:=ih j hj hj2
    have q104:qI 104=false:=rfl
    have x104:XB 104=false:=rfl
    unfold Mt.d at h3
    unfold Ex.d at h5
    generalize l[j].fits p ms[j]=v at*
    generalize ms[j].cs=mc at*
    generalize l[j].cs=xc at*
    generalize p.cs=pc at*
    cases v<;>simp [lp104_0,ha,hb,hj,hj2,hjj,hjj2,hw,hmdl,hldl,h2,h3,h4,h5,y1,y2,z1,z2,hpcl,hpct,ih,q104,x104,Nat.testBit_eq_decide_div_mod_eq])
  (by
    rw [hzl]
    simp [lp104_0,hmdl])
 rw [h,exsFit_zip]
 cases hf: (ms.zip l).findIdx? (fun y=> !y.2.fits p y.1) with
 |none=>rw [findIdx_all hf];rfl
 |some i=>rw [findIdx_not hf];rfl
theorem inner_wf {p:Prg} {ps:List Bs} {ml:List Mt} (h1:ps.length=ml.length) (h2:ml.length≤4) (h3:mtsWf p ml): ∀ (L:List Ty),(∀t ∈ L,t.small∧t.ord p ps=0)→mtsWf p (inner ps ml L)
 | [],_=>trivial
 |t::r,h=>⟨⟨(h t List.mem_cons_self).1,(h t List.mem_cons_self).2,h1,h2,h3⟩,inner_wf h1 h2 h3 r fun x hx=>h x (List.mem_cons_of_mem _ hx)⟩
theorem inner_len (ps:List Bs) (ml:List Mt) (L:List Ty): (inner ps ml L).length=L.length:=List.length_map _
def Prg.diff (p:Prg):Prop:= ∀i (hi:i<p.data.length),idxOf (fun x:Dat=>x.name==p.data[i].name) p.data=i
set_option maxHeartbeats 8000000 in
theorem c104 (p:Prg) (hok:p.ok) (hdl:p.data.length≤12) (hls: ∀d ∈ p.data,d.fit p) (hnd:p.diff): ∀ (x:Ex) (m:Mt) (σ:St),x.ok→m.wf p→CI (.fn 104) [.agg p.cs, .agg m.cs, .agg x.cs] σ=some (.ret (.bool (x.fits p m)),σ)
 | .mk k n s t names l arms,m,σ,hx,hwf=>by
  have ih:=fun y (_:y ∈ l) m σ=>c104 p hok hdl hls hnd y m σ
  have h155:=fun σ=>c155 p m hwf σ
  have h31:=fun σ=>c31 p hok s σ
  obtain ⟨nwf,nk⟩:=m.now_wf hwf
  have hm1:=m.cs_one
  have hml:=m.cs_len
  have hmt:m.cs.take 8=m.cs:=List.take_of_length_le (by omega)
  have hnl:=m.now.cs_len
  have hn1:=m.now.cs_one
  have hall:=p.cs_all
  have hpcl:=p.cs_len
  have hpct:=p.cs_take
  have hm8:m.cs.drop 8=[]:=List.drop_of_length_le (by omega)
  have hxc: (Ex.mk k n s t names l arms).cs=[.int .i64 k, .int .i64 n, .str s, .str t,slD names, .slice (l.map Ex.d), .slice (armsD arms)]:=by simp only [Ex.cs,exsD_map]
  rw [hxc]
  suffices h: ∃τ,bodyI CI XB GI af104 [.agg p.cs, .agg m.cs, .agg [.int .i64 k, .int .i64 n, .str s, .str t,slD names, .slice (l.map Ex.d), .slice (armsD arms)]] σ=some (.ret (.bool ((Ex.mk k n s t names l arms).fits p m)),σ++τ) by
   obtain ⟨τ,h⟩:=h
   exact CI_tree tab104 h rfl rfl
  simp only [Ex.fits]
  generalize m.now=m' at*
  rcases m' with ⟨⟨tk,tn,ts,L,tls,ttl⟩,ps,ml⟩
  have hnc: (Mt.mk (.mk tk tn ts L tls ttl) ps ml).cs=[.int .i64 tk, .int .i64 tn, .str ts, .slice (tysD L), .slice (tls.map Lab.d), .int .i64 ttl,slD ps, .slice (mtsD ml)]:=by simp only [Mt.cs,Ty.cs];rfl
  rw [hnc] at h155 hnl hn1
  obtain ⟨nsm,nord,npl,nm4,nml⟩:=nwf
  simp only
  have hsn:slD names= .slice (names.map D.str):=rfl
  have hsp:slD ps= .slice (ps.map D.str):=rfl
  rw [hsn]
  rw [hsp] at h155
  by_cases t2:tk=2
  ·subst t2
   refine ⟨[.box p.cs, .box [.int .i64 2, .int .i64 tn, .str ts, .slice (tysD L), .slice (tls.map Lab.d), .int .i64 ttl, .slice (ps.map D.str), .slice (mtsD ml)], .box [.int .i64 k, .int .i64 n, .str s, .str t, .slice (names.map D.str), .slice (l.map Ex.d), .slice (armsD arms)]], ?_⟩
   generalize m.cs=mc at*
   generalize p.cs=pc at*
   simp [bodyI,af104,getA0,getA,setA0,setA,hall,hm1,hml,hmt,hm8,h155,putCells]
  rw [if_neg t2]
  have b2: (tk==2)=false:=by simpa using t2
  by_cases t3:tk=3
  ·subst t3
   refine ⟨[.box p.cs, .box [.int .i64 3, .int .i64 tn, .str ts, .slice (tysD L), .slice (tls.map Lab.d), .int .i64 ttl, .slice (ps.map D.str), .slice (mtsD ml)], .box [.int .i64 k, .int .i64 n, .str s, .str t, .slice (names.map D.str), .slice (l.map Ex.d), .slice (armsD arms)]], ?_⟩
   generalize m.cs=mc at*
   generalize p.cs=pc at*
   simp [bodyI,af104,getA0,getA,setA0,setA,hall,hm1,hml,hmt,hm8,h155,putCells]
  rw [if_neg t3]
  have b3: (tk==3)=false:=by simpa using t3
  by_cases t4:tk=4
  ·subst t4
   refine ⟨[.box p.cs, .box [.int .i64 4, .int .i64 tn, .str ts, .slice (tysD L), .slice (tls.map Lab.d), .int .i64 ttl, .slice (ps.map D.str), .slice (mtsD ml)], .box [.int .i64 k, .int .i64 n, .str s, .str t, .slice (names.map D.str), .slice (l.map Ex.d), .slice (armsD arms)]], ?_⟩
   generalize m.cs=mc at*
   generalize p.cs=pc at*
   simp [bodyI,af104,getA0,getA,setA0,setA,hall,hm1,hml,hmt,hm8,h155,putCells]
  rw [if_neg t4]
  have b4: (tk==4)=false:=by simpa using t4
  by_cases t6:tk=6
  rotate_left
  ·rw [if_neg t6]
   have b6: (tk==6)=false:=by simpa using t6
   refine ⟨[.box p.cs, .box [.int .i64 tk, .int .i64 tn, .str ts, .slice (tysD L), .slice (tls.map Lab.d), .int .i64 ttl, .slice (ps.map D.str), .slice (mtsD ml)], .box [.int .i64 k, .int .i64 n, .str s, .str t, .slice (names.map D.str), .slice (l.map Ex.d), .slice (armsD arms)]], ?_⟩
   generalize m.cs=mc at*
   generalize p.cs=pc at*
   simp [bodyI,af104,getA0,getA,setA0,setA,hall,hm1,hml,hmt,hm8,h155,putCells,b2,b3,b4,b6]
  subst t6
  rw [if_pos rfl]
  obtain ⟨nod,nop⟩:=ord_parts nord
  by_cases k10:k=10
  rotate_left
  ·have b10: (k==10)=false:=by simpa using k10
   have n10: (k != 10)=true:=by simpa using k10
   rw [b10,Bool.false_and]
   refine ⟨[.box p.cs, .box [.int .i64 6, .int .i64 tn, .str ts, .slice (tysD L), .slice (tls.map Lab.d), .int .i64 ttl, .slice (ps.map D.str), .slice (mtsD ml)], .box [.int .i64 k, .int .i64 n, .str s, .str t, .slice (names.map D.str), .slice (l.map Ex.d), .slice (armsD arms)]], ?_⟩
   generalize m.cs=mc at*
   generalize p.cs=pc at*
   simp [bodyI,af104,getA0,getA,setA0,setA,hall,hm1,hml,hmt,hm8,h155,putCells,n10]
  subst k10
  rw [show ((10:Int) ==10)=true by rfl,Bool.true_and]
  refine ⟨[.box p.cs, .box [.int .i64 6, .int .i64 tn, .str ts, .slice (tysD L), .slice (tls.map Lab.d), .int .i64 ttl, .slice (ps.map D.str), .slice (mtsD ml)], .box [.int .i64 10, .int .i64 n, .str s, .str t, .slice (names.map D.str), .slice (l.map Ex.d), .slice (armsD arms)]], ?_⟩
  cases hfc:findConL s p.data 0 with
  |none=>
   rw [conOf_none hfc]
   rw [hfc] at h31
   simp only [conD] at h31
   generalize m.cs=mc at*
   generalize p.cs=pc at*
   simp [bodyI,af104,getA0,getA,setA0,setA,hall,hpcl,hpct,hm1,hml,hmt,hm8,h155,h31,putCells,Nat.testBit_eq_decide_div_mod_eq]
  |some y=>
   obtain ⟨i,c⟩:=y
   obtain ⟨hi,hc,hco,_⟩:=conOf_some hfc
   rw [hco]
   rw [hfc] at h31
   simp only [conD] at h31
   have hdf:=hls _ (List.getElem_mem hi)
   obtain ⟨hca4,hcas⟩:=hdf.2.2 _ (List.getElem_mem hc)
   have hx2:=fun y (hy:y ∈ l)=>exsOk_mem hx.2.2.2.1 hy
   have hii: (i:Int) <p.data.length:=by omega
   have hcc: (c:Int) <p.data[i].cons.length:=by omega
   obtain ⟨ld,hld,hll,hlg⟩:=opq Dat.d p.data
   obtain ⟨h2,h3⟩:=hlg i hi
   have hh:p.cs.head?=some (.slice ld):=by rw [p.cs_eq,←hld];rfl
   have hdd:p.data[i].d= .agg [.str p.data[i].name, .slice (p.data[i].params.map D.str), .slice (p.data[i].cons.map Con.d)]:=rfl
   rw [hdd] at h3
   obtain ⟨cd,hcd,hcl,hcg⟩:=opq Con.d p.data[i].cons
   obtain ⟨h4,h5⟩:=hcg c hc
   rw [hcd] at h3
   have hcd1:p.data[i].cons[c].d= .agg [.str p.data[i].cons[c].name, .slice (p.data[i].cons[c].args.map Ty.d)]:=by unfold Con.d Con.cs;rw [tysD_map]
   rw [hcd1] at h5
   have hal: (p.data[i].cons[c].args.map Ty.d).length=p.data[i].cons[c].args.length:=List.length_map _
   have hel: (l.map Ex.d).length=l.length:=List.length_map _
   simp only
   cases hn: (p.data[i].name==ts)
   ·have hn': (p.data[i].name != ts)=true:=by simp [bne,hn]
    simp only [Bool.false_and]
    generalize m.cs=mc at*
    generalize l.map Ex.d=xd at*
    generalize p.data[i].cons[c].args.map Ty.d=ad at*
    generalize p.cs=pc at*
    simp [bodyI,af104,getA0,getA,setA0,setA,hall,hpcl,hpct,hm1,hml,hmt,hm8,h155,h31,putCells,hh,hi,hii,hll,h2,h3,hn,Nat.testBit_eq_decide_div_mod_eq]
   ·cases hle: (p.data[i].cons[c].args.length==l.length)
    ·have hle': ((p.data[i].cons[c].args.length:Int) ==(l.length:Int))=false:=by
      rw [beq_eq_false_iff_ne] at hle ⊢;omega
     have hle2: ((p.data[i].cons[c].args.length:Int) != (l.length:Int))=true:=by rw [bne,hle'];rfl
     simp only [Bool.and_false,Bool.false_and]
     generalize m.cs=mc at*
     generalize l.map Ex.d=xd at*
     generalize p.data[i].cons[c].args.map Ty.d=ad at*
     generalize p.cs=pc at*
     simp [bodyI,af104,getA0,getA,setA0,setA,hall,hpcl,hpct,hm1,hml,hmt,hm8,h155,h31,putCells,hh,hi,hii,hll,h2,h3,h4,h5,hc,hcc,hcl,hal,hel,hn,hle,hle2,Nat.testBit_eq_decide_div_mod_eq]
    ·have hle1:p.data[i].cons[c].args.length=l.length:=by simpa using hle
     have hle2: ((p.data[i].cons[c].args.length:Int) != (l.length:Int))=false:=by simp [hle1]
     have hts:p.data[i].name=ts:=by simpa using hn
     have hix:=hnd i hi
     rw [hts] at hix
     obtain ⟨i',hi',_,hil',hlen⟩:=ord_data nod
     have hii':i'=i:=by rw [hix] at hi';omega
     subst hii'
     have hin:=inner_wf npl nm4 nml L (fun y hy=>⟨tysSmall_mem nsm.2.2.2 hy,nop y hy⟩)
     have hin2:=inner_wf (p:=p) (ps:=p.data[i'].params) (ml:=inner ps ml L) (by rw [inner_len];exact hlen) (by rw [inner_len];exact nsm.1) hin p.data[i'].cons[c].args hcas
     have h156:=fun σ=>c156 p hdl 6 tn ts L tls ttl nsm.1 ps ml i' hi hix c hc hca4 σ
     rw [hnc,hsp] at h156
     have hloop:=it104_0 p (inner p.data[i'].params (inner ps ml L) p.data[i'].cons[c].args) l (by rw [inner_len];exact hle1) (by rw [inner_len];exact hca4) σ.length (σ.length+2) 10 n s t (.slice (names.map D.str)) (.slice (armsD arms)) (σ++[.box p.cs, .box [.int .i64 6, .int .i64 tn, .str ts, .slice (tysD L), .slice (tls.map Lab.d), .int .i64 ttl, .slice (ps.map D.str), .slice (mtsD ml)], .box [.int .i64 10, .int .i64 n, .str s, .str t, .slice (names.map D.str), .slice (l.map Ex.d), .slice (armsD arms)]])
      getA0 getA (fun j h1 h2=>ih l[j] (List.getElem_mem h2) _ _ (hx2 _ (List.getElem_mem h2)) (mtsWf_mem hin2 (List.getElem_mem h1)))
     simp only [Int.natCast_zero] at hloop
     simp only [Bool.true_and]
     generalize exsFit p (inner p.data[i'].params (inner ps ml L) p.data[i'].cons[c].args) l=v at*
     generalize mtsD (inner p.data[i'].params (inner ps ml L) p.data[i'].cons[c].args)=res at*
     generalize m.cs=mc at*
     generalize l.map Ex.d=xd at*
     generalize p.data[i'].cons[c].args.map Ty.d=ad at*
     generalize p.cs=pc at*
     cases v<;>simp [bodyI,af104,getA0,getA,setA0,setA,hall,hpcl,hpct,hm1,hml,hmt,hm8,h155,h31,putCells,hh,hi,hii,hll,h2,h3,h4,h5,hc,hcc,hcl,hal,hel,hn,hle1,hle2,h156,hloop,Nat.testBit_eq_decide_div_mod_eq]
termination_by x=>SizeOf.sizeOf x
decreasing_by
 have:=List.sizeOf_lt_of_mem ‹y ∈ l›
 simp only [Ex.mk.sizeOf_spec]
 omega
def Prg.fitE (p:Prg) (t:Ty) (x:Ex):Int:=orE (p.tyE t) x.chk
set_option maxHeartbeats 2000000 in
theorem c43 (p:Prg) (hok:p.ok) (hnd:p.decls=0→p.diff) (t:Ty) (ht:t.ok) (x:Ex) (hx:x.ok) (σ:St):
 CI (.fn 43) [.agg p.cs, .agg t.cs, .agg x.cs] σ=some (.ret (.tuple [.bool (x.fits p (.mk t [] [])&&p.fitE t x==0), .int .i64 (p.fitE t x)]),σ):=by
 have h23:=fun σ=>c23 p hok t ht σ
 have h99:=fun σ=>c99 x hx σ
 have hall:=p.cs_all
 have hpl:=p.cs_len
 have hpt:=p.cs_take
 have y1:=t.cs_len
 have y2:=t.cs_take
 have y3:t.cs.all D.one=true:=by cases t;rfl
 have x1:=x.cs_len
 have x2:=x.cs_take
 have x3:x.cs.all D.one=true:=by cases x;rfl
 suffices hτ:bodyI CI XB GI af43 [.agg p.cs, .agg t.cs, .agg x.cs] σ=some (.ret (.tuple [.bool (x.fits p (.mk t [] [])&&p.fitE t x==0), .int .i64 (p.fitE t x)]),σ++[.box p.cs, .box t.cs, .box x.cs]) from CI_tree tab43 hτ rfl rfl
 unfold Prg.fitE orE
 by_cases he:p.tyE t=0
 ·rw [if_pos he]
  rw [he] at h23
  by_cases hc:x.chk=0
  ·obtain ⟨z1,z2,_,z4⟩:=tyE_zero he
   obtain ⟨hdl,hls⟩:=decls_fit z1
   have h104:=fun σ=>c104 p hok hdl hls (hnd z1) x (.mk t [] []) σ hx ⟨Ty.small_chk z2,z4,rfl,by simp,trivial⟩
   rw [hc] at h99 ⊢
   obtain ⟨k1,n1,s1,a1,b1,t1,htc⟩: ∃k1 n1 s1 a1 b1 t1,t.cs=[.int .i64 k1, .int .i64 n1, .str s1, .slice a1, .slice b1, .int .i64 t1]:=by
    rcases t with ⟨k,n,s,l,ls,tail⟩;exact ⟨_,_,_,_,_,_,by simp only [Ty.cs];rfl⟩
   have hmc: (Mt.mk t [] []).cs=[.int .i64 k1, .int .i64 n1, .str s1, .slice a1, .slice b1, .int .i64 t1, .slice [], .slice []]:=by simp only [Mt.cs,htc];rfl
   rw [hmc] at h104
   rw [htc] at h23 ⊢
   generalize x.fits p (.mk t [] [])=v at*
   generalize x.cs=xc at*
   generalize p.cs=pc at*
   simp [bodyI,af43,getA0,getA,hall,hpl,hpt,x1,x2,x3,h23,h99,h104,fillD,putCells]
  ·have hn: (x.chk != 0)=true:=by simpa using hc
   have hb: (x.chk==0)=false:=by simpa using hc
   rw [hb,Bool.and_false]
   generalize x.chk=e at*
   generalize x.cs=xc at*
   generalize t.cs=tc at*
   generalize p.cs=pc at*
   simp [bodyI,af43,getA0,getA,hall,hpl,hpt,y1,y2,y3,x1,x2,x3,h23,h99,hn]
 ·rw [if_neg he]
  have hn: (p.tyE t != 0)=true:=by simpa using he
  have hb: (p.tyE t==0)=false:=by simpa using he
  rw [hb,Bool.and_false]
  generalize p.tyE t=e at*
  generalize x.cs=xc at*
  generalize t.cs=tc at*
  generalize p.cs=pc at*
  simp [bodyI,af43,getA0,getA,hall,hpl,hpt,y1,y2,y3,x1,x2,x3,h23,h99,hn,hb]
end Go.AI
namespace Go.AI
open Go Go.Proofs Go.Lx
theorem datStep_names {p:Prg} : ∀ (l:List Dat) (j:Nat) (x y:List Bs × List Bs),foldS (datStep p) l j x= .inl y→(∀d ∈ l,hasS x.1 d.name=false)∧l.Pairwise (fun a b=>a.name≠b.name)
 | [],_,_,_,_=>⟨fun _ h=>(by cases h),List.Pairwise.nil⟩
 |d::r,j,x,y,h=>by
  simp only [foldS] at h
  cases hs:datStep p j d x with
  |inr e=>rw [hs] at h;cases h
  |inl z=>
   rw [hs] at h
   obtain ⟨h1,h2⟩:=datStep_names r (j+1) z y h
   unfold datStep at hs
   split at hs
   ·cases hs
   ·rename_i hd
    split at hs
    ·cases hs
     have hd':hasS x.1 d.name=false:=by simpa using hd
     have key: ∀e ∈ r,hasS x.1 e.name=false∧d.name≠e.name:=fun e he=>by
      have:=h1 e he
      unfold hasS at this ⊢
      simp at this ⊢
      exact ⟨this.1,fun hh=>this.2 hh.symm⟩
     exact ⟨fun e he=>(List.mem_cons.1 he).elim (fun hh=>hh ▸ hd') (fun he=>(key e he).1),List.Pairwise.cons (fun e he=>(key e he).2) h2⟩
    ·cases hs
theorem decls_diff {p:Prg} (h:p.decls=0):p.diff:=by
 obtain ⟨_,ho⟩:=orE_zero.1 h
 unfold Prg.ordE at ho
 cases hf:foldS (datStep p) p.data 0 (builtins,[]) with
 |inr e=>
  rw [hf] at ho
  simp only at ho
  subst ho
  obtain ⟨a,j,c,h⟩:=foldS_left _ _ _ _ hf
  exact (datStep_ne0 h).elim
 |inl y=>
  obtain ⟨_,h2⟩:=datStep_names _ _ _ _ hf
  intro i hi
  rcases idxOf_find (fun x:Dat=>x.name==p.data[i].name) p.data with ⟨_,hn⟩ | ⟨j,hj,hjl,hfj,_⟩
  ·have:=List.find?_eq_none.1 hn p.data[i] (List.getElem_mem hi)
   simp at this
  ·have h3:=List.find?_some hfj
   simp only [beq_iff_eq] at h3
   rw [hj]
   rcases Nat.lt_trichotomy j i with hlt|heq|hgt
   ·exact absurd h3 (List.pairwise_iff_getElem.1 h2 j i hjl hi hlt)
   ·rw [heq]
   ·exact absurd h3.symm (List.pairwise_iff_getElem.1 h2 i j hi hjl hgt)
end Go.AI
namespace Go.AI
open Go Go.Proofs Go.Lx
set_option maxRecDepth 100000
mutual
def Mt.ty:Mt→Ty
 | .mk t ps l=>t.rep ps (mtsTy l)
def mtsTy:List Mt→List Ty
 | []=>[]
 |m::r=>m.ty::mtsTy r
end
theorem mtsTy_map: ∀ (l:List Mt),mtsTy l=l.map Mt.ty
 | []=>rfl
 |m::r=>by rw [mtsTy,mtsTy_map r];rfl
theorem inner_ty (ps:List Bs) (ml:List Mt) (L:List Ty):mtsTy (inner ps ml L)=L.map (Ty.rep ps (mtsTy ml)):=by
 rw [mtsTy_map];unfold inner;rw [List.map_map]
 exact List.map_congr_left fun t _=>by simp only [Function.comp,Mt.ty]
mutual
theorem Mt.now_ty {p:Prg} : ∀m:Mt,m.wf p→m.now.ty=m.ty
 | .mk (.mk k n s L ls tail) ps l,hwf=>by
  by_cases k1:k=1
  ·subst k1
   have ho:=hwf.2.1
   obtain ⟨ho1,_⟩:=ord_parts ho
   obtain ⟨j,hj,hjl⟩:=indexP_lt ps s (ord_param ho1)
   have hpl:=hwf.2.2.1
   have hnow: (Mt.mk (.mk 1 n s L ls tail) ps l).now=nowL l j:=by
    simp only [Mt.now,if_true,hj];rfl
   have hj0: (0:Int)≤j:=by omega
   have hjm:j<l.length:=by omega
   rw [hnow,nowL_ty l hwf.2.2.2.2 j hjm]
   simp only [Mt.ty,Ty.rep,hj,hj0,and_self,if_true]
   rw [mtsTy_map]
   simp [hjm]
  ·have hnow: (Mt.mk (.mk k n s L ls tail) ps l).now=Mt.mk (.mk k n s L ls tail) ps l:=by
    simp only [Mt.now,if_neg k1]
   rw [hnow]
theorem nowL_ty {p:Prg} : ∀ (l:List Mt),mtsWf p l→ ∀j (h:j<l.length),(nowL l j).ty=l[j].ty
 |m::_,h,0,_=>by
  have:=m.now_ty h.1
  simp only [nowL];exact this
 |_::r,h,j+1,hj=>by
  have:=nowL_ty r h.2 j (by simpa using hj)
  simp only [nowL];exact this
end
theorem Ty.rep_np {k n:Int} {s:Bs} {L:List Ty} {ls:List Lab} {tail:Int} (ps:List Bs) (al:List Ty) (h:k≠1): (Ty.mk k n s L ls tail).rep ps al= .mk k n s (L.map (Ty.rep ps al)) ls tail:=by
 simp only [Ty.rep,tysRep_map]
 rw [if_neg (fun hc=>h hc.1)]
mutual
def Ex.fitsT (p:Prg) (t:Ty):Ex→Bool
 | .mk k _ s _ _ l _=>match t with
  | .mk tk _ ts L _ _=>if tk=2 then k==1 else if tk=3 then k==2 else if tk=4 then k==3 else if tk=6 then
   (k==10&&match p.conOf s with
     |some (d,c)=>(d.name==ts&&c.args.length==l.length)&&exsFitT p (c.args.map (Ty.rep d.params L)) l
     |none=>false)
   else false
def exsFitT (p:Prg) (ms:List Ty):List Ex→Bool
 | []=>true
 |x::r=>match ms with
  | []=>true
  |m::ms=>x.fitsT p m&&exsFitT p ms r
end
theorem diff_name {p:Prg} (hnd:p.diff) {d:Dat} (hd:d ∈ p.data) {ts:Bs} {len:Nat} {ls:List Lab} {ps:List Bs} (ho:ordN p ps 6 ts len ls=0) (hn:d.name=ts):d.params.length=len:=by
 obtain ⟨i,hi,_,hil,hlen⟩:=ord_data ho
 obtain ⟨j,hj,rfl⟩:=List.getElem_of_mem hd
 have:=hnd j hj
 rw [hn,hi] at this
 have:i=j:=by omega
 subst this
 exact hlen
mutual
theorem Ex.fits_T {p:Prg} (hls: ∀d ∈ p.data,d.fit p) (hnd:p.diff): ∀ (x:Ex) (m:Mt),m.wf p→x.fits p m=x.fitsT p m.ty
 | .mk k n s t names l arms,m,hwf=>by
  have hty:=m.now_ty hwf
  obtain ⟨nwf,nk⟩:=m.now_wf hwf
  rw [←hty]
  simp only [Ex.fits,Ex.fitsT]
  generalize m.now=m' at*
  rcases m' with ⟨⟨tk,tn,ts,L,tls,ttl⟩,ps,ml⟩
  simp only at nk ⊢
  simp only [Mt.ty,Ty.rep_np _ _ nk]
  obtain ⟨nsm,nord,npl,nm4,nml⟩:=nwf
  by_cases t6:tk=6
  ·subst t6
   obtain ⟨nod,nop⟩:=ord_parts nord
   cases hc:p.conOf s with
   |none=>rfl
   |some y=>
    obtain ⟨d,c⟩:=y
    simp only
    by_cases hn:d.name=ts
    ·obtain ⟨hd,hcm⟩:=conOf_mem hc
     have hdf:=hls d hd
     obtain ⟨_,hcas⟩:=hdf.2.2 _ hcm
     have hlen:=diff_name hnd hd nod hn
     have hin:=inner_wf npl nm4 nml L (fun y hy=>⟨tysSmall_mem nsm.2.2.2 hy,nop y hy⟩)
     have hin2:=inner_wf (p:=p) (ps:=d.params) (ml:=inner ps ml L) (by rw [inner_len];exact hlen) (by rw [inner_len];exact nsm.1) hin c.args hcas
     rw [exsFit_T hls hnd l _ hin2,inner_ty,inner_ty]
    ·have: (d.name==ts)=false:=by simpa using hn
     rw [this];rfl
  ·simp only [if_neg t6]
theorem exsFit_T {p:Prg} (hls: ∀d ∈ p.data,d.fit p) (hnd:p.diff): ∀ (l:List Ex) (ms:List Mt),mtsWf p ms→exsFit p ms l=exsFitT p (mtsTy ms) l
 | [],ms,_=>by simp only [exsFit,exsFitT]
 |x::r,[],_=>by simp only [exsFit,exsFitT,mtsTy]
 |x::r,m::ms,h=>by simp only [exsFit,exsFitT,mtsTy,x.fits_T hls hnd m h.1,exsFit_T hls hnd r ms h.2]
end
def rowsAt (σ:St) (n:Nat) (ad:D) (dl:List D):Prop:=ad= .slice dl∨(ad= .empty∧dl=[])∨ ∃r q,ad= .arr r dl.length 0 dl.length∧σ[r]? =some (.row n dl q)∧q≤dl.length
mutual
def Mt.at (σ:St):Mt→D→Prop
 | .mk t ps l,d=> ∃w,d= .agg (t.cs++[w])∧((w= .nilptr∧ps=[]∧l=[])∨ ∃a ad dl,w= .ptr a 0∧σ[a]? =some (.box [slD ps,ad])∧rowsAt σ 7 ad dl∧mtsAt σ l dl)
def mtsAt (σ:St):List Mt→List D→Prop
 | [],dl=>dl=[]
 |m::r,dl=> ∃d dl',dl=d::dl'∧m.at σ d∧mtsAt σ r dl'
end
def withAt (σ:St) (ps:List Bs) (l:List Mt) (w:D):Prop:=(w= .nilptr∧ps=[]∧l=[])∨ ∃a ad dl,w= .ptr a 0∧σ[a]? =some (.box [slD ps,ad])∧rowsAt σ 7 ad dl∧mtsAt σ l dl
theorem Mt.at_iff {σ:St} {t:Ty} {ps:List Bs} {l:List Mt} {d:D} : (Mt.mk t ps l).at σ d↔ ∃w,d= .agg (t.cs++[w])∧withAt σ ps l w:=by
 simp only [Mt.at,withAt]
theorem rowsAt.app {σ τ:St} {n:Nat} {ad:D} {dl:List D} (h:rowsAt σ n ad dl):rowsAt (σ++τ) n ad dl:=by
 rcases h with h|h| ⟨r,q,h1,h2,h3⟩
 ·exact .inl h
 ·exact .inr (.inl h)
 ·exact .inr (.inr ⟨r,q,h1,getO h2,h3⟩)
mutual
theorem Mt.at_app {σ τ:St} : ∀ (m:Mt) (d:D),m.at σ d→m.at (σ++τ) d
 | .mk t ps l,d,h=>by
  simp only [Mt.at] at h ⊢
  obtain ⟨w,h1,h2⟩:=h
  refine ⟨w,h1, ?_⟩
  rcases h2 with h2| ⟨a,ad,dl,h3,h4,h5,h6⟩
  ·exact .inl h2
  ·exact .inr ⟨a,ad,dl,h3,getO h4,h5.app,mtsAt_app l dl h6⟩
theorem mtsAt_app {σ τ:St} : ∀ (l:List Mt) (dl:List D),mtsAt σ l dl→mtsAt (σ++τ) l dl
 | [],dl,h=>by simp only [mtsAt] at h ⊢;exact h
 |m::r,dl,h=>by
  simp only [mtsAt] at h ⊢
  obtain ⟨d,dl',h1,h2,h3⟩:=h
  exact ⟨d,dl',h1,m.at_app d h2,mtsAt_app r dl' h3⟩
end
theorem withAt.app {σ τ:St} {ps:List Bs} {l:List Mt} {w:D} (h:withAt σ ps l w):withAt (σ++τ) ps l w:=by
 rcases h with h2| ⟨a,ad,dl,h3,h4,h5,h6⟩
 ·exact .inl h2
 ·exact .inr ⟨a,ad,dl,h3,getO h4,h5.app,mtsAt_app l dl h6⟩
theorem mtsAt_len {σ:St} : ∀ {l:List Mt} {dl:List D},mtsAt σ l dl→dl.length=l.length
 | [],dl,h=>by simp only [mtsAt] at h;subst h;rfl
 |m::r,dl,h=>by
  simp only [mtsAt] at h
  obtain ⟨d,dl',rfl,_,h3⟩:=h
  simp [mtsAt_len h3]
theorem mtsAt_get {σ:St} : ∀ {l:List Mt} {dl:List D},mtsAt σ l dl→ ∀ (i:Nat) (h1:i<l.length) (h2:i<dl.length),l[i].at σ dl[i]
 |m::r,dl,h,0,_,_=>by
  simp only [mtsAt] at h
  obtain ⟨d,dl',rfl,h2,_⟩:=h
  exact h2
 |m::r,dl,h,i+1,h1,h2=>by
  simp only [mtsAt] at h
  obtain ⟨d,dl',rfl,_,h3⟩:=h
  exact mtsAt_get h3 i (by simpa using h1) (by simpa using h2)
theorem mtsAt_snoc {σ:St} : ∀ {l:List Mt} {dl:List D} {m:Mt} {d:D},mtsAt σ l dl→m.at σ d→mtsAt σ (l++[m]) (dl++[d])
 | [],dl,m,d,h,hm=>by
  simp only [mtsAt] at h
  subst h
  simp only [List.nil_append,mtsAt]
  exact ⟨d,[],rfl,hm,rfl⟩
 |m::r,dl,m',d',h,hm=>by
  simp only [mtsAt] at h
  obtain ⟨d,dl',rfl,h2,h3⟩:=h
  simp only [List.cons_append,mtsAt]
  exact ⟨d,dl'++[d'],rfl,h2,mtsAt_snoc h3 hm⟩
theorem Mt.at_agg {σ:St} {m:Mt} {d:D} (h:m.at σ d): ∃cs,d= .agg cs∧cs.length=7∧cs.all D.one=true:=by
 rcases m with ⟨t,ps,l⟩
 obtain ⟨w,rfl,hw⟩:=Mt.at_iff.1 h
 refine ⟨_,rfl,by simp [t.cs_len], ?_⟩
 have:t.cs.all D.one=true:=by cases t;rfl
 rw [List.all_append,this]
 rcases hw with ⟨rfl,_⟩ | ⟨a,ad,dl,rfl,_⟩<;>rfl
theorem eqbL_app {a b:List D} (ha:eqbL a a=true) (hb:eqbL b b=true):eqbL (a++b) (a++b)=true:=by
 induction a with
 |nil=>exact hb
 |cons x r ih=>
  simp only [eqbL,Bool.and_eq_true,List.cons_append] at ha ⊢
  exact ⟨ha.1,ih ha.2⟩
theorem Mt.at_eqb {σ:St} {m:Mt} {cs:List D} (h:m.at σ (.agg cs)):eqbL cs cs=true:=by
 rcases m with ⟨t,ps,l⟩
 obtain ⟨w,hc,hw⟩:=Mt.at_iff.1 h
 cases hc
 refine eqbL_app (eqbL_tree _ t.plain.1) ?_
 rcases hw with ⟨rfl,_⟩ | ⟨a,ad,dl,rfl,_⟩<;>simp
theorem mtsAt_eqb {σ:St} : ∀ {l:List Mt} {dl:List D},mtsAt σ l dl→eqbL dl dl=true
 | [],dl,h=>by simp only [mtsAt] at h;subst h;rfl
 |m::r,dl,h=>by
  simp only [mtsAt] at h
  obtain ⟨d,dl',rfl,h2,h3⟩:=h
  obtain ⟨cs,rfl,_⟩:=Mt.at_agg h2
  simp only [eqbL,D.eqb,Bool.and_eq_true]
  exact ⟨Mt.at_eqb h2,mtsAt_eqb h3⟩
theorem underL_app {n:Nat} {a b:List D} (ha:underL n a=true) (hb:underL n b=true):underL n (a++b)=true:=by
 induction a with
 |nil=>exact hb
 |cons x r ih=>
  simp only [underL,Bool.and_eq_true,List.cons_append] at ha ⊢
  exact ⟨ha.1,ih ha.2⟩
theorem strip_agg (n:Nat) (σ:St) (cs:List D) (h: (D.agg cs).tree=false):strip (n+1) σ (.agg cs)=(cs.mapM (strip n σ)).map .agg:=by
 rw [strip,if_neg (by rw [h];exact Bool.false_ne_true)]
theorem strip_tuple (n:Nat) (σ:St) (cs:List D) (h: (D.tuple cs).tree=false):strip (n+1) σ (.tuple cs)=(cs.mapM (strip n σ)).map .tuple:=by
 rw [strip,if_neg (by rw [h];exact Bool.false_ne_true)]
theorem strip_ptr (n:Nat) (σ:St) (i o:Nat):strip n σ (.ptr i o)=none:=by
 cases n<;>simp [strip,D.tree]
theorem CI_at {f:FuncId} {af:AFunc} (hT:tabT f=some af) {args:List D} {σ τ:St} {m:Mt} {d:D} (h:bodyI CI XB GI af args σ=some (.ret d,σ++τ)) (hm:m.at σ d)
 (hx:okF f:=by exact ⟨⟨rfl,rfl⟩,rfl⟩):CI (.fn f) args σ=some (.ret d,σ):=by
 rcases m with ⟨t,ps,l⟩
 obtain ⟨w,rfl,hw⟩:=Mt.at_iff.1 hm
 rcases hw with ⟨rfl,_⟩ | ⟨a,ad,dl,rfl,ha,_⟩
 ·have hp:=(t.plain.app (b:=[.nilptr]) (.cons ⟨rfl,rfl⟩ .nil)).agg
  exact CI_tree hT h hp.1 hp.2 hx
 ·refine CI_fn hT h (postI_under ?_ ?_) hx
  ·have hn: (D.agg (t.cs++[D.ptr a 0])).tree=false:=by
    rw [D.tree]
    have: ∀ (x:List D),treeL (x++[D.ptr a 0])=false:=fun x=>by
     induction x with
     |nil=>rfl
     |cons y r ih=>simp only [List.cons_append,treeL,ih,Bool.and_false]
    exact this _
   have hs:=strip_ptr 15 (σ++τ) a 0
   rw [strip_agg 15 _ _ hn,List.mapM_append]
   generalize strip 15 (σ++τ)=st at*
   cases t.cs.mapM st with
   |none=>rfl
   |some y=>simp [hs]
  ·have:=lt_of_get ha
   simp only [D.under]
   exact underL_app (treeL_under _ t.plain.1) (by simp [underL,D.under,this])
theorem log65536:Nat.log2 65536=16:=by decide
abbrev z7n:List D:=[.int .i64 0, .int .i64 0, .str [], .empty, .empty, .int .i64 0, .nilptr]
set_option maxHeartbeats 4000000 in
theorem it124 (p:Prg) (σ:St): ∀ (m:Mt),m.wf p→ ∀cs,m.at σ (.agg cs)→ ∃cs',m.now.at σ (.agg cs')∧
 ∀σ1 τ,σ1=σ++τ→iterI (evalI CI XB GI 24 false lp124_0) [(1, .ptr σ1.length 0),(2, .ptr (σ1.length+1) 0)] (σ1++[.box cs, .box z7n])=some (.exit 0,[(1, .ptr σ1.length 0),(2, .ptr (σ1.length+1) 0),(6, .bool false)],σ1++[.box cs', .box z7n])
 | .mk (.mk k n s L ls tail) ps l,hwf,cs,hat=>by
  have hat0:=hat
  obtain ⟨_,ho,hpl,hl4,hlw⟩:=hwf
  obtain ⟨w,hc,hw⟩:=Mt.at_iff.1 hat
  have hcs:cs=[.int .i64 k, .int .i64 n, .str s, .slice (tysD L), .slice (ls.map Lab.d), .int .i64 tail,w]:=by
   cases hc;simp only [Ty.cs];rfl
  by_cases k1:k=1
  ·subst k1
   obtain ⟨ho1,_⟩:=ord_parts ho
   obtain ⟨j,hj,hjl⟩:=indexP_lt ps s (ord_param ho1)
   have hjm:j<l.length:=by omega
   have hnow: (Mt.mk (.mk 1 n s L ls tail) ps l).now=l[j].now:=by
    simp only [Mt.now,if_true,hj]
    exact nowL_get l j hjm
   rcases hw with ⟨_,rfl,rfl⟩ | ⟨a,ad,dl,rfl,ha,hr,hl⟩
   ·simp at hjm
   have hjd:j<dl.length:=by rw [mtsAt_len hl];exact hjm
   have hat1:=mtsAt_get hl j hjm hjd
   obtain ⟨cs1,h3,h4,h5⟩:=Mt.at_agg hat1
   rw [h3] at hat1
   obtain ⟨cs',h6,h7⟩:=it124 p σ l[j] (mtsWf_mem hlw (List.getElem_mem hjm)) cs1 hat1
   refine ⟨cs',by rw [hnow];exact h6,fun σ1 τ hσ=> ?_⟩
   rw [←h7 σ1 τ hσ]
   refine iterI_next ?_
   rw [hcs]
   have h89:=fun σ=>c89 ps s σ (by unfold maxL;omega)
   rw [hj] at h89
   have hjj: (j:Int) <dl.length:=by omega
   have y2:cs1.take 7=cs1:=List.take_of_length_le (by omega)
   have q89:qI 89=false:=rfl
   have x89:XB 89=false:=rfl
   have e1:=mtsAt_eqb hl
   have e2: (slD ps).eqb (slD ps)=true:=D.eqb_tree _ (plain_strs _).1
   have e4:=Mt.at_eqb hat1
   have ha2: ∀τ,(σ1++τ)[a]? =some (.box [slD ps,ad]):=fun τ=>getO (by rw [hσ];exact getO ha)
   clear hat hat0 hc hcs h7 hnow
   rcases hr with rfl| ⟨rfl,rfl⟩ | ⟨r,q,rfl,hrow,hq⟩
   ·generalize slD ps=pd at*
    generalize tysD L=LD at*
    generalize ls.map Lab.d=lsd at*
    simp [lp124_0,getA0,getA,setA0,setA,ha2,h89,hjd,hjj,h3,h4,h5,y2,e1,e2,e4,q89,x89,putCells,log65536,Nat.testBit_eq_decide_div_mod_eq]
   ·simp at hjd
   ·have hrow2: ∀τ,(σ1++τ)[r]? =some (.row 7 dl q):=fun τ=>getO (by rw [hσ];exact getO hrow)
    have hg:dl[j]? =some (.agg cs1):=by rw [List.getElem?_eq_getElem hjd,h3]
    generalize slD ps=pd at*
    generalize tysD L=LD at*
    generalize ls.map Lab.d=lsd at*
    simp [lp124_0,getA0,getA,setA0,setA,ha2,hrow2,hg,hq,h89,hjd,hjj,h3,h4,h5,y2,e1,e2,e4,q89,x89,putCells,log65536,Nat.testBit_eq_decide_div_mod_eq]
  ·have hnow: (Mt.mk (.mk k n s L ls tail) ps l).now=Mt.mk (.mk k n s L ls tail) ps l:=by
    simp only [Mt.now,if_neg k1]
   refine ⟨cs,by rw [hnow];exact hat0,fun σ1 τ hσ=> ?_⟩
   have b1: (k==1)=false:=by simpa using k1
   refine iterI_end ?_ (by simp)
   rw [hcs]
   simp [lp124_0,getA0,getA,b1]
termination_by m=>SizeOf.sizeOf m
decreasing_by
 have:=List.sizeOf_lt_of_mem (List.getElem_mem hjm)
 simp only [Mt.mk.sizeOf_spec]
 omega
theorem c124 (p:Prg) (m:Mt) (hwf:m.wf p) (σ:St) (cs:List D) (hat:m.at σ (.agg cs)): ∃cs',m.now.at σ (.agg cs')∧ ∀σ1 τ,σ1=σ++τ→CI (.fn 124) [.agg cs] σ1=some (.ret (.agg cs'),σ1):=by
 obtain ⟨cs',h1,hit⟩:=it124 p σ m hwf cs hat
 refine ⟨cs',h1,fun σ1 τ hσ=> ?_⟩
 have hit:=hit σ1 τ hσ
 obtain ⟨_,hx,_,y0⟩:=Mt.at_agg hat
 cases hx
 obtain ⟨_,hx,n1,n3⟩:=Mt.at_agg h1
 cases hx
 have n2:cs'.take 7=cs':=List.take_of_length_le (by omega)
 have n4:cs'.drop 7=[]:=List.drop_of_length_le (by omega)
 have hτ:bodyI CI XB GI af124 [.agg cs] σ1=some (.ret (.agg cs'),σ1++[.box cs', .box cs']):=by
  simp [bodyI,af124,getA0,getA,setA0,setA,y0,hit,n1,n2,n3,n4,putCells]
 exact CI_at tab124 hτ (by rw [hσ];exact Mt.at_app _ _ h1)
end Go.AI
