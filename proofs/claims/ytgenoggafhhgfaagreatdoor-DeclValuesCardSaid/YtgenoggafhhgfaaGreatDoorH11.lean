/- Texts of the proof: what functions of the program compute, step by step. No conditions of its own. -/
import Derived.Test.YtgenoggafhhgfaaGreatDoorH10
import Derived.Test.YtgenoggafhhgfaaGreatDoorH8
import Derived.Test.YtgenoggafhhgfaaGreatDoorH9
set_option linter.unusedVariables false
set_option linter.unusedSimpArgs false
namespace Go.AI
open Go Go.Proofs Go.Lx
set_option maxRecDepth 100000
theorem zQ {α:Type} (l:List α) (Q:α->Bool): (l.find? (fun a=> !Q a)).isNone=l.all Q:=by
 induction l with
 |nil=>rfl
 |cons a r ih=>rw [List.find?_cons,List.all_cons];cases h:Q a<;>simp [ih]
theorem Ty.EC (p:Int->Bool) (k n:Int) (s:Bs) (l:List Ty) (ls:List Lab) (tail:Int): (Ty.mk k n s l ls tail).cl p=(!(k==0|| (k==5&&p tail))&&(ls.all (fun x=>x.n==0)&&l.all (fun t=>t.cl p))):=by
 simp only [Ty.cl,mG,Bool.and_assoc]
set_option maxHeartbeats 1000000 in
theorem O6: ∀ (t:Ty),t.ok-> ∀ (σ:St),CI (.fn 116) [.agg t.cs] σ=some (.ret (.bool (t.cl dF)),σ)
 | .mk k n s l ls tail,hok,σ=>by
  obtain ⟨hl1,hl2,hl3⟩:=hok
  have ih:=fun x (hx:x ∈ l) σ=>O6 x (dX hl3 hx) σ
  obtain ⟨ld,hld,hll,hlg⟩:=opq Ty.d l
  obtain ⟨sd,hsd,hsl,hsg⟩:=opq Lab.d ls
  have hcs: (Ty.mk k n s l ls tail).cs=[.int .i64 k, .int .i64 n, .str s, .slice ld, .slice sd, .int .i64 tail]:=by simp only [Ty.cs,bS,hld,hsd]
  rw [hcs]
  have hit0:=eT (f:=aD CI XB GI 44 false pq) (σ:=σ++[.box [.int .i64 k, .int .i64 n, .str s, .slice ld, .slice sd, .int .i64 tail]]) ls (fun i=>[(1, .ptr σ.length 0),(23, .slice sd),(24, .int .i64 ls.length),(25, .int .i64 (i:Nat))]) (fun x=> !(x.n==0)) (fun _=>(.ret,[(2, .bool false)])) (.exit 0,[(1, .ptr σ.length 0),(23, .slice sd),(24, .int .i64 ls.length),(25, .int .i64 ls.length),(26, .bool false)]) (by simp) (by simp)
   (fun i hi τ=>by
     have hw:=aI (n:=i) (by unfold aQ at*;omega)
     obtain ⟨h2,h3⟩:=hsg i hi
     have hii: (i:Int) <ls.length:=by omega
     refine ⟨τ++[.box [.str ls[i].s, .int .i64 ls[i].n]], ?_⟩
     rw [<-List.append_assoc]
     unfold Lab.d at h3
     generalize ls[i].s=xs at*
     generalize ls[i].n=xn at*
     generalize σ++[Obj.box [.int .i64 k, .int .i64 n, .str s, .slice ld, .slice sd, .int .i64 tail]]++τ=σ1 at*
     by_cases hx:xn=0
     ·subst hx
      simp [pq,hi,hii,hw,h2,h3,az,aN]
     ·have hx1: (xn==0)=false:=by simpa using hx
      have hx2: (xn != 0)=true:=by simpa using hx
      simp [pq,hi,hii,hw,h2,h3,az,aN,hx,hx1,hx2]) (fun τ=>⟨τ,by simp [pq]⟩)
  have dB:=eT (f:=aD CI XB GI 44 false tf) (σ:=σ++[.box [.int .i64 k, .int .i64 n, .str s, .slice ld, .slice sd, .int .i64 tail]]) l (fun i=>[(34, .slice ld),(35, .int .i64 l.length),(36, .int .i64 (i:Nat))]) (fun x=> !(x.cl dF)) (fun _=>(.ret,[(2, .bool false)])) (.exit 2,[(34, .slice ld),(35, .int .i64 l.length),(36, .int .i64 l.length),(37, .bool false)]) (by simp) (by simp)
   (fun i hi τ=>by
     have hw:=aI (n:=i) (by unfold aQ at*;omega)
     obtain ⟨h2,h3⟩:=hlg i hi
     have ih:=ih l[i] (List.getElem_mem hi)
     have hii: (i:Int) <l.length:=by omega
     have y1:=l[i].aL
     have y2:=l[i].aM
     have y3:l[i].cs.all D.one=true:=by cases l[i];rfl
     refine ⟨τ++[.box l[i].cs], ?_⟩
     rw [<-List.append_assoc]
     unfold Ty.d at h3
     generalize l[i].cl dF=b at*
     generalize l[i].cs=xc at*
     generalize σ++[Obj.box [.int .i64 k, .int .i64 n, .str s, .slice ld, .slice sd, .int .i64 tail]]++τ=σ1 at*
     cases b<;>simp [tf,hi,hii,hw,h2,h3,az,aN,y1,y2,y3,ih]) (fun τ=>⟨τ,by simp [tf]⟩)
  rw [Int.natCast_zero] at hit0 dB
  obtain ⟨τ,hit0⟩:=hit0 []
  rw [List.append_nil] at hit0
  obtain ⟨τ',dB⟩:=dB τ
  have hf0:=zQ ls (fun x=>x.n==0)
  have hf1:=zQ l (fun t=>t.cl dF)
  obtain ⟨τ2,hτ⟩: ∃τ2,ah CI XB GI jJ [.agg [.int .i64 k, .int .i64 n, .str s, .slice ld, .slice sd, .int .i64 tail]] σ=some (.ret (.bool ((Ty.mk k n s l ls tail).cl dF)),σ++τ2):=by
   rw [Ty.EC,<-hf0,<-hf1]
   have rest: (k==0)=false->((k==5)&&(tail != -1))=false-> ∃τ2,ah CI XB GI jJ [.agg [.int .i64 k, .int .i64 n, .str s, .slice ld, .slice sd, .int .i64 tail]] σ=some (.ret (.bool ((ls.find? (fun a=> !(a.n==0))).isNone&&(l.find? (fun a=> !(a.cl dF))).isNone)),σ++τ2):=by
    intro hk hk5
    have hg: ∀y,(σ++[Obj.box [.int .i64 k, .int .i64 n, .str s, .slice ld, .slice sd, .int .i64 tail]]++y)[σ.length]? =some (.box [.int .i64 k, .int .i64 n, .str s, .slice ld, .slice sd, .int .i64 tail]):=fun y=>by rw [List.append_assoc];exact az
    have hg0:=hg []
    rw [List.append_nil] at hg0
    cases hc0:ls.find? (fun a=> !(a.n==0)) with
    |some a=>
     rw [hc0] at hit0
     refine ⟨[.box [.int .i64 k, .int .i64 n, .str s, .slice ld, .slice sd, .int .i64 tail]]++τ, ?_⟩
     rw [<-List.append_assoc]
     cases h5:k==5
     ·simp [ah,jJ,az,hk,h5,hll,hsl,hit0]
     ·rw [h5] at hk5
      have ht: (tail != -1)=false:=by simpa using hk5
      simp [ah,jJ,az,hk,h5,ht,hll,hsl,hit0]
    |none=>
     rw [hc0] at hit0
     have hg1:=hg τ
     refine ⟨[.box [.int .i64 k, .int .i64 n, .str s, .slice ld, .slice sd, .int .i64 tail]]++τ', ?_⟩
     rw [<-List.append_assoc]
     generalize σ++[Obj.box [.int .i64 k, .int .i64 n, .str s, .slice ld, .slice sd, .int .i64 tail]]++τ=σ1 at*
     generalize σ++[Obj.box [.int .i64 k, .int .i64 n, .str s, .slice ld, .slice sd, .int .i64 tail]]++τ'=σ2 at*
     cases hc1:l.find? (fun a=> !(a.cl dF)) with
     |some a=>
      rw [hc1] at dB
      cases h5:k==5
      ·simp [ah,jJ,az,hk,h5,hll,hsl,hit0,hg1,dB]
      ·rw [h5] at hk5
       have ht: (tail != -1)=false:=by simpa using hk5
       simp [ah,jJ,az,hk,h5,ht,hll,hsl,hit0,hg1,dB]
     |none=>
      rw [hc1] at dB
      cases h5:k==5
      ·simp [ah,jJ,az,hk,h5,hll,hsl,hit0,hg1,dB]
      ·rw [h5] at hk5
       have ht: (tail != -1)=false:=by simpa using hk5
       simp [ah,jJ,az,hk,h5,ht,hll,hsl,hit0,hg1,dB]
   unfold dF at*
   cases hk:k==0
   ·cases hk5: (k==5)&&(tail != -1)
    ·obtain ⟨τ2,h⟩:=rest hk hk5
     exact ⟨τ2,by rw [h];rfl⟩
    ·obtain ⟨h5,ht⟩:=Bool.and_eq_true_iff.1 hk5
     refine ⟨[.box [.int .i64 k, .int .i64 n, .str s, .slice ld, .slice sd, .int .i64 tail]], ?_⟩
     simp [ah,jJ,az,hk,h5,ht]
   ·refine ⟨[.box [.int .i64 k, .int .i64 n, .str s, .slice ld, .slice sd, .int .i64 tail]], ?_⟩
    simp [ah,jJ,az,hk]
  exact aR Km hτ rfl rfl
termination_by t=>SizeOf.sizeOf t
decreasing_by
 have:=List.sizeOf_lt_of_mem hx
 simp only [Ty.mk.sizeOf_spec]
 omega
theorem Kn (k n:Int) (s:Bs) (ld:List D) (ls:List Lab) (hl:ls.length<=aQ) (tail:Int) (q:Nat) (σ:St) (hq:σ[q]? =some (.box [.int .i64 k, .int .i64 n, .str s, .slice ld, .slice (ls.map Lab.d), .int .i64 tail])): ∀ (m i:Nat),i+m=ls.length-> ∀b:Bool,
 aU (aD CI XB GI 56 false yg) [(1, .ptr q 0),(3, .bool b),(4, .int .i64 (i:Nat))] σ=
  some (.exit 0,[(1, .ptr q 0),(3, .bool (b&&(ls.drop i).all fun x=>x.n==0)),(4, .int .i64 ls.length),(25, .bool false)],σ):=by
 obtain ⟨sd,hsd,hsl,hsg⟩:=opq Lab.d ls
 rw [hsd] at hq
 intro m
 induction m with
 |zero=>
  intro i hi b
  obtain rfl:i=ls.length:=by omega
  refine aH ?_ (by simp)
  rw [List.drop_length]
  simp [yg,hq,hsl]
 |succ m ih=>
  intro i hi b
  have hlt:i<ls.length:=by omega
  have hii: (i:Int) <ls.length:=by omega
  have hw:=aI (n:=i) (by unfold aQ at*;omega)
  obtain ⟨h2,h3⟩:=hsg i hlt
  rw [List.drop_eq_getElem_cons hlt,List.all_cons,<-Bool.and_assoc,<-ih (i+1) (by omega)]
  refine aO ?_
  unfold Lab.d at h3
  generalize ls[i].s=xs at*
  generalize ls[i].n=xn at*
  cases b<;>simp [yg,hq,hsl,hlt,hii,hw,h2,h3]
theorem c72: ∀ (t:Ty),t.ok-> ∀ (σ:St),CI (.fn 72) [.agg t.cs] σ=some (.ret (.bool (t.cl dF)),σ)
 | .mk k n s l ls tail,hok,σ=>by
  obtain ⟨hl1,hl2,hl3⟩:=hok
  have ih:=fun x (hx:x ∈ l) σ=>c72 x (dX hl3 hx) σ
  obtain ⟨ld,hld,hll,hlg⟩:=opq Ty.d l
  have hcs: (Ty.mk k n s l ls tail).cs=[.int .i64 k, .int .i64 n, .str s, .slice ld, .slice (ls.map Lab.d), .int .i64 tail]:=by simp only [Ty.cs,bS,hld]
  rw [hcs]
  have hq: (σ++[Obj.box [.int .i64 k, .int .i64 n, .str s, .slice ld, .slice (ls.map Lab.d), .int .i64 tail]])[σ.length]? =some (.box [.int .i64 k, .int .i64 n, .str s, .slice ld, .slice (ls.map Lab.d), .int .i64 tail]):=az
  have it0:=Kn k n s ld ls hl2 tail σ.length _ hq ls.length 0 (by omega)
  rw [Int.natCast_zero,List.drop_zero] at it0
  have it1: ∀ (m i:Nat),i+m=l.length-> ∀b:Bool,∃j:Int,aU (aD CI XB GI 56 false q4) [(1, .ptr σ.length 0),(3, .bool b),(5, .int .i64 (i:Nat))] (σ++[Obj.box [.int .i64 k, .int .i64 n, .str s, .slice ld, .slice (ls.map Lab.d), .int .i64 tail]])=
   some (.exit 2,[(1, .ptr σ.length 0),(3, .bool (b&&(l.drop i).all fun t=>t.cl dF)),(5, .int .i64 j),(46, .bool false)],σ++[Obj.box [.int .i64 k, .int .i64 n, .str s, .slice ld, .slice (ls.map Lab.d), .int .i64 tail]]):=by
   intro m
   induction m with
   |zero=>
    intro i hi b
    obtain rfl:i=l.length:=by omega
    refine ⟨l.length,aH ?_ (by simp)⟩
    rw [List.drop_length]
    generalize ls.map Lab.d=sd at*
    simp [q4,hq,hll]
   |succ m ihm=>
    intro i hi b
    have hlt:i<l.length:=by omega
    have hii: (i:Int) <l.length:=by omega
    have hw:=aI (n:=i) (by unfold aQ at*;omega)
    cases b
    ·refine ⟨i,aH ?_ (by simp)⟩
     generalize ls.map Lab.d=sd at*
     simp [q4,hq,hll,hlt]
    ·obtain ⟨h2,h3⟩:=hlg i hlt
     have ih:=ih l[i] (List.getElem_mem hlt)
     have y1:=l[i].aL
     have y2:=l[i].aM
     obtain ⟨j,hj⟩:=ihm (i+1) (by omega) (l[i].cl dF)
     refine ⟨j, ?_⟩
     rw [List.drop_eq_getElem_cons hlt,List.all_cons,Bool.true_and,<-hj]
     refine aO ?_
     clear hj it0
     unfold Ty.d at h3
     generalize l[i].cl dF=b at*
     generalize l[i].cs=xc at*
     generalize ls.map Lab.d=sd at*
     generalize σ++[Obj.box [.int .i64 k, .int .i64 n, .str s, .slice ld, .slice sd, .int .i64 tail]]=σ1 at*
     simp [q4,hq,hll,hlt,hii,hw,h2,h3,y1,y2,ih]
  have it1:=it1 l.length 0 (by omega)
  rw [Int.natCast_zero,List.drop_zero] at it1
  have hτ:ah CI XB GI yh [.agg [.int .i64 k, .int .i64 n, .str s, .slice ld, .slice (ls.map Lab.d), .int .i64 tail]] σ=some (.ret (.bool ((Ty.mk k n s l ls tail).cl dF)),σ++[Obj.box [.int .i64 k, .int .i64 n, .str s, .slice ld, .slice (ls.map Lab.d), .int .i64 tail]]):=by
   rw [Ty.EC]
   generalize (ls.all fun x=>x.n==0)=lb at*
   generalize (l.all fun t=>t.cl dF)=tb at*
   generalize ls.map Lab.d=sd at*
   have fin: ∀b,b= !(k==0|| (k==5&&dF tail))->(∀j:Int,aU (aD CI XB GI 56 false q4) [(1, .ptr σ.length 0),(3, .bool (b&&lb)),(5, .int .i64 0)] (σ++[Obj.box [.int .i64 k, .int .i64 n, .str s, .slice ld, .slice sd, .int .i64 tail]])=
    some (.exit 2,[(1, .ptr σ.length 0),(3, .bool (b&&lb&&tb)),(5, .int .i64 j),(46, .bool false)],σ++[Obj.box [.int .i64 k, .int .i64 n, .str s, .slice ld, .slice sd, .int .i64 tail]])->
     ah CI XB GI yh [.agg [.int .i64 k, .int .i64 n, .str s, .slice ld, .slice sd, .int .i64 tail]] σ=some (.ret (.bool (b&&lb&&tb)),σ++[Obj.box [.int .i64 k, .int .i64 n, .str s, .slice ld, .slice sd, .int .i64 tail]])):=by
    intro b hb j it1
    have it0:=it0 b
    unfold dF at hb
    cases hk:k==0
    ·have hk': (k != 0)=true:=by rw [bne,hk];rfl
     cases h5:k==5
     ·have h5': (k != 5)=true:=by rw [bne,h5];rfl
      rw [hk,h5] at hb
      have hb:b=true:=hb
      subst hb
      simp only [Bool.true_and,Bool.false_and] at it0 it1 ⊢
      simp [ah,yh,az,hk',h5',it0,it1]
     ·have h5': (k != 5)=false:=by rw [bne,h5];rfl
      rw [hk,h5] at hb
      cases ht:tail== -1
      ·have ht': (tail != -1)=true:=by rw [bne,ht];rfl
       rw [ht'] at hb
       have hb:b=false:=hb
       subst hb
       simp only [Bool.true_and,Bool.false_and] at it0 it1 ⊢
       simp [ah,yh,az,hk',h5',ht,it0,it1]
      ·have ht': (tail != -1)=false:=by rw [bne,ht];rfl
       rw [ht'] at hb
       have hb:b=true:=hb
       subst hb
       simp only [Bool.true_and,Bool.false_and] at it0 it1 ⊢
       simp [ah,yh,az,hk',h5',ht,it0,it1]
    ·have hk': (k != 0)=false:=by rw [bne,hk];rfl
     rw [hk] at hb
     have hb:b=false:=hb
     subst hb
     simp only [Bool.true_and,Bool.false_and] at it0 it1 ⊢
     simp [ah,yh,az,hk',it0,it1]
   obtain ⟨j,hj⟩:=it1 ((!(k==0|| (k==5&&dF tail)))&&lb)
   have:=fin _ rfl j hj
   rw [this,Bool.and_assoc]
  exact aR O7 hτ rfl rfl
termination_by t=>SizeOf.sizeOf t
decreasing_by
 have:=List.sizeOf_lt_of_mem hx
 simp only [Ty.mk.sizeOf_spec]
 omega
def Prg.tyE (p:Prg) (t:Ty):Int:=orE p.decls (orE t.chk (if t.cl dF then t.ord p [] else 1))
theorem c65 (p:Prg) (m:b9) (hok:p.ok) (t:Ty) (ht:t.ok) (tb:Nat) (σ:St) (hT:IsT σ tb p m):CI (.fn 65) [.ptr tb 0, .agg t.cs] σ=some (gh (p.tyE t),σ):=by
 have hT2:IsT (σ++[.box t.cs]) tb p m:=hT.app
 have h56:=c56 p m hok tb _ hT2
 have h60:=fun σ=>c60 t ht σ
 have h116:=fun σ=>O6 t ht σ
 have h112:=ED p m hok.dl hok.el [] (by unfold aQ;simp) .empty (.inr ⟨rfl,rfl⟩) tb t ht _ hT2
 have y1:=t.aL
 have y2:=t.aM
 have y3:t.cs.all D.one=true:=by cases t;rfl
 refine yj O8 (τ:=[.box t.cs]) ?_
 unfold Prg.tyE orE
 generalize p.decls=z1 at*
 generalize t.chk=z2 at*
 generalize t.cl dF=b at*
 generalize t.ord p []=z3 at*
 generalize t.cs=tc at*
 by_cases h1:z1=0
 ·subst h1
  rw [cr] at h56
  by_cases h2:z2=0
  ·subst h2
   cases b
   ·simp [ah,zR,az,y1,y2,y3,h56,h60,h116,c58,c59,gh]
   ·by_cases h3:z3=0
    ·subst h3
     rw [cr] at h112
     simp [ah,zR,az,y1,y2,y3,h56,h60,h116,h112,c59,cr]
    ·rw [cG h3] at h112
     simp [ah,zR,az,y1,y2,y3,h56,h60,h116,h112,c59,cr,cG h3]
  ·rw [if_pos rfl,if_neg h2]
   simp [ah,zR,az,y1,y2,y3,h56,h60,c59,cG h2]
 ·rw [if_neg h1]
  rw [cG h1] at h56
  simp [ah,zR,az,y1,y2,y3,h56,cG h1]
theorem c23 (p:Prg) (hok:p.ok) (t:Ty) (ht:t.ok) (σ:St):CI (.fn 23) [.agg p.cs, .agg t.cs] σ=some (.ret (.int .i64 (p.tyE t)),σ):=by
 have h29:=fun σ=>c29 p hok σ
 have h71:=fun σ=>c71 t ht σ
 have h72:=fun σ=>c72 t ht σ
 have h73:=fun σ=>c73 p hok.dl hok.el [] (by unfold aQ;simp) .empty (.inr ⟨rfl,rfl⟩) t ht σ
 have hall:=p.bJ
 have hpl:=p.aL
 have hpt:=p.aM
 have y1:=t.aL
 have y2:=t.aM
 have y3:t.cs.all D.one=true:=by cases t;rfl
 have hτ:ah CI XB GI zS [.agg p.cs, .agg t.cs] σ=some (.ret (.int .i64 (p.tyE t)),σ++[.box p.cs, .box t.cs]):=by
  unfold Prg.tyE orE
  by_cases h2:t.chk=0
  ·rw [Ty.o8 p [] t (Ty.rU h2)] at h73
   rw [h2] at h71 ⊢
   generalize p.decls=z1 at*
   generalize t.cl dF=b at*
   generalize t.ord p []=z3 at*
   generalize t.cs=tc at*
   generalize p.cs=pc at*
   by_cases h1:z1=0
   ·subst h1
    cases b<;>simp [ah,zS,az,aS,hall,hpl,hpt,y1,y2,y3,h29,h71,h72,h73]
   ·have h1': (z1==0)=false:=by simpa using h1
    simp [ah,zS,az,aS,hall,hpl,hpt,y1,y2,y3,h29,h1,h1']
  ·rw [if_neg h2]
   have h2': (t.chk==0)=false:=by simpa using h2
   generalize p.decls=z1 at*
   generalize t.chk=z2 at*
   generalize t.cs=tc at*
   generalize p.cs=pc at*
   by_cases h1:z1=0
   ·subst h1
    simp [ah,zS,az,aS,hall,hpl,hpt,y1,y2,y3,h29,h71,h2,h2']
   ·have h1': (z1==0)=false:=by simpa using h1
    simp [ah,zS,az,aS,hall,hpl,hpt,y1,y2,y3,h29,h1,h1']
 exact aR O9 hτ rfl rfl
mutual
def Ty.rep (params:List Bs) (args:List Ty):Ty->Ty
 | .mk k n s l ls tail=>if k=1/\0<=cT params s then args.getD (cT params s).toNat (.mk k n s l ls tail) else .mk k n s (nN params args l) ls tail
def nN (params:List Bs) (args:List Ty):List Ty->List Ty
 | []=>[]
 |t::r=>t.rep params args::nN params args r
end
theorem uw (params:List Bs) (args:List Ty): ∀ (l:List Ty),nN params args l=l.map (Ty.rep params args)
 | []=>rfl
 |t::r=>by simp only [nN,List.map_cons,uw params args r]
mutual
def Ty.small:Ty->Prop
 | .mk k _ _ l ls _=>l.length<=4/\ls.length<=24/\(k=1->l=[])/\pz l
def pz:List Ty->Prop
 | []=>True
 |t::r=>t.small/\pz r
end
theorem eM: ∀ {l:List Ty} {t:Ty},pz l->t ∈ l->t.small
 |_::_,_,h, .head _=>h.1
 |_::_,_,h, .tail _ hm=>eM h.2 hm
theorem DN {k n:Int} {s:Bs} {len:Nat} {ls:List Lab} {tail:Int} (h:bR k n s len ls tail=0):len<=4/\(k=1->len=0):=by
 unfold bR at h
 split at h
 ·cases h
 split at h
 ·cases h
 split at h
 ·cases h
 rename_i _ _ hr
 rw [Bool.not_eq_true,Bool.not_eq_false'] at hr
 unfold inR dG cz at hr
 simp only [Bool.and_eq_true,decide_eq_true_eq] at hr
 constructor
 ·split at hr<;>(try split at hr)<;>omega
 ·intro hk
  subst hk
  simp at hr
  omega
mutual
theorem Ty.zT: ∀ (t:Ty) (n d:Int),t.e=0->0<=n->0<=t.left n d->t.small
 | .mk k m s l ls tail,n,d,he,hn,hl=>by
  simp only [Ty.e] at he
  simp only [Ty.left] at hl
  split at he
  ·rename_i ht
   obtain ⟨f1,f2⟩:=DN ht
   split at hl
   ·omega
   ·rename_i hd
    refine ⟨f1,by omega,fun hk=>List.length_eq_zero_iff.1 (f2 hk), ?_⟩
    by_cases hz:n - 1<0
    ·rw [fV _ _ _ hz] at hl;omega
    ·exact pE l (n - 1) (d - 1) he (by omega) hl
  ·rename_i ht;exact absurd he ht
theorem pE: ∀ (l:List Ty) (n d:Int),j8 l=0->0<=n->0<=cU l n d->pz l
 | [],_,_,_,_,_=>trivial
 |t::r,n,d,he,hn,hl=>by
  simp only [j8] at he
  simp only [cU] at hl
  rw [if_pos hn] at hl
  split at he
  ·rename_i ht
   by_cases hz:t.left n d<0
   ·rw [fV _ _ _ hz] at hl;omega
   ·exact ⟨Ty.zT t n d ht hn (by omega),pE r _ d he (by omega) hl⟩
  ·rename_i ht;exact absurd he ht
end
theorem Ty.mH {t:Ty} (h:t.chk=0):t.small:=by
 have he:=Ty.rU h
 rw [t.uj] at h
 split at h
 ·cases h
 ·exact Ty.zT t 3000 200 he (by omega) (by omega)
mutual
theorem Ty.CN: ∀ (t:Ty),t.rep [] []=t
 | .mk k n s l ls tail=>by
  simp only [Ty.rep]
  have: ¬(k=1/\0<=cT [] s):=by
   rintro ⟨_,h⟩
   unfold cT at h
   simp at h
  rw [if_neg this,ux l]
theorem ux: ∀ (l:List Ty),nN [] [] l=l
 | []=>rfl
 |t::r=>by simp only [nN,t.CN,ux r]
end
theorem jK (l:List Bs) (s:Bs) (h:0<=cT l s): ∃i:Nat,cT l s=i/\i<l.length:=by
 unfold cT at*
 cases hf:l.findIdx? (· ==s) with
 |none=>rw [hf] at h;simp at h
 |some i=>exact ⟨i,rfl,(List.findIdx?_eq_some_iff_getElem.1 hf).1⟩
def rX (p:Prg) (s:Bs):Nat:=(idxOf (fun x:Dat=>x.name==s) p.data).toNat
theorem jL {p:Prg} {params:List Bs} {s:Bs} {len:Nat} {ls:List Lab} (h:iY p params 1 s len ls=0):0<=cT params s:=by
 unfold iY at h
 simp at h
 have h1:=jI params s
 rw [show params.contains s=true from h] at h1
 simpa using h1
theorem jM {p:Prg} {params:List Bs} {s:Bs} {len:Nat} {ls:List Lab} (h:iY p params 6 s len ls=0): ∃i:Nat,idxOf (fun x:Dat=>x.name==s) p.data=i/\rX p s=i/\ ∃hi:i<p.data.length,p.data[i].params.length=len:=by
 unfold iY at h
 rw [if_neg (by decide),if_pos rfl] at h
 rcases fk (fun x:Dat=>x.name==s) p.data with ⟨_,hf⟩ | ⟨i,hi,hil,hf,_⟩
 ·rw [hf] at h;cases h
 ·rw [hf] at h
  simp only at h
  refine ⟨i,hi,by unfold rX;rw [hi];rfl,hil, ?_⟩
  split at h
  ·assumption
  ·cases h
theorem dM {p:Prg} {params:List Bs} {k n:Int} {s:Bs} {l:List Ty} {ls:List Lab} {tail:Int} (h: (Ty.mk k n s l ls tail).ord p params=0):iY p params k s l.length ls=0/\ ∀t ∈ l,t.ord p params=0:=by
 simp only [Ty.ord] at h
 split at h
 ·rename_i h0
  rw [ki,dK] at h
  exact ⟨h0,fun t ht=>h _ (List.mem_map_of_mem ht)⟩
 ·rename_i h0;exact absurd h h0
def Dat.fit (p:Prg) (d:Dat):Prop:=d.params.length<=4/\d.cons.length<=100/\ ∀c ∈ d.cons,c.args.length<=4/\ ∀x ∈ c.args,x.small/\x.ord p d.params=0
end Go.AI
namespace Go.AI
end Go.AI
namespace Go.AI
open Go Go.Proofs Go.Lx
end Go.AI
namespace Go.AI
open Go Go.Proofs Go.Lx
set_option maxRecDepth 100000
theorem q5 {p:Prg} (h:p.decls=0) {d:Dat} (hd:d ∈ p.data) {c:Con} (hc:c ∈ d.cons):d.params.length<=4/\c.args.length<=4/\ ∀t ∈ c.args,t.chk=0:=by
 obtain ⟨hs,_⟩:=eG.1 h
 obtain ⟨_,_,_,hs3,_⟩:=Prg.iO hs
 obtain ⟨a1,a2,_,_,a5⟩:=gE (hs3 d hd)
 have:=a5 c hc
 unfold qU at this
 split at this
 ·cases this
 ·rename_i h4
  split at this
  ·refine ⟨a1,by omega,fun t ht=> ?_⟩
   unfold gA at this
   rw [dK] at this
   have h1:=this _ (List.mem_map_of_mem ht)
   unfold eF at h1
   split at h1
   ·assumption
   ·rename_i h2;exact absurd h1 h2
  ·cases this
theorem Pa (g:Nat) (first captured:List D) (e:Int) (σ σ':St) (hl:σ'.length=σ.length) (hk: ∀j,j<σ.length->σ'[j]? =σ[j]? \/ ∃o,σ'[j]? =some o/\o.under σ.length) (h:CI (.fn g) (first++captured) (σ++[.box [.int .i64 0]])=some (gh e,σ'++[.box [.int .i64 0]])):
 CI (.fn 54) [.func g first captured] σ=some (.ret (.int .i64 e),σ'):=by
 have hev:eD CI 154 [.func g first captured] σ=some (.ret (.int .i64 e),σ'++[.box [.int .i64 e]]):=by
  unfold eD
  simp only [h]
  rw [<-hl]
  by_cases he:e=0
  ·subst he
   rw [cr]
   simp [az,aN]
  ·rw [cG he]
   simp [fH,az,aN]
 exact zU (ty:=154) uq uy rfl rfl hev (nO (q:=qI) (f:=54) hl hk rfl rfl)
theorem nP {α β γ:Type} {step:Nat->α->β->β ⊕ γ} : ∀ (l:List α) (i:Nat) (b b':β),bf step l i b= .inl b'-> ∀a ∈ l,∃j c c',step j a c= .inl c'
 | [],_,_,_,_,a,ha=>by cases ha
 |x::r,i,b,b',h,a,ha=>by
  simp only [bf] at h
  cases hs:step i x b with
  |inr e=>rw [hs] at h;cases h
  |inl c=>
   rw [hs] at h
   cases ha with
   |head=>exact ⟨i,b,c,hs⟩
   |tail _ ha=>exact nP r (i+1) c b' h a ha
theorem nQ {α β γ:Type} {step:Nat->α->β->β ⊕ γ} : ∀ (l:List α) (i:Nat) (b:β) (e:γ),bf step l i b= .inr e-> ∃a j c,step j a c= .inr e
 | [],_,_,_,h=>by cases h
 |x::r,i,b,e,h=>by
  simp only [bf] at h
  cases hs:step i x b with
  |inr e'=>rw [hs] at h;cases h;exact ⟨x,i,b,hs⟩
  |inl c=>rw [hs] at h;exact nQ r (i+1) c e h
theorem zV {p:Prg} {j:Nat} {d:Dat} {c:List Bs × List Bs} (h:b7 p j d c= .inr 0):False:=by
 unfold b7 at h
 split at h
 ·cases h
 ·split at h
  ·cases h
  ·rename_i z hz
   cases h
   obtain ⟨a,i,b,h⟩:=nQ _ _ _ _ hz
   unfold cx at h
   split at h
   ·cases h
   ·split at h
    ·cases h
    ·rename_i hne
     exact hne (Sum.inr.inj h)
theorem gF {p:Prg} (h:p.decls=0):p.data.length<=12/\ ∀d ∈ p.data,d.fit p:=by
 obtain ⟨hs,ho⟩:=eG.1 h
 obtain ⟨h12,_,_,hs3,_⟩:=Prg.iO hs
 refine ⟨h12,fun d hd=> ?_⟩
 obtain ⟨a1,a2,_,_,_⟩:=gE (hs3 d hd)
 refine ⟨a1,by omega,fun c hc=> ?_⟩
 obtain ⟨_,b2,b3⟩:=q5 h hd hc
 refine ⟨b2,fun x hx=>⟨Ty.mH (b3 x hx), ?_⟩⟩
 unfold Prg.zP at ho
 cases hf:bf (b7 p) p.data 0 (builtins,[]) with
 |inr e=>
  rw [hf] at ho
  simp only at ho
  subst ho
  obtain ⟨a,j,c,h⟩:=nQ _ _ _ _ hf
  exact (zV h).elim
 |inl y=>
  obtain ⟨j,b,b',hst⟩:=nP _ _ _ _ hf d hd
  unfold b7 at hst
  split at hst
  ·cases hst
  ·split at hst
   ·rename_i z hz
    obtain ⟨j2,e,e',hst2⟩:=nP _ _ _ _ hz c hc
    unfold cx at hst2
    split at hst2
    ·cases hst2
    ·split at hst2
     ·rename_i h0
      rw [dK] at h0
      exact h0 _ (List.mem_map_of_mem hx)
     ·cases hst2
   ·cases hst
theorem gV {p:Prg} {t:Ty} (h:p.tyE t=0):p.decls=0/\t.chk=0/\t.cl dF=true/\t.ord p []=0:=by
 unfold Prg.tyE at h
 rw [eG,eG] at h
 obtain ⟨h1,h2,h3⟩:=h
 split at h3
 ·rename_i hc;exact ⟨h1,h2,hc,h3⟩
 ·cases h3
theorem lN {α β:Type} (g:α->β): ∀ (l:List α) (i:Nat) (b:List β),bf (γ:=Unit) (fun _ t b=> .inl (b++[g t])) l i b= .inl (b++l.map g)
 | [],i,b=>by simp [bf]
 |a::r,i,b=>by simp only [bf,lN g r];simp
theorem zW {α β:Type} (f:α->Option β): ∀ (l:List α) (l':List β),l.length=l'.length->(∀i (h:i<l.length) (h':i<l'.length),f l[i]=some l'[i])->l.mapM f=some l'
 | [],[],_,_=>rfl
 | [],_::_,h,_=>by simp at h
 |_::_,[],h,_=>by simp at h
 |a::r,b::s,h,hf=>by
  have h0:=hf 0 (by simp) (by simp)
  simp only [List.getElem_cons_zero] at h0
  have ih:=zW f r s (by simpa using h) (fun i h1 h2=>by
   have:=hf (i+1) (by simp;omega) (by simp;omega)
   simpa using this)
  rw [List.mapM_cons,h0,ih]
  rfl
inductive Mt where
 |mk (t:Ty) (ps:List Bs) (l:List Mt)
mutual
def Mt.cs:Mt->List D
 | .mk t ps l=>t.cs++[slD ps, .slice (bF l)]
def bF:List Mt->List D
 | []=>[]
 |m::r=> .agg m.cs::bF r
end
def Mt.d (m:Mt):D:= .agg m.cs
theorem eP: ∀ (l:List Mt),bF l=l.map Mt.d
 | []=>rfl
 |m::r=>by rw [bF,eP r];rfl
mutual
theorem Mt.nR: ∀m:Mt,bA m.cs
 | .mk t ps l=> .app t.plain (.cons (fQ _) (.cons (dY l).slice .nil))
theorem dY: ∀l:List Mt,bA (bF l)
 | []=> .nil
 |m::r=> .cons m.nR.agg (dY r)
end
theorem Mt.aL (m:Mt):m.cs.length=8:=by
 rcases m with ⟨t,ps,l⟩
 simp [Mt.cs,t.aL]
def inner (ps:List Bs) (l:List Mt) (ts:List Ty):List Mt:=ts.map fun t=> .mk t ps l
set_option maxHeartbeats 2000000 in
theorem Pb (t0:Ty) (ps:List Bs) (l:List Mt) (ts:List Ty) (hts:ts.length<=4) (σ:St):CI (.fn 195) [.agg (Mt.mk t0 ps l).cs, .slice (ts.map Ty.d)] σ=some (.ret (.slice (bF (inner ps l ts))),σ):=by
 obtain ⟨td,htd,htl,htg⟩:=opq Ty.d ts
 rw [htd]
 have hmc: (Mt.mk t0 ps l).cs=t0.cs++[slD ps, .slice (bF l)]:=by simp only [Mt.cs]
 have y0:=t0.aL
 have y0a:t0.cs.all D.one=true:=by cases t0;rfl
 have hone: (t0.cs++[slD ps,D.slice (bF l)]).all D.one=true:=by rw [List.all_append,y0a];rfl
 have hd6: (t0.cs++[slD ps,D.slice (bF l)]).drop 6=[slD ps, .slice (bF l)]:=by rw [<-y0,List.drop_left]
 have hd7: (t0.cs++[slD ps,D.slice (bF l)]).drop 7=[.slice (bF l)]:=by
  rw [show 7=6+1 by rfl,<-List.drop_drop,hd6];rfl
 rw [hmc]
 obtain ⟨τ,hit⟩:=cA (γ:=Unit) (f:=aD CI XB GI 26 false th) ts (fun j (b:List Mt)=>[(1, .slice td),(2, .ptr σ.length 0),(5, .arr (σ.length+1) b.length 0 b.length),(6, .int .i64 (j:Nat))])
  (fun b=>σ++[.box (t0.cs++[slD ps, .slice (bF l)]), .row 8 (bF b) 0]) (fun j b=>b.length=j) (fun _ t b=> .inl (b++[Mt.mk t ps l])) (fun _=>(.ret,[])) (fun _=>[])
  (fun b=>(.exit 0,[(1, .slice td),(2, .ptr σ.length 0),(5, .arr (σ.length+1) b.length 0 b.length),(6, .int .i64 ts.length),(10, .bool false)])) (by simp) (by simp)
  (fun j hj b b' hb hs=>by cases hs;simp [hb])
  (fun j hj b τ hbl=>by
    have hw:=aI (n:=j) (by omega)
    obtain ⟨h2,h3⟩:=htg j hj
    have hjj: (j:Int) <ts.length:=by omega
    have y1:=ts[j].aL
    have y2:=ts[j].aM
    have y3:ts[j].cs.all D.one=true:=by cases ts[j];rfl
    have g0: (σ++[Obj.box (t0.cs++[slD ps, .slice (bF l)]), .row 8 (bF b) 0]++τ)[σ.length]? =some (.box (t0.cs++[slD ps, .slice (bF l)])):=by rw [List.append_assoc];exact az
    have g2: (σ++[Obj.box (t0.cs++[slD ps, .slice (bF l)]), .row 8 (bF b) 0]++τ)[σ.length+1]? =some (.row 8 (bF b) 0):=by rw [List.append_assoc];exact aS
    have hmm:bF (b++[Mt.mk ts[j] ps l])=bF b++[.agg (ts[j].cs++[slD ps, .slice (bF l)])]:=by
     rw [eP,eP b,List.map_append];simp only [List.map_cons,List.map_nil,Mt.d,Mt.cs]
    have hs2: (σ++[Obj.box (t0.cs++[slD ps, .slice (bF l)]), .row 8 (bF b) 0]++τ).set (σ.length+1) (.row 8 (bF b++[.agg (ts[j].cs++[slD ps, .slice (bF l)])]) 0)=σ++[Obj.box (t0.cs++[slD ps, .slice (bF l)]), .row 8 (bF (b++[Mt.mk ts[j] ps l])) 0]++τ:=by
     rw [List.append_assoc,bP,hmm];simp
    have hbm: (bF b).length=b.length:=by rw [eP];simp
    have hba: (b.length+1) *136<=140737488355328:=by omega
    refine ⟨τ, ?_⟩
    simp only [List.length_append,List.length_cons,List.length_nil]
    rw [<-hs2]
    clear hs2
    unfold Ty.d at h3
    obtain ⟨k1,n1,s1,a1,b1,t1,hc⟩: ∃k1 n1 s1 a1 b1 t1,ts[j].cs=[.int .i64 k1, .int .i64 n1, .str s1, .slice a1, .slice b1, .int .i64 t1]:=by
     rcases ts[j] with ⟨k,n,s,l,ls,tail⟩;exact ⟨_,_,_,_,_,_,by simp only [Ty.cs];rfl⟩
    have hsl:slD ps= .slice (ps.map D.str):=rfl
    rw [hc] at h3 ⊢
    rw [hsl] at g0 g2 hd6 hd7 ⊢
    clear hmc hone hmm y1 y2 hc
    generalize σ++[Obj.box (t0.cs++[D.slice (ps.map D.str), .slice (bF l)]), .row 8 (bF b) 0]++τ=σ1 at*
    generalize t0.cs++[D.slice (ps.map D.str), .slice (bF l)]=mc at*
    generalize ps.map D.str=pd at*
    generalize bF b=bd at*
    generalize bF l=ldd at*
    simp [th,g0,g2,hj,hjj,hw,htl,h2,h3,hd6,hd7,rowOf,bw,bQ,aE,hbm,hba,Nat.testBit_eq_decide_div_mod_eq])
  (fun b τ hbl=>⟨τ,by
    generalize σ++[Obj.box (t0.cs++[slD ps, .slice (bF l)]), .row 8 (bF b) 0]++τ=σ1 at*
    simp [th,htl]⟩) [] [] rfl
 rw [lN,List.append_nil,List.nil_append] at hit
 have hml: (bF (ts.map fun t=>Mt.mk t ps l)).length=ts.length:=by rw [eP];simp
 have hτ:ah CI XB GI zX [.agg (t0.cs++[slD ps, .slice (bF l)]), .slice td] σ=some (.ret (.arr (σ.length+1) ts.length 0 ts.length),σ++([.box (t0.cs++[slD ps, .slice (bF l)]), .row 8 (bF (ts.map fun t=>Mt.mk t ps l)) 0]++τ)):=by
  rw [<-List.append_assoc]
  simp only [Int.natCast_zero,bF,List.length_nil,List.length_map] at hit
  generalize σ++[Obj.box (t0.cs++[slD ps, .slice (bF l)]), .row 8 (bF (ts.map fun t=>Mt.mk t ps l)) 0]++τ=σ2 at*
  generalize t0.cs++[slD ps,D.slice (bF l)]=mc at*
  simp [ah,zX,hone,hit]
 refine dj Ko hτ ?_
 have hrow: (σ++([Obj.box (t0.cs++[slD ps, .slice (bF l)]), .row 8 (bF (ts.map fun t=>Mt.mk t ps l)) 0]++τ))[σ.length+1]? =some (.row 8 (bF (ts.map fun t=>Mt.mk t ps l)) 0):=aS
 obtain ⟨p1,p2⟩:=jN hrow (by omega) (dY _).1 15
 rw [hml] at p1 p2
 rw [gG p1 (by rw [p2];intro j hj;simp at hj;omega)]
 rw [(dY (ts.map fun t=>Mt.mk t ps l)).slice.2]
 rfl
theorem F8:Nat.log2 512=9:=by decide
theorem zY:Nat.log2 1024=10:=by decide
set_option maxHeartbeats 4000000 in
theorem Pc (p:Prg) (hdl:p.data.length<=12) (k0 n0:Int) (s:Bs) (L:List Ty) (ls:List Lab) (tail:Int) (hL:L.length<=4) (ps:List Bs) (l:List Mt) (i:Nat) (hi:i<p.data.length) (hix:idxOf (fun x:Dat=>x.name==s) p.data=i)
 (k:Nat) (hk:k<p.data[i].cons.length) (hka:p.data[i].cons[k].args.length<=4) (σ:St):
 CI (.fn 156) [.agg p.cs, .agg (Mt.mk (.mk k0 n0 s L ls tail) ps l).cs, .int .i64 k] σ=some (.ret (.slice (bF (inner p.data[i].params (inner ps l L) p.data[i].cons[k].args))),σ):=by
 have h195:=fun σ=>Pb (.mk k0 n0 s L ls tail) ps l L hL σ
 have h195b:=fun σ=>Pb (.mk 0 0 [] [] [] 0) p.data[i].params (inner ps l L) p.data[i].cons[k].args hka σ
 have h123:=fun σ=>Ev p (by unfold aQ;omega) s σ
 simp only [hix] at h123
 have hp:=dY (inner p.data[i].params (inner ps l L) p.data[i].cons[k].args)
 suffices h: ∃τ,ah CI XB GI zZ [.agg p.cs, .agg (Mt.mk (.mk k0 n0 s L ls tail) ps l).cs, .int .i64 k] σ=some (.ret (.slice (bF (inner p.data[i].params (inner ps l L) p.data[i].cons[k].args))),σ++τ) by
  obtain ⟨τ,h⟩:=h
  exact aR Kp h hp.slice.1 hp.slice.2
 have f1:bC (p.data.map Dat.d) (p.data.map Dat.d)=true:=aG _ (bA.map fun x _=>x.plain).1
 have f2:bC (p.data[i].cons.map Con.d) (p.data[i].cons.map Con.d)=true:=aG _ (bA.map fun x _=>x.plain).1
 have f3:bC (p.data[i].params.map D.str) (p.data[i].params.map D.str)=true:=aG _ (bA.map fun x _=>cR x).1
 have f4:bC (ps.map D.str) (ps.map D.str)=true:=aG _ (bA.map fun x _=>cR x).1
 have f5:bC (ls.map Lab.d) (ls.map Lab.d)=true:=aG _ (bA.map fun x _=>x.plain).1
 have f6:bC (bF (inner ps l L)) (bF (inner ps l L))=true:=aG _ (dY _).1
 have f7:bC (p.data[i].cons[k].args.map Ty.d) (p.data[i].cons[k].args.map Ty.d)=true:=aG _ (by rw [<-bS];exact (iE _).1)
 obtain ⟨ld,hld,hll,hlg⟩:=opq Dat.d p.data
 rw [hld] at f1
 obtain ⟨h2,h3⟩:=hlg i hi
 have hh:p.cs.head?=some (.slice ld):=by rw [p.dw,<-hld];rfl
 have hdd:p.data[i].d= .agg [.str p.data[i].name, .slice (p.data[i].params.map D.str), .slice (p.data[i].cons.map Con.d)]:=rfl
 rw [hdd] at h3
 have hcs: (Mt.mk (.mk k0 n0 s L ls tail) ps l).cs=[.int .i64 k0, .int .i64 n0, .str s, .slice (aT L), .slice (ls.map Lab.d), .int .i64 tail, .slice (ps.map D.str), .slice (bF l)]:=by simp only [Mt.cs,Ty.cs];rfl
 have hcs2: (Mt.mk (.mk 0 0 [] [] [] 0) p.data[i].params (inner ps l L)).cs=[.int .i64 0, .int .i64 0, .str [], .slice [], .slice [], .int .i64 0, .slice (p.data[i].params.map D.str), .slice (bF (inner ps l L))]:=by simp only [Mt.cs,Ty.cs];rfl
 rw [hcs] at h195 ⊢
 rw [hcs2] at h195b
 have hall:=p.bJ
 have hpcl:=p.aL
 have hpct:=p.aM
 have hii: (i:Int) <p.data.length:=by omega
 obtain ⟨cd,hcd,hcl,hcg⟩:=opq Con.d p.data[i].cons
 obtain ⟨h4,h5⟩:=hcg k hk
 rw [hcd] at h3 f2
 have hcc:p.data[i].cons[k].d= .agg [.str p.data[i].cons[k].name, .slice (p.data[i].cons[k].args.map Ty.d)]:=by unfold Con.d Con.cs;rw [bS]
 rw [hcc] at h5
 have hkk: (k:Int) <p.data[i].cons.length:=by omega
 rw [<-bS] at h195
 have q195:qI 195=true:=rfl
 have x195:XB 195=false:=rfl
 have q123:qI 123=true:=rfl
 have x123:XB 123=false:=rfl
 have e3:bC p.cs p.cs=true:=aG _ p.plain.1
 have e4:bC (bF l) (bF l)=true:=aG _ (dY l).1
 have e5:bC (aT L) (aT L)=true:=aG _ (iE L).1
 generalize bF (inner p.data[i].params (inner ps l L) p.data[i].cons[k].args)=res at*
 generalize bF (inner ps l L)=mid at*
 generalize p.data[i].cons[k].args.map Ty.d=ad at*
 generalize p.data[i].cons[k].name=cn at*
 generalize p.data[i].params.map D.str=pd at*
 generalize p.data[i].name=dn at*
 generalize aT L=LD at*
 generalize ls.map Lab.d=lsd at*
 generalize ps.map D.str=psd at*
 generalize bF l=mld at*
 refine ⟨[.box p.cs, .box [.int .i64 k0, .int .i64 n0, .str s, .slice LD, .slice lsd, .int .i64 tail, .slice psd, .slice mld], .box [.str dn, .slice pd, .slice cd], .box [.int .i64 0, .int .i64 0, .str [], .slice [], .slice [], .int .i64 0, .slice pd, .slice mid]], ?_⟩
 have hp0':p.cs[0]? =some (.slice ld):=by rw [<-List.head?_eq_getElem?];exact hh
 obtain ⟨w0,hp0⟩:=List.getElem?_eq_some_iff.1 hp0'
 have g0: (D.slice ld).eqb (.slice ld)=true:=by rw [D.eqb];exact f1
 generalize p.cs=pc at*
 simp [ah,zZ,hp0,g0,az,aS,aN,bP,hall,hpcl,hpct,hh,hll,h2,h3,h4,h5,hi,hii,hk,hkk,hcl,h123,h195,h195b,bQ,aE,q195,x195,q123,x123,e3,e4,e5,f1,f2,f3,f4,f5,f6,f7,F8,zY,Nat.testBit_eq_decide_div_mod_eq]
mutual
def Mt.now:Mt->Mt
 | .mk (.mk k n s L ls tail) ps l=>if k=1 then lf l (cT ps s).toNat else .mk (.mk k n s L ls tail) ps l
def lf:List Mt->Nat->Mt
 | [],_=> .mk (.mk 0 0 [] [] [] 0) [] []
 |m::_,0=>m.now
 |_::r,i+1=>lf r i
end
theorem uz: ∀ (l:List Mt) (i:Nat) (h:i<l.length),lf l i=l[i].now
 |m::_,0,_=>by simp only [lf];rfl
 |_::r,i+1,h=>by
  have:=uz r i (by simpa using h)
  simp only [lf,this];rfl
mutual
def Mt.wf (p:Prg):Mt->Prop
 | .mk t ps l=>t.small/\t.ord p ps=0/\ps.length=l.length/\l.length<=4/\gB p l
def gB (p:Prg):List Mt->Prop
 | []=>True
 |m::r=>m.wf p/\gB p r
end
theorem fA {p:Prg} : ∀ {l:List Mt} {m:Mt},gB p l->m ∈ l->m.wf p
 |_::_,_,h, .head _=>h.1
 |_::_,_,h, .tail _ hm=>fA h.2 hm
set_option maxHeartbeats 4000000 in
theorem Jc (p:Prg) (σ:St): ∀ (m:Mt),m.wf p->aU (aD CI XB GI 18 false tj) [(1, .ptr σ.length 0),(2, .ptr (σ.length+1) 0)] (σ++[.box m.cs, .box z8])=some (.exit 0,[(1, .ptr σ.length 0),(2, .ptr (σ.length+1) 0),(6, .bool false)],σ++[.box m.now.cs, .box z8])
 | .mk (.mk k n s L ls tail) ps l,hwf=>by
  obtain ⟨_,ho,hpl,hl4,hlw⟩:=hwf
  have hcs: (Mt.mk (.mk k n s L ls tail) ps l).cs=[.int .i64 k, .int .i64 n, .str s, .slice (aT L), .slice (ls.map Lab.d), .int .i64 tail,slD ps, .slice (bF l)]:=by simp only [Mt.cs,Ty.cs];rfl
  by_cases k1:k=1
  ·subst k1
   obtain ⟨ho1,_⟩:=dM ho
   obtain ⟨j,hj,hjl⟩:=jK ps s (jL ho1)
   have hjm:j<l.length:=by omega
   have hnow: (Mt.mk (.mk 1 n s L ls tail) ps l).now=l[j].now:=by
    simp only [Mt.now,if_true,hj]
    exact uz l j hjm
   rw [hnow,<-Jc p σ l[j] (fA hlw (List.getElem_mem hjm))]
   refine aO ?_
   rw [hcs]
   have h152:=fun σ=>Pd ps s σ (by unfold aQ;omega)
   rw [hj] at h152
   obtain ⟨md,hmd,hml,hmg⟩:=opq Mt.d l
   rw [eP,hmd]
   obtain ⟨h2,h3⟩:=hmg j hjm
   have y1:=l[j].aL
   have y2:l[j].cs.take 8=l[j].cs:=List.take_of_length_le (by omega)
   have y3:l[j].cs.all D.one=true:=by
    rcases l[j] with ⟨t,ps',l'⟩
    simp only [Mt.cs];rw [List.all_append]
    have:t.cs.all D.one=true:=by cases t;rfl
    rw [this];rfl
   have hjj: (j:Int) <l.length:=by omega
   have q152:qI 152=false:=rfl
   have x152:XB 152=false:=rfl
   have e1:bC md md=true:=by rw [<-hmd,<-eP];exact aG _ (dY l).1
   have e2: (slD ps).eqb (slD ps)=true:=D.pF _ (fQ _).1
   unfold Mt.d at h3
   have y4:bC l[j].cs l[j].cs=true:=aG _ l[j].nR.1
   generalize l[j].cs=mc at*
   generalize slD ps=pd at*
   generalize aT L=LD at*
   generalize ls.map Lab.d=lsd at*
   simp [tj,az,aS,aN,bP,h152,hjm,hjj,hml,h2,h3,y1,y2,y3,y4,e1,e2,q152,x152,aE,zY,Nat.testBit_eq_decide_div_mod_eq]
  ·have hnow: (Mt.mk (.mk k n s L ls tail) ps l).now=Mt.mk (.mk k n s L ls tail) ps l:=by
    simp only [Mt.now,if_neg k1]
   rw [hnow]
   have b1: (k==1)=false:=by simpa using k1
   refine aH ?_ (by simp)
   rw [hcs]
   simp [tj,az,aS,b1]
termination_by m=>SizeOf.sizeOf m
decreasing_by
 have:=List.sizeOf_lt_of_mem (List.getElem_mem hjm)
 simp only [Mt.mk.sizeOf_spec]
 omega
theorem Mt.yl (m:Mt):m.cs.all D.one=true:=by
 rcases m with ⟨t,ps',l'⟩
 simp only [Mt.cs];rw [List.all_append]
 have:t.cs.all D.one=true:=by cases t;rfl
 rw [this];rfl
theorem Pe (p:Prg) (m:Mt) (hwf:m.wf p) (σ:St):CI (.fn 155) [.agg m.cs] σ=some (.ret (.agg m.now.cs),σ):=by
 have hit:=Jc p σ m hwf
 have h1:=m.yl
 have n1:=m.now.aL
 have n2:m.now.cs.take 8=m.now.cs:=List.take_of_length_le (by omega)
 have n3:=m.now.yl
 have n4:m.now.cs.drop 8=[]:=List.drop_of_length_le (by omega)
 have hp:=m.now.nR.agg
 have hτ:ah CI XB GI Aa [.agg m.cs] σ=some (.ret (.agg m.now.cs),σ++[.box m.now.cs, .box m.now.cs]):=by
  generalize m.now.cs=nc at*
  generalize m.cs=mc at*
  simp [ah,Aa,az,aS,aN,bP,h1,hit,n1,n2,n3,n4,aE]
 exact aR Kq hτ hp.1 hp.2
mutual
theorem Mt.nS {p:Prg} : ∀m:Mt,m.wf p->m.now.wf p/\(match m.now with| .mk (.mk k _ _ _ _ _) _ _=>k≠1)
 | .mk (.mk k n s L ls tail) ps l,hwf=>by
  by_cases k1:k=1
  ·subst k1
   have ho:=hwf.2.1
   obtain ⟨ho1,_⟩:=dM ho
   obtain ⟨j,hj,hjl⟩:=jK ps s (jL ho1)
   have hpl:=hwf.2.2.1
   have hnow: (Mt.mk (.mk 1 n s L ls tail) ps l).now=lf l j:=by
    simp only [Mt.now,if_true,hj];rfl
   rw [hnow]
   exact CO l hwf.2.2.2.2 j (by omega)
  ·have hnow: (Mt.mk (.mk k n s L ls tail) ps l).now=Mt.mk (.mk k n s L ls tail) ps l:=by
    simp only [Mt.now,if_neg k1]
   rw [hnow]
   exact ⟨hwf,k1⟩
theorem CO {p:Prg} : ∀ (l:List Mt),gB p l-> ∀j,j<l.length->(lf l j).wf p/\(match lf l j with| .mk (.mk k _ _ _ _ _) _ _=>k≠1)
 |m::_,h,0,_=>by
  have:=m.nS h.1
  simp only [lf];exact this
 |_::r,h,j+1,hj=>by
  have:=CO r h.2 j (by simpa using hj)
  simp only [lf];exact this
end
theorem gi {p:Prg} {ps:List Bs} {ml:List Mt} (h1:ps.length=ml.length) (h2:ml.length<=4) (h3:gB p ml): ∀ (L:List Ty),(∀t ∈ L,t.small/\t.ord p ps=0)->gB p (inner ps ml L)
 | [],_=>trivial
 |t::r,h=>⟨⟨(h t List.mem_cons_self).1,(h t List.mem_cons_self).2,h1,h2,h3⟩,gi h1 h2 h3 r fun x hx=>h x (List.mem_cons_of_mem _ hx)⟩
theorem eU (ps:List Bs) (ml:List Mt) (L:List Ty): (inner ps ml L).length=L.length:=List.length_map _
end Go.AI
namespace Go.AI
open Go Go.Proofs Go.Lx
end Go.AI
namespace Go.AI
open Go Go.Proofs Go.Lx
set_option maxRecDepth 100000
mutual
def Mt.ty:Mt->Ty
 | .mk t ps l=>t.rep ps (aP l)
def aP:List Mt->List Ty
 | []=>[]
 |m::r=>m.ty::aP r
end
theorem eH: ∀ (l:List Mt),aP l=l.map Mt.ty
 | []=>rfl
 |m::r=>by rw [aP,eH r];rfl
theorem jO (ps:List Bs) (ml:List Mt) (L:List Ty):aP (inner ps ml L)=L.map (Ty.rep ps (aP ml)):=by
 rw [eH];unfold inner;rw [List.map_map]
 exact List.map_congr_left fun t _=>by simp only [Function.comp,Mt.ty]
mutual
theorem Mt.nT {p:Prg} : ∀m:Mt,m.wf p->m.now.ty=m.ty
 | .mk (.mk k n s L ls tail) ps l,hwf=>by
  by_cases k1:k=1
  ·subst k1
   have ho:=hwf.2.1
   obtain ⟨ho1,_⟩:=dM ho
   obtain ⟨j,hj,hjl⟩:=jK ps s (jL ho1)
   have hpl:=hwf.2.2.1
   have hnow: (Mt.mk (.mk 1 n s L ls tail) ps l).now=lf l j:=by
    simp only [Mt.now,if_true,hj];rfl
   have hj0: (0:Int)<=j:=by omega
   have hjm:j<l.length:=by omega
   rw [hnow,CP l hwf.2.2.2.2 j hjm]
   simp only [Mt.ty,Ty.rep,hj,hj0,and_self,if_true]
   rw [eH]
   simp [hjm]
  ·have hnow: (Mt.mk (.mk k n s L ls tail) ps l).now=Mt.mk (.mk k n s L ls tail) ps l:=by
    simp only [Mt.now,if_neg k1]
   rw [hnow]
theorem CP {p:Prg} : ∀ (l:List Mt),gB p l-> ∀j (h:j<l.length),(lf l j).ty=l[j].ty
 |m::_,h,0,_=>by
  have:=m.nT h.1
  simp only [lf];exact this
 |_::r,h,j+1,hj=>by
  have:=CP r h.2 j (by simpa using hj)
  simp only [lf];exact this
end
theorem Ty.ym {k n:Int} {s:Bs} {L:List Ty} {ls:List Lab} {tail:Int} (ps:List Bs) (al:List Ty) (h:k≠1): (Ty.mk k n s L ls tail).rep ps al= .mk k n s (L.map (Ty.rep ps al)) ls tail:=by
 simp only [Ty.rep,uw]
 rw [if_neg (fun hc=>h hc.1)]
def uA (σ:St) (n:Nat) (ad:D) (dl:List D):Prop:=ad= .slice dl\/(ad= .empty/\dl=[])\/ ∃r q,ad= .arr r dl.length 0 dl.length/\σ[r]? =some (.row n dl q)/\q<=dl.length/\1<=dl.length
mutual
def Mt.at (σ:St):Mt->D->Prop
 | .mk t ps l,d=> ∃w,d= .agg (t.cs++[w])/\((w= .bL/\ps=[]/\l=[])\/ ∃a ad dl,w= .ptr a 0/\σ[a]? =some (.box [slD ps,ad])/\uA σ 7 ad dl/\dV σ l dl)
def dV (σ:St):List Mt->List D->Prop
 | [],dl=>dl=[]
 |m::r,dl=> ∃d dl',dl=d::dl'/\m.at σ d/\dV σ r dl'
end
def eI (σ:St) (ps:List Bs) (l:List Mt) (w:D):Prop:=(w= .bL/\ps=[]/\l=[])\/ ∃a ad dl,w= .ptr a 0/\σ[a]? =some (.box [slD ps,ad])/\uA σ 7 ad dl/\dV σ l dl
theorem Mt.gj {σ:St} {t:Ty} {ps:List Bs} {l:List Mt} {d:D} : (Mt.mk t ps l).at σ d↔ ∃w,d= .agg (t.cs++[w])/\eI σ ps l w:=by
 simp only [Mt.at,eI]
theorem uA.app {σ τ:St} {n:Nat} {ad:D} {dl:List D} (h:uA σ n ad dl):uA (σ++τ) n ad dl:=by
 rcases h with h|h| ⟨r,q,h1,h2,h3,h4⟩
 ·exact .inl h
 ·exact .inr (.inl h)
 ·exact .inr (.inr ⟨r,q,h1,bD h2,h3,h4⟩)
mutual
theorem Mt.uB {σ τ:St} : ∀ (m:Mt) (d:D),m.at σ d->m.at (σ++τ) d
 | .mk t ps l,d,h=>by
  simp only [Mt.at] at h ⊢
  obtain ⟨w,h1,h2⟩:=h
  refine ⟨w,h1, ?_⟩
  rcases h2 with h2| ⟨a,ad,dl,h3,h4,h5,h6⟩
  ·exact .inl h2
  ·exact .inr ⟨a,ad,dl,h3,bD h4,h5.app,mI l dl h6⟩
theorem mI {σ τ:St} : ∀ (l:List Mt) (dl:List D),dV σ l dl->dV (σ++τ) l dl
 | [],dl,h=>by simp only [dV] at h ⊢;exact h
 |m::r,dl,h=>by
  simp only [dV] at h ⊢
  obtain ⟨d,dl',h1,h2,h3⟩:=h
  exact ⟨d,dl',h1,m.uB d h2,mI r dl' h3⟩
end
theorem eI.app {σ τ:St} {ps:List Bs} {l:List Mt} {w:D} (h:eI σ ps l w):eI (σ++τ) ps l w:=by
 rcases h with h2| ⟨a,ad,dl,h3,h4,h5,h6⟩
 ·exact .inl h2
 ·exact .inr ⟨a,ad,dl,h3,bD h4,h5.app,mI l dl h6⟩
theorem wY {σ:St} : ∀ {l:List Mt} {dl:List D},dV σ l dl->dl.length=l.length
 | [],dl,h=>by simp only [dV] at h;subst h;rfl
 |m::r,dl,h=>by
  simp only [dV] at h
  obtain ⟨d,dl',rfl,_,h3⟩:=h
  simp [wY h3]
theorem wZ {σ:St} : ∀ {l:List Mt} {dl:List D},dV σ l dl-> ∀ (i:Nat) (h1:i<l.length) (h2:i<dl.length),l[i].at σ dl[i]
 |m::r,dl,h,0,_,_=>by
  simp only [dV] at h
  obtain ⟨d,dl',rfl,h2,_⟩:=h
  exact h2
 |m::r,dl,h,i+1,h1,h2=>by
  simp only [dV] at h
  obtain ⟨d,dl',rfl,_,h3⟩:=h
  exact wZ h3 i (by simpa using h1) (by simpa using h2)
theorem uC {σ:St} : ∀ {l:List Mt} {dl:List D} {m:Mt} {d:D},dV σ l dl->m.at σ d->dV σ (l++[m]) (dl++[d])
 | [],dl,m,d,h,hm=>by
  simp only [dV] at h
  subst h
  simp only [List.nil_append,dV]
  exact ⟨d,[],rfl,hm,rfl⟩
 |m::r,dl,m',d',h,hm=>by
  simp only [dV] at h
  obtain ⟨d,dl',rfl,h2,h3⟩:=h
  simp only [List.cons_append,dV]
  exact ⟨d,dl'++[d'],rfl,h2,uC h3 hm⟩
theorem uD {σ:St} {r i n q:Nat} {o o':Obj} (h:σ[r]? =some (.row n [] q)) (ho:σ[i]? =some o') (hne: ∀q,o'≠ .row n [] q): (σ.set r o)[i]? =some o':=by
 have:r≠i:=by
  rintro rfl
  rw [h] at ho
  exact hne q (Option.some.inj ho).symm
 rw [List.getElem?_set_ne this];exact ho
mutual
theorem Mt.w8 {σ:St} {r q:Nat} {o:Obj} (hr:σ[r]? =some (.row 7 [] q)): ∀ (m:Mt) (d:D),m.at σ d->m.at (σ.set r o) d
 | .mk t ps l,d,h=>by
  simp only [Mt.at] at h ⊢
  obtain ⟨w,h1,h2⟩:=h
  refine ⟨w,h1, ?_⟩
  rcases h2 with h2| ⟨a,ad,dl,h3,h4,h5,h6⟩
  ·exact .inl h2
  ·refine .inr ⟨a,ad,dl,h3,uD hr h4 (fun _ h=>by cases h), ?_,pG hr l dl h6⟩
   rcases h5 with h5|h5| ⟨r2,q2,e1,e2,e3,e4⟩
   ·exact .inl h5
   ·exact .inr (.inl h5)
   ·exact .inr (.inr ⟨r2,q2,e1,uD hr e2 (fun _ h=>by cases h;simp at e4),e3,e4⟩)
theorem pG {σ:St} {r q:Nat} {o:Obj} (hr:σ[r]? =some (.row 7 [] q)): ∀ (l:List Mt) (dl:List D),dV σ l dl->dV (σ.set r o) l dl
 | [],dl,h=>by simp only [dV] at h ⊢;exact h
 |m::r,dl,h=>by
  simp only [dV] at h ⊢
  obtain ⟨d,dl',h1,h2,h3⟩:=h
  exact ⟨d,dl',h1,m.w8 hr d h2,pG hr r dl' h3⟩
end
theorem eI.Kr {σ:St} {r q:Nat} {o:Obj} {ps:List Bs} {l:List Mt} {w:D} (hr:σ[r]? =some (.row 7 [] q)) (h:eI σ ps l w):eI (σ.set r o) ps l w:=by
 have h1: (Mt.mk (.mk 0 0 [] [] [] 0) ps l).at σ (.agg ((Ty.mk 0 0 [] [] [] 0).cs++[w])):=Mt.gj.2 ⟨w,rfl,h⟩
 obtain ⟨w',h2,h3⟩:=Mt.gj.1 (Mt.w8 (o:=o) hr _ _ h1)
 have h4:=D.agg.inj h2
 have h5:w=w':=by simpa using h4
 rw [h5];exact h3
theorem Mt.nU {σ:St} {m:Mt} {d:D} (h:m.at σ d): ∃cs,d= .agg cs/\cs.length=7/\cs.all D.one=true:=by
 rcases m with ⟨t,ps,l⟩
 obtain ⟨w,rfl,hw⟩:=Mt.gj.1 h
 refine ⟨_,rfl,by simp [t.aL], ?_⟩
 have:t.cs.all D.one=true:=by cases t;rfl
 rw [List.all_append,this]
 rcases hw with ⟨rfl,_⟩ | ⟨a,ad,dl,rfl,_⟩<;>rfl
theorem Ab {a b:List D} (ha:bC a a=true) (hb:bC b b=true):bC (a++b) (a++b)=true:=by
 induction a with
 |nil=>exact hb
 |cons x r ih=>
  simp only [bC,Bool.and_eq_true,List.cons_append] at ha ⊢
  exact ⟨ha.1,ih ha.2⟩
theorem Mt.yp {σ:St} {m:Mt} {cs:List D} (h:m.at σ (.agg cs)):bC cs cs=true:=by
 rcases m with ⟨t,ps,l⟩
 obtain ⟨w,hc,hw⟩:=Mt.gj.1 h
 cases hc
 refine Ab (aG _ t.plain.1) ?_
 rcases hw with ⟨rfl,_⟩ | ⟨a,ad,dl,rfl,_⟩<;>simp
theorem w9 {σ:St} : ∀ {l:List Mt} {dl:List D},dV σ l dl->bC dl dl=true
 | [],dl,h=>by simp only [dV] at h;subst h;rfl
 |m::r,dl,h=>by
  simp only [dV] at h
  obtain ⟨d,dl',rfl,h2,h3⟩:=h
  obtain ⟨cs,rfl,_⟩:=Mt.nU h2
  simp only [bC,D.eqb,Bool.and_eq_true]
  exact ⟨Mt.yp h2,w9 h3⟩
theorem BK {n:Nat} {a b:List D} (ha:cL n a=true) (hb:cL n b=true):cL n (a++b)=true:=by
 induction a with
 |nil=>exact hb
 |cons x r ih=>
  simp only [cL,Bool.and_eq_true,List.cons_append] at ha ⊢
  exact ⟨ha.1,ih ha.2⟩
theorem DO (n:Nat) (σ:St) (cs:List D) (h: (D.agg cs).tree=false):strip (n+1) σ (.agg cs)=(cs.mapM (strip n σ)).map .agg:=by
 rw [strip,if_neg (by rw [h];exact Bool.false_ne_true)]
theorem Ac (n:Nat) (σ:St) (cs:List D) (h: (D.tuple cs).tree=false):strip (n+1) σ (.tuple cs)=(cs.mapM (strip n σ)).map .tuple:=by
 rw [strip,if_neg (by rw [h];exact Bool.false_ne_true)]
theorem xb (n:Nat) (σ:St) (i o:Nat):strip n σ (.ptr i o)=none:=by
 cases n<;>simp [strip,D.tree]
theorem Pf {f:FuncId} {af:aF} (hT:aW f=some af) {args:List D} {σ τ:St} {m:Mt} {d:D} (h:ah CI XB GI af args σ=some (.ret d,σ++τ)) (hm:m.at σ d)
 (hx:okF f:=by exact ⟨⟨rfl,rfl⟩,rfl⟩):CI (.fn f) args σ=some (.ret d,σ):=by
 rcases m with ⟨t,ps,l⟩
 obtain ⟨w,rfl,hw⟩:=Mt.gj.1 hm
 rcases hw with ⟨rfl,_⟩ | ⟨a,ad,dl,rfl,ha,_⟩
 ·have hp:=(t.plain.app (b:=[.bL]) (.cons ⟨rfl,rfl⟩ .nil)).agg
  exact aR hT h hp.1 hp.2 hx
 ·refine dj hT h (Ad ?_ ?_) hx
  ·have hn: (D.agg (t.cs++[D.ptr a 0])).tree=false:=by
    rw [D.tree]
    have: ∀ (x:List D),bW (x++[D.ptr a 0])=false:=fun x=>by
     induction x with
     |nil=>rfl
     |cons y r ih=>simp only [List.cons_append,bW,ih,Bool.and_false]
    exact this _
   have hs:=xb 15 (σ++τ) a 0
   rw [DO 15 _ _ hn,List.mapM_append]
   generalize strip 15 (σ++τ)=st at*
   cases t.cs.mapM st with
   |none=>rfl
   |some y=>simp [hs]
  ·have:=b8 ha
   simp only [D.under]
   exact BK (fm _ t.plain.1) (by simp [cL,D.under,this])
theorem Ae:Nat.log2 65536=16:=by decide
abbrev z7n:List D:=[.int .i64 0, .int .i64 0, .str [], .empty, .empty, .int .i64 0, .bL]
set_option maxHeartbeats 4000000 in
theorem Jd (p:Prg) (σ:St): ∀ (m:Mt),m.wf p-> ∀cs,m.at σ (.agg cs)-> ∃cs',m.now.at σ (.agg cs')/\
 ∀σ1 τ,σ1=σ++τ->aU (aD CI XB GI 24 false pH) [(1, .ptr σ1.length 0),(2, .ptr (σ1.length+1) 0)] (σ1++[.box cs, .box z7n])=some (.exit 0,[(1, .ptr σ1.length 0),(2, .ptr (σ1.length+1) 0),(6, .bool false)],σ1++[.box cs', .box z7n])
 | .mk (.mk k n s L ls tail) ps l,hwf,cs,hat=>by
  have hat0:=hat
  obtain ⟨_,ho,hpl,hl4,hlw⟩:=hwf
  obtain ⟨w,hc,hw⟩:=Mt.gj.1 hat
  have hcs:cs=[.int .i64 k, .int .i64 n, .str s, .slice (aT L), .slice (ls.map Lab.d), .int .i64 tail,w]:=by
   cases hc;simp only [Ty.cs];rfl
  by_cases k1:k=1
  ·subst k1
   obtain ⟨ho1,_⟩:=dM ho
   obtain ⟨j,hj,hjl⟩:=jK ps s (jL ho1)
   have hjm:j<l.length:=by omega
   have hnow: (Mt.mk (.mk 1 n s L ls tail) ps l).now=l[j].now:=by
    simp only [Mt.now,if_true,hj]
    exact uz l j hjm
   rcases hw with ⟨_,rfl,rfl⟩ | ⟨a,ad,dl,rfl,ha,hr,hl⟩
   ·simp at hjm
   have hjd:j<dl.length:=by rw [wY hl];exact hjm
   have hat1:=wZ hl j hjm hjd
   obtain ⟨cs1,h3,h4,h5⟩:=Mt.nU hat1
   rw [h3] at hat1
   obtain ⟨cs',h6,h7⟩:=Jd p σ l[j] (fA hlw (List.getElem_mem hjm)) cs1 hat1
   refine ⟨cs',by rw [hnow];exact h6,fun σ1 τ hσ=> ?_⟩
   rw [<-h7 σ1 τ hσ]
   refine aO ?_
   rw [hcs]
   have h89:=fun σ=>c89 ps s σ (by unfold aQ;omega)
   rw [hj] at h89
   have hjj: (j:Int) <dl.length:=by omega
   have y2:cs1.take 7=cs1:=List.take_of_length_le (by omega)
   have q89:qI 89=false:=rfl
   have x89:XB 89=false:=rfl
   have e1:=w9 hl
   have e2: (slD ps).eqb (slD ps)=true:=D.pF _ (fQ _).1
   have e4:=Mt.yp hat1
   have ha2: ∀τ,(σ1++τ)[a]? =some (.box [slD ps,ad]):=fun τ=>bD (by rw [hσ];exact bD ha)
   clear hat hat0 hc hcs h7 hnow
   rcases hr with rfl| ⟨rfl,rfl⟩ | ⟨r,q,rfl,hrow,hq,_⟩
   ·generalize slD ps=pd at*
    generalize aT L=LD at*
    generalize ls.map Lab.d=lsd at*
    simp [pH,az,aS,aN,bP,ha2,h89,hjd,hjj,h3,h4,h5,y2,e1,e2,e4,q89,x89,aE,Ae,Nat.testBit_eq_decide_div_mod_eq]
   ·simp at hjd
   ·have hrow2: ∀τ,(σ1++τ)[r]? =some (.row 7 dl q):=fun τ=>bD (by rw [hσ];exact bD hrow)
    have hg:dl[j]? =some (.agg cs1):=by rw [List.getElem?_eq_getElem hjd,h3]
    generalize slD ps=pd at*
    generalize aT L=LD at*
    generalize ls.map Lab.d=lsd at*
    simp [pH,az,aS,aN,bP,ha2,hrow2,hg,hq,h89,hjd,hjj,h3,h4,h5,y2,e1,e2,e4,q89,x89,aE,Ae,Nat.testBit_eq_decide_div_mod_eq]
  ·have hnow: (Mt.mk (.mk k n s L ls tail) ps l).now=Mt.mk (.mk k n s L ls tail) ps l:=by
    simp only [Mt.now,if_neg k1]
   refine ⟨cs,by rw [hnow];exact hat0,fun σ1 τ hσ=> ?_⟩
   have b1: (k==1)=false:=by simpa using k1
   refine aH ?_ (by simp)
   rw [hcs]
   simp [pH,az,aS,b1]
termination_by m=>SizeOf.sizeOf m
decreasing_by
 have:=List.sizeOf_lt_of_mem (List.getElem_mem hjm)
 simp only [Mt.mk.sizeOf_spec]
 omega
theorem Ks (p:Prg) (m:Mt) (hwf:m.wf p) (σ:St) (cs:List D) (hat:m.at σ (.agg cs)): ∃cs',m.now.at σ (.agg cs')/\ ∀σ1 τ,σ1=σ++τ->CI (.fn 124) [.agg cs] σ1=some (.ret (.agg cs'),σ1):=by
 obtain ⟨cs',h1,hit⟩:=Jd p σ m hwf cs hat
 refine ⟨cs',h1,fun σ1 τ hσ=> ?_⟩
 have hit:=hit σ1 τ hσ
 obtain ⟨_,hx,_,y0⟩:=Mt.nU hat
 cases hx
 obtain ⟨_,hx,n1,n3⟩:=Mt.nU h1
 cases hx
 have n2:cs'.take 7=cs':=List.take_of_length_le (by omega)
 have n4:cs'.drop 7=[]:=List.drop_of_length_le (by omega)
 have hτ:ah CI XB GI Af [.agg cs] σ1=some (.ret (.agg cs'),σ1++[.box cs', .box cs']):=by
  simp [ah,Af,az,aS,aN,bP,y0,hit,n1,n2,n3,n4,aE]
 exact Pf Kt hτ (by rw [hσ];exact Mt.uB _ _ h1)
theorem Ry {σ τ:St} {a b c o:Obj} {r:Nat} : (σ++[a,b,c]++τ).set (σ.length+3+r) o=σ++[a,b,c]++τ.set r o:=by
 rw [List.append_assoc,Nat.add_assoc,bP,List.append_assoc]
 congr 1
 show ([a,b,c]++τ).set (3+r) o=[a,b,c]++τ.set r o
 rw [Nat.add_comm];rfl
theorem Pg {σ τ:St} {a b c:Obj} {r:Nat} : (σ++[a,b,c]++τ)[σ.length+3+r]? =τ[r]? :=by
 rw [List.append_assoc,Nat.add_assoc,aS]
 show ([a,b,c]++τ)[3+r]? =τ[r]?
 rw [Nat.add_comm];rfl
theorem Ph {σ τ:St} {a b c o:Obj} : (σ++[a,b,c]++τ).set (σ.length+2) o=σ++[a,b,o]++τ:=by
 rw [List.append_assoc,bP,List.append_assoc];rfl
theorem F9 {f:FuncId} {af:aF} (hT:aW f=some af) {args:List D} {σ τ:St} {i:Nat} {d:D} (h:ah CI XB GI af args σ=some (.ret (.tuple [d, .ptr (σ.length+i) 0]),σ++τ)) (hq:qI f=false)
 (hx:okF f:=by exact ⟨⟨rfl,rfl⟩,rfl⟩):CI (.fn f) args σ=some (.ret (.tuple [d, .ptr (σ.length+i) 0]),σ++τ):=by
 refine dj hT h ?_ hx
 have ht:trim σ (some (.ret (.tuple [d, .ptr (σ.length+i) 0]),σ++τ))=some (.ret (.tuple [d, .ptr (σ.length+i) 0]),σ++τ):=by
  unfold trim
  have:fK σ.length (σ++τ) (.ret (.tuple [d, .ptr (σ.length+i) 0]))=none:=by
   have h1:strip 16 (σ++τ) (.tuple [d, .ptr (σ.length+i) 0])=none:=by
    have hs:=xb 15 (σ++τ) (σ.length+i) 0
    have ht: (D.tuple [d, .ptr (σ.length+i) 0]).tree=false:=by simp [D.tree,bW]
    rw [Ac 15 _ _ ht,show [d,D.ptr (σ.length+i) 0]=[d]++[D.ptr (σ.length+i) 0] by rfl,List.mapM_append]
    generalize strip 15 (σ++τ)=st at*
    cases [d].mapM st with
    |none=>rfl
    |some y=>simp [hs]
   simp [fK,h1,D.under,cL]
  simp only [this,if_pos fX]
 unfold eA
 rw [ht]
 simp [hq]
abbrev Ku (q:Nat) (ld:List D) (n i:Nat):Env:=[(3, .ptr q 0),(6, .ptr (q+1) 0),(7, .ptr (q+2) 0),(28, .slice ld),(29, .int .i64 n),(30, .int .i64 i)]
def argsAt (σ:St) (ad:D) (dl:List D) (τ:St):Prop:=(ad= .empty/\dl=[])\/ ∃r,ad= .arr (σ.length+3+r) dl.length 0 dl.length/\τ[r]? =some (.row 7 dl 1)/\1<=dl.length
theorem xg:Nat.log2 16384=14:=by decide
set_option maxHeartbeats 8000000 in
theorem EE (p:Prg) (k0 n0:Int) (s:Bs) (L:List Ty) (ls:List Lab) (tail:Int) (ps:List Bs) (l:List Mt) (hL:L.length<=4) (hwf: ∀t ∈ L,(Mt.mk t ps l).wf p) (w:D) (pd:D) (dc:List D) (σ:St) (hw:eI σ ps l w):
 ∀ (k i:Nat),i+k=L.length-> ∀ (ad:D) (dl:List D) (τ:St),argsAt σ ad dl τ->dl.length=i->dV σ ((inner ps l (L.take i)).map Mt.now) dl->
  ∃ad' dl' τ',argsAt σ ad' dl' τ'/\dV σ ((inner ps l L).map Mt.now) dl'/\
   aU (aD CI XB GI 52 false pI) (Ku σ.length (L.map Ty.d) L.length i) (σ++[.box ((Ty.mk k0 n0 s L ls tail).cs++[w]), .box dc, .box [pd,ad]]++τ)=
    some (.exit 0,Ku σ.length (L.map Ty.d) L.length L.length++[(31, .bool false)],σ++[.box ((Ty.mk k0 n0 s L ls tail).cs++[w]), .box dc, .box [pd,ad']]++τ')
 |0,i,hi,ad,dl,τ,hA,hd,hm=>by
  obtain rfl:i=L.length:=by omega
  rw [List.take_length] at hm
  refine ⟨ad,dl,τ,hA,hm,aH ?_ (by simp)⟩
  simp [pI]
 |k+1,i,hi,ad,dl,τ,hA,hd,hm=>by
  have hlt:i<L.length:=by omega
  have hwi:=hwf L[i] (List.getElem_mem hlt)
  obtain ⟨cs',h1,h124⟩:=Ks p (.mk L[i] ps l) hwi σ (L[i].cs++[w]) (Mt.gj.2 ⟨w,rfl,hw⟩)
  obtain ⟨_,hx,n1,n3⟩:=Mt.nU h1
  cases hx
  have hm2:dV σ ((inner ps l (L.take (i+1))).map Mt.now) (dl++[.agg cs']):=by
   have e: (inner ps l (L.take (i+1))).map Mt.now=(inner ps l (L.take i)).map Mt.now++[(Mt.mk L[i] ps l).now]:=by
    unfold inner;rw [List.take_succ_eq_append_getElem hlt,List.map_append,List.map_append];rfl
   rw [e];exact uC hm h1
  have hwr:=aI (n:=i) (by omega)
  obtain ⟨ld,hld,hll,hlg⟩:=opq Ty.d L
  obtain ⟨g2,g3⟩:=hlg i hlt
  have hii: (i:Int) <L.length:=by omega
  have y1:=L[i].aL
  have y2:=L[i].aM
  have y3:L[i].cs.all D.one=true:=by cases L[i];rfl
  have hcs: (Ty.mk k0 n0 s L ls tail).cs++[w]=[.int .i64 k0, .int .i64 n0, .str s, .slice (aT L), .slice (ls.map Lab.d), .int .i64 tail,w]:=by simp only [Ty.cs];rfl
  have q124:qI 124=false:=rfl
  have x124:XB 124=false:=rfl
  have e1:=Mt.yp h1
  have e2:bC (L[i].cs++[w]) (L[i].cs++[w])=true:=Mt.yp (σ:=σ) (m:= .mk L[i] ps l) (Mt.gj.2 ⟨w,rfl,hw⟩)
  have ew:w.eqb w=true:=by rcases hw with ⟨rfl,_⟩ | ⟨a,_,_,rfl,_⟩<;>simp
  have hwf2:w= .bL\/ ∃a,w= .ptr a 0:=hw.elim (fun h=> .inl h.1) fun ⟨a,_,_,h,_⟩=> .inr ⟨a,h⟩
  have e3:bC L[i].cs L[i].cs=true:=aG _ L[i].plain.1
  unfold Ty.d at g3
  obtain ⟨k1,m1,s1,a1,b1,t1,hc⟩: ∃k1 m1 s1 a1 b1 t1,L[i].cs=[.int .i64 k1, .int .i64 m1, .str s1, .slice a1, .slice b1, .int .i64 t1]:=by
   rcases L[i] with ⟨k,n,s,l,ls,tail⟩;exact ⟨_,_,_,_,_,_,by simp only [Ty.cs];rfl⟩
  rw [hld]
  rcases hA with ⟨rfl,rfl⟩ | ⟨r,rfl,hr,hr1⟩
  ·obtain ⟨ad',dl',τ',r1,r2,r3⟩:=EE p k0 n0 s L ls tail ps l hL hwf w pd dc σ hw k (i+1) (by omega) (.arr (σ.length+3+ (τ.length+1)) 1 0 1) [.agg cs'] (τ++[.box L[i].cs, .row 7 [.agg cs'] 1])
    (.inr ⟨τ.length+1,rfl,by rw [aS];rfl,by simp⟩) (by simp at hd ⊢;omega) hm2
   refine ⟨ad',dl',τ',r1,r2, ?_⟩
   rw [hld] at r3
   rw [<-r3]
   refine aO ?_
   clear r3
   have hs:σ++[Obj.box ((Ty.mk k0 n0 s L ls tail).cs++[w]), .box dc, .box [pd, .arr (σ.length+3+ (τ.length+1)) 1 0 1]]++(τ++[.box L[i].cs, .row 7 [.agg cs'] 1])=(σ++[Obj.box ((Ty.mk k0 n0 s L ls tail).cs++[w]), .box dc, .box [pd, .empty]]++τ).set (σ.length+2) (Obj.box [pd, .arr (σ.length+3+ (τ.length+1)) 1 0 1])++[.box L[i].cs, .row 7 [.agg cs'] 1]:=by
    rw [Ph,List.append_assoc,List.append_assoc,List.append_assoc]
   have hlen: (σ++[Obj.box ((Ty.mk k0 n0 s L ls tail).cs++[w]), .box dc, .box [pd, .empty]]++τ).length=σ.length+3+τ.length:=by simp;omega
   have p0: (σ++[Obj.box ((Ty.mk k0 n0 s L ls tail).cs++[w]), .box dc, .box [pd, .empty]]++τ)[σ.length]? =some (.box ((Ty.mk k0 n0 s L ls tail).cs++[w])):=by rw [List.append_assoc];exact az
   have p2: (σ++[Obj.box ((Ty.mk k0 n0 s L ls tail).cs++[w]), .box dc, .box [pd, .empty]]++τ)[σ.length+2]? =some (.box [pd, .empty]):=by rw [List.append_assoc];exact aS
   have h124:=fun τ'=>h124 (σ++[Obj.box ((Ty.mk k0 n0 s L ls tail).cs++[w]), .box dc, .box [pd, .empty]]++τ++τ') _ (by rw [List.append_assoc,List.append_assoc])
   rw [hs]
   rw [hcs] at p0 p2 hlen h124 ⊢
   clear hs
   rw [hc] at h124 g3 y1 y2 y3 e2 e3 ⊢
   simp only [List.cons_append,List.nil_append] at h124 e2
   have hlt2:σ.length+2< (σ++[Obj.box [.int .i64 k0, .int .i64 n0, .str s, .slice (aT L), .slice (ls.map Lab.d), .int .i64 tail,w], .box dc, .box [pd, .empty]]++τ).length:=by omega
   generalize σ++[Obj.box [.int .i64 k0, .int .i64 n0, .str s, .slice (aT L), .slice (ls.map Lab.d), .int .i64 tail,w], .box dc, .box [pd, .empty]]++τ=σ1 at*
   clear h1
   rcases hwf2 with rfl| ⟨wa,rfl⟩<;>(simp [pI,hlt,hii,hwr,hll,g2,g3,az,aS,aN,bP,bD p0,bD p2,jb hlt2,h124,n1,n3,e1,e2,ew,e3,q124,x124,bQ,bw,rowOf,aE,hlen,xg,Nat.testBit_eq_decide_div_mod_eq];rfl)
  ·have hrl:=b8 hr
   have hdl: (dl++[D.agg cs']).length=dl.length+1:=by simp
   obtain ⟨ad',dl',τ',r1,r2,r3⟩:=EE p k0 n0 s L ls tail ps l hL hwf w pd dc σ hw k (i+1) (by omega) (.arr (σ.length+3+r) (dl.length+1) 0 (dl.length+1)) (dl++[.agg cs']) (τ.set r (.row 7 (dl++[.agg cs']) 1)++[.box L[i].cs])
    (.inr ⟨r,by rw [hdl],by rw [List.getElem?_append_left (by simpa using hrl),List.getElem?_set_self hrl],by omega⟩) (by omega) hm2
   refine ⟨ad',dl',τ',r1,r2, ?_⟩
   rw [hld] at r3
   rw [<-r3]
   refine aO ?_
   clear r3
   have hs:σ++[Obj.box ((Ty.mk k0 n0 s L ls tail).cs++[w]), .box dc, .box [pd, .arr (σ.length+3+r) (dl.length+1) 0 (dl.length+1)]]++(τ.set r (.row 7 (dl++[.agg cs']) 1)++[.box L[i].cs])=
    ((σ++[Obj.box ((Ty.mk k0 n0 s L ls tail).cs++[w]), .box dc, .box [pd, .arr (σ.length+3+r) dl.length 0 dl.length]]++τ).set (σ.length+3+r) (.row 7 (dl++[.agg cs']) 1)).set (σ.length+2) (.box [pd, .arr (σ.length+3+r) (dl.length+1) 0 (dl.length+1)])++[.box L[i].cs]:=by
    rw [Ry,Ph,List.append_assoc,List.append_assoc,List.append_assoc]
   have hlen: (σ++[Obj.box ((Ty.mk k0 n0 s L ls tail).cs++[w]), .box dc, .box [pd, .arr (σ.length+3+r) dl.length 0 dl.length]]++τ).length=σ.length+3+τ.length:=by simp;omega
   have p0: (σ++[Obj.box ((Ty.mk k0 n0 s L ls tail).cs++[w]), .box dc, .box [pd, .arr (σ.length+3+r) dl.length 0 dl.length]]++τ)[σ.length]? =some (.box ((Ty.mk k0 n0 s L ls tail).cs++[w])):=by rw [List.append_assoc];exact az
   have p2: (σ++[Obj.box ((Ty.mk k0 n0 s L ls tail).cs++[w]), .box dc, .box [pd, .arr (σ.length+3+r) dl.length 0 dl.length]]++τ)[σ.length+2]? =some (.box [pd, .arr (σ.length+3+r) dl.length 0 dl.length]):=by rw [List.append_assoc];exact aS
   have p3: (σ++[Obj.box ((Ty.mk k0 n0 s L ls tail).cs++[w]), .box dc, .box [pd, .arr (σ.length+3+r) dl.length 0 dl.length]]++τ)[σ.length+3+r]? =some (.row 7 dl 1):=by rw [Pg];exact hr
   have h124:=fun τ'=>h124 (σ++[Obj.box ((Ty.mk k0 n0 s L ls tail).cs++[w]), .box dc, .box [pd, .arr (σ.length+3+r) dl.length 0 dl.length]]++τ++τ') _ (by rw [List.append_assoc,List.append_assoc])
   rw [hs]
   rw [hcs] at p0 p2 p3 hlen h124 ⊢
   clear hs
   rw [hc] at h124 g3 y1 y2 y3 e2 e3 ⊢
   simp only [List.cons_append,List.nil_append] at h124 e2
   have hlt2:σ.length+2< (σ++[Obj.box [.int .i64 k0, .int .i64 n0, .str s, .slice (aT L), .slice (ls.map Lab.d), .int .i64 tail,w], .box dc, .box [pd, .arr (σ.length+3+r) dl.length 0 dl.length]]++τ).length:=by omega
   have hlt3:σ.length+3+r< (σ++[Obj.box [.int .i64 k0, .int .i64 n0, .str s, .slice (aT L), .slice (ls.map Lab.d), .int .i64 tail,w], .box dc, .box [pd, .arr (σ.length+3+r) dl.length 0 dl.length]]++τ).length:=by omega
   generalize σ++[Obj.box [.int .i64 k0, .int .i64 n0, .str s, .slice (aT L), .slice (ls.map Lab.d), .int .i64 tail,w], .box dc, .box [pd, .arr (σ.length+3+r) dl.length 0 dl.length]]++τ=σ1 at*
   have hne:σ.length+3+r≠σ.length+2:=by omega
   have hba: (dl.length+1) *96<=140737488355328:=by omega
   have p2': ∀o τ',(σ1.set (σ.length+3+r) o++τ')[σ.length+2]? =some (.box [pd, .arr (σ.length+3+r) dl.length 0 dl.length]):=fun o τ'=>bD (by rw [List.getElem?_set_ne hne];exact p2)
   have hlt2': ∀o,σ.length+2< (σ1.set (σ.length+3+r) o).length:=fun o=>by simpa using hlt2
   have s3: ∀o τ',(σ1++τ').set (σ.length+3+r) o=σ1.set (σ.length+3+r) o++τ':=fun o τ'=>jb hlt3
   have s2: ∀o o' τ',(σ1.set (σ.length+3+r) o++τ').set (σ.length+2) o'=(σ1.set (σ.length+3+r) o).set (σ.length+2) o'++τ':=fun o o' τ'=>jb (hlt2' o)
   clear hlt2 hlt2' hlt3 hne
   generalize σ.length+3+r=R at*
   clear h1
   rcases hwf2 with rfl| ⟨wa,rfl⟩<;>simp [pI,hlt,hii,hwr,hll,g2,g3,az,aS,aN,bP,bD p0,bD p2,bD p3,p2',s3,s2,hr1,hba,h124,n1,n3,e1,e2,ew,e3,q124,x124,bQ,bw,rowOf,aE,xg,Nat.testBit_eq_decide_div_mod_eq]
theorem EF:Nat.log2 8192=13:=by decide
set_option maxHeartbeats 4000000 in
theorem Pj (p:Prg) (m:b9) (hdl:p.data.length<=12) (k0 n0:Int) (s:Bs) (L:List Ty) (ls:List Lab) (tail:Int) (ps:List Bs) (l:List Mt) (hL:L.length<=4) (hwf: ∀t ∈ L,(Mt.mk t ps l).wf p) (cs:List D) (tb i:Nat) (hi:i<p.data.length) (hix:idxOf (fun x:Dat=>x.name==s) p.data=i)
 (σ:St) (hT:IsT σ tb p m) (hat: (Mt.mk (.mk k0 n0 s L ls tail) ps l).at σ (.agg cs)):
 ∃τ,CI (.fn 125) [.ptr tb 0, .agg cs] σ=some (.ret (.tuple [.slice (p.data[i].cons.map Con.d), .ptr (σ.length+2) 0]),σ++τ)/\eI (σ++τ) p.data[i].params ((inner ps l L).map Mt.now) (.ptr (σ.length+2) 0):=by
 obtain ⟨w,hc,hw⟩:=Mt.gj.1 hat
 obtain ⟨ad',dl',τ',r1,r2,hit⟩:=EE p k0 n0 s L ls tail ps l hL hwf w (.slice (p.data[i].params.map D.str)) p.data[i].cs σ hw L.length 0 (by omega) .empty [] [] (.inl ⟨rfl,rfl⟩) rfl (by simp [inner,dV])
 have h117:=fun σ hT=>Kv p m (by unfold aQ;omega) s tb σ hT
 rw [hix] at h117
 refine ⟨[.box cs, .box p.data[i].cs, .box [.slice (p.data[i].params.map D.str),ad']]++τ', ?_, ?_⟩
 rotate_left
 ·refine .inr ⟨σ.length+2,ad',dl',rfl,by rw [<-List.append_assoc,List.append_assoc];exact aS, ?_,mI _ _ r2⟩
  rcases r1 with ⟨rfl,rfl⟩ | ⟨r,rfl,h1,h2⟩
  ·exact .inr (.inl ⟨rfl,rfl⟩)
  ·exact .inr (.inr ⟨_,1,rfl,by rw [<-List.append_assoc];exact Pg.trans h1,h2,h2⟩)
 refine F9 Kw ?_ rfl
 obtain ⟨ld,hld,hll,hlg⟩:=opq Dat.d p.data
 obtain ⟨g2,g3⟩:=hlg i hi
 have hii: (i:Int) <p.data.length:=by omega
 have hh:p.cs.head?=some (.slice ld):=by rw [p.dw,<-hld];rfl
 have f1:bC ld ld=true:=by rw [<-hld];exact aG _ (bA.map fun x _=>x.plain).1
 have hdc:p.data[i].cs=[.str p.data[i].name, .slice (p.data[i].params.map D.str), .slice (p.data[i].cons.map Con.d)]:=rfl
 have hdd:p.data[i].d= .agg [.str p.data[i].name, .slice (p.data[i].params.map D.str), .slice (p.data[i].cons.map Con.d)]:=rfl
 have f2:bC (p.data[i].cons.map Con.d) (p.data[i].cons.map Con.d)=true:=aG _ (bA.map fun x _=>x.plain).1
 have f3:bC (p.data[i].params.map D.str) (p.data[i].params.map D.str)=true:=aG _ (bA.map fun x _=>cR x).1
 rw [hdd] at g3
 rw [hdc] at hit ⊢
 cases hc
 have y0: (Ty.mk k0 n0 s L ls tail).cs++[w]=[.int .i64 k0, .int .i64 n0, .str s, .slice (L.map Ty.d), .slice (ls.map Lab.d), .int .i64 tail,w]:=by simp only [Ty.cs,bS];rfl
 have hwf2:w= .bL\/ ∃a,w= .ptr a 0:=hw.elim (fun h=> .inl h.1) fun ⟨a,_,_,h,_⟩=> .inr ⟨a,h⟩
 rw [y0] at hit ⊢
 have hLl: (L.map Ty.d).length=L.length:=List.length_map _
 have q117:qI 117=true:=rfl
 have x117:XB 117=false:=rfl
 obtain ⟨j,hT1,hT2⟩:=hT
 have hTT: ∀τ,IsT (σ++τ) tb p m:=fun τ=>⟨j,bD hT1,bD hT2⟩
 have h117:=fun τ=>h117 (σ++τ) (hTT τ)
 have hT3: ∀τ,(σ++τ)[tb]? =some (.box (p.cs++[.map j])):=fun τ=>bD hT1
 have hhd: (p.cs++[D.map j]).head?=some (.slice ld):=by
  rw [p.dw,<-hld];rfl
 have hp0: (p.cs++[D.map j])[0]? =some (.slice ld):=by rw [<-List.head?_eq_getElem?];exact hhd
 rw [<-List.append_assoc]
 simp only [Ku,Int.natCast_zero,List.cons_append,List.nil_append,List.append_nil] at hit
 clear hat hT1 hT2 hdd hdc hw r1 r2
 generalize p.data[i].cons.map Con.d=cd at*
 generalize p.data[i].params.map D.str=pl at*
 generalize p.data[i].name=dn at*
 generalize L.map Ty.d=LD at*
 generalize ls.map Lab.d=lsd at*
 generalize hσ2:σ++[Obj.box [.int .i64 k0, .int .i64 n0, .str s, .slice LD, .slice lsd, .int .i64 tail,w], .box [.str dn, .slice pl, .slice cd], .box [.slice pl,ad']]++τ'=σ2 at*
 have p1:σ2[σ.length+1]? =some (.box [.str dn, .slice pl, .slice cd]):=by rw [<-hσ2,List.append_assoc];exact aS
 clear hσ2
 generalize p.cs++[D.map j]=pc at*
 rcases hwf2 with rfl| ⟨wa,rfl⟩<;>simp [ah,CQ,az,aS,aN,bP,hT3,hhd,hll,h117,hi,hii,g2,g3,f1,f2,f3,hp0,q117,x117,bQ,aE,hLl,hit,p1,EF,Nat.testBit_eq_decide_div_mod_eq]
def bT (g:Nat->Nat):Nat->Nat
 |0=>0
 |m+1=>bT g m+g m
theorem jg {g h:Nat->Nat} : ∀ {m:Nat},(∀i,i<m->g i=h i)->bT g m=bT h m
 |0,_=>rfl
 |m+1,hg=>by simp only [bT,jg (m:=m) (fun i hi=>hg i (by omega)),hg m (by omega)]
theorem Ag {g h:Nat->Nat} : ∀ {m:Nat},(∀i,i<m->g i<=h i)->bT g m<=bT h m
 |0,_=>Nat.le_refl _
 |m+1,hg=>by
  have h1:=Ag (m:=m) (fun i hi=>hg i (by omega))
  have h2:=hg m (by omega)
  simp only [bT];omega
def cp (f:Ty->Nat->Nat):List Ty->Nat->Nat
 | [],m=>if m=0 then 1 else 0
 |t::r,m=>bT (fun i=>f t (i+1) *cp f r (m - (i+1))) m
theorem nV {f g:Ty->Nat->Nat} : ∀ {l:List Ty} {m:Nat},(∀t j,j<=m->f t j=g t j)->cp f l m=cp g l m
 | [],m,_=>rfl
 |t::r,m,h=>by
  simp only [cp]
  refine jg fun i hi=> ?_
  rw [h t (i+1) (by omega),nV (l:=r) (m:=m - (i+1)) fun t j hj=>h t j (by omega)]
def Prg.kS (p:Prg) (s:Bs):Option Dat:=p.data.find? (fun x=>x.name==s)
def Ty.cntF (p:Prg):Nat->Ty->Nat->Nat
 |0,_,_=>0
 |k+1, .mk kd _ s L _ _,n=>if n=0 then 0 else if kd=6 then (match p.kS s with
  |some d=>(d.cons.map fun c=>cp (Ty.cntF p k) (c.args.map (Ty.rep d.params L)) (n - 1)).sum
  |none=>0)
  else if n=1 then (if kd=4 then 1 else 2) else 0
theorem xh (p:Prg): ∀ (k k':Nat) (t:Ty) (n:Nat),n<=k->n<=k'->Ty.cntF p k t n=Ty.cntF p k' t n
 |0,0,t,n,h,h'=>rfl
 |0,k'+1, .mk kd m s L ls tl,n,h,h'=>by
  obtain rfl:n=0:=by omega
  simp [Ty.cntF]
 |k+1,0, .mk kd m s L ls tl,n,h,h'=>by
  obtain rfl:n=0:=by omega
  simp [Ty.cntF]
 |k+1,k'+1, .mk kd m s L ls tl,n,h,h'=>by
  simp only [Ty.cntF]
  have: ∀ (d:Dat) (c:Con),cp (Ty.cntF p k) (c.args.map (Ty.rep d.params L)) (n - 1)=cp (Ty.cntF p k') (c.args.map (Ty.rep d.params L)) (n - 1):=fun d c=>
   nV fun t j hj=>xh p k k' t j (by omega) (by omega)
  simp only [this]
def Ty.cnt (p:Prg) (t:Ty) (n:Nat):Nat:=Ty.cntF p n t n
theorem pJ (p:Prg) (t:Ty):t.cnt p 0=0:=rfl
theorem jP (p:Prg) {n1:Int} {s:Bs} {L:List Ty} {ls:List Lab} {tl:Int} {d:Dat} (hd:p.kS s=some d) (n:Nat):
 (Ty.mk 6 n1 s L ls tl).cnt p (n+1)=(d.cons.map fun c=>cp (Ty.cnt p) (c.args.map (Ty.rep d.params L)) n).sum:=by
 unfold Ty.cnt
 simp only [Ty.cntF,hd]
 rw [if_neg (by omega),if_pos trivial,Nat.add_sub_cancel]
 congr 1
 refine List.map_congr_left fun c _=>nV fun t j hj=> ?_
 exact xh p n j t j hj (Nat.le_refl _)
theorem uF (p:Prg) {kd n1:Int} {s:Bs} {L:List Ty} {ls:List Lab} {tl:Int} (h6:kd≠6) (n:Nat): (Ty.mk kd n1 s L ls tl).cnt p n=if n=1 then (if kd=4 then 1 else 2) else 0:=by
 unfold Ty.cnt
 cases n with
 |zero=>rfl
 |succ n=>simp only [Ty.cntF];rw [if_neg (by omega),if_neg h6]
def cB (n:Nat):Nat:=[0,8,64,512,8192,98304,1572864,27262976].getD n 0
def tB:Nat->Nat->Nat
 |0,m=>if m=0 then 1 else 0
 |k+1,m=>bT (fun i=>cB (i+1) *tB k (m - (i+1))) m
theorem CR: ∀ (k:Fin 5) (m:Fin 7),8*tB k m<=cB (m+1):=by decide+kernel
theorem yq {f:Ty->Nat->Nat} : ∀ {l:List Ty} {m:Nat},(∀t j,j<=m->f t j<=cB j)->cp f l m<=tB l.length m
 | [],m,_=>Nat.le_refl _
 |t::r,m,h=>by
  simp only [cp,List.length_cons,tB]
  refine Ag fun i hi=> ?_
  exact Nat.mul_le_mul (h t (i+1) (by omega)) (yq fun t j hj=>h t j (by omega))
theorem EG {α:Type} {f:α->Nat} {b:Nat} : ∀ {l:List α},(∀a ∈ l,f a<=b)->(l.map f).sum<=l.length*b
 | [],_=>by simp
 |a::r,h=>by
  have h1:=h a List.mem_cons_self
  have h2:=EG (l:=r) fun x hx=>h x (List.mem_cons_of_mem _ hx)
  simp only [List.map_cons,List.sum_cons,List.length_cons,Nat.succ_mul];omega
def Prg.few (p:Prg):Prop:= ∀d ∈ p.data,d.cons.length<=8/\ ∀c ∈ d.cons,c.args.length<=4
theorem CS {p:Prg} (hp:p.few): ∀ (k:Nat) (t:Ty) (n:Nat),n<=7->Ty.cntF p k t n<=cB n
 |0,t,n,_=>Nat.zero_le _
 |k+1, .mk kd m s L ls tl,n,hn=>by
  simp only [Ty.cntF]
  split
  ·exact Nat.zero_le _
  ·split
   ·cases hd:p.kS s with
    |none=>exact Nat.zero_le _
    |some d=>
     obtain ⟨h8,h4⟩:=hp d (List.mem_of_find?_eq_some hd)
     obtain ⟨m,rfl⟩: ∃m,n=m+1:=⟨n - 1,by omega⟩
     have h1: ∀c ∈ d.cons,cp (Ty.cntF p k) (c.args.map (Ty.rep d.params L)) m<=cB (m+1) / 8:=fun c hc=>by
      have h2:=yq (f:=Ty.cntF p k) (l:=c.args.map (Ty.rep d.params L)) (m:=m) fun t j hj=>CS hp k t j (by omega)
      have h3:=CR ⟨c.args.length,by have:=h4 c hc;omega⟩ ⟨m,by omega⟩
      simp only [List.length_map] at h2 h3
      omega
     have h5:=EG h1
     have h6:d.cons.length* (cB (m+1) / 8)<=8* (cB (m+1) / 8):=Nat.mul_le_mul_right _ h8
     simp only [Nat.add_sub_cancel]
     omega
   ·split
    ·rename_i h1;subst h1
     split<;>simp [cB]
    ·exact Nat.zero_le _
theorem lO {p:Prg} (hp:p.few) (t:Ty) (n:Nat) (hn:n<=7):t.cnt p n<=cB n:=CS hp n t n hn
theorem rY: ∀ (n:Nat),n<=7->cB n<=27262976:=fun n hn=>by
 match n,hn with
 |0,_|1,_|2,_|3,_|4,_|5,_|6,_|7,_=>simp [cB]
theorem Pk (k m:Nat) (hk:k<=4) (hm:m<=6):tB k m<=27262976:=by
 have h1:=CR ⟨k,by omega⟩ ⟨m,by omega⟩
 have h2:=rY (m+1) (by omega)
 simp only at h1
 omega
theorem q6 {p:Prg} (hp:p.few) (l:List Ty) (hl:l.length<=4) (m:Nat) (hm:m<=6):cp (Ty.cnt p) l m<=27262976:=
 Nat.le_trans (yq fun t j hj=>lO hp t j (by omega)) (Pk _ _ hl hm)
def bG (f:Ty->Nat->List Ex):List Ty->Nat->List (List Ex)
 | [],m=>if m=0 then [[]] else []
 |t::r,m=>(List.range m).flatMap fun i=>(f t (i+1)).flatMap fun x=>(bG f r (m - (i+1))).map fun l=>x::l
def ee (s:Bs) (l:List Ex):Ex:= .mk 10 0 s [] [] l []
def pK (kd:Int):List Ex:=if kd=4 then [.mk 3 0 [] [] [] [] []] else [.mk (kd - 1) 0 [] [] [] [] [], .mk (kd - 1) 1 [] [] [] [] []]
def Ty.m9 (p:Prg):Nat->Ty->Nat->List Ex
 |0,_,_=>[]
 |k+1, .mk kd _ s L _ _,n=>if n=0 then [] else if kd=6 then (match p.kS s with
  |some d=>d.cons.flatMap fun c=>(bG (Ty.m9 p k) (c.args.map (Ty.rep d.params L)) (n - 1)).map (ee c.name)
  |none=>[])
  else if n=1 then pK kd else []
theorem lP {f g:Ty->Nat->List Ex} : ∀ {l:List Ty} {m:Nat},(∀t j,j<=m->f t j=g t j)->bG f l m=bG g l m
 | [],m,_=>rfl
 |t::r,m,h=>by
  simp only [bG]
  have: ∀i ∈ List.range m,((f t (i+1)).flatMap fun x=>(bG f r (m - (i+1))).map fun l=>x::l)=(g t (i+1)).flatMap fun x=>(bG g r (m - (i+1))).map fun l=>x::l:=fun i hi=>by
   rw [List.mem_range] at hi
   rw [h t (i+1) (by omega),lP (l:=r) (m:=m - (i+1)) fun t j hj=>h t j (by omega)]
  rw [List.flatMap_def,List.flatMap_def,List.map_congr_left this]
theorem xj (p:Prg): ∀ (k k':Nat) (t:Ty) (n:Nat),n<=k->n<=k'->Ty.m9 p k t n=Ty.m9 p k' t n
 |0,0,t,n,h,h'=>rfl
 |0,k'+1, .mk kd m s L ls tl,n,h,h'=>by
  obtain rfl:n=0:=by omega
  simp [Ty.m9]
 |k+1,0, .mk kd m s L ls tl,n,h,h'=>by
  obtain rfl:n=0:=by omega
  simp [Ty.m9]
 |k+1,k'+1, .mk kd m s L ls tl,n,h,h'=>by
  simp only [Ty.m9]
  have: ∀ (d:Dat) (c:Con),bG (Ty.m9 p k) (c.args.map (Ty.rep d.params L)) (n - 1)=bG (Ty.m9 p k') (c.args.map (Ty.rep d.params L)) (n - 1):=fun d c=>
   lP fun t j hj=>xj p k k' t j (by omega) (by omega)
  simp only [this]
def Ty.val (p:Prg) (t:Ty) (n:Nat):List Ex:=Ty.m9 p n t n
theorem pL (p:Prg) {n1:Int} {s:Bs} {L:List Ty} {ls:List Lab} {tl:Int} {d:Dat} (hd:p.kS s=some d) (n:Nat):
 (Ty.mk 6 n1 s L ls tl).val p (n+1)=d.cons.flatMap fun c=>(bG (Ty.val p) (c.args.map (Ty.rep d.params L)) n).map (ee c.name):=by
 unfold Ty.val
 simp only [Ty.m9,hd]
 rw [if_neg (by omega),if_pos trivial,Nat.add_sub_cancel,List.flatMap_def,List.flatMap_def]
 congr 1
 refine List.map_congr_left fun c _=> ?_
 rw [lP (f:=Ty.m9 p n) (g:=fun t j=>Ty.m9 p j t j) fun t j hj=>xj p n j t j hj (Nat.le_refl _)]
theorem pM (p:Prg) {kd n1:Int} {s:Bs} {L:List Ty} {ls:List Lab} {tl:Int} (h6:kd≠6) (n:Nat): (Ty.mk kd n1 s L ls tl).val p n=if n=1 then pK kd else []:=by
 unfold Ty.val
 cases n with
 |zero=>rfl
 |succ n=>simp only [Ty.m9];rw [if_neg (by omega),if_neg h6]
theorem rZ (g:Nat->Nat): ∀ (m:Nat),((List.range m).map g).sum=bT g m
 |0=>rfl
 |m+1=>by rw [List.range_succ];simp [bT,rZ g m]
theorem q7 {α:Type} (b:Nat): ∀ (l:List α),(l.map fun _=>b).sum=l.length*b
 | []=>by simp
 |a::r=>by simp only [List.map_cons,List.sum_cons,q7 b r,List.length_cons,Nat.succ_mul];omega
theorem q8 {f:Ty->Nat->List Ex} {g:Ty->Nat->Nat} (h: ∀t j,(f t j).length=g t j): ∀ (l:List Ty) (m:Nat),(bG f l m).length=cp g l m
 | [],m=>by simp only [bG,cp];split<;>rfl
 |t::r,m=>by
  simp only [bG,cp,List.length_flatMap,List.length_map,q8 h r]
  rw [rZ]
  refine jg fun i _=> ?_
  rw [q7,h]
theorem Ah (p:Prg): ∀ (k:Nat) (t:Ty) (n:Nat),(Ty.m9 p k t n).length=Ty.cntF p k t n
 |0,t,n=>rfl
 |k+1, .mk kd m s L ls tl,n=>by
  simp only [Ty.m9,Ty.cntF]
  split
  ·rfl
  ·split
   ·cases p.kS s with
    |none=>rfl
    |some d=>
     simp only [List.length_flatMap,List.length_map]
     congr 1
     refine List.map_congr_left fun c _=> ?_
     exact q8 (Ah p k) _ _
   ·split
    ·unfold pK;split<;>rfl
    ·rfl
theorem tq (p:Prg) (t:Ty) (n:Nat): (t.val p n).length=t.cnt p n:=Ah p n t n
theorem gW (p:Prg) (l:List Ty) (m:Nat): (bG (Ty.val p) l m).length=cp (Ty.cnt p) l m:=q8 (fun t j=>tq p t j) l m
theorem mJ {p:Prg} {s:Bs} {i:Nat} (h:idxOf (fun x:Dat=>x.name==s) p.data=i) (hi:i<p.data.length):p.kS s=some p.data[i]:=by
 rcases fk (fun x:Dat=>x.name==s) p.data with ⟨h1,_⟩ | ⟨j,hj,hjl,hf,_⟩
 ·omega
 ·obtain rfl:i=j:=by omega
  exact hf
theorem uG {f:Ty->Nat->Nat} : ∀ (l:List Ty) (m:Nat),m<l.length->cp f l m=0
 |t::r,m,h=>by
  simp only [cp]
  have: ∀n,bT (fun _=>0) n=0:=fun n=>by induction n with|zero=>rfl|succ n ih=>simp [bT,ih]
  rw [<-this m]
  refine jg fun i hi=> ?_
  rw [uG r (m - (i+1)) (by simp at h;omega),Nat.mul_zero]
theorem uH {g:Nat->Nat} {a:Nat} : ∀ {b:Nat},a<=b->(∀i,a<=i->i<b->g i=0)->bT g b=bT g a
 |0,h,_=>by
  obtain rfl:a=0:=by omega
  rfl
 |b+1,h,hz=>by
  rcases Nat.lt_or_ge b a with hlt|hge
  ·obtain rfl:a=b+1:=by omega
   rfl
  ·simp only [bT]
   rw [uH hge (fun i h1 h2=>hz i h1 (by omega)),hz b hge (by omega)];rfl
theorem fR (g:Nat->Nat) {a:Nat} : ∀ {b:Nat},a<=b->bT g a<=bT g b
 |0,h=>by
  obtain rfl:a=0:=by omega
  exact Nat.le_refl _
 |b+1,h=>by
  rcases Nat.lt_or_ge b a with hlt|hge
  ·obtain rfl:a=b+1:=by omega
   exact Nat.le_refl _
  ·have:=fR g hge
   simp only [bT];omega
theorem q9 {α:Type} (g:α->Nat): ∀ (l:List α) (i b:Nat),bf (γ:=Unit) (fun _ c b=> .inl (b+g c)) l i b= .inl (b+ (l.map g).sum)
 | [],i,b=>rfl
 |a::r,i,b=>by simp only [bf,q9 g r,List.map_cons,List.sum_cons,Nat.add_assoc]
def DP (p:Prg) (m:b9) (tb n:Nat):Prop:= ∀ (u:Mt) (cs:List D) (σ:St),u.wf p->u.at σ (.agg cs)->IsT σ tb p m->CI (.fn 119) [.ptr tb 0, .agg cs, .int .i64 n] σ=some (.ret (.int .i64 (u.ty.cnt p n)),σ)
set_option maxHeartbeats 4000000 in
theorem EH (p:Prg) (m:b9) (cj:p.few) (tb K:Nat) (hK:K<=6) (h119: ∀j,j<=K->DP p m tb j) (ps:List Bs) (ms:List Mt) (wi:Nat): ∀ (args:List Ty),args.length<=4->(∀t ∈ args,(Mt.mk t ps ms).wf p)-> ∀ (M:Nat),M<=K-> ∀ (σ:St),eI σ ps ms (.ptr wi 0)->IsT σ tb p m->
 CI (.fn 166) [.ptr tb 0, .slice (args.map Ty.d), .ptr wi 0, .int .i64 M] σ=some (.ret (.int .i64 (cp (Ty.cnt p) (args.map (Ty.rep ps (aP ms))) M)),σ)
 | [],_,_,M,hM,σ,hw,hT=>by
  have hτ:ah CI XB GI lQ [.ptr tb 0, .slice [], .ptr wi 0, .int .i64 M] σ=some (.ret (.int .i64 (cp (Ty.cnt p) [] M)),σ):=by
   simp only [cp]
   by_cases h0:M=0
   ·subst h0;simp [ah,lQ]
   ·have h1: ((M:Int) ==0)=false:=by rw [beq_eq_false_iff_ne];omega
    simp [ah,lQ,h0,h1]
  exact br BL hτ rfl rfl
 |t::rest,hl,hwf,M,hM,σ,hw,hT=>by
  have ih:=fun M hM=>EH p m cj tb K hK h119 ps ms wi rest (by simp at hl;omega) (fun t ht=>hwf t (List.mem_cons_of_mem _ ht)) M hM σ hw hT
  have hwt:=hwf t List.mem_cons_self
  have hat: (Mt.mk t ps ms).at σ (.agg (t.cs++[.ptr wi 0])):=Mt.gj.2 ⟨_,rfl,hw⟩
  have hcnt:=fun j (hj:j<=K)=>h119 j hj _ _ _ hwt hat hT
  have hbound:=q6 cj ((t::rest).map (Ty.rep ps (aP ms))) (by simpa using hl) M (by omega)
  simp only [List.map_cons,cp] at hbound ⊢
  have e0: (Mt.mk t ps ms).ty=t.rep ps (aP ms):=by simp only [Mt.ty]
  rw [e0] at hcnt
  have hfew2: ∀i,M - rest.length<=i->i<M->(t.rep ps (aP ms)).cnt p (i+1) *cp (Ty.cnt p) (rest.map (Ty.rep ps (aP ms))) (M - (i+1))=0:=fun i h1 h2=>by
   rw [uG _ _ (by rw [List.length_map];omega),Nat.mul_zero]
  have hsum:=uH (by omega) hfew2
  have hmono:=fun j (hj:j<=M - rest.length)=>fR (fun i=>(t.rep ps (aP ms)).cnt p (i+1) *cp (Ty.cnt p) (rest.map (Ty.rep ps (aP ms))) (M - (i+1))) hj
  rw [hsum] at hbound ⊢
  obtain ⟨k1,m1,s1,a1,b1,t1,hc⟩: ∃k1 m1 s1 a1 b1 t1,t.cs=[.int .i64 k1, .int .i64 m1, .str s1, .slice a1, .slice b1, .int .i64 t1]:=by
   rcases t with ⟨k,n,s,l,ls,tail⟩;exact ⟨_,_,_,_,_,_,by simp only [Ty.cs];rfl⟩
  have hr6: (rest.map Ty.d).all (fun e=>e.cells.length==6)=true:=by
   rw [List.all_eq_true];intro e he
   obtain ⟨x,_,rfl⟩:=List.mem_map.1 he
   simp [Ty.d,D.cells,x.aL]
  simp only [D.cells] at hr6
  have hrl: (rest.map Ty.d).length=rest.length:=List.length_map _
  have htd:t.d= .agg t.cs:=rfl
  rw [htd]
  rw [hc] at hcnt ⊢
  simp only [List.cons_append,List.nil_append] at hcnt
  generalize hgd: (fun i=>(t.rep ps (aP ms)).cnt p (i+1) *cp (Ty.cnt p) (rest.map (Ty.rep ps (aP ms))) (M - (i+1)))=g at*
  have hgi: ∀j,g j=(t.rep ps (aP ms)).cnt p (j+1) *cp (Ty.cnt p) (rest.map (Ty.rep ps (aP ms))) (M - (j+1)):=fun j=>by rw [<-hgd]
  clear hgd hsum hfew2
  have hit: ∀ (k j:Nat),j+k=M - rest.length->aU (aD CI XB GI 49 false kj) [(0, .ptr tb 0),(1, .slice (.agg [.int .i64 k1, .int .i64 m1, .str s1, .slice a1, .slice b1, .int .i64 t1]::rest.map Ty.d)),(2, .ptr wi 0),(3, .int .i64 M),(9, .int .i64 (bT g j:Nat)),(10, .int .i64 ((j:Int) +1))] σ=
   some (.exit 0,[(0, .ptr tb 0),(1, .slice (.agg [.int .i64 k1, .int .i64 m1, .str s1, .slice a1, .slice b1, .int .i64 t1]::rest.map Ty.d)),(2, .ptr wi 0),(3, .int .i64 M),(9, .int .i64 (bT g (M - rest.length):Nat)),(10, .int .i64 (((M - rest.length:Nat):Int) +1)),(23, .bool false)],σ):=by
   intro k
   induction k with
   |zero=>
    intro j hj
    obtain rfl:j=M - rest.length:=by omega
    refine aH ?_ (by simp)
    have w1:IntKind.i64.wrap (((M - rest.length:Nat):Int) +1+ ((rest.length:Int) +1))=((M - rest.length:Nat):Int) +1+ ((rest.length:Int) +1):=wrap_i64 (by omega) (by simp at hl;omega)
    have w2:IntKind.i64.wrap (((M - rest.length:Nat):Int) +1+ ((rest.length:Int) +1) - 1)=((M - rest.length:Nat):Int) +1+ (rest.length:Int):=by rw [wrap_i64 (by omega) (by simp at hl;omega)];omega
    have w3: ¬(((M - rest.length:Nat):Int) +1+ (rest.length:Int)<=(M:Int)):=by omega
    generalize rest.map Ty.d=rd at*
    simp [kj,hrl,w1,w2,w3]
   |succ k ihk=>
    intro j hj
    have hjM:j+1+rest.length<=M:=by omega
    rw [<-ihk (j+1) (by omega)]
    refine aO ?_
    have w1:IntKind.i64.wrap ((j:Int) +1+ ((rest.length:Int) +1))=(j:Int) +1+ ((rest.length:Int) +1):=wrap_i64 (by omega) (by simp at hl;omega)
    have w2:IntKind.i64.wrap ((j:Int) +1+ ((rest.length:Int) +1) - 1)=(j:Int) +1+ (rest.length:Int):=by rw [wrap_i64 (by omega) (by simp at hl;omega)];omega
    have w3: (j:Int) +1+ (rest.length:Int)<=(M:Int):=by omega
    have w4:IntKind.i64.wrap ((j:Int) +1+1)=(j:Int) +1+1:=wrap_i64 (by omega) (by omega)
    have w5:IntKind.i64.wrap ((M:Int) - ((j:Int) +1))=((M - (j+1):Nat):Int):=by rw [wrap_i64 (by omega) (by omega)];omega
    have hc1:=hcnt (j+1) (by omega)
    have ih1:=ih (M - (j+1)) (by omega)
    have hle:=hmono (j+1) (by omega)
    have hg:=hgi j
    have e1: ((j+1:Nat):Int)=(j:Int) +1:=by omega
    rw [e1] at hc1 ⊢
    have hsj:bT g (j+1)=bT g j+g j:=rfl
    have q119:qI 119=false:=rfl
    generalize rest.map Ty.d=rd at*
    generalize (t.rep ps (aP ms)).cnt p (j+1)=f at*
    generalize cp (Ty.cnt p) (rest.map (Ty.rep ps (aP ms))) (M - (j+1))=c at*
    rw [hsj,hg] at hle ⊢
    generalize bT g j=S at*
    have hfc:f*c<=27262976:=by omega
    have hcast: ((f*c:Nat):Int)=(f:Int) * (c:Int):=by simp
    have w6:IntKind.i64.wrap ((f:Int) * (c:Int))=(f:Int) * (c:Int):=by rw [<-hcast];exact wrap_i64 (by omega) (by omega)
    have w7:IntKind.i64.wrap ((S:Int) + (f:Int) * (c:Int))=(S:Int) + (f:Int) * (c:Int):=by rw [<-hcast];exact wrap_i64 (by omega) (by omega)
    by_cases hf:f=0
    ·subst hf
     simp [kj,hrl,w1,w2,w3,w4,hc1,bQ,aE]
    ·have hf2:0<f:=by omega
     have hr1: (1:Int)<=(rest.length:Int) +1:=by omega
     have htk:rd.take rest.length=rd:=List.take_of_length_le (by omega)
     simp [kj,hrl,w1,w2,w3,w4,w5,w6,w7,hc1,ih1,hf,hf2,hr1,htk,hr6,bound,bQ,aE, -List.all_eq_true]
  have hit0:=hit (M - rest.length) 0 (by omega)
  have hτ:ah CI XB GI lQ [.ptr tb 0, .slice (.agg [.int .i64 k1, .int .i64 m1, .str s1, .slice a1, .slice b1, .int .i64 t1]::rest.map Ty.d), .ptr wi 0, .int .i64 M] σ=some (.ret (.int .i64 (bT g (M - rest.length):Nat)),σ):=by
   simp only [bT,Int.natCast_zero,Int.zero_add] at hit0
   have w3: (((rest.length:Int) +1) ==0)=false:=by rw [beq_eq_false_iff_ne];omega
   generalize rest.map Ty.d=rd at*
   simp [ah,lQ,hrl,w3,hit0]
  exact br BL hτ rfl rfl
theorem gX {α:Type} (g:α->Nat) (l:List α) (i:Nat): ((l.take i).map g).sum<=(l.map g).sum:=by
 conv=>rhs;rw [<-List.take_append_drop i l]
 rw [List.map_append,List.sum_append];omega
theorem de {α:Type} (g:α->Nat) (l:List α) (i:Nat) (h:i<l.length): ((l.take (i+1)).map g).sum=((l.take i).map g).sum+g l[i]:=by
 rw [List.take_succ_eq_append_getElem h,List.map_append,List.sum_append];simp
set_option maxHeartbeats 4000000 in
theorem Pm (p:Prg) (m:b9) (cj:p.few) (tb n:Nat) (hn:n<7) (h119: ∀j,j<=n->DP p m tb j) (ps:List Bs) (ms:List Mt) (wi:Nat) (cons:List Con) (hc8:cons.length<=8) (hwf: ∀c ∈ cons,c.args.length<=4/\ ∀t ∈ c.args,(Mt.mk t ps ms).wf p)
 (hB: (cons.map fun c=>cp (Ty.cnt p) (c.args.map (Ty.rep ps (aP ms))) n).sum<=27262976) (σ:St) (hw:eI σ ps ms (.ptr wi 0)) (hT:IsT σ tb p m) (τ:St):
 ∃τ',aU (aD CI XB GI 51 false pN) [(0, .ptr tb 0),(2, .int .i64 ((n:Int) +1)),(8, .ptr wi 0),(9, .int .i64 (0:Nat)),(34, .slice (cons.map Con.d)),(35, .int .i64 cons.length),(36, .int .i64 (0:Nat))] (σ++τ)=
  some (.exit 1,[(0, .ptr tb 0),(2, .int .i64 ((n:Int) +1)),(8, .ptr wi 0),(9, .int .i64 ((cons.map fun c=>cp (Ty.cnt p) (c.args.map (Ty.rep ps (aP ms))) n).sum:Nat)),(34, .slice (cons.map Con.d)),(35, .int .i64 cons.length),(36, .int .i64 cons.length),(37, .bool false)],σ++τ'):=by
 obtain ⟨cd,hcd,hcl,hcg⟩:=opq Con.d cons
 rw [hcd]
 obtain ⟨τ',hit⟩:=cA (γ:=Unit) (f:=aD CI XB GI 51 false pN) cons (fun i (b:Nat)=>[(0, .ptr tb 0),(2, .int .i64 ((n:Int) +1)),(8, .ptr wi 0),(9, .int .i64 b),(34, .slice cd),(35, .int .i64 cons.length),(36, .int .i64 (i:Nat))])
  (fun _=>σ) (fun i b=>b=((cons.take i).map fun c=>cp (Ty.cnt p) (c.args.map (Ty.rep ps (aP ms))) n).sum) (fun _ c b=> .inl (b+cp (Ty.cnt p) (c.args.map (Ty.rep ps (aP ms))) n)) (fun _=>(.ret,[])) (fun _=>[])
  (fun b=>(.exit 1,[(0, .ptr tb 0),(2, .int .i64 ((n:Int) +1)),(8, .ptr wi 0),(9, .int .i64 b),(34, .slice cd),(35, .int .i64 cons.length),(36, .int .i64 cons.length),(37, .bool false)])) (by simp) (by simp)
  (fun i hi b b' hb hs=>by
    cases hs
    rw [de _ _ _ hi,hb])
  (fun i hi b τ hb=>by
    have hwr:=aI (n:=i) (by omega)
    obtain ⟨g2,g3⟩:=hcg i hi
    have hii: (i:Int) <cons.length:=by omega
    obtain ⟨h4,hwf4⟩:=hwf _ (List.getElem_mem hi)
    have hle:=gX (fun c:Con=>cp (Ty.cnt p) (c.args.map (Ty.rep ps (aP ms))) n) cons (i+1)
    rw [de _ _ _ hi,<-hb] at hle
    refine ⟨τ++[.box cons[i].cs], ?_⟩
    have h166:=EH p m cj tb n (by omega) h119 ps ms wi cons[i].args h4 hwf4 n (Nat.le_refl _) (σ++τ++[.box cons[i].cs]) hw.app.app hT.app.app
    rw [<-List.append_assoc]
    have hc2:cons[i].cs=[.str cons[i].name, .slice (cons[i].args.map Ty.d)]:=by unfold Con.cs;rw [bS]
    have hdd:cons[i].d= .agg [.str cons[i].name, .slice (cons[i].args.map Ty.d)]:=by rw [<-hc2];rfl
    rw [hdd] at g3
    rw [hc2] at h166 ⊢
    generalize cons[i].args.map Ty.d=ad at*
    generalize cp (Ty.cnt p) (cons[i].args.map (Ty.rep ps (aP ms))) n=v at*
    generalize σ++τ=σ1 at*
    have w1:IntKind.i64.wrap ((n:Int) +1 - 1)=(n:Int):=by rw [wrap_i64 (by omega) (by omega)];omega
    have w1':IntKind.i64.wrap (n:Int)=(n:Int):=wrap_i64 (by omega) (by omega)
    have w2:IntKind.i64.wrap ((b:Int) + (v:Int))=(b:Int) + (v:Int):=wrap_i64 (by omega) (by omega)
    simp [pN,hi,hii,hwr,hcl,g2,g3,az,aS,aN,bP,h166,w1,w1',w2,aE])
  (fun b τ hb=>⟨τ,by simp [pN,hcl]⟩) 0 τ (by simp)
 rw [q9,Nat.zero_add] at hit
 exact ⟨τ',hit⟩
set_option maxHeartbeats 4000000 in
theorem Kx (p:Prg) (m:b9) (hdl:p.data.length<=12) (hls: ∀d ∈ p.data,d.fit p) (cj:p.few) (tb:Nat): ∀ (n:Nat),n<=7->DP p m tb n:=by
 intro n
 induction n using Nat.strongRecOn with
 |ind n IH=>
 intro hn u cs σ hwf hat hT
 obtain ⟨cs',hat',h124⟩:=Ks p u hwf σ cs hat
 obtain ⟨nwf,nk⟩:=u.nS hwf
 have hty:=u.nT hwf
 obtain ⟨_,hxx,c1,c3⟩:=Mt.nU hat
 cases hxx
 have c2:cs.take 7=cs:=List.take_of_length_le (by omega)
 have c4:cs.drop 7=[]:=List.drop_of_length_le (by omega)
 suffices h: ∃τ,ah CI XB GI pO [.ptr tb 0, .agg cs, .int .i64 n] σ=some (.ret (.int .i64 (u.ty.cnt p n)),σ++τ) by
  obtain ⟨τ,h⟩:=h
  exact aR Ky h rfl rfl
 rw [<-hty]
 generalize u.now=u' at*
 rcases u' with ⟨⟨tk,tn,ts,L,tls,ttl⟩,ps,ml⟩
 simp only at nk
 obtain ⟨w,hc,hw⟩:=Mt.gj.1 hat'
 cases hc
 have hnc: (Ty.mk tk tn ts L tls ttl).cs++[w]=[.int .i64 tk, .int .i64 tn, .str ts, .slice (aT L), .slice (tls.map Lab.d), .int .i64 ttl,w]:=by simp only [Ty.cs];rfl
 have h124:=fun τ=>h124 (σ++τ) τ rfl
 have hwf2:w= .bL\/ ∃a,w= .ptr a 0:=hw.elim (fun h=> .inl h.1) fun ⟨a,_,_,h,_⟩=> .inr ⟨a,h⟩
 simp only [Mt.ty,Ty.ym _ _ nk]
 obtain ⟨nsm,nord,npl,nm4,nml⟩:=nwf
 by_cases t6:tk=6
 rotate_left
 ·rw [uF p t6]
  have n6: (tk != 6)=true:=by simpa using t6
  rw [hnc] at h124
  refine ⟨[.box [.int .i64 tk, .int .i64 tn, .str ts, .slice (aT L), .slice (tls.map Lab.d), .int .i64 ttl,w]], ?_⟩
  by_cases n1:n=1
  ·subst n1
   by_cases t4:tk=4
   ·subst t4
    rcases hwf2 with rfl| ⟨wa,rfl⟩<;>simp [ah,pO,az,aS,aN,bP,c1,c2,c3,c4,h124,aE]
   ·have b4: (tk==4)=false:=by simpa using t4
    rcases hwf2 with rfl| ⟨wa,rfl⟩<;>simp [ah,pO,az,aS,aN,bP,c1,c2,c3,c4,h124,aE,n6,t4,b4]
  ·have b1: ((n:Int) != 1)=true:=by simp;omega
   rcases hwf2 with rfl| ⟨wa,rfl⟩<;>simp [ah,pO,az,aS,aN,bP,c1,c2,c3,c4,h124,aE,n6,n1,b1]
 subst t6
 rcases n with _|n
 ·rw [hnc] at h124
  refine ⟨[.box [.int .i64 6, .int .i64 tn, .str ts, .slice (aT L), .slice (tls.map Lab.d), .int .i64 ttl,w]], ?_⟩
  rw [pJ]
  rcases hwf2 with rfl| ⟨wa,rfl⟩<;>simp [ah,pO,az,aS,aN,bP,c1,c2,c3,c4,h124,aE]
 obtain ⟨nod,nop⟩:=dM nord
 obtain ⟨i,hix,_,hi,hlen⟩:=jM nod
 have hdo:=mJ hix hi
 rw [jP p hdo]
 have hin1:=gi npl nm4 nml L (fun y hy=>⟨eM nsm.2.2.2 hy,nop y hy⟩)
 obtain ⟨τ,h125,hwith⟩:=Pj p m hdl 6 tn ts L tls ttl ps ml nsm.1 (fun y hy=>fA hin1 (List.mem_map_of_mem (f:=fun t=>Mt.mk t ps ml) hy)) _ tb i hi hix (σ++[.box ((Ty.mk 6 tn ts L tls ttl).cs++[w])]) hT.app (Mt.uB _ _ hat')
 have hl2: (σ++[Obj.box ((Ty.mk 6 tn ts L tls ttl).cs++[w])]).length=σ.length+1:=by simp
 rw [hl2] at h125 hwith
 have hdf:=hls _ (List.getElem_mem hi)
 have hfd:=cj _ (List.getElem_mem hi)
 have hnowT:aP ((inner ps ml L).map Mt.now)=L.map (Ty.rep ps (aP ml)):=by
  rw [<-jO,eH,eH,List.map_map]
  exact List.map_congr_left fun y hy=>y.nT (fA hin1 hy)
 have hnowW:gB p ((inner ps ml L).map Mt.now):=by
  have: ∀ (l:List Mt),gB p l->gB p (l.map Mt.now):=fun l=>by
   induction l with
   |nil=>exact fun _=>trivial
   |cons a r ih=>exact fun h=>⟨(a.nS h.1).1,ih h.2⟩
  exact this _ hin1
 have hB:=Nat.le_trans (lO cj (.mk 6 tn ts (L.map (Ty.rep ps (aP ml))) tls ttl) (n+1) hn) (rY _ hn)
 rw [jP p hdo] at hB
 obtain ⟨τ',hit⟩:=Pm p m cj tb n (by omega) (fun j hj=>IH j (by omega) (by omega)) p.data[i].params ((inner ps ml L).map Mt.now) (σ.length+1+2) p.data[i].cons hfd.1
  (fun c hc=>⟨(hfd.2 c hc),fun t ht=>fA (gi (p:=p) (ps:=p.data[i].params) (ml:=(inner ps ml L).map Mt.now) (by rw [List.length_map,eU];exact hlen) (by rw [List.length_map,eU];exact nsm.1) hnowW c.args (hdf.2.2 c hc).2) (List.mem_map_of_mem (f:=fun t=>Mt.mk t p.data[i].params ((inner ps ml L).map Mt.now)) ht)⟩)
  (by rw [hnowT];exact hB) _ hwith hT.app.app []
 rw [hnowT,List.append_nil,Int.natCast_zero] at hit
 refine ⟨[.box ((Ty.mk 6 tn ts L tls ttl).cs++[w])]++τ++τ', ?_⟩
 rw [<-List.append_assoc,<-List.append_assoc]
 generalize (p.data[i].cons.map fun c=>cp (Ty.cnt p) (c.args.map (Ty.rep p.data[i].params (L.map (Ty.rep ps (aP ml))))) n).sum=v at*
 have hcl: (p.data[i].cons.map Con.d).length=p.data[i].cons.length:=List.length_map _
 clear IH hwith hat hat' hwf hT
 generalize hσ3:σ++[Obj.box ((Ty.mk 6 tn ts L tls ttl).cs++[w])]++τ=σ3 at*
 rw [hnc] at h124 h125
 clear hσ3
 generalize p.data[i].cons.map Con.d=cd at*
 have w1: ¬((n:Int) +1<1):=by omega
 rcases hwf2 with rfl| ⟨wa,rfl⟩<;>simp [ah,pO,az,aS,aN,bP,c1,c2,c3,c4,h124,h125,aE,hcl,hit,w1]
mutual
def Ty.ff (p:Prg) (A:Nat->Prop):Ty->Prop
 | .mk k _ s l _ _=>k≠5/\(k=6->A (rX p s))/\nq p A l
def nq (p:Prg) (A:Nat->Prop):List Ty->Prop
 | []=>True
 |t::r=>t.ff p A/\nq p A r
end
theorem eV {p:Prg} {A:Nat->Prop} : ∀ {l:List Ty},nq p A l↔ ∀t ∈ l,t.ff p A
 | []=>by simp [nq]
 |t::r=>by simp [nq,eV (l:=r)]
mutual
theorem Ty.kn {p:Prg} {A B:Nat->Prop} (h: ∀i,A i->B i): ∀ (t:Ty),t.ff p A->t.ff p B
 | .mk k _ s l _ _,hf=>by
  simp only [Ty.ff] at hf ⊢
  exact ⟨hf.1,fun h6=>h _ (hf.2.1 h6),uI h l hf.2.2⟩
theorem uI {p:Prg} {A B:Nat->Prop} (h: ∀i,A i->B i): ∀ (l:List Ty),nq p A l->nq p B l
 | [],_=>trivial
 |t::r,hf=>⟨t.kn h hf.1,uI h r hf.2⟩
end
def Dat.ff (p:Prg) (A:Nat->Prop) (d:Dat):Prop:= ∀c ∈ d.cons,∀a ∈ c.args,a.ff p A
def ko (p:Prg) (A:Nat->Prop):Prop:= ∀i (hi:i<p.data.length),A i->p.data[i].ff p A
def r8 (p:Prg) (t:Ty):Prop:= ∃A,ko p A/\t.ff p A
def jw (S:Nat->Bool) (i:Nat):Nat->Bool:=fun j=>S j||j==i
def ij (S:Nat->Bool):Nat:=(List.range 12).countP fun j=> !S j
def Ai (S S':Nat->Bool):Prop:= ∀i,S i=true->S' i=true
def DQ (p:Prg) (S S':Nat->Bool):Prop:= ∀i (hi:i<p.data.length),S' i=true->S i=false->p.data[i].ff p (fun j=>S' j=true)
theorem countP_le {α:Type} {P Q:α->Bool} : ∀ (l:List α),(∀a ∈ l,P a=true->Q a=true)->l.countP P<=l.countP Q:=fun l h=>List.countP_mono_left h
theorem xk {S S':Nat->Bool} (h:Ai S S'):ij S'<=ij S:=countP_le _ fun a _ ha=>by
 cases hs:S a with
 |false=>rfl
 |true=>rw [h a hs] at ha;cases ha
theorem xm {S:Nat->Bool} {i:Nat} (hs:S i=false): ∀ (l:List Nat),i ∈ l->(l.countP fun j=> !jw S i j) +1<=l.countP fun j=> !S j
 |a::r,hm=>by
  have hle: (r.countP fun j=> !jw S i j)<=r.countP fun j=> !S j:=countP_le _ fun a _ ha=>by
   unfold jw at ha
   cases hs:S a with
   |false=>rfl
   |true=>rw [hs] at ha;cases ha
  simp only [List.countP_cons]
  by_cases hai:a=i
  ·subst hai
   have h1:jw S a a=true:=by unfold jw;simp
   simp only [h1,hs]
   simp;exact hle
  ·have hm':i ∈ r:=by
    cases hm with
    |head=>exact absurd rfl hai
    |tail _ h=>exact h
   have:=xm hs r hm'
   have h1:jw S i a=S a:=by unfold jw;simp [hai]
   rw [h1]
   omega
theorem DR {S:Nat->Bool} {i:Nat} (hs:S i=false) (hi:i<12):ij (jw S i) +1<=ij S:=xm hs _ (List.mem_range.2 hi)
theorem Aj (S:Nat->Bool) (i:Nat):Ai S (jw S i):=fun j h=>by unfold jw;rw [h];rfl
theorem Ai.trans {S S' S'':Nat->Bool} (h:Ai S S') (h':Ai S' S''):Ai S S'':=fun i hi=>h' i (h i hi)
theorem DQ.trans {p:Prg} {S S' S'':Nat->Bool} (h:DQ p S S') (h':DQ p S' S'') (hi2:Ai S' S''):DQ p S S'':=fun i hi h2 h0=>by
 cases hs:S' i with
 |false=>exact h' i hi h2 hs
 |true=>exact fun c hc a ha=>Ty.kn (fun j hj=>hi2 j hj) a (h i hi hs h0 c hc a ha)
theorem DS (p:Prg) (S:Nat->Bool):DQ p S S:=fun i _ h1 h2=>by rw [h1] at h2;cases h2
def uJ (p:Prg) (S:Nat->Bool) (good: (Nat->Prop)->Prop) (r:Bool) (S':Nat->Bool):Prop:=
 Ai S S'/\(r=false->good (fun j=>S' j=true)/\DQ p S S')/\(r=true-> ∀A,ko p A-> ¬good A)
def dQ (S:Nat->Bool):List D:=(List.range 12).map fun j=> .int .i64 (if S j then 1 else 0)
theorem jQ (S:Nat->Bool): (dQ S).length=12:=by simp [dQ]
theorem rf (S:Nat->Bool) (i:Nat) (hi:i<12): (dQ S)[i]? =some (.int .i64 (if S i then 1 else 0)):=by
 unfold dQ
 rw [List.getElem?_map,List.getElem?_range hi];rfl
theorem DT (S:Nat->Bool) (i:Nat): (dQ S).set i (.int .i64 1)=dQ (jw S i):=by
 refine List.ext_getElem? fun j=> ?_
 rw [List.getElem?_set]
 by_cases hj:j<12
 ·rw [rf _ j hj,rf _ j hj]
  by_cases h:i=j
  ·subst h
   simp [jQ,hj,jw]
  ·have h1:jw S i j=S j:=by unfold jw;simp;exact fun h'=>absurd h'.symm h
   rw [if_neg h,h1]
 ·have h1: ∀S,(dQ S)[j]? =none:=fun S=>List.getElem?_eq_none (by rw [jQ];omega)
  rw [h1,h1]
  split
  ·rw [if_neg (by rw [jQ];omega)]
  ·rfl
abbrev stS (σ:St) (q:Nat) (S:Nat->Bool):St:=σ.set q (.box (dQ S))
theorem tu {α:Type} {f:Env->St->Option (bx × Env × St)} (p:Prg) (l:List α) (good:α->(Nat->Prop)->Prop) (gm: ∀a ∈ l,∀A B:Nat->Prop,(∀i,A i->B i)->good a A->good a B) (σ:St) (q:Nat) (E:Nat->Env) (Y:bx × Env) (hY:Y.1≠ .normal) (N:Nat)
 (h: ∀j (hj:j<l.length) (S:Nat->Bool) (τ:St),ij S<=N-> ∃r S' τ',f (E j) (stS σ q S++τ)=some (if r then (.ret,[(6, .bool true)],stS σ q S'++τ') else (.normal,E (j+1),stS σ q S'++τ'))/\uJ p S (good l[j]) r S')
 (hf: ∀S τ,f (E l.length) (stS σ q S++τ)=some (Y.1,Y.2,stS σ q S++τ)):
 ∀ (k j:Nat),j+k=l.length-> ∀ (S:Nat->Bool) (τ:St),ij S<=N-> ∃r S' τ',aU f (E j) (stS σ q S++τ)=some (if r then (.ret,[(6, .bool true)],stS σ q S'++τ') else (Y.1,Y.2,stS σ q S'++τ'))/\uJ p S (fun A=> ∀a ∈ l.drop j,good a A) r S'
 |0,j,hj,S,τ,hS=>by
  obtain rfl:j=l.length:=by omega
  refine ⟨false,S,τ,aH (hf S τ) hY,fun _ h=>h,fun _=>⟨?_,DS p S⟩,fun h=>by cases h⟩
  rw [List.drop_length]
  intro a ha;cases ha
 |k+1,j,hj,S,τ,hS=>by
  have hlt:j<l.length:=by omega
  obtain ⟨r,S1,τ1,h1,a1,a2,a3⟩:=h j hlt S τ hS
  rw [List.drop_eq_getElem_cons hlt]
  cases r with
  |true=>
   refine ⟨true,S1,τ1,aH h1 (by simp),a1,fun h=>(by cases h),fun _ A hA hg=>a3 rfl A hA (hg _ List.mem_cons_self)⟩
  |false=>
   obtain ⟨r,S',τ',h2,b1,b2,b3⟩:=tu p l good gm σ q E Y hY N h hf k (j+1) (by omega) S1 τ1 (Nat.le_trans (xk a1) hS)
   simp only [Bool.false_eq_true,if_false] at h1
   refine ⟨r,S',τ',by rw [aO h1];exact h2,a1.trans b1,fun hr=> ?_,fun hr A hA hg=>b3 hr A hA fun a ha=>hg a (List.mem_cons_of_mem _ ha)⟩
   obtain ⟨c1,c2⟩:=a2 rfl
   obtain ⟨d1,d2⟩:=b2 hr
   refine ⟨fun a ha=> ?_,c2.trans d2 b1⟩
   cases ha with
   |head=>exact gm _ (List.getElem_mem hlt) _ _ (fun i hi=>b1 i hi) c1
   |tail _ ha=>exact d1 a ha
theorem IsT.Rz {σ:St} {tb:Nat} {p:Prg} {m:b9} {q:Nat} {S:Nat->Bool} {o:Obj} (h:IsT σ tb p m) (hq:σ[q]? =some (.box (dQ S))):IsT (σ.set q o) tb p m:=by
 obtain ⟨j,h1,h2⟩:=h
 have n1:q≠tb:=by
  rintro rfl
  rw [hq] at h1
  have:=congrArg List.length (Obj.box.inj (Option.some.inj h1))
  rw [jQ,List.length_append,p.aL] at this
  simp at this
 have n2:q≠j:=by
  rintro rfl
  rw [hq] at h2;cases h2
 exact ⟨j,by rw [List.getElem?_set_ne n1];exact h1,by rw [List.getElem?_set_ne n2];exact h2⟩
def BM (p:Prg) (m:b9) (tb q N:Nat) (t:Ty):Prop:= ∀ (S:Nat->Bool),ij S<=N-> ∀ (σ:St),IsT σ tb p m->σ[q]? =some (.box (dQ S))->
 ∃r S',CI (.fn 118) [.ptr tb 0, .agg t.cs, .ptr q 0] σ=some (.ret (.bool r),stS σ q S')/\uJ p S (fun A=>t.ff p A) r S'
theorem Ga {σ:St} {q:Nat} {S:Nat->Bool} {τ:St} (hq:q<σ.length): (stS σ q S++τ)[q]? =some (.box (dQ S)):=nr hq
theorem CT {σ:St} {q:Nat} {S S':Nat->Bool} {τ:St} (hq:q<σ.length):stS (stS σ q S++τ) q S'=stS σ q S'++τ:=Ak hq
theorem Je (p:Prg) (m:b9) (tb q N:Nat) (t:Ty) (ht:BM p m tb q N t) (σ:St) (hq:q<σ.length) (hT: ∀S τ,IsT (stS σ q S++τ) tb p m) (S:Nat->Bool) (τ:St) (hS:ij S<=N):
 ∃r S',CI (.fn 118) [.ptr tb 0, .agg t.cs, .ptr q 0] (stS σ q S++τ)=some (.ret (.bool r),stS σ q S'++τ)/\uJ p S (fun A=>t.ff p A) r S':=by
 obtain ⟨r,S',h1,h2⟩:=ht S hS (stS σ q S++τ) (hT S τ) (Ga hq)
 rw [CT hq] at h1
 exact ⟨r,S',h1,h2⟩
set_option maxHeartbeats 2000000 in
theorem Gb (p:Prg) (m:b9) (tb q N:Nat) (l:List Ty) (hl:l.length<=4) (d4:D) (hh: ∀t ∈ l,BM p m tb q N t) (σ:St) (hq:q<σ.length) (hT: ∀S τ,IsT (stS σ q S++τ) tb p m) (S:Nat->Bool) (τ:St) (hS:ij S<=N):
 ∃r S' τ',aU (aD CI XB GI 73 false pP) [(0, .ptr tb 0),(2, .ptr q 0),(4,d4),(18, .slice (l.map Ty.d)),(19, .int .i64 l.length),(20, .int .i64 (0:Nat))] (stS σ q S++τ)=
  some (if r then (.ret,[(6, .bool true)],stS σ q S'++τ') else (.exit 0,[(0, .ptr tb 0),(2, .ptr q 0),(4,d4),(18, .slice (l.map Ty.d)),(19, .int .i64 l.length),(20, .int .i64 l.length),(21, .bool false)],stS σ q S'++τ'))/\uJ p S (fun A=> ∀t ∈ l,t.ff p A) r S':=by
 obtain ⟨ld,hld,hll,hlg⟩:=opq Ty.d l
 rw [hld]
 exact tu (f:=aD CI XB GI 73 false pP) p l (fun t A=>t.ff p A) (fun a _ A B h=>a.kn h) σ q (fun j=>[(0, .ptr tb 0),(2, .ptr q 0),(4,d4),(18, .slice ld),(19, .int .i64 l.length),(20, .int .i64 (j:Nat))])
  (.exit 0,[(0, .ptr tb 0),(2, .ptr q 0),(4,d4),(18, .slice ld),(19, .int .i64 l.length),(20, .int .i64 l.length),(21, .bool false)]) (by simp) N
  (fun j hj S τ hS=>by
    obtain ⟨r,S',h1,h2⟩:=Je p m tb q N l[j] (hh _ (List.getElem_mem hj)) σ hq hT S (τ++[.box l[j].cs]) hS
    refine ⟨r,S',τ++[.box l[j].cs], ?_,h2⟩
    simp only [<-List.append_assoc] at h1 ⊢
    have hw:=aI (n:=j) (by omega)
    obtain ⟨g2,g3⟩:=hlg j hj
    have hjj: (j:Int) <l.length:=by omega
    have y1:=l[j].aL
    have y2:=l[j].aM
    have y3:l[j].cs.all D.one=true:=by cases l[j];rfl
    unfold Ty.d at g3
    clear h2 hh hT hS
    generalize l[j].cs=xc at*
    generalize stS σ q S++τ=σ1 at*
    generalize stS σ q S'++τ=σ2 at*
    cases r<;>simp [pP,hj,hjj,hw,hll,g2,g3,y1,y2,y3,az,aS,aN,bP,h1,aE])
  (fun S τ=>by simp [pP,hll]) l.length 0 (by omega) S τ hS
set_option maxHeartbeats 2000000 in
theorem Gc (p:Prg) (m:b9) (tb q N:Nat) (l:List Ty) (hl:l.length<=4) (d54 d55 d56:D) (hh: ∀t ∈ l,BM p m tb q N t) (σ:St) (hq:q<σ.length) (hT: ∀S τ,IsT (stS σ q S++τ) tb p m) (S:Nat->Bool) (τ:St) (hS:ij S<=N):
 ∃r S' τ',aU (aD CI XB GI 73 false pQ) [(0, .ptr tb 0),(2, .ptr q 0),(54,d54),(55,d55),(56,d56),(61, .slice (l.map Ty.d)),(62, .int .i64 l.length),(63, .int .i64 (0:Nat))] (stS σ q S++τ)=
  some (if r then (.ret,[(6, .bool true)],stS σ q S'++τ') else (.exit 4,[(0, .ptr tb 0),(2, .ptr q 0),(54,d54),(55,d55),(56,d56),(61, .slice (l.map Ty.d)),(62, .int .i64 l.length),(63, .int .i64 l.length),(64, .bool false)],stS σ q S'++τ'))/\uJ p S (fun A=> ∀t ∈ l,t.ff p A) r S':=by
 obtain ⟨ld,hld,hll,hlg⟩:=opq Ty.d l
 rw [hld]
 exact tu (f:=aD CI XB GI 73 false pQ) p l (fun t A=>t.ff p A) (fun a _ A B h=>a.kn h) σ q (fun j=>[(0, .ptr tb 0),(2, .ptr q 0),(54,d54),(55,d55),(56,d56),(61, .slice ld),(62, .int .i64 l.length),(63, .int .i64 (j:Nat))])
  (.exit 4,[(0, .ptr tb 0),(2, .ptr q 0),(54,d54),(55,d55),(56,d56),(61, .slice ld),(62, .int .i64 l.length),(63, .int .i64 l.length),(64, .bool false)]) (by simp) N
  (fun j hj S τ hS=>by
    obtain ⟨r,S',h1,h2⟩:=Je p m tb q N l[j] (hh _ (List.getElem_mem hj)) σ hq hT S (τ++[.box l[j].cs]) hS
    refine ⟨r,S',τ++[.box l[j].cs], ?_,h2⟩
    simp only [<-List.append_assoc] at h1 ⊢
    have hw:=aI (n:=j) (by omega)
    obtain ⟨g2,g3⟩:=hlg j hj
    have hjj: (j:Int) <l.length:=by omega
    have y1:=l[j].aL
    have y2:=l[j].aM
    have y3:l[j].cs.all D.one=true:=by cases l[j];rfl
    unfold Ty.d at g3
    clear h2 hh hT hS
    generalize l[j].cs=xc at*
    generalize stS σ q S++τ=σ1 at*
    generalize stS σ q S'++τ=σ2 at*
    cases r<;>simp [pQ,hj,hjj,hw,hll,g2,g3,y1,y2,y3,az,aS,aN,bP,h1,aE])
  (fun S τ=>by simp [pQ,hll]) l.length 0 (by omega) S τ hS
set_option maxHeartbeats 2000000 in
theorem Gd (p:Prg) (m:b9) (tb q N:Nat) (l:List Con) (hl:l.length<=100) (hh: ∀c ∈ l,c.args.length<=4/\ ∀t ∈ c.args,BM p m tb q N t) (σ:St) (hq:q<σ.length) (hT: ∀S τ,IsT (stS σ q S++τ) tb p m) (S:Nat->Bool) (τ:St) (hS:ij S<=N):
 ∃r S' τ',aU (aD CI XB GI 73 false pR) [(0, .ptr tb 0),(2, .ptr q 0),(54, .slice (l.map Con.d)),(55, .int .i64 l.length),(56, .int .i64 (0:Nat))] (stS σ q S++τ)=
  some (if r then (.ret,[(6, .bool true)],stS σ q S'++τ') else (.exit 2,[(0, .ptr tb 0),(2, .ptr q 0),(54, .slice (l.map Con.d)),(55, .int .i64 l.length),(56, .int .i64 l.length),(57, .bool false)],stS σ q S'++τ'))/\uJ p S (fun A=> ∀c ∈ l,∀t ∈ c.args,t.ff p A) r S':=by
 obtain ⟨ld,hld,hll,hlg⟩:=opq Con.d l
 rw [hld]
 exact tu (f:=aD CI XB GI 73 false pR) p l (fun c A=> ∀t ∈ c.args,t.ff p A) (fun a _ A B h hg t ht=>t.kn h (hg t ht)) σ q (fun j=>[(0, .ptr tb 0),(2, .ptr q 0),(54, .slice ld),(55, .int .i64 l.length),(56, .int .i64 (j:Nat))])
  (.exit 2,[(0, .ptr tb 0),(2, .ptr q 0),(54, .slice ld),(55, .int .i64 l.length),(56, .int .i64 l.length),(57, .bool false)]) (by simp) N
  (fun j hj S τ hS=>by
    obtain ⟨h4,hh⟩:=hh _ (List.getElem_mem hj)
    obtain ⟨r,S',τ',h1,h2⟩:=Gc p m tb q N l[j].args h4 (.slice ld) (.int .i64 l.length) (.int .i64 (j:Nat)) hh σ hq hT S (τ++[.box l[j].cs]) hS
    refine ⟨r,S',τ', ?_,h2⟩
    have hc2:l[j].cs=[.str l[j].name, .slice (l[j].args.map Ty.d)]:=by unfold Con.cs;rw [bS]
    have hdd:l[j].d= .agg [.str l[j].name, .slice (l[j].args.map Ty.d)]:=by rw [<-hc2];rfl
    rw [<-List.append_assoc,hc2,Int.natCast_zero] at h1
    have hw:=aI (n:=j) (by omega)
    obtain ⟨g2,g3⟩:=hlg j hj
    have hjj: (j:Int) <l.length:=by omega
    rw [hdd] at g3
    have hal: (l[j].args.map Ty.d).length=l[j].args.length:=List.length_map _
    clear h2 hh hT hS
    generalize l[j].args.map Ty.d=ad at*
    generalize stS σ q S++τ=σ1 at*
    generalize stS σ q S'++τ'=σ2 at*
    cases r<;>simp [pR,hj,hjj,hw,hll,g2,g3,hal,az,aS,aN,bP,h1,aE])
  (fun S τ=>by simp [pR,hll]) l.length 0 (by omega) S τ hS
theorem Al {σ:St} {q:Nat} {S:Nat->Bool} (hq:σ[q]? =some (.box (dQ S))):stS σ q S=σ:=by
 obtain ⟨h1,h2⟩:=List.getElem?_eq_some_iff.1 hq
 unfold stS
 rw [<-h2];exact List.set_getElem_self h1
set_option maxHeartbeats 4000000 in
theorem xp (p:Prg) (m:b9) (hdl:p.data.length<=12) (hls: ∀d ∈ p.data,d.fit p) (tb q N:Nat) (hN: ∀N',N'<N-> ∀ (t:Ty) (params:List Bs),t.small->t.ord p params=0->BM p m tb q N' t):
 ∀ (t:Ty) (params:List Bs),t.small->t.ord p params=0->BM p m tb q N t
 | .mk k n s l ls tail,params,hsm,hord=>fun S hS σ hT hq=>by
  have ih:=fun y (hy:y ∈ l)=>xp p m hdl hls tb q N hN y params (eM hsm.2.2.2 hy) ((dM hord).2 y hy)
  have hql:=b8 hq
  have hcs: (Ty.mk k n s l ls tail).cs=[.int .i64 k, .int .i64 n, .str s, .slice (l.map Ty.d), .slice (ls.map Lab.d), .int .i64 tail]:=by simp only [Ty.cs,bS]
  have hTS: ∀S τ,IsT (stS σ q S++τ) tb p m:=fun S τ=>(hT.Rz hq).app
  have hsl: ∀S:Nat->Bool,(stS σ q S).length=σ.length:=fun S=>by simp
  have e8: ∀ (r:Bool) (S':Nat->Bool) (τ:St),ah CI XB GI nt [.ptr tb 0, .agg (Ty.mk k n s l ls tail).cs, .ptr q 0] σ=some (.ret (.bool r),stS σ q S'++τ)->CI (.fn 118) [.ptr tb 0, .agg (Ty.mk k n s l ls tail).cs, .ptr q 0] σ=some (.ret (.bool r),stS σ q S'):=fun r S' τ h=>by
   refine dj Kz h ?_
   rw [iF (by
    simp only [Obj.under]
    refine fm _ ?_
    have: ∀l:List Nat,bW (l.map fun j=>D.int .i64 (if S' j then 1 else 0))=true:=fun l=>by
     induction l with
     |nil=>rfl
     |cons a r ih=>simp only [List.map_cons,bW,D.tree,ih,Bool.and_self]
    exact this _) rfl rfl]
   simp [D.weak]
  rw [hcs] at e8 ⊢
  by_cases k5:k=5
  ·subst k5
   refine ⟨true,S,e8 true S [.box [.int .i64 5, .int .i64 n, .str s, .slice (l.map Ty.d), .slice (ls.map Lab.d), .int .i64 tail]] ?_,fun _ h=>h,fun h=>(by cases h),fun _ A _ hg=> ?_⟩
   ·rw [Al hq]
    simp [ah,nt,az,aS]
   ·simp only [Ty.ff] at hg;exact hg.1 rfl
  have b5: (k==5)=false:=by simpa using k5
  have hb0: ∀S τ,stS (σ++[.box [.int .i64 k, .int .i64 n, .str s, .slice (l.map Ty.d), .slice (ls.map Lab.d), .int .i64 tail]]) q S++τ=stS σ q S++([.box [.int .i64 k, .int .i64 n, .str s, .slice (l.map Ty.d), .slice (ls.map Lab.d), .int .i64 tail]]++τ):=fun S τ=>by
   unfold stS;rw [jb hql,List.append_assoc]
  have hTS0: ∀S τ,IsT (stS (σ++[.box [.int .i64 k, .int .i64 n, .str s, .slice (l.map Ty.d), .slice (ls.map Lab.d), .int .i64 tail]]) q S++τ) tb p m:=fun S τ=>by rw [hb0];exact hTS _ _
  have hq0:q< (σ++[Obj.box [.int .i64 k, .int .i64 n, .str s, .slice (l.map Ty.d), .slice (ls.map Lab.d), .int .i64 tail]]).length:=by simp;omega
  obtain ⟨r,S1,τ1,hit,hp1,hp2,hp3⟩:=Gb p m tb q N l hsm.1 (.ptr σ.length 0) ih _ hq0 hTS0 S [] hS
  rw [List.append_nil,show stS (σ++[.box [.int .i64 k, .int .i64 n, .str s, .slice (l.map Ty.d), .slice (ls.map Lab.d), .int .i64 tail]]) q S=σ++[.box [.int .i64 k, .int .i64 n, .str s, .slice (l.map Ty.d), .slice (ls.map Lab.d), .int .i64 tail]] by
   have:=hb0 S [];rw [List.append_nil,List.append_nil,Al hq] at this;exact this,Int.natCast_zero,hb0] at hit
  have hll: (l.map Ty.d).length=l.length:=List.length_map _
  have hx1: ∀S τ,(stS σ q S++([.box [.int .i64 k, .int .i64 n, .str s, .slice (l.map Ty.d), .slice (ls.map Lab.d), .int .i64 tail]]++τ))[σ.length]? =some (.box [.int .i64 k, .int .i64 n, .str s, .slice (l.map Ty.d), .slice (ls.map Lab.d), .int .i64 tail]):=fun S τ=>by rw [<-hsl S];exact az
  cases r with
  |true=>
   refine ⟨true,S1,e8 true S1 ([.box [.int .i64 k, .int .i64 n, .str s, .slice (l.map Ty.d), .slice (ls.map Lab.d), .int .i64 tail]]++τ1) ?_,hp1,fun h=>(by cases h),fun _ A hA hg=>hp3 rfl A hA ?_⟩
   ·clear hTS e8 hTS0 hb0 hx1
    generalize stS σ q S1++_=σ1 at*
    generalize l.map Ty.d=ld at*
    simp [ah,nt,az,aS,b5,hll,hit]
   ·simp only [Ty.ff] at hg;exact eV.1 hg.2.2
  |false=>
  simp only [Bool.false_eq_true,if_false] at hit
  obtain ⟨g1,g2⟩:=hp2 rfl
  by_cases k6:k=6
  rotate_left
  ·have n6: (k != 6)=true:=by simpa using k6
   refine ⟨false,S1,e8 false S1 ([.box [.int .i64 k, .int .i64 n, .str s, .slice (l.map Ty.d), .slice (ls.map Lab.d), .int .i64 tail]]++τ1) ?_,hp1,fun _=>⟨?_,g2⟩,fun h=>(by cases h)⟩
   ·have hx1:=hx1 S1 τ1
    clear hTS e8 hTS0 hb0
    generalize stS σ q S1++_=σ1 at*
    generalize l.map Ty.d=ld at*
    simp [ah,nt,az,aS,b5,hll,hit,hx1,n6]
   ·simp only [Ty.ff];exact ⟨k5,fun h=>absurd h k6,eV.2 g1⟩
  subst k6
  obtain ⟨nod,nop⟩:=dM hord
  obtain ⟨i,hix,hdx,hi,hlen⟩:=jM nod
  have h117:=fun σ hT=>Kv p m (by unfold aQ;omega) s tb σ hT
  rw [hix] at h117
  have hTa:=hTS S1 ([.box [.int .i64 6, .int .i64 n, .str s, .slice (l.map Ty.d), .slice (ls.map Lab.d), .int .i64 tail]]++τ1)
  have h117:=h117 _ hTa
  have hqa: (stS σ q S1++([.box [.int .i64 6, .int .i64 n, .str s, .slice (l.map Ty.d), .slice (ls.map Lab.d), .int .i64 tail]]++τ1))[q]? =some (.box (dQ S1)):=nr hql
  have hseen:=rf S1 i (by omega)
  have hsl12:=jQ S1
  have hi12: (i:Int) <12:=by omega
  have hi0: (0:Int)<=i:=by omega
  have hhd: (List.drop i (dQ S1)).head?=some (.int .i64 (if S1 i then 1 else 0)):=by rw [List.head?_drop];exact hseen
  have hx1:=hx1 S1 τ1
  cases hs:S1 i with
  |true=>
   rw [hs] at hseen hhd
   refine ⟨false,S1,e8 false S1 ([.box [.int .i64 6, .int .i64 n, .str s, .slice (l.map Ty.d), .slice (ls.map Lab.d), .int .i64 tail]]++τ1) ?_,hp1,fun _=>⟨?_,g2⟩,fun h=>(by cases h)⟩
   ·clear hTS e8 hTS0 hb0 hTa
    generalize stS σ q S1++_=σ1 at*
    generalize l.map Ty.d=ld at*
    generalize dQ S1=sc at*
    simp [ah,nt,az,aS,hll,hit,hx1,h117,hqa,hi12,hi0,hseen,hhd,hsl12]
   ·simp only [Ty.ff];exact ⟨by decide,fun _=>by rw [hdx];exact hs,eV.2 g1⟩
  |false=>
   rw [hs] at hseen hhd
   have hu:=DR hs (by omega)
   have hu1:=xk hp1
   have hdf:=hls _ (List.getElem_mem hi)
   obtain ⟨r,S2,τ2,hit2,hq1,hq2,hq3⟩:=Gd p m tb q (ij (jw S1 i)) p.data[i].cons hdf.2.1 (fun c hc=>⟨(hdf.2.2 c hc).1,fun t ht=>hN _ (by omega) t _ ((hdf.2.2 c hc).2 t ht).1 ((hdf.2.2 c hc).2 t ht).2⟩) σ hql hTS (jw S1 i) ([.box [.int .i64 6, .int .i64 n, .str s, .slice (l.map Ty.d), .slice (ls.map Lab.d), .int .i64 tail]]++τ1) (Nat.le_refl _)
   rw [Int.natCast_zero] at hit2
   have hset: (stS σ q S1++([Obj.box [.int .i64 6, .int .i64 n, .str s, .slice (l.map Ty.d), .slice (ls.map Lab.d), .int .i64 tail]]++τ1)).set q (.box (List.take i (dQ S1)++ .int .i64 1::List.drop (i+1) (dQ S1)))=stS σ q (jw S1 i)++([.box [.int .i64 6, .int .i64 n, .str s, .slice (l.map Ty.d), .slice (ls.map Lab.d), .int .i64 tail]]++τ1):=by
    have e:List.take i (dQ S1)++ .int .i64 1::List.drop (i+1) (dQ S1)=(dQ S1).set i (.int .i64 1):=by
     rw [List.set_eq_take_append_cons_drop,if_pos (by omega)]
    rw [e,DT];exact CT hql
   have hi12':i+1<=12:=by omega
   have hTb:=hTS (jw S1 i) ([.box [.int .i64 6, .int .i64 n, .str s, .slice (l.map Ty.d), .slice (ls.map Lab.d), .int .i64 tail]]++τ1)
   obtain ⟨j,hT1,_⟩:=hTb
   obtain ⟨ld,hld,hll2,hlg⟩:=opq Dat.d p.data
   obtain ⟨f2,f3⟩:=hlg i hi
   have hii: (i:Int) <p.data.length:=by omega
   have hhd2: (p.cs++[D.map j]).head?=some (.slice ld):=by rw [p.dw,<-hld];rfl
   have hdd:p.data[i].d= .agg [.str p.data[i].name,slD p.data[i].params, .slice (p.data[i].cons.map Con.d)]:=rfl
   rw [hdd] at f3
   have hcl: (p.data[i].cons.map Con.d).length=p.data[i].cons.length:=List.length_map _
   have hbody:ah CI XB GI nt [.ptr tb 0, .agg [.int .i64 6, .int .i64 n, .str s, .slice (l.map Ty.d), .slice (ls.map Lab.d), .int .i64 tail], .ptr q 0] σ=some (.ret (.bool r),stS σ q S2++τ2):=by
    clear hTS e8 hTS0 hb0 hTa hq1 hq2 hq3
    generalize stS σ q (jw S1 i)++_=σ2 at*
    generalize stS σ q S1++_=σ1 at*
    generalize stS σ q S2++τ2=σ3 at*
    generalize l.map Ty.d=td at*
    generalize p.data[i].cons.map Con.d=cd at*
    generalize dQ S1=sc at*
    generalize p.cs++[D.map j]=pc at*
    cases r<;>simp [ah,nt,az,aS,hll,hit,hx1,h117,hqa,hi12,hi0,hseen,hhd,hsl12,hi12',hset,hT1,hhd2,hll2,hi,hii,f2,f3,hcl,hit2]
   refine ⟨r,S2,e8 r S2 τ2 hbody,hp1.trans ((Aj S1 i).trans hq1),fun hr=> ?_,fun hr A hA hg=> ?_⟩
   ·obtain ⟨c1,c2⟩:=hq2 hr
    have hmono:=fun (j:Nat) (h:S1 j=true)=>hq1 j (Aj S1 i j h)
    refine ⟨?_,fun j hj h2 h0=> ?_⟩
    ·simp only [Ty.ff]
     refine ⟨by decide,fun _=>by rw [hdx];exact hq1 i (by unfold jw;simp),eV.2 fun t ht=>t.kn (fun j h=>hmono j h) (g1 t ht)⟩
    ·cases hs1:S1 j with
     |true=>exact fun c hc a ha=>a.kn (fun j h=>hmono j h) (g2 j hj hs1 h0 c hc a ha)
     |false=>
      by_cases hji:j=i
      ·subst hji;exact c1
      ·exact c2 j hj h2 (by unfold jw;rw [hs1];simp [hji])
   ·simp only [Ty.ff] at hg
    have hAi:A i:=by rw [<-hdx];exact hg.2.1 trivial
    exact hq3 hr A hA (hA i hi hAi)
theorem RA (p:Prg) (m:b9) (hdl:p.data.length<=12) (hls: ∀d ∈ p.data,d.fit p) (tb q:Nat): ∀ (N:Nat) (t:Ty) (params:List Bs),t.small->t.ord p params=0->BM p m tb q N t:=by
 intro N
 induction N using Nat.strongRecOn with
 |ind N IH=>exact xp p m hdl hls tb q N IH
open Classical in
noncomputable def Prg.kq (p:Prg) (t:Ty):Bool:= !decide (r8 p t)
theorem EI (p:Prg) (m:b9) (hdl:p.data.length<=12) (hls: ∀d ∈ p.data,d.fit p) (tb q:Nat) (t:Ty) (hsm:t.small) (ho:t.ord p []=0) (σ:St) (hT:IsT σ tb p m) (hq:σ[q]? =some (.box (dQ fun _=>false))):
 ∃S',CI (.fn 118) [.ptr tb 0, .agg t.cs, .ptr q 0] σ=some (.ret (.bool (p.kq t)),stS σ q S'):=by
 obtain ⟨r,S',h1,_,h2,h3⟩:=RA p m hdl hls tb q _ t [] hsm ho (fun _=>false) (Nat.le_refl _) σ hT hq
 refine ⟨S', ?_⟩
 have:p.kq t=r:=by
  unfold Prg.kq
  cases r with
  |true=>
   have: ¬r8 p t:=fun ⟨A,hA,hg⟩=>h3 rfl A hA hg
   simp [this]
  |false=>
   obtain ⟨g1,g2⟩:=h2 rfl
   have:r8 p t:=⟨fun j=>S' j=true,fun i hi hA=>g2 i hi hA rfl,g1⟩
   simp [this]
 rw [this];exact h1
end Go.AI
namespace Go.AI
open Go Go.Proofs Go.Lx
set_option maxRecDepth 100000
theorem tv:Nat.log2 128=7:=by decide
end Go.AI
