/- Texts of the proof: what functions of the program compute, step by step. No conditions of its own. -/
import Derived.Test.YtgenoggafhhgfaaGreatDoorK8
import Derived.Test.YtgenoggafhhgfaaGreatDoorK5
import Derived.Test.YtgenoggafhhgfaaGreatDoorK7
set_option linter.unusedVariables false
set_option linter.unusedSimpArgs false
namespace Go.AI
open Go Go.Proofs Go.Lx
set_option maxRecDepth 100000
section
variable {β:Type} (step:Ex→β→β ⊕ Int)
mutual
def Ex.walk:Ex→β→β ⊕ Int
 | .mk k n s t names l arms,b=>match step (.mk k n s t names l arms) b with
  | .inr e=> .inr e
  | .inl b1=>match exsWalk l b1 with
   | .inr e=> .inr e
   | .inl b2=>armsWalk arms b2
def exsWalk:List Ex→β→β ⊕ Int
 | [],b=> .inl b
 |x::r,b=>match x.walk b with
  | .inr e=> .inr e
  | .inl b1=>exsWalk r b1
def armsWalk:List Arm→β→β ⊕ Int
 | [],b=> .inl b
 | .mk _ _ x::r,b=>match x.walk b with
  | .inr e=> .inr e
  | .inl b1=>armsWalk r b1
end
end
theorem postI_same {q:FuncId→Bool} {f:FuncId} {A A' τ1:St} {d:D} (hl:A'.length=A.length) (hk: ∀j,j<A.length→A'[j]? =A[j]? ∨ ∃o,A'[j]? =some o∧o.under A.length) (hd:d.tree=true) (hq:q f=false):
 postI q f A (some (.ret d,A'++τ1))=some (.ret d.weak,A'):=by
 have hK:Keeps A (A'++τ1):=fun j hj=>by
  rw [List.getElem?_append_left (by omega)];exact hk j hj
 rw [postI_ret hK (trimV_tree hd) (by simp [hq]),←hl,List.take_left]
section
variable {β:Type} (i2 y s i:Nat) (o:β→Obj) (I:β→Prop) (step:Ex→β→β ⊕ Int) (σ SP:St)
end
def Ex.ordErr (p:Prg):Ex→Int
 | .mk k _ s t names l arms=>if k=10 then conErr p s l.length else if k=11 then matchErr p arms else if k=12 then opErr p s else if k=13 then opErr p t
  else if k=14 then handlerErr p s arms else if k=15 then handlerErr p s arms else if k=16 then findEffE p.effects s else if k=17 then usingErr p names else 0
def loop96 (qm:Nat) (fd:D) (st:LoopState):Obj:= .loop 40 [(4, .ptr qm 0),(27,fd),(28, .any)] [28] as96_0 bd96_1 st none
theorem IsT.set {σ:St} {t:Nat} {p:Prg} {m:CMap} {i qm:Nat} {fd:D} {st:LoopState} {o:Obj} (h:IsT σ t p m) (hi:σ[i]? =some (loop96 qm fd st)):IsT (σ.set i o) t p m:=by
 obtain ⟨j,h1,h2⟩:=h
 have n1:i≠t:=fun he=>by rw [he,h1] at hi;unfold loop96 at hi;cases hi
 have n2:i≠j:=fun he=>by rw [he,h2] at hi;unfold loop96 at hi;cases hi
 exact ⟨j,by rw [List.getElem?_set_ne n1];exact h1,by rw [List.getElem?_set_ne n2];exact h2⟩
def ordStep (p:Prg) (x:Ex) (_:Unit):Unit ⊕ Int:=if x.ordErr p=0 then .inl () else .inr (x.ordErr p)
def Ex.ordE (p:Prg) (e:Ex):Int:=match e.walk (ordStep p) () with| .inl _=>0| .inr err=>err
section
variable {β:Type} {step:Ex→β→β ⊕ Int}
end
def Ex.chk (e:Ex):Int:=if (e.take 1 (3000,0)).1 then e.e else 3
theorem Ex.chk_e {e:Ex} (h:e.chk=0):e.e=0∧(e.take 1 (3000,0)).1=true:=by
 unfold Ex.chk at h
 split at h
 ·rename_i ht;exact ⟨h,ht⟩
 ·cases h
def Prg.chk (p:Prg):Int:=orE p.syn (orE p.decls (orE (firstE (p.defs.map fun d=>d.body.ordE p)) (p.main.ordE p)))
mutual
def Ty.left:Ty→Int→Int→Int
 | .mk _ _ _ l ls _,left,d=>if d<1∨24<ls.length then -1 else tysLeft l (left - 1) (d - 1)
def tysLeft:List Ty→Int→Int→Int
 | [],left,_=>left
 |t::r,left,d=>if 0≤left then tysLeft r (t.left left d) d else left
end
theorem tysLeft_neg: ∀ (l:List Ty) (x d:Int),x<0→tysLeft l x d=x
 | [],_,_,_=>rfl
 |_::_,x,d,h=>by
  simp only [tysLeft]
  rw [if_neg (by omega)]
mutual
theorem Ty.take_eq: ∀ (t:Ty) (left d:Int),0≤left→((t.take left d).1=true↔0≤t.left left (201 - d))∧((t.take left d).1=true→(t.take left d).2=t.left left (201 - d))
 | .mk _ _ _ l ls _,left,d,h=>by
  simp only [Ty.take,Ty.left]
  by_cases h1:200<d
  ·rw [if_pos (.inr (.inl h1)),if_pos (.inl (by omega))]
   exact ⟨⟨fun h=>(by cases h),fun h=>(by omega)⟩,fun h=>(by cases h)⟩
  by_cases h2:24<ls.length
  ·rw [if_pos (.inr (.inr h2)),if_pos (.inr h2)]
   exact ⟨⟨fun h=>(by cases h),fun h=>(by omega)⟩,fun h=>(by cases h)⟩
  rw [if_neg (c:=201 - d<1∨24<ls.length) (fun h=>h.elim (by omega) h2)]
  by_cases h3:left - 1<0
  ·rw [if_pos (.inl h3),tysLeft_neg l _ _ h3]
   exact ⟨⟨fun h=>(by cases h),fun h=>(by omega)⟩,fun h=>(by cases h)⟩
  rw [if_neg (fun h=>h.elim h3 (fun h=>h.elim h1 h2))]
  have:=tysTake_eq l (left - 1) (d+1) (by omega)
  have e:201 - d - 1=201 - (d+1):=by omega
  rw [e]
  exact this
theorem tysTake_eq: ∀ (l:List Ty) (left d:Int),0≤left→((tysTake l left d).1=true↔0≤tysLeft l left (201 - d))∧((tysTake l left d).1=true→(tysTake l left d).2=tysLeft l left (201 - d))
 | [],left,d,h=>by
  simp only [tysTake,tysLeft]
  exact ⟨⟨fun _=>h,fun _=>trivial⟩,fun _=>trivial⟩
 |t::r,left,d,h=>by
  obtain ⟨h1,h2⟩:=t.take_eq left d h
  simp only [tysTake,tysLeft]
  rw [if_pos h]
  by_cases ht: (t.take left d).1=true
  ·rw [if_pos ht,h2 ht]
   exact tysTake_eq r _ d (h1.1 ht)
  ·rw [if_neg ht,tysLeft_neg r _ _ (by have:=mt h1.2 ht;omega)]
   have hn:=mt h1.2 ht
   exact ⟨⟨fun h=>(by cases h),fun h=>absurd h hn⟩,fun h=>(by cases h)⟩
end
theorem Ty.chk_left (t:Ty):t.chk=if t.left 3000 200<0 then 3 else t.e:=by
 obtain ⟨h1, -⟩:=t.take_eq 3000 1 (by omega)
 have e: (201:Int) - 1=200:=rfl
 rw [e] at h1
 unfold Ty.chk
 by_cases h: (t.take 3000 1).1=true
 ·rw [if_pos h,if_neg (by have:=h1.1 h;omega)]
 ·rw [if_neg h,if_pos (by have:=mt h1.2 h;omega)]
theorem Ty.chk_e {t:Ty} (h:t.chk=0):t.e=0:=by
 unfold Ty.chk at h
 split at h
 ·exact h
 ·cases h
mutual
def Ex.left:Ex→Int→Int→Int
 | .mk _ _ _ _ _ l arms,left,d=>if d<1 then -1 else armsLeft arms (exsLeft l (left - 1) (d - 1)) (d - 1)
def exsLeft:List Ex→Int→Int→Int
 | [],left,_=>left
 |x::r,left,d=>if 0≤left then exsLeft r (x.left left d) d else left
def armsLeft:List Arm→Int→Int→Int
 | [],left,_=>left
 | .mk _ _ x::r,left,d=>if 0≤left then armsLeft r (x.left left d) d else left
end
theorem exsLeft_neg: ∀ (l:List Ex) (x d:Int),x<0→exsLeft l x d=x
 | [],_,_,_=>rfl
 |_::_,x,d,h=>by
  simp only [exsLeft]
  rw [if_neg (by omega)]
theorem armsLeft_neg: ∀ (l:List Arm) (x d:Int),x<0→armsLeft l x d=x
 | [],_,_,_=>rfl
 | .mk _ _ _::_,x,d,h=>by
  simp only [armsLeft]
  rw [if_neg (by omega)]
mutual
theorem Ex.take_left2: ∀ (t:Ex) (d:Int) (b:Int × Int),0≤b.1→((t.take d b).1=true↔0≤t.left b.1 (201 - d))∧((t.take d b).1=true→(t.take d b).2.1=t.left b.1 (201 - d))
 | .mk _ _ _ _ _ l arms,d,b,h=>by
  simp only [Ex.take,Ex.left]
  by_cases h1:200<d
  ·rw [if_pos (.inr h1),if_pos (c:=201 - d<1) (by omega)]
   exact ⟨⟨fun h=>(by cases h),fun h=>(by omega)⟩,fun h=>(by cases h)⟩
  rw [if_neg (c:=201 - d<1) (by omega)]
  have e:201 - d - 1=201 - (d+1):=by omega
  rw [e]
  by_cases h3:b.1 - 1<0
  ·rw [if_pos (.inl h3),exsLeft_neg l _ _ h3,armsLeft_neg arms _ _ h3]
   exact ⟨⟨fun h=>(by cases h),fun h=>(by omega)⟩,fun h=>(by cases h)⟩
  rw [if_neg (fun h=>h.elim h3 h1)]
  obtain ⟨a1,a2⟩:=exsTake_left2 l (d+1) (b.1 - 1,if d>b.2 then d else b.2) (by simp;omega)
  generalize exsTake l (d+1) (b.1 - 1,if d>b.2 then d else b.2)=q at*
  by_cases ht:q.1=true
  ·rw [if_pos ht]
   have a2:=a2 ht
   have a1:=a1.1 ht
   simp only at a1 a2
   rw [←a2] at a1 ⊢
   exact armsTake_left2 arms (d+1) q.2 a1
  ·rw [if_neg ht]
   have hn:=mt a1.2 ht
   simp only at hn
   rw [armsLeft_neg arms _ _ (by omega)]
   exact ⟨⟨fun h=>(by cases h),fun h=>absurd h hn⟩,fun h=>(by cases h)⟩
theorem exsTake_left2: ∀ (l:List Ex) (d:Int) (b:Int × Int),0≤b.1→((exsTake l d b).1=true↔0≤exsLeft l b.1 (201 - d))∧((exsTake l d b).1=true→(exsTake l d b).2.1=exsLeft l b.1 (201 - d))
 | [],d,b,h=>by
  simp only [exsTake,exsLeft]
  exact ⟨⟨fun _=>h,fun _=>trivial⟩,fun _=>trivial⟩
 |t::r,d,b,h=>by
  obtain ⟨h1,h2⟩:=t.take_left2 d b h
  simp only [exsTake,exsLeft]
  rw [if_pos h]
  by_cases ht: (t.take d b).1=true
  ·rw [if_pos ht,←h2 ht]
   exact exsTake_left2 r d _ (by rw [h2 ht];exact h1.1 ht)
  ·have hn:=mt h1.2 ht
   rw [if_neg ht,exsLeft_neg r _ _ (by omega)]
   exact ⟨⟨fun h=>(by cases h),fun h=>absurd h hn⟩,fun h=>(by cases h)⟩
theorem armsTake_left2: ∀ (l:List Arm) (d:Int) (b:Int × Int),0≤b.1→((armsTake l d b).1=true↔0≤armsLeft l b.1 (201 - d))∧((armsTake l d b).1=true→(armsTake l d b).2.1=armsLeft l b.1 (201 - d))
 | [],d,b,h=>by
  simp only [armsTake,armsLeft]
  exact ⟨⟨fun _=>h,fun _=>trivial⟩,fun _=>trivial⟩
 | .mk _ _ t::r,d,b,h=>by
  obtain ⟨h1,h2⟩:=t.take_left2 d b h
  simp only [armsTake,armsLeft]
  rw [if_pos h]
  by_cases ht: (t.take d b).1=true
  ·rw [if_pos ht,←h2 ht]
   exact armsTake_left2 r d _ (by rw [h2 ht];exact h1.1 ht)
  ·have hn:=mt h1.2 ht
   rw [if_neg ht,armsLeft_neg r _ _ (by omega)]
   exact ⟨⟨fun h=>(by cases h),fun h=>absurd h hn⟩,fun h=>(by cases h)⟩
end
end Go.AI
namespace Go.AI
open Go Go.Proofs Go.Lx
end Go.AI
namespace Go.AI
open Go Go.Proofs Go.Lx
set_option maxRecDepth 100000
theorem Ex.chk_left (e:Ex):e.chk=if e.left 3000 200<0 then 3 else e.e:=by
 unfold Ex.chk
 obtain ⟨h1,_⟩:=e.take_left2 1 (3000,0) (by simp)
 have e1: (201:Int) - 1=200:=rfl
 simp only [e1] at h1
 by_cases h: (e.take 1 (3000,0)).1=true
 ·rw [if_pos h,if_neg (by have:=h1.1 h;omega)]
 ·rw [if_neg h,if_pos (by have:=mt h1.2 h;omega)]
theorem find_all {α:Type} (l:List α) (Q:α→Bool): (l.find? (fun a=> !Q a)).isNone=l.all Q:=by
 induction l with
 |nil=>rfl
 |cons a r ih=>rw [List.find?_cons,List.all_cons];cases h:Q a<;>simp [ih]
theorem Ty.cl_eq2 (p:Int→Bool) (k n:Int) (s:Bs) (l:List Ty) (ls:List Lab) (tail:Int): (Ty.mk k n s l ls tail).cl p=(!(k==0|| (k==5&&p tail))&&(ls.all (fun x=>x.n==0)&&l.all (fun t=>t.cl p))):=by
 simp only [Ty.cl,tysCl_all,Bool.and_assoc]
set_option maxHeartbeats 1000000 in
theorem c116: ∀ (t:Ty),t.ok→ ∀ (σ:St),CI (.fn 116) [.agg t.cs] σ=some (.ret (.bool (t.cl tailC)),σ)
 | .mk k n s l ls tail,hok,σ=>by
  obtain ⟨hl1,hl2,hl3⟩:=hok
  have ih:=fun x (hx:x ∈ l) σ=>c116 x (tysOk_mem hl3 hx) σ
  obtain ⟨ld,hld,hll,hlg⟩:=opq Ty.d l
  obtain ⟨sd,hsd,hsl,hsg⟩:=opq Lab.d ls
  have hcs: (Ty.mk k n s l ls tail).cs=[.int .i64 k, .int .i64 n, .str s, .slice ld, .slice sd, .int .i64 tail]:=by simp only [Ty.cs,tysD_map,hld,hsd]
  rw [hcs]
  have hit0:=loop_seek (f:=evalI CI XB GI 44 false lp116_0) (σ:=σ++[.box [.int .i64 k, .int .i64 n, .str s, .slice ld, .slice sd, .int .i64 tail]]) ls (fun i=>[(1, .ptr σ.length 0),(23, .slice sd),(24, .int .i64 ls.length),(25, .int .i64 (i:Nat))]) (fun x=> !(x.n==0)) (fun _=>(.ret,[(2, .bool false)])) (.exit 0,[(1, .ptr σ.length 0),(23, .slice sd),(24, .int .i64 ls.length),(25, .int .i64 ls.length),(26, .bool false)]) (by simp) (by simp)
   (fun i hi τ=>by
     have hw:=wrap_nat (n:=i) (by unfold maxL at*;omega)
     obtain ⟨h2,h3⟩:=hsg i hi
     have hii: (i:Int) <ls.length:=by omega
     refine ⟨τ++[.box [.str ls[i].s, .int .i64 ls[i].n]], ?_⟩
     rw [←List.append_assoc]
     unfold Lab.d at h3
     generalize ls[i].s=xs at*
     generalize ls[i].n=xn at*
     generalize σ++[Obj.box [.int .i64 k, .int .i64 n, .str s, .slice ld, .slice sd, .int .i64 tail]]++τ=σ1 at*
     by_cases hx:xn=0
     ·subst hx
      simp [lp116_0,hi,hii,hw,h2,h3,getA0,setA0]
     ·have hx1: (xn==0)=false:=by simpa using hx
      have hx2: (xn != 0)=true:=by simpa using hx
      simp [lp116_0,hi,hii,hw,h2,h3,getA0,setA0,hx,hx1,hx2]) (fun τ=>⟨τ,by simp [lp116_0]⟩)
  have hit1:=loop_seek (f:=evalI CI XB GI 44 false lp116_1) (σ:=σ++[.box [.int .i64 k, .int .i64 n, .str s, .slice ld, .slice sd, .int .i64 tail]]) l (fun i=>[(34, .slice ld),(35, .int .i64 l.length),(36, .int .i64 (i:Nat))]) (fun x=> !(x.cl tailC)) (fun _=>(.ret,[(2, .bool false)])) (.exit 2,[(34, .slice ld),(35, .int .i64 l.length),(36, .int .i64 l.length),(37, .bool false)]) (by simp) (by simp)
   (fun i hi τ=>by
     have hw:=wrap_nat (n:=i) (by unfold maxL at*;omega)
     obtain ⟨h2,h3⟩:=hlg i hi
     have ih:=ih l[i] (List.getElem_mem hi)
     have hii: (i:Int) <l.length:=by omega
     have y1:=l[i].cs_len
     have y2:=l[i].cs_take
     have y3:l[i].cs.all D.one=true:=by cases l[i];rfl
     refine ⟨τ++[.box l[i].cs], ?_⟩
     rw [←List.append_assoc]
     unfold Ty.d at h3
     generalize l[i].cl tailC=b at*
     generalize l[i].cs=xc at*
     generalize σ++[Obj.box [.int .i64 k, .int .i64 n, .str s, .slice ld, .slice sd, .int .i64 tail]]++τ=σ1 at*
     cases b<;>simp [lp116_1,hi,hii,hw,h2,h3,getA0,setA0,y1,y2,y3,ih]) (fun τ=>⟨τ,by simp [lp116_1]⟩)
  rw [Int.natCast_zero] at hit0 hit1
  obtain ⟨τ,hit0⟩:=hit0 []
  rw [List.append_nil] at hit0
  obtain ⟨τ',hit1⟩:=hit1 τ
  have hf0:=find_all ls (fun x=>x.n==0)
  have hf1:=find_all l (fun t=>t.cl tailC)
  obtain ⟨τ2,hτ⟩: ∃τ2,bodyI CI XB GI af116 [.agg [.int .i64 k, .int .i64 n, .str s, .slice ld, .slice sd, .int .i64 tail]] σ=some (.ret (.bool ((Ty.mk k n s l ls tail).cl tailC)),σ++τ2):=by
   rw [Ty.cl_eq2,←hf0,←hf1]
   have rest: (k==0)=false→((k==5)&&(tail != -1))=false→ ∃τ2,bodyI CI XB GI af116 [.agg [.int .i64 k, .int .i64 n, .str s, .slice ld, .slice sd, .int .i64 tail]] σ=some (.ret (.bool ((ls.find? (fun a=> !(a.n==0))).isNone&&(l.find? (fun a=> !(a.cl tailC))).isNone)),σ++τ2):=by
    intro hk hk5
    have hg: ∀y,(σ++[Obj.box [.int .i64 k, .int .i64 n, .str s, .slice ld, .slice sd, .int .i64 tail]]++y)[σ.length]? =some (.box [.int .i64 k, .int .i64 n, .str s, .slice ld, .slice sd, .int .i64 tail]):=fun y=>by rw [List.append_assoc];exact getA0
    have hg0:=hg []
    rw [List.append_nil] at hg0
    cases hc0:ls.find? (fun a=> !(a.n==0)) with
    |some a=>
     rw [hc0] at hit0
     refine ⟨[.box [.int .i64 k, .int .i64 n, .str s, .slice ld, .slice sd, .int .i64 tail]]++τ, ?_⟩
     rw [←List.append_assoc]
     cases h5:k==5
     ·simp [bodyI,af116,getA0,hk,h5,hll,hsl,hit0]
     ·rw [h5] at hk5
      have ht: (tail != -1)=false:=by simpa using hk5
      simp [bodyI,af116,getA0,hk,h5,ht,hll,hsl,hit0]
    |none=>
     rw [hc0] at hit0
     have hg1:=hg τ
     refine ⟨[.box [.int .i64 k, .int .i64 n, .str s, .slice ld, .slice sd, .int .i64 tail]]++τ', ?_⟩
     rw [←List.append_assoc]
     generalize σ++[Obj.box [.int .i64 k, .int .i64 n, .str s, .slice ld, .slice sd, .int .i64 tail]]++τ=σ1 at*
     generalize σ++[Obj.box [.int .i64 k, .int .i64 n, .str s, .slice ld, .slice sd, .int .i64 tail]]++τ'=σ2 at*
     cases hc1:l.find? (fun a=> !(a.cl tailC)) with
     |some a=>
      rw [hc1] at hit1
      cases h5:k==5
      ·simp [bodyI,af116,getA0,hk,h5,hll,hsl,hit0,hg1,hit1]
      ·rw [h5] at hk5
       have ht: (tail != -1)=false:=by simpa using hk5
       simp [bodyI,af116,getA0,hk,h5,ht,hll,hsl,hit0,hg1,hit1]
     |none=>
      rw [hc1] at hit1
      cases h5:k==5
      ·simp [bodyI,af116,getA0,hk,h5,hll,hsl,hit0,hg1,hit1]
      ·rw [h5] at hk5
       have ht: (tail != -1)=false:=by simpa using hk5
       simp [bodyI,af116,getA0,hk,h5,ht,hll,hsl,hit0,hg1,hit1]
   unfold tailC at*
   cases hk:k==0
   ·cases hk5: (k==5)&&(tail != -1)
    ·obtain ⟨τ2,h⟩:=rest hk hk5
     exact ⟨τ2,by rw [h];rfl⟩
    ·obtain ⟨h5,ht⟩:=Bool.and_eq_true_iff.1 hk5
     refine ⟨[.box [.int .i64 k, .int .i64 n, .str s, .slice ld, .slice sd, .int .i64 tail]], ?_⟩
     simp [bodyI,af116,getA0,hk,h5,ht]
   ·refine ⟨[.box [.int .i64 k, .int .i64 n, .str s, .slice ld, .slice sd, .int .i64 tail]], ?_⟩
    simp [bodyI,af116,getA0,hk]
  exact CI_tree tab116 hτ rfl rfl
termination_by t=>SizeOf.sizeOf t
decreasing_by
 have:=List.sizeOf_lt_of_mem hx
 simp only [Ty.mk.sizeOf_spec]
 omega
def Prg.tyE (p:Prg) (t:Ty):Int:=orE p.decls (orE t.chk (if t.cl tailC then t.ord p [] else 1))
theorem c65 (p:Prg) (m:CMap) (hok:p.ok) (t:Ty) (ht:t.ok) (tb:Nat) (σ:St) (hT:IsT σ tb p m):CI (.fn 65) [.ptr tb 0, .agg t.cs] σ=some (outR (p.tyE t),σ):=by
 have hT2:IsT (σ++[.box t.cs]) tb p m:=hT.app
 have h56:=c56 p m hok tb _ hT2
 have h60:=fun σ=>c60 t ht σ
 have h116:=fun σ=>c116 t ht σ
 have h112:=c112 p m hok.dl hok.el [] (by unfold maxL;simp) .empty (.inr ⟨rfl,rfl⟩) tb t ht _ hT2
 have y1:=t.cs_len
 have y2:=t.cs_take
 have y3:t.cs.all D.one=true:=by cases t;rfl
 refine CI_out tab65 (τ:=[.box t.cs]) ?_
 unfold Prg.tyE orE
 generalize p.decls=z1 at*
 generalize t.chk=z2 at*
 generalize t.cl tailC=b at*
 generalize t.ord p []=z3 at*
 generalize t.cs=tc at*
 by_cases h1:z1=0
 ·subst h1
  rw [outR_zero] at h56
  by_cases h2:z2=0
  ·subst h2
   cases b
   ·simp [bodyI,af65,getA0,y1,y2,y3,h56,h60,h116,c58,c59,outR]
   ·by_cases h3:z3=0
    ·subst h3
     rw [outR_zero] at h112
     simp [bodyI,af65,getA0,y1,y2,y3,h56,h60,h116,h112,c59,outR_zero]
    ·rw [outR_ne h3] at h112
     simp [bodyI,af65,getA0,y1,y2,y3,h56,h60,h116,h112,c59,outR_zero,outR_ne h3]
  ·rw [if_pos rfl,if_neg h2]
   simp [bodyI,af65,getA0,y1,y2,y3,h56,h60,c59,outR_ne h2]
 ·rw [if_neg h1]
  rw [outR_ne h1] at h56
  simp [bodyI,af65,getA0,y1,y2,y3,h56,outR_ne h1]
mutual
def Ty.rep (params:List Bs) (args:List Ty):Ty→Ty
 | .mk k n s l ls tail=>if k=1∧0≤indexP params s then args.getD (indexP params s).toNat (.mk k n s l ls tail) else .mk k n s (tysRep params args l) ls tail
def tysRep (params:List Bs) (args:List Ty):List Ty→List Ty
 | []=>[]
 |t::r=>t.rep params args::tysRep params args r
end
theorem tysRep_map (params:List Bs) (args:List Ty): ∀ (l:List Ty),tysRep params args l=l.map (Ty.rep params args)
 | []=>rfl
 |t::r=>by simp only [tysRep,List.map_cons,tysRep_map params args r]
mutual
def Ty.small:Ty→Prop
 | .mk k _ _ l ls _=>l.length≤4∧ls.length≤24∧(k=1→l=[])∧tysSmall l
def tysSmall:List Ty→Prop
 | []=>True
 |t::r=>t.small∧tysSmall r
end
theorem tysSmall_mem: ∀ {l:List Ty} {t:Ty},tysSmall l→t ∈ l→t.small
 |_::_,_,h, .head _=>h.1
 |_::_,_,h, .tail _ hm=>tysSmall_mem h.2 hm
theorem tnode_few {k n:Int} {s:Bs} {len:Nat} {ls:List Lab} {tail:Int} (h:tnodeE k n s len ls tail=0):len≤4∧(k=1→len=0):=by
 unfold tnodeE at h
 split at h
 ·cases h
 split at h
 ·cases h
 split at h
 ·cases h
 rename_i _ _ hr
 rw [Bool.not_eq_true,Bool.not_eq_false'] at hr
 unfold inR mostT leastT at hr
 simp only [Bool.and_eq_true,decide_eq_true_eq] at hr
 constructor
 ·split at hr<;>(try split at hr)<;>omega
 ·intro hk
  subst hk
  simp at hr
  omega
mutual
theorem Ty.small_of: ∀ (t:Ty) (n d:Int),t.e=0→0≤n→0≤t.left n d→t.small
 | .mk k m s l ls tail,n,d,he,hn,hl=>by
  simp only [Ty.e] at he
  simp only [Ty.left] at hl
  split at he
  ·rename_i ht
   obtain ⟨f1,f2⟩:=tnode_few ht
   split at hl
   ·omega
   ·rename_i hd
    refine ⟨f1,by omega,fun hk=>List.length_eq_zero_iff.1 (f2 hk), ?_⟩
    by_cases hz:n - 1<0
    ·rw [tysLeft_neg _ _ _ hz] at hl;omega
    ·exact tysSmall_of2 l (n - 1) (d - 1) he (by omega) hl
  ·rename_i ht;exact absurd he ht
theorem tysSmall_of2: ∀ (l:List Ty) (n d:Int),tysE l=0→0≤n→0≤tysLeft l n d→tysSmall l
 | [],_,_,_,_,_=>trivial
 |t::r,n,d,he,hn,hl=>by
  simp only [tysE] at he
  simp only [tysLeft] at hl
  rw [if_pos hn] at hl
  split at he
  ·rename_i ht
   by_cases hz:t.left n d<0
   ·rw [tysLeft_neg _ _ _ hz] at hl;omega
   ·exact ⟨Ty.small_of t n d ht hn (by omega),tysSmall_of2 r _ d he (by omega) hl⟩
  ·rename_i ht;exact absurd he ht
end
theorem Ty.small_chk {t:Ty} (h:t.chk=0):t.small:=by
 have he:=Ty.chk_e h
 rw [t.chk_left] at h
 split at h
 ·cases h
 ·exact Ty.small_of t 3000 200 he (by omega) (by omega)
mutual
theorem Ty.rep_nil: ∀ (t:Ty),t.rep [] []=t
 | .mk k n s l ls tail=>by
  simp only [Ty.rep]
  have: ¬(k=1∧0≤indexP [] s):=by
   rintro ⟨_,h⟩
   unfold indexP at h
   simp at h
  rw [if_neg this,tysRep_nil l]
theorem tysRep_nil: ∀ (l:List Ty),tysRep [] [] l=l
 | []=>rfl
 |t::r=>by simp only [tysRep,t.rep_nil,tysRep_nil r]
end
theorem indexP_lt (l:List Bs) (s:Bs) (h:0≤indexP l s): ∃i:Nat,indexP l s=i∧i<l.length:=by
 unfold indexP at*
 cases hf:l.findIdx? (· ==s) with
 |none=>rw [hf] at h;simp at h
 |some i=>exact ⟨i,rfl,(List.findIdx?_eq_some_iff_getElem.1 hf).1⟩
def datIx (p:Prg) (s:Bs):Nat:=(idxOf (fun x:Dat=>x.name==s) p.data).toNat
mutual
def Ty.has (p:Prg) (params:List Bs) (T:Nat→Nat→Bool) (set:Nat):Ty→Bool
 | .mk k _ s l _ _=>if k=1 then (set / 2 ^ (indexP params s).toNat) % 2==1 else if k=6 then T (datIx p s) (tysBits p params T set l) else true
def tysBits (p:Prg) (params:List Bs) (T:Nat→Nat→Bool) (set:Nat):List Ty→Nat
 | []=>0
 |t::r=>(if t.has p params T set then 1 else 0) +2*tysBits p params T set r
end
def bitsL:List Bool→Nat
 | []=>0
 |b::r=>(if b then 1 else 0) +2*bitsL r
theorem tysBits_map (p:Prg) (params:List Bs) (T:Nat→Nat→Bool) (set:Nat): ∀ (l:List Ty),tysBits p params T set l=bitsL (l.map fun t=>t.has p params T set)
 | []=>rfl
 |t::r=>by simp only [tysBits,List.map_cons,bitsL,tysBits_map p params T set r]
theorem bitsL_lt: ∀ (l:List Bool),bitsL l<2 ^ l.length
 | []=>by simp [bitsL]
 |b::r=>by
  have:=bitsL_lt r
  simp only [bitsL,List.length_cons,Nat.pow_succ]
  split<;>omega
theorem ord_param {p:Prg} {params:List Bs} {s:Bs} {len:Nat} {ls:List Lab} (h:ordN p params 1 s len ls=0):0≤indexP params s:=by
 unfold ordN at h
 simp at h
 have h1:=indexP_ge params s
 rw [show params.contains s=true from h] at h1
 simpa using h1
theorem ord_data {p:Prg} {params:List Bs} {s:Bs} {len:Nat} {ls:List Lab} (h:ordN p params 6 s len ls=0): ∃i:Nat,idxOf (fun x:Dat=>x.name==s) p.data=i∧datIx p s=i∧ ∃hi:i<p.data.length,p.data[i].params.length=len:=by
 unfold ordN at h
 rw [if_neg (by decide),if_pos rfl] at h
 rcases idxOf_find (fun x:Dat=>x.name==s) p.data with ⟨_,hf⟩ | ⟨i,hi,hil,hf,_⟩
 ·rw [hf] at h;cases h
 ·rw [hf] at h
  simp only at h
  refine ⟨i,hi,by unfold datIx;rw [hi];rfl,hil, ?_⟩
  split at h
  ·assumption
  ·cases h
theorem ord_parts {p:Prg} {params:List Bs} {k n:Int} {s:Bs} {l:List Ty} {ls:List Lab} {tail:Int} (h: (Ty.mk k n s l ls tail).ord p params=0):ordN p params k s l.length ls=0∧ ∀t ∈ l,t.ord p params=0:=by
 simp only [Ty.ord] at h
 split at h
 ·rename_i h0
  rw [tysOrd_first,firstE_zero] at h
  exact ⟨h0,fun t ht=>h _ (List.mem_map_of_mem ht)⟩
 ·rename_i h0;exact absurd h h0
def conHas (p:Prg) (params:List Bs) (T:Nat→Nat→Bool) (set:Nat) (c:Con):Bool:=c.args.all fun x=>x.has p params T set
def Dat.fit (p:Prg) (d:Dat):Prop:=d.params.length≤4∧d.cons.length≤100∧ ∀c ∈ d.cons,c.args.length≤4∧ ∀x ∈ c.args,x.small∧x.ord p d.params=0
end Go.AI
namespace Go.AI
section
variable {α:Type} [DecidableEq α] (L:List α) (F: (α→Bool)→α→Bool)
def leT (A B:α→Bool):Prop:= ∀x ∈ L,A x=true→B x=true
def jac:Nat→α→Bool
 |0=>fun _=>false
 |n+1=>fun x=>F (jac n) x
def upd (T:α→Bool) (x:α):α→Bool:=if F T x then fun y=>if y=x then true else T y else T
def seidel (T:α→Bool):α→Bool:=L.foldl (upd F) T
def closedT (C:α→Bool):Prop:= ∀x ∈ L,F C x=true→C x=true
variable {L F} {M: (α→Bool)→Prop} (mono: ∀A B,leT L A B→M A∨M B→ ∀x ∈ L,F A x=true→F B x=true) (m0:M fun _=>false) (ms: ∀A,M A→M fun x=>F A x)
include m0 ms in
theorem jac_M: ∀n:Nat,M (jac F n):=by
 have _h:= ‹DecidableEq α›
 intro n
 induction n with
 |zero=>exact m0
 |succ n ih=>exact ms _ ih
include mono m0 ms in
theorem jac_up (n:Nat):leT L (jac F n) (jac F (n+1)):=by
 induction n with
 |zero=>intro x _ h;cases h
 |succ n ih=>intro x hx h;exact mono _ _ ih (.inl (jac_M m0 ms n)) x hx h
include mono m0 ms in
theorem jac_le {C:α→Bool} (hC:closedT L F C) (n:Nat):leT L (jac F n) C:=by
 induction n with
 |zero=>intro x _ h;cases h
 |succ n ih=>intro x hx h;exact hC x hx (mono _ _ ih (.inl (jac_M m0 ms n)) x hx h)
include mono in
theorem upd_le {C T:α→Bool} (hC:closedT L F C) (hCM:M C) (hT:leT L T C) (x:α) (hx:x ∈ L):leT L (upd F T x) C:=by
 intro y hy h
 unfold upd at h
 split at h
 ·rename_i hf
  simp only at h
  split at h
  ·rename_i he;subst he;exact hC y hy (mono _ _ hT (.inr hCM) y hy hf)
  ·exact hT y hy h
 ·exact hT y hy h
include mono in
theorem foldl_le {C:α→Bool} (hC:closedT L F C) (hCM:M C): ∀ (N:List α) (T:α→Bool),(∀x ∈ N,x ∈ L)→leT L T C→leT L (N.foldl (upd F) T) C
 | [],_,_,hT=>hT
 |x::N,T,hN,hT=>foldl_le hC hCM N _ (fun y hy=>hN y (List.mem_cons_of_mem _ hy)) (upd_le mono hC hCM hT x (hN x List.mem_cons_self))
include mono in
theorem seidel_le {C T:α→Bool} (hC:closedT L F C) (hCM:M C) (hT:leT L T C):leT L (seidel L F T) C:=foldl_le mono hC hCM L T (fun _ h=>h) hT
theorem jac_stay {n:Nat} (h:leT L (jac F (n+1)) (jac F n)):closedT L F (jac F n):=by
 have _h:= ‹DecidableEq α›
 exact fun x hx hf=>h x hx hf
theorem count_lt {A B:α→Bool} : ∀ (M:List α),(∀x ∈ M,A x=true→B x=true)→(∃x ∈ M,B x=true∧A x=false)→M.countP A<M.countP B
 | [],_,⟨_,hx,_⟩=>by
  have _h:= ‹DecidableEq α›
  cases hx
 |y::M,h,⟨x,hx,hb,ha⟩=>by
  have hle:M.countP A≤M.countP B:=List.countP_mono_left fun z hz hA=>h z (List.mem_cons_of_mem _ hz) hA
  rw [List.countP_cons,List.countP_cons]
  cases hx with
  |head=>simp [hb,ha];omega
  |tail _ hx=>
   have:=count_lt M (fun z hz=>h z (List.mem_cons_of_mem _ hz)) ⟨x,hx,hb,ha⟩
   have hy:=h y List.mem_cons_self
   cases h1:A y<;>cases h2:B y<;>simp_all<;>omega
include mono m0 ms in
theorem jac_grow (n:Nat): (∃m,m≤n∧closedT L F (jac F m))∨n<L.countP (jac F (n+1)):=by
 induction n with
 |zero=>
  by_cases h:leT L (jac F 1) (jac F 0)
  ·exact .inl ⟨0,Nat.le_refl _,jac_stay h⟩
  ·right
   simp only [leT,Classical.not_forall] at h
   obtain ⟨x,hx,h1,h2⟩:=h
   have:=count_lt (A:=jac F 0) (B:=jac F 1) L (fun x hx h=>jac_up mono m0 ms 0 x hx h) ⟨x,hx,h1,by simpa using h2⟩
   show 0<L.countP (jac F 1)
   omega
 |succ n ih=>
  rcases ih with ⟨m,hm,hc⟩ |hlt
  ·exact .inl ⟨m,by omega,hc⟩
  ·by_cases h:leT L (jac F (n+2)) (jac F (n+1))
   ·exact .inl ⟨n+1,Nat.le_refl _,jac_stay h⟩
   ·right
    simp only [leT,Classical.not_forall] at h
    obtain ⟨x,hx,h1,h2⟩:=h
    have:=count_lt (A:=jac F (n+1)) (B:=jac F (n+2)) L (fun x hx h=>jac_up mono m0 ms (n+1) x hx h) ⟨x,hx,h1,by simpa using h2⟩
    show n+1<L.countP (jac F (n+2))
    omega
include mono m0 ms in
theorem jac_mono {m n:Nat} (h:m≤n):leT L (jac F m) (jac F n):=by
 induction h with
 |refl=>exact fun x _ h=>h
 |step _ ih=>exact fun x hx h=>jac_up mono m0 ms _ x hx (ih x hx h)
include mono m0 ms in
theorem jac_closed {n:Nat} (hn:L.length≤n):closedT L F (jac F n):=by
 rcases jac_grow mono m0 ms L.length with ⟨m,hm,hc⟩ |hlt
 ·intro x hx hf
  have h1:=jac_le mono m0 ms hc n
  exact jac_mono mono m0 ms (Nat.le_trans hm hn) x hx (hc x hx (mono _ _ h1 (.inl (jac_M m0 ms n)) x hx hf))
 ·have:=List.countP_le_length (p:=jac F (L.length+1)) (l:=L)
  omega
theorem upd_up (T:α→Bool) (x y:α) (h:T y=true):upd F T x y=true:=by
 unfold upd
 split
 ·simp only;split<;>simp_all
 ·exact h
theorem foldl_up: ∀ (N:List α) (T:α→Bool) (y:α),T y=true→N.foldl (upd F) T y=true
 | [],_,_,h=>h
 |x::N,T,y,h=>foldl_up N _ y (upd_up T x y h)
theorem stay_closed: ∀ (N:List α) (T:α→Bool),N.foldl (upd F) T=T→ ∀x ∈ N,F T x=true→T x=true
 | [],_,_,x,hx,_=>by cases hx
 |y::N,T,hT,x,hx,hf=>by
  have hstep:upd F T y=T:=by
   funext z
   rw [Bool.eq_iff_iff]
   constructor
   ·intro h
    have:=foldl_up (F:=F) N _ z h
    rw [List.foldl_cons] at hT
    rw [hT] at this
    exact this
   ·exact upd_up T y z
  cases hx with
  |head=>
   have:upd F T y y=true:=by unfold upd;rw [if_pos hf];simp
   rw [hstep] at this
   exact this
  |tail _ hx=>
   rw [List.foldl_cons,hstep] at hT
   exact stay_closed N T hT x hx hf
include mono m0 ms in
theorem seidel_jac {T:α→Bool} {n:Nat} (hn:L.length≤n) (hle: ∀C,closedT L F C→M C→leT L T C) (hs:seidel L F T=T): ∀x ∈ L,T x=jac F n x:=by
 have hc:closedT L F T:=fun x hx hf=>stay_closed L T hs x hx hf
 intro x hx
 rw [Bool.eq_iff_iff]
 exact ⟨hle _ (jac_closed mono m0 ms hn) (jac_M m0 ms n) x hx,jac_le mono m0 ms hc n x hx⟩
end
end Go.AI
namespace Go.AI
open Go Go.Proofs Go.Lx
abbrev PT:=Nat × Nat→Bool
abbrev cur (T:PT):Nat→Nat→Bool:=fun a b=>T (a,b)
def plF (p:Prg) (T:PT) (x:Nat × Nat):Bool:=match p.data[x.1]? with
 |some d=>d.cons.any (conHas p d.params (cur T) x.2)
 |none=>false
def plGo:List Dat→Nat→List (Nat × Nat)
 | [],_=>[]
 |d::r,i=>(List.range (2 ^ d.params.length)).map (fun s=>(i,s))++plGo r (i+1)
def places (p:Prg):List (Nat × Nat):=plGo p.data 0
theorem plGo_mem (i s:Nat): ∀ (l:List Dat) (k:Nat),(i,s) ∈ plGo l k↔ ∃d,k≤i∧l[i - k]? =some d∧s<2 ^ d.params.length
 | [],k=>by simp [plGo]
 |d::r,k=>by
  rw [plGo,List.mem_append,plGo_mem i s r (k+1)]
  constructor
  ·rintro (h| ⟨e,h1,h2,h3⟩)
   ·obtain ⟨t,ht,he⟩:=List.mem_map.1 h
    cases he
    exact ⟨d,Nat.le_refl _,by simp,List.mem_range.1 ht⟩
   ·refine ⟨e,by omega, ?_,h3⟩
    rw [show i - k=(i - (k+1)) +1 by omega];simpa using h2
  ·rintro ⟨e,h1,h2,h3⟩
   by_cases hk:i=k
   ·subst hk
    rw [Nat.sub_self] at h2
    simp at h2
    subst h2
    exact .inl (List.mem_map.2 ⟨s,List.mem_range.2 h3,rfl⟩)
   ·right
    refine ⟨e,by omega, ?_,h3⟩
    rw [show i - k=(i - (k+1)) +1 by omega] at h2
    simpa using h2
theorem places_mem {p:Prg} {i s:Nat} : (i,s) ∈ places p↔ ∃d,p.data[i]? =some d∧s<2 ^ d.params.length:=by
 unfold places
 rw [plGo_mem]
 simp
def subB (s t:Nat):Prop:= ∀j,s / 2 ^ j % 2=1→t / 2 ^ j % 2=1
def MT (T:PT):Prop:= ∀i s t,subB s t→T (i,s)=true→T (i,t)=true
theorem bitsL_bit: ∀ (l:List Bool) (j:Nat),bitsL l / 2 ^ j % 2=1↔l[j]? =some true
 | [],j=>by simp [bitsL]
 |b::r,0=>by
  simp only [bitsL,Nat.pow_zero,Nat.div_one,List.getElem?_cons_zero,Option.some.injEq]
  cases b<;>simp<;>omega
 |b::r,j+1=>by
  rw [List.getElem?_cons_succ,←bitsL_bit r j]
  have:bitsL (b::r) / 2 ^ (j+1)=bitsL r / 2 ^ j:=by
   rw [Nat.pow_succ,Nat.mul_comm,←Nat.div_div_eq_div_mul]
   congr 1
   simp only [bitsL]
   split<;>omega
  rw [this]
theorem bitsL_sub {α:Type} (l:List α) (f g:α→Bool) (h: ∀x ∈ l,f x=true→g x=true):subB (bitsL (l.map f)) (bitsL (l.map g)):=by
 intro j hj
 rw [bitsL_bit] at hj ⊢
 rw [List.getElem?_map] at hj ⊢
 cases hl:l[j]? with
 |none=>rw [hl] at hj;cases hj
 |some x=>
  rw [hl] at hj
  simp only [Option.map_some,Option.some.injEq] at hj ⊢
  exact h x (List.mem_of_getElem? hl) hj
theorem has_mono (p:Prg) (params:List Bs) {A B:PT} (hAB:leT (places p) A B) (hM:MT A∨MT B) {s t:Nat} (hs:subB s t):
 ∀x:Ty,x.ord p params=0→x.has p params (cur A) s=true→x.has p params (cur B) t=true
 | .mk k n nm l ls tail,hord,h=>by
  obtain ⟨ho,hop⟩:=ord_parts hord
  have ih:=fun x (hx:x ∈ l)=>has_mono p params hAB hM hs x (hop x hx)
  simp only [Ty.has] at h ⊢
  by_cases k1:k=1
  ·rw [if_pos k1] at h ⊢
   rw [beq_iff_eq] at h ⊢
   exact hs _ h
  ·rw [if_neg k1] at h ⊢
   by_cases k6:k=6
   ·rw [if_pos k6] at h ⊢
    subst k6
    obtain ⟨i,_,hix,hil,hlen⟩:=ord_data ho
    rw [hix,tysBits_map] at h ⊢
    have hsub:=bitsL_sub l (fun x=>x.has p params (cur A) s) (fun x=>x.has p params (cur B) t) ih
    have hlt (f:Ty→Bool):bitsL (l.map f) <2 ^ p.data[i].params.length:=by
     have:=bitsL_lt (l.map f)
     rw [List.length_map] at this
     rw [hlen];exact this
    have hmem (f:Ty→Bool): (i,bitsL (l.map f)) ∈ places p:=places_mem.2 ⟨p.data[i],by rw [List.getElem?_eq_getElem hil],hlt f⟩
    rcases hM with hM|hM
    ·exact hAB _ (hmem _) (hM _ _ _ hsub h)
    ·exact hM _ _ _ hsub (hAB _ (hmem _) h)
   ·rw [if_neg k6]
termination_by x=>SizeOf.sizeOf x
decreasing_by
 have:=List.sizeOf_lt_of_mem hx
 simp only [Ty.mk.sizeOf_spec]
 omega
theorem any_mono {α:Type} (l:List α) (f g:α→Bool) (h: ∀x ∈ l,f x=true→g x=true):l.any f=true→l.any g=true:=by
 rw [List.any_eq_true,List.any_eq_true]
 rintro ⟨x,hx,hf⟩
 exact ⟨x,hx,h x hx hf⟩
theorem plF_mono2 (p:Prg) (hls: ∀d ∈ p.data,d.fit p) {A B:PT} (hAB:leT (places p) A B) (hM:MT A∨MT B) {s t:Nat} (hs:subB s t) (i:Nat) (h:plF p A (i,s)=true):plF p B (i,t)=true:=by
 unfold plF at h ⊢
 simp only at h ⊢
 cases hd:p.data[i]? with
 |none=>rw [hd] at h;cases h
 |some d=>
  rw [hd] at h
  simp only at h ⊢
  obtain ⟨_,_,hcs⟩:=hls d (List.mem_of_getElem? hd)
  refine any_mono _ _ _ (fun c hc hh=> ?_) h
  unfold conHas at hh ⊢
  rw [List.all_eq_true] at hh ⊢
  exact fun x hx=>has_mono p d.params hAB hM hs x ((hcs c hc).2 x hx).2 (hh x hx)
theorem plF_mono (p:Prg) (hls: ∀d ∈ p.data,d.fit p) (A B:PT) (hAB:leT (places p) A B) (hM:MT A∨MT B) (x:Nat × Nat) (_:x ∈ places p) (h:plF p A x=true):plF p B x=true:=
 plF_mono2 p hls hAB hM (fun _ h=>h) x.1 h
theorem MT_F (p:Prg) (hls: ∀d ∈ p.data,d.fit p) (A:PT) (hA:MT A):MT fun x=>plF p A x:=
 fun i _ _ hs h=>plF_mono2 p hls (fun _ _ h=>h) (.inl hA) hs i h
theorem MT_0:MT fun _=>false:=fun _ _ _ _ h=>by cases h
end Go.AI
namespace Go.AI
open Go Go.Proofs Go.Lx
set_option maxRecDepth 100000
structure Way (p:Prg) (T:PT):Prop where
 inn: ∀x,T x=true→x ∈ places p
 le: ∀C,closedT (places p) (plF p) C→MT C→leT (places p) T C
theorem Way.zero (p:Prg):Way p fun _=>false:=⟨fun _ h=>(by cases h),fun _ _ _ _ _ h=>(by cases h)⟩
theorem upd_inn {p:Prg} : ∀ (N:List (Nat × Nat)) (T:PT),(∀x ∈ N,x ∈ places p)→(∀x,T x=true→x ∈ places p)→ ∀x,N.foldl (upd (plF p)) T x=true→x ∈ places p
 | [],_,_,hT,x,h=>hT x h
 |y::N,T,hN,hT,x,h=>by
  refine upd_inn N _ (fun z hz=>hN z (List.mem_cons_of_mem _ hz)) (fun z hz=> ?_) x h
  unfold upd at hz
  split at hz
  ·simp only at hz
   split at hz
   ·rename_i he;subst he;exact hN _ List.mem_cons_self
   ·exact hT z hz
  ·exact hT z hz
theorem Way.next {p:Prg} (hls: ∀d ∈ p.data,d.fit p) {T:PT} (h:Way p T):Way p (seidel (places p) (plF p) T):=
 ⟨upd_inn _ _ (fun _ h=>h) h.inn,fun C hC hM=>seidel_le (plF_mono p hls) hC hM (h.le C hC hM)⟩
theorem Way.grow {p:Prg} {T:PT} (hne:seidel (places p) (plF p) T≠T) (hn:Way p (seidel (places p) (plF p) T)): (places p).countP T< (places p).countP (seidel (places p) (plF p) T):=by
 have hup: ∀y,T y=true→seidel (places p) (plF p) T y=true:=fun y h=>foldl_up _ _ y h
 refine count_lt _ (fun x _ h=>hup x h) ?_
 apply Classical.byContradiction
 intro hno
 apply hne
 funext x
 rw [Bool.eq_iff_iff]
 refine ⟨fun h=> ?_,hup x⟩
 apply Classical.byContradiction
 intro hf
 exact hno ⟨x,hn.inn x h,h,by simpa using hf⟩
def fillT (p:Prg):PT:=fun x=>(places p).contains x&&jac (plF p) (places p).length x
theorem Way.fill {p:Prg} (hls: ∀d ∈ p.data,d.fit p) {T:PT} (h:Way p T) (hs:seidel (places p) (plF p) T=T):T=fillT p:=by
 funext x
 unfold fillT
 cases hc: (places p).contains x
 ·rw [Bool.false_and,Bool.eq_false_iff]
  intro hx
  have:=h.inn x hx
  simp [this] at hc
 ·rw [Bool.true_and]
  exact seidel_jac (plF_mono p hls) MT_0 (MT_F p hls) (Nat.le_refl _) h.le hs x (by simpa using hc)
def Prg.fields (p:Prg) (s:Bs) (args:List Ty):List Ty:=match p.conOf s with
 |none=>[]
 |some (d,c)=>c.args.map (Ty.rep d.params args)
theorem decls_con {p:Prg} (h:p.decls=0) {d:Dat} (hd:d ∈ p.data) {c:Con} (hc:c ∈ d.cons):d.params.length≤4∧c.args.length≤4∧ ∀t ∈ c.args,t.chk=0:=by
 obtain ⟨hs,_⟩:=orE_zero.1 h
 obtain ⟨_,_,_,hs3,_⟩:=Prg.syn_data hs
 obtain ⟨a1,a2,_,_,a5⟩:=datE_cons (hs3 d hd)
 have:=a5 c hc
 unfold conE at this
 split at this
 ·cases this
 ·rename_i h4
  split at this
  ·refine ⟨a1,by omega,fun t ht=> ?_⟩
   unfold declE at this
   rw [firstE_zero] at this
   have h1:=this _ (List.mem_map_of_mem ht)
   unfold declE1 at h1
   split at h1
   ·assumption
   ·rename_i h2;exact absurd h1 h2
  ·cases this
theorem c54g (g:Nat) (first captured:List D) (e:Int) (σ σ':St) (hl:σ'.length=σ.length) (hk: ∀j,j<σ.length→σ'[j]? =σ[j]? ∨ ∃o,σ'[j]? =some o∧o.under σ.length) (h:CI (.fn g) (first++captured) (σ++[.box [.int .i64 0]])=some (outR e,σ'++[.box [.int .i64 0]])):
 CI (.fn 54) [.func g first captured] σ=some (.ret (.int .i64 e),σ'):=by
 have hev:evalCatch CI 154 [.func g first captured] σ=some (.ret (.int .i64 e),σ'++[.box [.int .i64 e]]):=by
  unfold evalCatch
  simp only [h]
  rw [←hl]
  by_cases he:e=0
  ·subst he
   rw [outR_zero]
   simp [getA0,setA0]
  ·rw [outR_ne he]
   simp [refD,getA0,setA0]
 exact callI_catch (ty:=154) postN ext_none rfl rfl hev (postI_same (q:=qI) (f:=54) hl hk rfl rfl)
theorem foldS_each {α β γ:Type} {step:Nat→α→β→β ⊕ γ} : ∀ (l:List α) (i:Nat) (b b':β),foldS step l i b= .inl b'→ ∀a ∈ l,∃j c c',step j a c= .inl c'
 | [],_,_,_,_,a,ha=>by cases ha
 |x::r,i,b,b',h,a,ha=>by
  simp only [foldS] at h
  cases hs:step i x b with
  |inr e=>rw [hs] at h;cases h
  |inl c=>
   rw [hs] at h
   cases ha with
   |head=>exact ⟨i,b,c,hs⟩
   |tail _ ha=>exact foldS_each r (i+1) c b' h a ha
theorem foldS_left {α β γ:Type} {step:Nat→α→β→β ⊕ γ} : ∀ (l:List α) (i:Nat) (b:β) (e:γ),foldS step l i b= .inr e→ ∃a j c,step j a c= .inr e
 | [],_,_,_,h=>by cases h
 |x::r,i,b,e,h=>by
  simp only [foldS] at h
  cases hs:step i x b with
  |inr e'=>rw [hs] at h;cases h;exact ⟨x,i,b,hs⟩
  |inl c=>rw [hs] at h;exact foldS_left r (i+1) c e h
theorem datStep_ne0 {p:Prg} {j:Nat} {d:Dat} {c:List Bs × List Bs} (h:datStep p j d c= .inr 0):False:=by
 unfold datStep at h
 split at h
 ·cases h
 ·split at h
  ·cases h
  ·rename_i z hz
   cases h
   obtain ⟨a,i,b,h⟩:=foldS_left _ _ _ _ hz
   unfold consStep at h
   split at h
   ·cases h
   ·split at h
    ·cases h
    ·rename_i hne
     exact hne (Sum.inr.inj h)
theorem decls_fit {p:Prg} (h:p.decls=0):p.data.length≤12∧ ∀d ∈ p.data,d.fit p:=by
 obtain ⟨hs,ho⟩:=orE_zero.1 h
 obtain ⟨h12,_,_,hs3,_⟩:=Prg.syn_data hs
 refine ⟨h12,fun d hd=> ?_⟩
 obtain ⟨a1,a2,_,_,_⟩:=datE_cons (hs3 d hd)
 refine ⟨a1,by omega,fun c hc=> ?_⟩
 obtain ⟨_,b2,b3⟩:=decls_con h hd hc
 refine ⟨b2,fun x hx=>⟨Ty.small_chk (b3 x hx), ?_⟩⟩
 unfold Prg.ordE at ho
 cases hf:foldS (datStep p) p.data 0 (builtins,[]) with
 |inr e=>
  rw [hf] at ho
  simp only at ho
  subst ho
  obtain ⟨a,j,c,h⟩:=foldS_left _ _ _ _ hf
  exact (datStep_ne0 h).elim
 |inl y=>
  obtain ⟨j,b,b',hst⟩:=foldS_each _ _ _ _ hf d hd
  unfold datStep at hst
  split at hst
  ·cases hst
  ·split at hst
   ·rename_i z hz
    obtain ⟨j2,e,e',hst2⟩:=foldS_each _ _ _ _ hz c hc
    unfold consStep at hst2
    split at hst2
    ·cases hst2
    ·split at hst2
     ·rename_i h0
      rw [firstE_zero] at h0
      exact h0 _ (List.mem_map_of_mem hx)
     ·cases hst2
   ·cases hst
theorem tyE_zero {p:Prg} {t:Ty} (h:p.tyE t=0):p.decls=0∧t.chk=0∧t.cl tailC=true∧t.ord p []=0:=by
 unfold Prg.tyE at h
 rw [orE_zero,orE_zero] at h
 obtain ⟨h1,h2,h3⟩:=h
 split at h3
 ·rename_i hc;exact ⟨h1,h2,hc,h3⟩
 ·cases h3
def rowB (T:Nat→Nat→Bool) (i n:Nat):List D:=(List.range n).map fun s=> .bool (T i s)
def tabRows (p:Prg) (T:Nat→Nat→Bool):List D:=p.data.mapIdx fun i d=> .slice (rowB T i (2 ^ d.params.length))
def TabD (p:Prg) (T:Nat→Nat→Bool) (σ:St) (td:D):Prop:=td= .slice (tabRows p T)∨ ∃r es,td= .arr r p.data.length 0 p.data.length∧σ[r]? =some (.row 1 es 0)∧es.length=p.data.length∧
 ∀i (hi:i<p.data.length),∃k,es[i]? =some (.arr k (2 ^ p.data[i].params.length) 0 (2 ^ p.data[i].params.length))∧σ[k]? =some (.row 1 (rowB T i (2 ^ p.data[i].params.length)) 0)
theorem TabD.app {p:Prg} {T:Nat→Nat→Bool} {σ τ:St} {td:D} (h:TabD p T σ td):TabD p T (σ++τ) td:=by
 rcases h with h| ⟨r,es,h1,h2,h3,h4⟩
 ·exact .inl h
 ·refine .inr ⟨r,es,h1,getO h2,h3,fun i hi=> ?_⟩
  obtain ⟨k,a,b⟩:=h4 i hi
  exact ⟨k,a,getO b⟩
inductive Mt where
 |mk (t:Ty) (ps:List Bs) (l:List Mt)
mutual
def Mt.cs:Mt→List D
 | .mk t ps l=>t.cs++[slD ps, .slice (mtsD l)]
def mtsD:List Mt→List D
 | []=>[]
 |m::r=> .agg m.cs::mtsD r
end
def Mt.d (m:Mt):D:= .agg m.cs
theorem Mt.cs_len (m:Mt):m.cs.length=8:=by
 rcases m with ⟨t,ps,l⟩
 simp [Mt.cs,t.cs_len]
def inner (ps:List Bs) (l:List Mt) (ts:List Ty):List Mt:=ts.map fun t=> .mk t ps l
mutual
def Mt.now:Mt→Mt
 | .mk (.mk k n s L ls tail) ps l=>if k=1 then nowL l (indexP ps s).toNat else .mk (.mk k n s L ls tail) ps l
def nowL:List Mt→Nat→Mt
 | [],_=> .mk (.mk 0 0 [] [] [] 0) [] []
 |m::_,0=>m.now
 |_::r,i+1=>nowL r i
end
theorem nowL_get: ∀ (l:List Mt) (i:Nat) (h:i<l.length),nowL l i=l[i].now
 |m::_,0,_=>by simp only [nowL];rfl
 |_::r,i+1,h=>by
  have:=nowL_get r i (by simpa using h)
  simp only [nowL,this];rfl
mutual
def Mt.wf (p:Prg):Mt→Prop
 | .mk t ps l=>t.small∧t.ord p ps=0∧ps.length=l.length∧l.length≤4∧mtsWf p l
def mtsWf (p:Prg):List Mt→Prop
 | []=>True
 |m::r=>m.wf p∧mtsWf p r
end
theorem mtsWf_mem {p:Prg} : ∀ {l:List Mt} {m:Mt},mtsWf p l→m ∈ l→m.wf p
 |_::_,_,h, .head _=>h.1
 |_::_,_,h, .tail _ hm=>mtsWf_mem h.2 hm
mutual
theorem Mt.now_wf {p:Prg} : ∀m:Mt,m.wf p→m.now.wf p∧(match m.now with| .mk (.mk k _ _ _ _ _) _ _=>k≠1)
 | .mk (.mk k n s L ls tail) ps l,hwf=>by
  by_cases k1:k=1
  ·subst k1
   have ho:=hwf.2.1
   obtain ⟨ho1,_⟩:=ord_parts ho
   obtain ⟨j,hj,hjl⟩:=indexP_lt ps s (ord_param ho1)
   have hpl:=hwf.2.2.1
   have hnow: (Mt.mk (.mk 1 n s L ls tail) ps l).now=nowL l j:=by
    simp only [Mt.now,if_true,hj];rfl
   rw [hnow]
   exact nowL_wf l hwf.2.2.2.2 j (by omega)
  ·have hnow: (Mt.mk (.mk k n s L ls tail) ps l).now=Mt.mk (.mk k n s L ls tail) ps l:=by
    simp only [Mt.now,if_neg k1]
   rw [hnow]
   exact ⟨hwf,k1⟩
theorem nowL_wf {p:Prg} : ∀ (l:List Mt),mtsWf p l→ ∀j,j<l.length→(nowL l j).wf p∧(match nowL l j with| .mk (.mk k _ _ _ _ _) _ _=>k≠1)
 |m::_,h,0,_=>by
  have:=m.now_wf h.1
  simp only [nowL];exact this
 |_::r,h,j+1,hj=>by
  have:=nowL_wf r h.2 j (by simpa using hj)
  simp only [nowL];exact this
end
theorem inner_wf {p:Prg} {ps:List Bs} {ml:List Mt} (h1:ps.length=ml.length) (h2:ml.length≤4) (h3:mtsWf p ml): ∀ (L:List Ty),(∀t ∈ L,t.small∧t.ord p ps=0)→mtsWf p (inner ps ml L)
 | [],_=>trivial
 |t::r,h=>⟨⟨(h t List.mem_cons_self).1,(h t List.mem_cons_self).2,h1,h2,h3⟩,inner_wf h1 h2 h3 r fun x hx=>h x (List.mem_cons_of_mem _ hx)⟩
theorem inner_len (ps:List Bs) (ml:List Mt) (L:List Ty): (inner ps ml L).length=L.length:=List.length_map _
end Go.AI
namespace Go.AI
open Go Go.Proofs Go.Lx
end Go.AI
namespace Go.AI
open Go Go.Proofs Go.Lx
set_option maxRecDepth 100000
mutual
def Mt.ty:Mt→Ty
 | .mk t ps l=>t.rep ps (mtsTy l)
def mtsTy:List Mt→List Ty
 | []=>[]
 |m::r=>m.ty::mtsTy r
end
theorem mtsTy_map: ∀ (l:List Mt),mtsTy l=l.map Mt.ty
 | []=>rfl
 |m::r=>by rw [mtsTy,mtsTy_map r];rfl
theorem inner_ty (ps:List Bs) (ml:List Mt) (L:List Ty):mtsTy (inner ps ml L)=L.map (Ty.rep ps (mtsTy ml)):=by
 rw [mtsTy_map];unfold inner;rw [List.map_map]
 exact List.map_congr_left fun t _=>by simp only [Function.comp,Mt.ty]
mutual
theorem Mt.now_ty {p:Prg} : ∀m:Mt,m.wf p→m.now.ty=m.ty
 | .mk (.mk k n s L ls tail) ps l,hwf=>by
  by_cases k1:k=1
  ·subst k1
   have ho:=hwf.2.1
   obtain ⟨ho1,_⟩:=ord_parts ho
   obtain ⟨j,hj,hjl⟩:=indexP_lt ps s (ord_param ho1)
   have hpl:=hwf.2.2.1
   have hnow: (Mt.mk (.mk 1 n s L ls tail) ps l).now=nowL l j:=by
    simp only [Mt.now,if_true,hj];rfl
   have hj0: (0:Int)≤j:=by omega
   have hjm:j<l.length:=by omega
   rw [hnow,nowL_ty l hwf.2.2.2.2 j hjm]
   simp only [Mt.ty,Ty.rep,hj,hj0,and_self,if_true]
   rw [mtsTy_map]
   simp [hjm]
  ·have hnow: (Mt.mk (.mk k n s L ls tail) ps l).now=Mt.mk (.mk k n s L ls tail) ps l:=by
    simp only [Mt.now,if_neg k1]
   rw [hnow]
theorem nowL_ty {p:Prg} : ∀ (l:List Mt),mtsWf p l→ ∀j (h:j<l.length),(nowL l j).ty=l[j].ty
 |m::_,h,0,_=>by
  have:=m.now_ty h.1
  simp only [nowL];exact this
 |_::r,h,j+1,hj=>by
  have:=nowL_ty r h.2 j (by simpa using hj)
  simp only [nowL];exact this
end
theorem Ty.rep_np {k n:Int} {s:Bs} {L:List Ty} {ls:List Lab} {tail:Int} (ps:List Bs) (al:List Ty) (h:k≠1): (Ty.mk k n s L ls tail).rep ps al= .mk k n s (L.map (Ty.rep ps al)) ls tail:=by
 simp only [Ty.rep,tysRep_map]
 rw [if_neg (fun hc=>h hc.1)]
def rowsAt (σ:St) (n:Nat) (ad:D) (dl:List D):Prop:=ad= .slice dl∨(ad= .empty∧dl=[])∨ ∃r q,ad= .arr r dl.length 0 dl.length∧σ[r]? =some (.row n dl q)∧q≤dl.length∧1≤dl.length
mutual
def Mt.at (σ:St):Mt→D→Prop
 | .mk t ps l,d=> ∃w,d= .agg (t.cs++[w])∧((w= .nilptr∧ps=[]∧l=[])∨ ∃a ad dl,w= .ptr a 0∧σ[a]? =some (.box [slD ps,ad])∧rowsAt σ 7 ad dl∧mtsAt σ l dl)
def mtsAt (σ:St):List Mt→List D→Prop
 | [],dl=>dl=[]
 |m::r,dl=> ∃d dl',dl=d::dl'∧m.at σ d∧mtsAt σ r dl'
end
def withAt (σ:St) (ps:List Bs) (l:List Mt) (w:D):Prop:=(w= .nilptr∧ps=[]∧l=[])∨ ∃a ad dl,w= .ptr a 0∧σ[a]? =some (.box [slD ps,ad])∧rowsAt σ 7 ad dl∧mtsAt σ l dl
theorem Mt.at_iff {σ:St} {t:Ty} {ps:List Bs} {l:List Mt} {d:D} : (Mt.mk t ps l).at σ d↔ ∃w,d= .agg (t.cs++[w])∧withAt σ ps l w:=by
 simp only [Mt.at,withAt]
theorem rowsAt.app {σ τ:St} {n:Nat} {ad:D} {dl:List D} (h:rowsAt σ n ad dl):rowsAt (σ++τ) n ad dl:=by
 rcases h with h|h| ⟨r,q,h1,h2,h3,h4⟩
 ·exact .inl h
 ·exact .inr (.inl h)
 ·exact .inr (.inr ⟨r,q,h1,getO h2,h3,h4⟩)
mutual
theorem Mt.at_app {σ τ:St} : ∀ (m:Mt) (d:D),m.at σ d→m.at (σ++τ) d
 | .mk t ps l,d,h=>by
  simp only [Mt.at] at h ⊢
  obtain ⟨w,h1,h2⟩:=h
  refine ⟨w,h1, ?_⟩
  rcases h2 with h2| ⟨a,ad,dl,h3,h4,h5,h6⟩
  ·exact .inl h2
  ·exact .inr ⟨a,ad,dl,h3,getO h4,h5.app,mtsAt_app l dl h6⟩
theorem mtsAt_app {σ τ:St} : ∀ (l:List Mt) (dl:List D),mtsAt σ l dl→mtsAt (σ++τ) l dl
 | [],dl,h=>by simp only [mtsAt] at h ⊢;exact h
 |m::r,dl,h=>by
  simp only [mtsAt] at h ⊢
  obtain ⟨d,dl',h1,h2,h3⟩:=h
  exact ⟨d,dl',h1,m.at_app d h2,mtsAt_app r dl' h3⟩
end
theorem withAt.app {σ τ:St} {ps:List Bs} {l:List Mt} {w:D} (h:withAt σ ps l w):withAt (σ++τ) ps l w:=by
 rcases h with h2| ⟨a,ad,dl,h3,h4,h5,h6⟩
 ·exact .inl h2
 ·exact .inr ⟨a,ad,dl,h3,getO h4,h5.app,mtsAt_app l dl h6⟩
theorem mtsAt_len {σ:St} : ∀ {l:List Mt} {dl:List D},mtsAt σ l dl→dl.length=l.length
 | [],dl,h=>by simp only [mtsAt] at h;subst h;rfl
 |m::r,dl,h=>by
  simp only [mtsAt] at h
  obtain ⟨d,dl',rfl,_,h3⟩:=h
  simp [mtsAt_len h3]
theorem mtsAt_get {σ:St} : ∀ {l:List Mt} {dl:List D},mtsAt σ l dl→ ∀ (i:Nat) (h1:i<l.length) (h2:i<dl.length),l[i].at σ dl[i]
 |m::r,dl,h,0,_,_=>by
  simp only [mtsAt] at h
  obtain ⟨d,dl',rfl,h2,_⟩:=h
  exact h2
 |m::r,dl,h,i+1,h1,h2=>by
  simp only [mtsAt] at h
  obtain ⟨d,dl',rfl,_,h3⟩:=h
  exact mtsAt_get h3 i (by simpa using h1) (by simpa using h2)
theorem mtsAt_snoc {σ:St} : ∀ {l:List Mt} {dl:List D} {m:Mt} {d:D},mtsAt σ l dl→m.at σ d→mtsAt σ (l++[m]) (dl++[d])
 | [],dl,m,d,h,hm=>by
  simp only [mtsAt] at h
  subst h
  simp only [List.nil_append,mtsAt]
  exact ⟨d,[],rfl,hm,rfl⟩
 |m::r,dl,m',d',h,hm=>by
  simp only [mtsAt] at h
  obtain ⟨d,dl',rfl,h2,h3⟩:=h
  simp only [List.cons_append,mtsAt]
  exact ⟨d,dl'++[d'],rfl,h2,mtsAt_snoc h3 hm⟩
theorem Mt.at_agg {σ:St} {m:Mt} {d:D} (h:m.at σ d): ∃cs,d= .agg cs∧cs.length=7∧cs.all D.one=true:=by
 rcases m with ⟨t,ps,l⟩
 obtain ⟨w,rfl,hw⟩:=Mt.at_iff.1 h
 refine ⟨_,rfl,by simp [t.cs_len], ?_⟩
 have:t.cs.all D.one=true:=by cases t;rfl
 rw [List.all_append,this]
 rcases hw with ⟨rfl,_⟩ | ⟨a,ad,dl,rfl,_⟩<;>rfl
theorem eqbL_app {a b:List D} (ha:eqbL a a=true) (hb:eqbL b b=true):eqbL (a++b) (a++b)=true:=by
 induction a with
 |nil=>exact hb
 |cons x r ih=>
  simp only [eqbL,Bool.and_eq_true,List.cons_append] at ha ⊢
  exact ⟨ha.1,ih ha.2⟩
theorem Mt.at_eqb {σ:St} {m:Mt} {cs:List D} (h:m.at σ (.agg cs)):eqbL cs cs=true:=by
 rcases m with ⟨t,ps,l⟩
 obtain ⟨w,hc,hw⟩:=Mt.at_iff.1 h
 cases hc
 refine eqbL_app (eqbL_tree _ t.plain.1) ?_
 rcases hw with ⟨rfl,_⟩ | ⟨a,ad,dl,rfl,_⟩<;>simp
theorem mtsAt_eqb {σ:St} : ∀ {l:List Mt} {dl:List D},mtsAt σ l dl→eqbL dl dl=true
 | [],dl,h=>by simp only [mtsAt] at h;subst h;rfl
 |m::r,dl,h=>by
  simp only [mtsAt] at h
  obtain ⟨d,dl',rfl,h2,h3⟩:=h
  obtain ⟨cs,rfl,_⟩:=Mt.at_agg h2
  simp only [eqbL,D.eqb,Bool.and_eq_true]
  exact ⟨Mt.at_eqb h2,mtsAt_eqb h3⟩
theorem underL_app {n:Nat} {a b:List D} (ha:underL n a=true) (hb:underL n b=true):underL n (a++b)=true:=by
 induction a with
 |nil=>exact hb
 |cons x r ih=>
  simp only [underL,Bool.and_eq_true,List.cons_append] at ha ⊢
  exact ⟨ha.1,ih ha.2⟩
theorem strip_agg (n:Nat) (σ:St) (cs:List D) (h: (D.agg cs).tree=false):strip (n+1) σ (.agg cs)=(cs.mapM (strip n σ)).map .agg:=by
 rw [strip,if_neg (by rw [h];exact Bool.false_ne_true)]
theorem strip_tuple (n:Nat) (σ:St) (cs:List D) (h: (D.tuple cs).tree=false):strip (n+1) σ (.tuple cs)=(cs.mapM (strip n σ)).map .tuple:=by
 rw [strip,if_neg (by rw [h];exact Bool.false_ne_true)]
theorem strip_ptr (n:Nat) (σ:St) (i o:Nat):strip n σ (.ptr i o)=none:=by
 cases n<;>simp [strip,D.tree]
theorem CI_at {f:FuncId} {af:AFunc} (hT:tabT f=some af) {args:List D} {σ τ:St} {m:Mt} {d:D} (h:bodyI CI XB GI af args σ=some (.ret d,σ++τ)) (hm:m.at σ d)
 (hx:okF f:=by exact ⟨⟨rfl,rfl⟩,rfl⟩):CI (.fn f) args σ=some (.ret d,σ):=by
 rcases m with ⟨t,ps,l⟩
 obtain ⟨w,rfl,hw⟩:=Mt.at_iff.1 hm
 rcases hw with ⟨rfl,_⟩ | ⟨a,ad,dl,rfl,ha,_⟩
 ·have hp:=(t.plain.app (b:=[.nilptr]) (.cons ⟨rfl,rfl⟩ .nil)).agg
  exact CI_tree hT h hp.1 hp.2 hx
 ·refine CI_fn hT h (postI_under ?_ ?_) hx
  ·have hn: (D.agg (t.cs++[D.ptr a 0])).tree=false:=by
    rw [D.tree]
    have: ∀ (x:List D),treeL (x++[D.ptr a 0])=false:=fun x=>by
     induction x with
     |nil=>rfl
     |cons y r ih=>simp only [List.cons_append,treeL,ih,Bool.and_false]
    exact this _
   have hs:=strip_ptr 15 (σ++τ) a 0
   rw [strip_agg 15 _ _ hn,List.mapM_append]
   generalize strip 15 (σ++τ)=st at*
   cases t.cs.mapM st with
   |none=>rfl
   |some y=>simp [hs]
  ·have:=lt_of_get ha
   simp only [D.under]
   exact underL_app (treeL_under _ t.plain.1) (by simp [underL,D.under,this])
theorem log65536:Nat.log2 65536=16:=by decide
abbrev z7n:List D:=[.int .i64 0, .int .i64 0, .str [], .empty, .empty, .int .i64 0, .nilptr]
set_option maxHeartbeats 4000000 in
theorem it124 (p:Prg) (σ:St): ∀ (m:Mt),m.wf p→ ∀cs,m.at σ (.agg cs)→ ∃cs',m.now.at σ (.agg cs')∧
 ∀σ1 τ,σ1=σ++τ→iterI (evalI CI XB GI 24 false lp124_0) [(1, .ptr σ1.length 0),(2, .ptr (σ1.length+1) 0)] (σ1++[.box cs, .box z7n])=some (.exit 0,[(1, .ptr σ1.length 0),(2, .ptr (σ1.length+1) 0),(6, .bool false)],σ1++[.box cs', .box z7n])
 | .mk (.mk k n s L ls tail) ps l,hwf,cs,hat=>by
  have hat0:=hat
  obtain ⟨_,ho,hpl,hl4,hlw⟩:=hwf
  obtain ⟨w,hc,hw⟩:=Mt.at_iff.1 hat
  have hcs:cs=[.int .i64 k, .int .i64 n, .str s, .slice (tysD L), .slice (ls.map Lab.d), .int .i64 tail,w]:=by
   cases hc;simp only [Ty.cs];rfl
  by_cases k1:k=1
  ·subst k1
   obtain ⟨ho1,_⟩:=ord_parts ho
   obtain ⟨j,hj,hjl⟩:=indexP_lt ps s (ord_param ho1)
   have hjm:j<l.length:=by omega
   have hnow: (Mt.mk (.mk 1 n s L ls tail) ps l).now=l[j].now:=by
    simp only [Mt.now,if_true,hj]
    exact nowL_get l j hjm
   rcases hw with ⟨_,rfl,rfl⟩ | ⟨a,ad,dl,rfl,ha,hr,hl⟩
   ·simp at hjm
   have hjd:j<dl.length:=by rw [mtsAt_len hl];exact hjm
   have hat1:=mtsAt_get hl j hjm hjd
   obtain ⟨cs1,h3,h4,h5⟩:=Mt.at_agg hat1
   rw [h3] at hat1
   obtain ⟨cs',h6,h7⟩:=it124 p σ l[j] (mtsWf_mem hlw (List.getElem_mem hjm)) cs1 hat1
   refine ⟨cs',by rw [hnow];exact h6,fun σ1 τ hσ=> ?_⟩
   rw [←h7 σ1 τ hσ]
   refine iterI_next ?_
   rw [hcs]
   have h89:=fun σ=>c89 ps s σ (by unfold maxL;omega)
   rw [hj] at h89
   have hjj: (j:Int) <dl.length:=by omega
   have y2:cs1.take 7=cs1:=List.take_of_length_le (by omega)
   have q89:qI 89=false:=rfl
   have x89:XB 89=false:=rfl
   have e1:=mtsAt_eqb hl
   have e2: (slD ps).eqb (slD ps)=true:=D.eqb_tree _ (plain_strs _).1
   have e4:=Mt.at_eqb hat1
   have ha2: ∀τ,(σ1++τ)[a]? =some (.box [slD ps,ad]):=fun τ=>getO (by rw [hσ];exact getO ha)
   clear hat hat0 hc hcs h7 hnow
   rcases hr with rfl| ⟨rfl,rfl⟩ | ⟨r,q,rfl,hrow,hq,_⟩
   ·generalize slD ps=pd at*
    generalize tysD L=LD at*
    generalize ls.map Lab.d=lsd at*
    simp [lp124_0,getA0,getA,setA0,setA,ha2,h89,hjd,hjj,h3,h4,h5,y2,e1,e2,e4,q89,x89,putCells,log65536,Nat.testBit_eq_decide_div_mod_eq]
   ·simp at hjd
   ·have hrow2: ∀τ,(σ1++τ)[r]? =some (.row 7 dl q):=fun τ=>getO (by rw [hσ];exact getO hrow)
    have hg:dl[j]? =some (.agg cs1):=by rw [List.getElem?_eq_getElem hjd,h3]
    generalize slD ps=pd at*
    generalize tysD L=LD at*
    generalize ls.map Lab.d=lsd at*
    simp [lp124_0,getA0,getA,setA0,setA,ha2,hrow2,hg,hq,h89,hjd,hjj,h3,h4,h5,y2,e1,e2,e4,q89,x89,putCells,log65536,Nat.testBit_eq_decide_div_mod_eq]
  ·have hnow: (Mt.mk (.mk k n s L ls tail) ps l).now=Mt.mk (.mk k n s L ls tail) ps l:=by
    simp only [Mt.now,if_neg k1]
   refine ⟨cs,by rw [hnow];exact hat0,fun σ1 τ hσ=> ?_⟩
   have b1: (k==1)=false:=by simpa using k1
   refine iterI_end ?_ (by simp)
   rw [hcs]
   simp [lp124_0,getA0,getA,b1]
termination_by m=>SizeOf.sizeOf m
decreasing_by
 have:=List.sizeOf_lt_of_mem (List.getElem_mem hjm)
 simp only [Mt.mk.sizeOf_spec]
 omega
theorem c124 (p:Prg) (m:Mt) (hwf:m.wf p) (σ:St) (cs:List D) (hat:m.at σ (.agg cs)): ∃cs',m.now.at σ (.agg cs')∧ ∀σ1 τ,σ1=σ++τ→CI (.fn 124) [.agg cs] σ1=some (.ret (.agg cs'),σ1):=by
 obtain ⟨cs',h1,hit⟩:=it124 p σ m hwf cs hat
 refine ⟨cs',h1,fun σ1 τ hσ=> ?_⟩
 have hit:=hit σ1 τ hσ
 obtain ⟨_,hx,_,y0⟩:=Mt.at_agg hat
 cases hx
 obtain ⟨_,hx,n1,n3⟩:=Mt.at_agg h1
 cases hx
 have n2:cs'.take 7=cs':=List.take_of_length_le (by omega)
 have n4:cs'.drop 7=[]:=List.drop_of_length_le (by omega)
 have hτ:bodyI CI XB GI af124 [.agg cs] σ1=some (.ret (.agg cs'),σ1++[.box cs', .box cs']):=by
  simp [bodyI,af124,getA0,getA,setA0,setA,y0,hit,n1,n2,n3,n4,putCells]
 exact CI_at tab124 hτ (by rw [hσ];exact Mt.at_app _ _ h1)
theorem set3 {σ τ:St} {a b c o:Obj} {r:Nat} : (σ++[a,b,c]++τ).set (σ.length+3+r) o=σ++[a,b,c]++τ.set r o:=by
 rw [List.append_assoc,Nat.add_assoc,setA,List.append_assoc]
 congr 1
 show ([a,b,c]++τ).set (3+r) o=[a,b,c]++τ.set r o
 rw [Nat.add_comm];rfl
theorem get3 {σ τ:St} {a b c:Obj} {r:Nat} : (σ++[a,b,c]++τ)[σ.length+3+r]? =τ[r]? :=by
 rw [List.append_assoc,Nat.add_assoc,getA]
 show ([a,b,c]++τ)[3+r]? =τ[r]?
 rw [Nat.add_comm];rfl
theorem set2 {σ τ:St} {a b c o:Obj} : (σ++[a,b,c]++τ).set (σ.length+2) o=σ++[a,b,o]++τ:=by
 rw [List.append_assoc,setA,List.append_assoc];rfl
theorem CI_new2 {f:FuncId} {af:AFunc} (hT:tabT f=some af) {args:List D} {σ τ:St} {i:Nat} {d:D} (h:bodyI CI XB GI af args σ=some (.ret (.tuple [d, .ptr (σ.length+i) 0]),σ++τ)) (hq:qI f=false)
 (hx:okF f:=by exact ⟨⟨rfl,rfl⟩,rfl⟩):CI (.fn f) args σ=some (.ret (.tuple [d, .ptr (σ.length+i) 0]),σ++τ):=by
 refine CI_fn hT h ?_ hx
 have ht:trim σ (some (.ret (.tuple [d, .ptr (σ.length+i) 0]),σ++τ))=some (.ret (.tuple [d, .ptr (σ.length+i) 0]),σ++τ):=by
  unfold trim
  have:trimV σ.length (σ++τ) (.ret (.tuple [d, .ptr (σ.length+i) 0]))=none:=by
   have h1:strip 16 (σ++τ) (.tuple [d, .ptr (σ.length+i) 0])=none:=by
    have hs:=strip_ptr 15 (σ++τ) (σ.length+i) 0
    have ht: (D.tuple [d, .ptr (σ.length+i) 0]).tree=false:=by simp [D.tree,treeL]
    rw [strip_tuple 15 _ _ ht,show [d,D.ptr (σ.length+i) 0]=[d]++[D.ptr (σ.length+i) 0] by rfl,List.mapM_append]
    generalize strip 15 (σ++τ)=st at*
    cases [d].mapM st with
    |none=>rfl
    |some y=>simp [hs]
   simp [trimV,h1,D.under,underL]
  simp only [this,if_pos keeps_app]
 unfold postI
 rw [ht]
 simp [hq]
abbrev E125 (q:Nat) (ld:List D) (n i:Nat):Env:=[(3, .ptr q 0),(6, .ptr (q+1) 0),(7, .ptr (q+2) 0),(28, .slice ld),(29, .int .i64 n),(30, .int .i64 i)]
def argsAt (σ:St) (ad:D) (dl:List D) (τ:St):Prop:=(ad= .empty∧dl=[])∨ ∃r,ad= .arr (σ.length+3+r) dl.length 0 dl.length∧τ[r]? =some (.row 7 dl 1)∧1≤dl.length
theorem log16384b:Nat.log2 16384=14:=by decide
set_option maxHeartbeats 8000000 in
theorem it125 (p:Prg) (k0 n0:Int) (s:Bs) (L:List Ty) (ls:List Lab) (tail:Int) (ps:List Bs) (l:List Mt) (hL:L.length≤4) (hwf: ∀t ∈ L,(Mt.mk t ps l).wf p) (w:D) (pd:D) (dc:List D) (σ:St) (hw:withAt σ ps l w):
 ∀ (k i:Nat),i+k=L.length→ ∀ (ad:D) (dl:List D) (τ:St),argsAt σ ad dl τ→dl.length=i→mtsAt σ ((inner ps l (L.take i)).map Mt.now) dl→
  ∃ad' dl' τ',argsAt σ ad' dl' τ'∧mtsAt σ ((inner ps l L).map Mt.now) dl'∧
   iterI (evalI CI XB GI 52 false lp125_0) (E125 σ.length (L.map Ty.d) L.length i) (σ++[.box ((Ty.mk k0 n0 s L ls tail).cs++[w]), .box dc, .box [pd,ad]]++τ)=
    some (.exit 0,E125 σ.length (L.map Ty.d) L.length L.length++[(31, .bool false)],σ++[.box ((Ty.mk k0 n0 s L ls tail).cs++[w]), .box dc, .box [pd,ad']]++τ')
 |0,i,hi,ad,dl,τ,hA,hd,hm=>by
  obtain rfl:i=L.length:=by omega
  rw [List.take_length] at hm
  refine ⟨ad,dl,τ,hA,hm,iterI_end ?_ (by simp)⟩
  simp [lp125_0]
 |k+1,i,hi,ad,dl,τ,hA,hd,hm=>by
  have hlt:i<L.length:=by omega
  have hwi:=hwf L[i] (List.getElem_mem hlt)
  obtain ⟨cs',h1,h124⟩:=c124 p (.mk L[i] ps l) hwi σ (L[i].cs++[w]) (Mt.at_iff.2 ⟨w,rfl,hw⟩)
  obtain ⟨_,hx,n1,n3⟩:=Mt.at_agg h1
  cases hx
  have hm2:mtsAt σ ((inner ps l (L.take (i+1))).map Mt.now) (dl++[.agg cs']):=by
   have e: (inner ps l (L.take (i+1))).map Mt.now=(inner ps l (L.take i)).map Mt.now++[(Mt.mk L[i] ps l).now]:=by
    unfold inner;rw [List.take_succ_eq_append_getElem hlt,List.map_append,List.map_append];rfl
   rw [e];exact mtsAt_snoc hm h1
  have hwr:=wrap_nat (n:=i) (by omega)
  obtain ⟨ld,hld,hll,hlg⟩:=opq Ty.d L
  obtain ⟨g2,g3⟩:=hlg i hlt
  have hii: (i:Int) <L.length:=by omega
  have y1:=L[i].cs_len
  have y2:=L[i].cs_take
  have y3:L[i].cs.all D.one=true:=by cases L[i];rfl
  have hcs: (Ty.mk k0 n0 s L ls tail).cs++[w]=[.int .i64 k0, .int .i64 n0, .str s, .slice (tysD L), .slice (ls.map Lab.d), .int .i64 tail,w]:=by simp only [Ty.cs];rfl
  have q124:qI 124=false:=rfl
  have x124:XB 124=false:=rfl
  have e1:=Mt.at_eqb h1
  have e2:eqbL (L[i].cs++[w]) (L[i].cs++[w])=true:=Mt.at_eqb (σ:=σ) (m:= .mk L[i] ps l) (Mt.at_iff.2 ⟨w,rfl,hw⟩)
  have ew:w.eqb w=true:=by rcases hw with ⟨rfl,_⟩ | ⟨a,_,_,rfl,_⟩<;>simp
  have hwf2:w= .nilptr∨ ∃a,w= .ptr a 0:=hw.elim (fun h=> .inl h.1) fun ⟨a,_,_,h,_⟩=> .inr ⟨a,h⟩
  have e3:eqbL L[i].cs L[i].cs=true:=eqbL_tree _ L[i].plain.1
  unfold Ty.d at g3
  obtain ⟨k1,m1,s1,a1,b1,t1,hc⟩: ∃k1 m1 s1 a1 b1 t1,L[i].cs=[.int .i64 k1, .int .i64 m1, .str s1, .slice a1, .slice b1, .int .i64 t1]:=by
   rcases L[i] with ⟨k,n,s,l,ls,tail⟩;exact ⟨_,_,_,_,_,_,by simp only [Ty.cs];rfl⟩
  rw [hld]
  rcases hA with ⟨rfl,rfl⟩ | ⟨r,rfl,hr,hr1⟩
  ·obtain ⟨ad',dl',τ',r1,r2,r3⟩:=it125 p k0 n0 s L ls tail ps l hL hwf w pd dc σ hw k (i+1) (by omega) (.arr (σ.length+3+ (τ.length+1)) 1 0 1) [.agg cs'] (τ++[.box L[i].cs, .row 7 [.agg cs'] 1])
    (.inr ⟨τ.length+1,rfl,by rw [getA];rfl,by simp⟩) (by simp at hd ⊢;omega) hm2
   refine ⟨ad',dl',τ',r1,r2, ?_⟩
   rw [hld] at r3
   rw [←r3]
   refine iterI_next ?_
   clear r3
   have hs:σ++[Obj.box ((Ty.mk k0 n0 s L ls tail).cs++[w]), .box dc, .box [pd, .arr (σ.length+3+ (τ.length+1)) 1 0 1]]++(τ++[.box L[i].cs, .row 7 [.agg cs'] 1])=(σ++[Obj.box ((Ty.mk k0 n0 s L ls tail).cs++[w]), .box dc, .box [pd, .empty]]++τ).set (σ.length+2) (Obj.box [pd, .arr (σ.length+3+ (τ.length+1)) 1 0 1])++[.box L[i].cs, .row 7 [.agg cs'] 1]:=by
    rw [set2,List.append_assoc,List.append_assoc,List.append_assoc]
   have hlen: (σ++[Obj.box ((Ty.mk k0 n0 s L ls tail).cs++[w]), .box dc, .box [pd, .empty]]++τ).length=σ.length+3+τ.length:=by simp;omega
   have p0: (σ++[Obj.box ((Ty.mk k0 n0 s L ls tail).cs++[w]), .box dc, .box [pd, .empty]]++τ)[σ.length]? =some (.box ((Ty.mk k0 n0 s L ls tail).cs++[w])):=by rw [List.append_assoc];exact getA0
   have p2: (σ++[Obj.box ((Ty.mk k0 n0 s L ls tail).cs++[w]), .box dc, .box [pd, .empty]]++τ)[σ.length+2]? =some (.box [pd, .empty]):=by rw [List.append_assoc];exact getA
   have h124:=fun τ'=>h124 (σ++[Obj.box ((Ty.mk k0 n0 s L ls tail).cs++[w]), .box dc, .box [pd, .empty]]++τ++τ') _ (by rw [List.append_assoc,List.append_assoc])
   rw [hs]
   rw [hcs] at p0 p2 hlen h124 ⊢
   clear hs
   rw [hc] at h124 g3 y1 y2 y3 e2 e3 ⊢
   simp only [List.cons_append,List.nil_append] at h124 e2
   have hlt2:σ.length+2< (σ++[Obj.box [.int .i64 k0, .int .i64 n0, .str s, .slice (tysD L), .slice (ls.map Lab.d), .int .i64 tail,w], .box dc, .box [pd, .empty]]++τ).length:=by omega
   generalize σ++[Obj.box [.int .i64 k0, .int .i64 n0, .str s, .slice (tysD L), .slice (ls.map Lab.d), .int .i64 tail,w], .box dc, .box [pd, .empty]]++τ=σ1 at*
   clear h1
   rcases hwf2 with rfl| ⟨wa,rfl⟩<;>(simp [lp125_0,hlt,hii,hwr,hll,g2,g3,getA0,getA,setA0,setA,getO p0,getO p2,setO hlt2,h124,n1,n3,e1,e2,ew,e3,q124,x124,fillD,fillRow,rowOf,putCells,hlen,log16384b,Nat.testBit_eq_decide_div_mod_eq];rfl)
  ·have hrl:=lt_of_get hr
   have hdl: (dl++[D.agg cs']).length=dl.length+1:=by simp
   obtain ⟨ad',dl',τ',r1,r2,r3⟩:=it125 p k0 n0 s L ls tail ps l hL hwf w pd dc σ hw k (i+1) (by omega) (.arr (σ.length+3+r) (dl.length+1) 0 (dl.length+1)) (dl++[.agg cs']) (τ.set r (.row 7 (dl++[.agg cs']) 1)++[.box L[i].cs])
    (.inr ⟨r,by rw [hdl],by rw [List.getElem?_append_left (by simpa using hrl),List.getElem?_set_self hrl],by omega⟩) (by omega) hm2
   refine ⟨ad',dl',τ',r1,r2, ?_⟩
   rw [hld] at r3
   rw [←r3]
   refine iterI_next ?_
   clear r3
   have hs:σ++[Obj.box ((Ty.mk k0 n0 s L ls tail).cs++[w]), .box dc, .box [pd, .arr (σ.length+3+r) (dl.length+1) 0 (dl.length+1)]]++(τ.set r (.row 7 (dl++[.agg cs']) 1)++[.box L[i].cs])=
    ((σ++[Obj.box ((Ty.mk k0 n0 s L ls tail).cs++[w]), .box dc, .box [pd, .arr (σ.length+3+r) dl.length 0 dl.length]]++τ).set (σ.length+3+r) (.row 7 (dl++[.agg cs']) 1)).set (σ.length+2) (.box [pd, .arr (σ.length+3+r) (dl.length+1) 0 (dl.length+1)])++[.box L[i].cs]:=by
    rw [set3,set2,List.append_assoc,List.append_assoc,List.append_assoc]
   have hlen: (σ++[Obj.box ((Ty.mk k0 n0 s L ls tail).cs++[w]), .box dc, .box [pd, .arr (σ.length+3+r) dl.length 0 dl.length]]++τ).length=σ.length+3+τ.length:=by simp;omega
   have p0: (σ++[Obj.box ((Ty.mk k0 n0 s L ls tail).cs++[w]), .box dc, .box [pd, .arr (σ.length+3+r) dl.length 0 dl.length]]++τ)[σ.length]? =some (.box ((Ty.mk k0 n0 s L ls tail).cs++[w])):=by rw [List.append_assoc];exact getA0
   have p2: (σ++[Obj.box ((Ty.mk k0 n0 s L ls tail).cs++[w]), .box dc, .box [pd, .arr (σ.length+3+r) dl.length 0 dl.length]]++τ)[σ.length+2]? =some (.box [pd, .arr (σ.length+3+r) dl.length 0 dl.length]):=by rw [List.append_assoc];exact getA
   have p3: (σ++[Obj.box ((Ty.mk k0 n0 s L ls tail).cs++[w]), .box dc, .box [pd, .arr (σ.length+3+r) dl.length 0 dl.length]]++τ)[σ.length+3+r]? =some (.row 7 dl 1):=by rw [get3];exact hr
   have h124:=fun τ'=>h124 (σ++[Obj.box ((Ty.mk k0 n0 s L ls tail).cs++[w]), .box dc, .box [pd, .arr (σ.length+3+r) dl.length 0 dl.length]]++τ++τ') _ (by rw [List.append_assoc,List.append_assoc])
   rw [hs]
   rw [hcs] at p0 p2 p3 hlen h124 ⊢
   clear hs
   rw [hc] at h124 g3 y1 y2 y3 e2 e3 ⊢
   simp only [List.cons_append,List.nil_append] at h124 e2
   have hlt2:σ.length+2< (σ++[Obj.box [.int .i64 k0, .int .i64 n0, .str s, .slice (tysD L), .slice (ls.map Lab.d), .int .i64 tail,w], .box dc, .box [pd, .arr (σ.length+3+r) dl.length 0 dl.length]]++τ).length:=by omega
   have hlt3:σ.length+3+r< (σ++[Obj.box [.int .i64 k0, .int .i64 n0, .str s, .slice (tysD L), .slice (ls.map Lab.d), .int .i64 tail,w], .box dc, .box [pd, .arr (σ.length+3+r) dl.length 0 dl.length]]++τ).length:=by omega
   generalize σ++[Obj.box [.int .i64 k0, .int .i64 n0, .str s, .slice (tysD L), .slice (ls.map Lab.d), .int .i64 tail,w], .box dc, .box [pd, .arr (σ.length+3+r) dl.length 0 dl.length]]++τ=σ1 at*
   have hne:σ.length+3+r≠σ.length+2:=by omega
   have hba: (dl.length+1) *96≤140737488355328:=by omega
   have p2': ∀o τ',(σ1.set (σ.length+3+r) o++τ')[σ.length+2]? =some (.box [pd, .arr (σ.length+3+r) dl.length 0 dl.length]):=fun o τ'=>getO (by rw [List.getElem?_set_ne hne];exact p2)
   have hlt2': ∀o,σ.length+2< (σ1.set (σ.length+3+r) o).length:=fun o=>by simpa using hlt2
   have s3: ∀o τ',(σ1++τ').set (σ.length+3+r) o=σ1.set (σ.length+3+r) o++τ':=fun o τ'=>setO hlt3
   have s2: ∀o o' τ',(σ1.set (σ.length+3+r) o++τ').set (σ.length+2) o'=(σ1.set (σ.length+3+r) o).set (σ.length+2) o'++τ':=fun o o' τ'=>setO (hlt2' o)
   clear hlt2 hlt2' hlt3 hne
   generalize σ.length+3+r=R at*
   clear h1
   rcases hwf2 with rfl| ⟨wa,rfl⟩<;>simp [lp125_0,hlt,hii,hwr,hll,g2,g3,getA0,getA,setA0,setA,getO p0,getO p2,getO p3,p2',s3,s2,hr1,hba,h124,n1,n3,e1,e2,ew,e3,q124,x124,fillD,fillRow,rowOf,putCells,log16384b,Nat.testBit_eq_decide_div_mod_eq]
theorem log8192b:Nat.log2 8192=13:=by decide
set_option maxHeartbeats 4000000 in
theorem c125 (p:Prg) (m:CMap) (hdl:p.data.length≤12) (k0 n0:Int) (s:Bs) (L:List Ty) (ls:List Lab) (tail:Int) (ps:List Bs) (l:List Mt) (hL:L.length≤4) (hwf: ∀t ∈ L,(Mt.mk t ps l).wf p) (cs:List D) (tb i:Nat) (hi:i<p.data.length) (hix:idxOf (fun x:Dat=>x.name==s) p.data=i)
 (σ:St) (hT:IsT σ tb p m) (hat: (Mt.mk (.mk k0 n0 s L ls tail) ps l).at σ (.agg cs)):
 ∃τ,CI (.fn 125) [.ptr tb 0, .agg cs] σ=some (.ret (.tuple [.slice (p.data[i].cons.map Con.d), .ptr (σ.length+2) 0]),σ++τ)∧withAt (σ++τ) p.data[i].params ((inner ps l L).map Mt.now) (.ptr (σ.length+2) 0):=by
 obtain ⟨w,hc,hw⟩:=Mt.at_iff.1 hat
 obtain ⟨ad',dl',τ',r1,r2,hit⟩:=it125 p k0 n0 s L ls tail ps l hL hwf w (.slice (p.data[i].params.map D.str)) p.data[i].cs σ hw L.length 0 (by omega) .empty [] [] (.inl ⟨rfl,rfl⟩) rfl (by simp [inner,mtsAt])
 have h117:=fun σ hT=>c117 p m (by unfold maxL;omega) s tb σ hT
 rw [hix] at h117
 refine ⟨[.box cs, .box p.data[i].cs, .box [.slice (p.data[i].params.map D.str),ad']]++τ', ?_, ?_⟩
 rotate_left
 ·refine .inr ⟨σ.length+2,ad',dl',rfl,by rw [←List.append_assoc,List.append_assoc];exact getA, ?_,mtsAt_app _ _ r2⟩
  rcases r1 with ⟨rfl,rfl⟩ | ⟨r,rfl,h1,h2⟩
  ·exact .inr (.inl ⟨rfl,rfl⟩)
  ·exact .inr (.inr ⟨_,1,rfl,by rw [←List.append_assoc];exact get3.trans h1,h2,h2⟩)
 refine CI_new2 tab125 ?_ rfl
 obtain ⟨ld,hld,hll,hlg⟩:=opq Dat.d p.data
 obtain ⟨g2,g3⟩:=hlg i hi
 have hii: (i:Int) <p.data.length:=by omega
 have hh:p.cs.head?=some (.slice ld):=by rw [p.cs_eq,←hld];rfl
 have f1:eqbL ld ld=true:=by rw [←hld];exact eqbL_tree _ (PlainL.map fun x _=>x.plain).1
 have hdc:p.data[i].cs=[.str p.data[i].name, .slice (p.data[i].params.map D.str), .slice (p.data[i].cons.map Con.d)]:=rfl
 have hdd:p.data[i].d= .agg [.str p.data[i].name, .slice (p.data[i].params.map D.str), .slice (p.data[i].cons.map Con.d)]:=rfl
 have f2:eqbL (p.data[i].cons.map Con.d) (p.data[i].cons.map Con.d)=true:=eqbL_tree _ (PlainL.map fun x _=>x.plain).1
 have f3:eqbL (p.data[i].params.map D.str) (p.data[i].params.map D.str)=true:=eqbL_tree _ (PlainL.map fun x _=>plain_str x).1
 rw [hdd] at g3
 rw [hdc] at hit ⊢
 cases hc
 have y0: (Ty.mk k0 n0 s L ls tail).cs++[w]=[.int .i64 k0, .int .i64 n0, .str s, .slice (L.map Ty.d), .slice (ls.map Lab.d), .int .i64 tail,w]:=by simp only [Ty.cs,tysD_map];rfl
 have hwf2:w= .nilptr∨ ∃a,w= .ptr a 0:=hw.elim (fun h=> .inl h.1) fun ⟨a,_,_,h,_⟩=> .inr ⟨a,h⟩
 rw [y0] at hit ⊢
 have hLl: (L.map Ty.d).length=L.length:=List.length_map _
 have q117:qI 117=true:=rfl
 have x117:XB 117=false:=rfl
 obtain ⟨j,hT1,hT2⟩:=hT
 have hTT: ∀τ,IsT (σ++τ) tb p m:=fun τ=>⟨j,getO hT1,getO hT2⟩
 have h117:=fun τ=>h117 (σ++τ) (hTT τ)
 have hT3: ∀τ,(σ++τ)[tb]? =some (.box (p.cs++[.map j])):=fun τ=>getO hT1
 have hhd: (p.cs++[D.map j]).head?=some (.slice ld):=by
  rw [p.cs_eq,←hld];rfl
 have hp0: (p.cs++[D.map j])[0]? =some (.slice ld):=by rw [←List.head?_eq_getElem?];exact hhd
 rw [←List.append_assoc]
 simp only [E125,Int.natCast_zero,List.cons_append,List.nil_append,List.append_nil] at hit
 clear hat hT1 hT2 hdd hdc hw r1 r2
 generalize p.data[i].cons.map Con.d=cd at*
 generalize p.data[i].params.map D.str=pl at*
 generalize p.data[i].name=dn at*
 generalize L.map Ty.d=LD at*
 generalize ls.map Lab.d=lsd at*
 generalize hσ2:σ++[Obj.box [.int .i64 k0, .int .i64 n0, .str s, .slice LD, .slice lsd, .int .i64 tail,w], .box [.str dn, .slice pl, .slice cd], .box [.slice pl,ad']]++τ'=σ2 at*
 have p1:σ2[σ.length+1]? =some (.box [.str dn, .slice pl, .slice cd]):=by rw [←hσ2,List.append_assoc];exact getA
 clear hσ2
 generalize p.cs++[D.map j]=pc at*
 rcases hwf2 with rfl| ⟨wa,rfl⟩<;>simp [bodyI,af125,getA0,getA,setA0,setA,hT3,hhd,hll,h117,hi,hii,g2,g3,f1,f2,f3,hp0,q117,x117,fillD,putCells,hLl,hit,p1,log8192b,Nat.testBit_eq_decide_div_mod_eq]
def sumTo (g:Nat→Nat):Nat→Nat
 |0=>0
 |m+1=>sumTo g m+g m
theorem sumTo_congr {g h:Nat→Nat} : ∀ {m:Nat},(∀i,i<m→g i=h i)→sumTo g m=sumTo h m
 |0,_=>rfl
 |m+1,hg=>by simp only [sumTo,sumTo_congr (m:=m) (fun i hi=>hg i (by omega)),hg m (by omega)]
theorem sumTo_le {g h:Nat→Nat} : ∀ {m:Nat},(∀i,i<m→g i≤h i)→sumTo g m≤sumTo h m
 |0,_=>Nat.le_refl _
 |m+1,hg=>by
  have h1:=sumTo_le (m:=m) (fun i hi=>hg i (by omega))
  have h2:=hg m (by omega)
  simp only [sumTo];omega
def togT (f:Ty→Nat→Nat):List Ty→Nat→Nat
 | [],m=>if m=0 then 1 else 0
 |t::r,m=>sumTo (fun i=>f t (i+1) *togT f r (m - (i+1))) m
theorem togT_congr {f g:Ty→Nat→Nat} : ∀ {l:List Ty} {m:Nat},(∀t j,j≤m→f t j=g t j)→togT f l m=togT g l m
 | [],m,_=>rfl
 |t::r,m,h=>by
  simp only [togT]
  refine sumTo_congr fun i hi=> ?_
  rw [h t (i+1) (by omega),togT_congr (l:=r) (m:=m - (i+1)) fun t j hj=>h t j (by omega)]
def Prg.datOf (p:Prg) (s:Bs):Option Dat:=p.data.find? (fun x=>x.name==s)
def Ty.cntF (p:Prg):Nat→Ty→Nat→Nat
 |0,_,_=>0
 |k+1, .mk kd _ s L _ _,n=>if n=0 then 0 else if kd=6 then (match p.datOf s with
  |some d=>(d.cons.map fun c=>togT (Ty.cntF p k) (c.args.map (Ty.rep d.params L)) (n - 1)).sum
  |none=>0)
  else if n=1 then (if kd=4 then 1 else 2) else 0
theorem cntF_fuel (p:Prg): ∀ (k k':Nat) (t:Ty) (n:Nat),n≤k→n≤k'→Ty.cntF p k t n=Ty.cntF p k' t n
 |0,0,t,n,h,h'=>rfl
 |0,k'+1, .mk kd m s L ls tl,n,h,h'=>by
  obtain rfl:n=0:=by omega
  simp [Ty.cntF]
 |k+1,0, .mk kd m s L ls tl,n,h,h'=>by
  obtain rfl:n=0:=by omega
  simp [Ty.cntF]
 |k+1,k'+1, .mk kd m s L ls tl,n,h,h'=>by
  simp only [Ty.cntF]
  have: ∀ (d:Dat) (c:Con),togT (Ty.cntF p k) (c.args.map (Ty.rep d.params L)) (n - 1)=togT (Ty.cntF p k') (c.args.map (Ty.rep d.params L)) (n - 1):=fun d c=>
   togT_congr fun t j hj=>cntF_fuel p k k' t j (by omega) (by omega)
  simp only [this]
def Ty.cnt (p:Prg) (t:Ty) (n:Nat):Nat:=Ty.cntF p n t n
theorem cnt_zero (p:Prg) (t:Ty):t.cnt p 0=0:=rfl
theorem cnt_data (p:Prg) {n1:Int} {s:Bs} {L:List Ty} {ls:List Lab} {tl:Int} {d:Dat} (hd:p.datOf s=some d) (n:Nat):
 (Ty.mk 6 n1 s L ls tl).cnt p (n+1)=(d.cons.map fun c=>togT (Ty.cnt p) (c.args.map (Ty.rep d.params L)) n).sum:=by
 unfold Ty.cnt
 simp only [Ty.cntF,hd]
 rw [if_neg (by omega),if_pos trivial,Nat.add_sub_cancel]
 congr 1
 refine List.map_congr_left fun c _=>togT_congr fun t j hj=> ?_
 exact cntF_fuel p n j t j hj (Nat.le_refl _)
theorem cnt_base (p:Prg) {kd n1:Int} {s:Bs} {L:List Ty} {ls:List Lab} {tl:Int} (h6:kd≠6) (n:Nat): (Ty.mk kd n1 s L ls tl).cnt p n=if n=1 then (if kd=4 then 1 else 2) else 0:=by
 unfold Ty.cnt
 cases n with
 |zero=>rfl
 |succ n=>simp only [Ty.cntF];rw [if_neg (by omega),if_neg h6]
def cB (n:Nat):Nat:=[0,8,64,512,8192,98304,1572864,27262976].getD n 0
def tB:Nat→Nat→Nat
 |0,m=>if m=0 then 1 else 0
 |k+1,m=>sumTo (fun i=>cB (i+1) *tB k (m - (i+1))) m
theorem tB_fact: ∀ (k:Fin 5) (m:Fin 7),8*tB k m≤cB (m+1):=by decide+kernel
theorem togT_le {f:Ty→Nat→Nat} : ∀ {l:List Ty} {m:Nat},(∀t j,j≤m→f t j≤cB j)→togT f l m≤tB l.length m
 | [],m,_=>Nat.le_refl _
 |t::r,m,h=>by
  simp only [togT,List.length_cons,tB]
  refine sumTo_le fun i hi=> ?_
  exact Nat.mul_le_mul (h t (i+1) (by omega)) (togT_le fun t j hj=>h t j (by omega))
theorem sum_le {α:Type} {f:α→Nat} {b:Nat} : ∀ {l:List α},(∀a ∈ l,f a≤b)→(l.map f).sum≤l.length*b
 | [],_=>by simp
 |a::r,h=>by
  have h1:=h a List.mem_cons_self
  have h2:=sum_le (l:=r) fun x hx=>h x (List.mem_cons_of_mem _ hx)
  simp only [List.map_cons,List.sum_cons,List.length_cons,Nat.succ_mul];omega
def Prg.few (p:Prg):Prop:= ∀d ∈ p.data,d.cons.length≤8∧ ∀c ∈ d.cons,c.args.length≤4
theorem cntF_le {p:Prg} (hp:p.few): ∀ (k:Nat) (t:Ty) (n:Nat),n≤7→Ty.cntF p k t n≤cB n
 |0,t,n,_=>Nat.zero_le _
 |k+1, .mk kd m s L ls tl,n,hn=>by
  simp only [Ty.cntF]
  split
  ·exact Nat.zero_le _
  ·split
   ·cases hd:p.datOf s with
    |none=>exact Nat.zero_le _
    |some d=>
     obtain ⟨h8,h4⟩:=hp d (List.mem_of_find?_eq_some hd)
     obtain ⟨m,rfl⟩: ∃m,n=m+1:=⟨n - 1,by omega⟩
     have h1: ∀c ∈ d.cons,togT (Ty.cntF p k) (c.args.map (Ty.rep d.params L)) m≤cB (m+1) / 8:=fun c hc=>by
      have h2:=togT_le (f:=Ty.cntF p k) (l:=c.args.map (Ty.rep d.params L)) (m:=m) fun t j hj=>cntF_le hp k t j (by omega)
      have h3:=tB_fact ⟨c.args.length,by have:=h4 c hc;omega⟩ ⟨m,by omega⟩
      simp only [List.length_map] at h2 h3
      omega
     have h5:=sum_le h1
     have h6:d.cons.length* (cB (m+1) / 8)≤8* (cB (m+1) / 8):=Nat.mul_le_mul_right _ h8
     simp only [Nat.add_sub_cancel]
     omega
   ·split
    ·rename_i h1;subst h1
     split<;>simp [cB]
    ·exact Nat.zero_le _
theorem cnt_le {p:Prg} (hp:p.few) (t:Ty) (n:Nat) (hn:n≤7):t.cnt p n≤cB n:=cntF_le hp n t n hn
theorem cB_le: ∀ (n:Nat),n≤7→cB n≤27262976:=fun n hn=>by
 match n,hn with
 |0,_|1,_|2,_|3,_|4,_|5,_|6,_|7,_=>simp [cB]
theorem tB_le (k m:Nat) (hk:k≤4) (hm:m≤6):tB k m≤27262976:=by
 have h1:=tB_fact ⟨k,by omega⟩ ⟨m,by omega⟩
 have h2:=cB_le (m+1) (by omega)
 simp only at h1
 omega
theorem tog_le {p:Prg} (hp:p.few) (l:List Ty) (hl:l.length≤4) (m:Nat) (hm:m≤6):togT (Ty.cnt p) l m≤27262976:=
 Nat.le_trans (togT_le fun t j hj=>cnt_le hp t j (by omega)) (tB_le _ _ hl hm)
def rowsT (f:Ty→Nat→List Ex):List Ty→Nat→List (List Ex)
 | [],m=>if m=0 then [[]] else []
 |t::r,m=>(List.range m).flatMap fun i=>(f t (i+1)).flatMap fun x=>(rowsT f r (m - (i+1))).map fun l=>x::l
def conV (s:Bs) (l:List Ex):Ex:= .mk 10 0 s [] [] l []
def baseV (kd:Int):List Ex:=if kd=4 then [.mk 3 0 [] [] [] [] []] else [.mk (kd - 1) 0 [] [] [] [] [], .mk (kd - 1) 1 [] [] [] [] []]
def Ty.valF (p:Prg):Nat→Ty→Nat→List Ex
 |0,_,_=>[]
 |k+1, .mk kd _ s L _ _,n=>if n=0 then [] else if kd=6 then (match p.datOf s with
  |some d=>d.cons.flatMap fun c=>(rowsT (Ty.valF p k) (c.args.map (Ty.rep d.params L)) (n - 1)).map (conV c.name)
  |none=>[])
  else if n=1 then baseV kd else []
def Ty.val (p:Prg) (t:Ty) (n:Nat):List Ex:=Ty.valF p n t n
theorem datOf_idx {p:Prg} {s:Bs} {i:Nat} (h:idxOf (fun x:Dat=>x.name==s) p.data=i) (hi:i<p.data.length):p.datOf s=some p.data[i]:=by
 rcases idxOf_find (fun x:Dat=>x.name==s) p.data with ⟨h1,_⟩ | ⟨j,hj,hjl,hf,_⟩
 ·omega
 ·obtain rfl:i=j:=by omega
  exact hf
theorem togT_few {f:Ty→Nat→Nat} : ∀ (l:List Ty) (m:Nat),m<l.length→togT f l m=0
 |t::r,m,h=>by
  simp only [togT]
  have: ∀n,sumTo (fun _=>0) n=0:=fun n=>by induction n with|zero=>rfl|succ n ih=>simp [sumTo,ih]
  rw [←this m]
  refine sumTo_congr fun i hi=> ?_
  rw [togT_few r (m - (i+1)) (by simp at h;omega),Nat.mul_zero]
theorem sumTo_tail {g:Nat→Nat} {a:Nat} : ∀ {b:Nat},a≤b→(∀i,a≤i→i<b→g i=0)→sumTo g b=sumTo g a
 |0,h,_=>by
  obtain rfl:a=0:=by omega
  rfl
 |b+1,h,hz=>by
  rcases Nat.lt_or_ge b a with hlt|hge
  ·obtain rfl:a=b+1:=by omega
   rfl
  ·simp only [sumTo]
   rw [sumTo_tail hge (fun i h1 h2=>hz i h1 (by omega)),hz b hge (by omega)];rfl
theorem sumTo_mono (g:Nat→Nat) {a:Nat} : ∀ {b:Nat},a≤b→sumTo g a≤sumTo g b
 |0,h=>by
  obtain rfl:a=0:=by omega
  exact Nat.le_refl _
 |b+1,h=>by
  rcases Nat.lt_or_ge b a with hlt|hge
  ·obtain rfl:a=b+1:=by omega
   exact Nat.le_refl _
  ·have:=sumTo_mono g hge
   simp only [sumTo];omega
theorem foldS_sum {α:Type} (g:α→Nat): ∀ (l:List α) (i b:Nat),foldS (γ:=Unit) (fun _ c b=> .inl (b+g c)) l i b= .inl (b+ (l.map g).sum)
 | [],i,b=>rfl
 |a::r,i,b=>by simp only [foldS,foldS_sum g r,List.map_cons,List.sum_cons,Nat.add_assoc]
def C119 (p:Prg) (m:CMap) (tb n:Nat):Prop:= ∀ (u:Mt) (cs:List D) (σ:St),u.wf p→u.at σ (.agg cs)→IsT σ tb p m→CI (.fn 119) [.ptr tb 0, .agg cs, .int .i64 n] σ=some (.ret (.int .i64 (u.ty.cnt p n)),σ)
set_option maxHeartbeats 4000000 in
theorem c166 (p:Prg) (m:CMap) (hfew:p.few) (tb K:Nat) (hK:K≤6) (h119: ∀j,j≤K→C119 p m tb j) (ps:List Bs) (ms:List Mt) (wi:Nat): ∀ (args:List Ty),args.length≤4→(∀t ∈ args,(Mt.mk t ps ms).wf p)→ ∀ (M:Nat),M≤K→ ∀ (σ:St),withAt σ ps ms (.ptr wi 0)→IsT σ tb p m→
 CI (.fn 166) [.ptr tb 0, .slice (args.map Ty.d), .ptr wi 0, .int .i64 M] σ=some (.ret (.int .i64 (togT (Ty.cnt p) (args.map (Ty.rep ps (mtsTy ms))) M)),σ)
 | [],_,_,M,hM,σ,hw,hT=>by
  have hτ:bodyI CI XB GI af166 [.ptr tb 0, .slice [], .ptr wi 0, .int .i64 M] σ=some (.ret (.int .i64 (togT (Ty.cnt p) [] M)),σ):=by
   simp only [togT]
   by_cases h0:M=0
   ·subst h0;simp [bodyI,af166]
   ·have h1: ((M:Int) ==0)=false:=by rw [beq_eq_false_iff_ne];omega
    simp [bodyI,af166,h0,h1]
  exact CI_tree0 tab166 hτ rfl rfl
 |t::rest,hl,hwf,M,hM,σ,hw,hT=>by
  have ih:=fun M hM=>c166 p m hfew tb K hK h119 ps ms wi rest (by simp at hl;omega) (fun t ht=>hwf t (List.mem_cons_of_mem _ ht)) M hM σ hw hT
  have hwt:=hwf t List.mem_cons_self
  have hat: (Mt.mk t ps ms).at σ (.agg (t.cs++[.ptr wi 0])):=Mt.at_iff.2 ⟨_,rfl,hw⟩
  have hcnt:=fun j (hj:j≤K)=>h119 j hj _ _ _ hwt hat hT
  have hbound:=tog_le hfew ((t::rest).map (Ty.rep ps (mtsTy ms))) (by simpa using hl) M (by omega)
  simp only [List.map_cons,togT] at hbound ⊢
  have e0: (Mt.mk t ps ms).ty=t.rep ps (mtsTy ms):=by simp only [Mt.ty]
  rw [e0] at hcnt
  have hfew2: ∀i,M - rest.length≤i→i<M→(t.rep ps (mtsTy ms)).cnt p (i+1) *togT (Ty.cnt p) (rest.map (Ty.rep ps (mtsTy ms))) (M - (i+1))=0:=fun i h1 h2=>by
   rw [togT_few _ _ (by rw [List.length_map];omega),Nat.mul_zero]
  have hsum:=sumTo_tail (by omega) hfew2
  have hmono:=fun j (hj:j≤M - rest.length)=>sumTo_mono (fun i=>(t.rep ps (mtsTy ms)).cnt p (i+1) *togT (Ty.cnt p) (rest.map (Ty.rep ps (mtsTy ms))) (M - (i+1))) hj
  rw [hsum] at hbound ⊢
  obtain ⟨k1,m1,s1,a1,b1,t1,hc⟩: ∃k1 m1 s1 a1 b1 t1,t.cs=[.int .i64 k1, .int .i64 m1, .str s1, .slice a1, .slice b1, .int .i64 t1]:=by
   rcases t with ⟨k,n,s,l,ls,tail⟩;exact ⟨_,_,_,_,_,_,by simp only [Ty.cs];rfl⟩
  have hr6: (rest.map Ty.d).all (fun e=>e.cells.length==6)=true:=by
   rw [List.all_eq_true];intro e he
   obtain ⟨x,_,rfl⟩:=List.mem_map.1 he
   simp [Ty.d,D.cells,x.cs_len]
  simp only [D.cells] at hr6
  have hrl: (rest.map Ty.d).length=rest.length:=List.length_map _
  have htd:t.d= .agg t.cs:=rfl
  rw [htd]
  rw [hc] at hcnt ⊢
  simp only [List.cons_append,List.nil_append] at hcnt
  generalize hgd: (fun i=>(t.rep ps (mtsTy ms)).cnt p (i+1) *togT (Ty.cnt p) (rest.map (Ty.rep ps (mtsTy ms))) (M - (i+1)))=g at*
  have hgi: ∀j,g j=(t.rep ps (mtsTy ms)).cnt p (j+1) *togT (Ty.cnt p) (rest.map (Ty.rep ps (mtsTy ms))) (M - (j+1)):=fun j=>by rw [←hgd]
  clear hgd hsum hfew2
  have hit: ∀ (k j:Nat),j+k=M - rest.length→iterI (evalI CI XB GI 49 false lp166_0) [(0, .ptr tb 0),(1, .slice (.agg [.int .i64 k1, .int .i64 m1, .str s1, .slice a1, .slice b1, .int .i64 t1]::rest.map Ty.d)),(2, .ptr wi 0),(3, .int .i64 M),(9, .int .i64 (sumTo g j:Nat)),(10, .int .i64 ((j:Int) +1))] σ=
   some (.exit 0,[(0, .ptr tb 0),(1, .slice (.agg [.int .i64 k1, .int .i64 m1, .str s1, .slice a1, .slice b1, .int .i64 t1]::rest.map Ty.d)),(2, .ptr wi 0),(3, .int .i64 M),(9, .int .i64 (sumTo g (M - rest.length):Nat)),(10, .int .i64 (((M - rest.length:Nat):Int) +1)),(23, .bool false)],σ):=by
   intro k
   induction k with
   |zero=>
    intro j hj
    obtain rfl:j=M - rest.length:=by omega
    refine iterI_end ?_ (by simp)
    have w1:IntKind.i64.wrap (((M - rest.length:Nat):Int) +1+ ((rest.length:Int) +1))=((M - rest.length:Nat):Int) +1+ ((rest.length:Int) +1):=wrap_i64 (by omega) (by simp at hl;omega)
    have w2:IntKind.i64.wrap (((M - rest.length:Nat):Int) +1+ ((rest.length:Int) +1) - 1)=((M - rest.length:Nat):Int) +1+ (rest.length:Int):=by rw [wrap_i64 (by omega) (by simp at hl;omega)];omega
    have w3: ¬(((M - rest.length:Nat):Int) +1+ (rest.length:Int)≤(M:Int)):=by omega
    generalize rest.map Ty.d=rd at*
    simp [lp166_0,hrl,w1,w2,w3]
   |succ k ihk=>
    intro j hj
    have hjM:j+1+rest.length≤M:=by omega
    rw [←ihk (j+1) (by omega)]
    refine iterI_next ?_
    have w1:IntKind.i64.wrap ((j:Int) +1+ ((rest.length:Int) +1))=(j:Int) +1+ ((rest.length:Int) +1):=wrap_i64 (by omega) (by simp at hl;omega)
    have w2:IntKind.i64.wrap ((j:Int) +1+ ((rest.length:Int) +1) - 1)=(j:Int) +1+ (rest.length:Int):=by rw [wrap_i64 (by omega) (by simp at hl;omega)];omega
    have w3: (j:Int) +1+ (rest.length:Int)≤(M:Int):=by omega
    have w4:IntKind.i64.wrap ((j:Int) +1+1)=(j:Int) +1+1:=wrap_i64 (by omega) (by omega)
    have w5:IntKind.i64.wrap ((M:Int) - ((j:Int) +1))=((M - (j+1):Nat):Int):=by rw [wrap_i64 (by omega) (by omega)];omega
    have hc1:=hcnt (j+1) (by omega)
    have ih1:=ih (M - (j+1)) (by omega)
    have hle:=hmono (j+1) (by omega)
    have hg:=hgi j
    have e1: ((j+1:Nat):Int)=(j:Int) +1:=by omega
    rw [e1] at hc1 ⊢
    have hsj:sumTo g (j+1)=sumTo g j+g j:=rfl
    have q119:qI 119=false:=rfl
    generalize rest.map Ty.d=rd at*
    generalize (t.rep ps (mtsTy ms)).cnt p (j+1)=f at*
    generalize togT (Ty.cnt p) (rest.map (Ty.rep ps (mtsTy ms))) (M - (j+1))=c at*
    rw [hsj,hg] at hle ⊢
    generalize sumTo g j=S at*
    have hfc:f*c≤27262976:=by omega
    have hcast: ((f*c:Nat):Int)=(f:Int) * (c:Int):=by simp
    have w6:IntKind.i64.wrap ((f:Int) * (c:Int))=(f:Int) * (c:Int):=by rw [←hcast];exact wrap_i64 (by omega) (by omega)
    have w7:IntKind.i64.wrap ((S:Int) + (f:Int) * (c:Int))=(S:Int) + (f:Int) * (c:Int):=by rw [←hcast];exact wrap_i64 (by omega) (by omega)
    by_cases hf:f=0
    ·subst hf
     simp [lp166_0,hrl,w1,w2,w3,w4,hc1,fillD,putCells]
    ·have hf2:0<f:=by omega
     have hr1: (1:Int)≤(rest.length:Int) +1:=by omega
     have htk:rd.take rest.length=rd:=List.take_of_length_le (by omega)
     simp [lp166_0,hrl,w1,w2,w3,w4,w5,w6,w7,hc1,ih1,hf,hf2,hr1,htk,hr6,bound,fillD,putCells, -List.all_eq_true]
  have hit0:=hit (M - rest.length) 0 (by omega)
  have hτ:bodyI CI XB GI af166 [.ptr tb 0, .slice (.agg [.int .i64 k1, .int .i64 m1, .str s1, .slice a1, .slice b1, .int .i64 t1]::rest.map Ty.d), .ptr wi 0, .int .i64 M] σ=some (.ret (.int .i64 (sumTo g (M - rest.length):Nat)),σ):=by
   simp only [sumTo,Int.natCast_zero,Int.zero_add] at hit0
   have w3: (((rest.length:Int) +1) ==0)=false:=by rw [beq_eq_false_iff_ne];omega
   generalize rest.map Ty.d=rd at*
   simp [bodyI,af166,hrl,w3,hit0]
  exact CI_tree0 tab166 hτ rfl rfl
theorem sum_take_le {α:Type} (g:α→Nat) (l:List α) (i:Nat): ((l.take i).map g).sum≤(l.map g).sum:=by
 conv=>rhs;rw [←List.take_append_drop i l]
 rw [List.map_append,List.sum_append];omega
theorem sum_take_succ {α:Type} (g:α→Nat) (l:List α) (i:Nat) (h:i<l.length): ((l.take (i+1)).map g).sum=((l.take i).map g).sum+g l[i]:=by
 rw [List.take_succ_eq_append_getElem h,List.map_append,List.sum_append];simp
set_option maxHeartbeats 4000000 in
theorem it119 (p:Prg) (m:CMap) (hfew:p.few) (tb n:Nat) (hn:n<7) (h119: ∀j,j≤n→C119 p m tb j) (ps:List Bs) (ms:List Mt) (wi:Nat) (cons:List Con) (hc8:cons.length≤8) (hwf: ∀c ∈ cons,c.args.length≤4∧ ∀t ∈ c.args,(Mt.mk t ps ms).wf p)
 (hB: (cons.map fun c=>togT (Ty.cnt p) (c.args.map (Ty.rep ps (mtsTy ms))) n).sum≤27262976) (σ:St) (hw:withAt σ ps ms (.ptr wi 0)) (hT:IsT σ tb p m) (τ:St):
 ∃τ',iterI (evalI CI XB GI 51 false lp119_0) [(0, .ptr tb 0),(2, .int .i64 ((n:Int) +1)),(8, .ptr wi 0),(9, .int .i64 (0:Nat)),(34, .slice (cons.map Con.d)),(35, .int .i64 cons.length),(36, .int .i64 (0:Nat))] (σ++τ)=
  some (.exit 1,[(0, .ptr tb 0),(2, .int .i64 ((n:Int) +1)),(8, .ptr wi 0),(9, .int .i64 ((cons.map fun c=>togT (Ty.cnt p) (c.args.map (Ty.rep ps (mtsTy ms))) n).sum:Nat)),(34, .slice (cons.map Con.d)),(35, .int .i64 cons.length),(36, .int .i64 cons.length),(37, .bool false)],σ++τ'):=by
 obtain ⟨cd,hcd,hcl,hcg⟩:=opq Con.d cons
 rw [hcd]
 obtain ⟨τ',hit⟩:=loop_foldS (γ:=Unit) (f:=evalI CI XB GI 51 false lp119_0) cons (fun i (b:Nat)=>[(0, .ptr tb 0),(2, .int .i64 ((n:Int) +1)),(8, .ptr wi 0),(9, .int .i64 b),(34, .slice cd),(35, .int .i64 cons.length),(36, .int .i64 (i:Nat))])
  (fun _=>σ) (fun i b=>b=((cons.take i).map fun c=>togT (Ty.cnt p) (c.args.map (Ty.rep ps (mtsTy ms))) n).sum) (fun _ c b=> .inl (b+togT (Ty.cnt p) (c.args.map (Ty.rep ps (mtsTy ms))) n)) (fun _=>(.ret,[])) (fun _=>[])
  (fun b=>(.exit 1,[(0, .ptr tb 0),(2, .int .i64 ((n:Int) +1)),(8, .ptr wi 0),(9, .int .i64 b),(34, .slice cd),(35, .int .i64 cons.length),(36, .int .i64 cons.length),(37, .bool false)])) (by simp) (by simp)
  (fun i hi b b' hb hs=>by
    cases hs
    rw [sum_take_succ _ _ _ hi,hb])
  (fun i hi b τ hb=>by
    have hwr:=wrap_nat (n:=i) (by omega)
    obtain ⟨g2,g3⟩:=hcg i hi
    have hii: (i:Int) <cons.length:=by omega
    obtain ⟨h4,hwf4⟩:=hwf _ (List.getElem_mem hi)
    have hle:=sum_take_le (fun c:Con=>togT (Ty.cnt p) (c.args.map (Ty.rep ps (mtsTy ms))) n) cons (i+1)
    rw [sum_take_succ _ _ _ hi,←hb] at hle
    refine ⟨τ++[.box cons[i].cs], ?_⟩
    have h166:=c166 p m hfew tb n (by omega) h119 ps ms wi cons[i].args h4 hwf4 n (Nat.le_refl _) (σ++τ++[.box cons[i].cs]) hw.app.app hT.app.app
    rw [←List.append_assoc]
    have hc2:cons[i].cs=[.str cons[i].name, .slice (cons[i].args.map Ty.d)]:=by unfold Con.cs;rw [tysD_map]
    have hdd:cons[i].d= .agg [.str cons[i].name, .slice (cons[i].args.map Ty.d)]:=by rw [←hc2];rfl
    rw [hdd] at g3
    rw [hc2] at h166 ⊢
    generalize cons[i].args.map Ty.d=ad at*
    generalize togT (Ty.cnt p) (cons[i].args.map (Ty.rep ps (mtsTy ms))) n=v at*
    generalize σ++τ=σ1 at*
    have w1:IntKind.i64.wrap ((n:Int) +1 - 1)=(n:Int):=by rw [wrap_i64 (by omega) (by omega)];omega
    have w1':IntKind.i64.wrap (n:Int)=(n:Int):=wrap_i64 (by omega) (by omega)
    have w2:IntKind.i64.wrap ((b:Int) + (v:Int))=(b:Int) + (v:Int):=wrap_i64 (by omega) (by omega)
    simp [lp119_0,hi,hii,hwr,hcl,g2,g3,getA0,getA,setA0,setA,h166,w1,w1',w2,putCells])
  (fun b τ hb=>⟨τ,by simp [lp119_0,hcl]⟩) 0 τ (by simp)
 rw [foldS_sum,Nat.zero_add] at hit
 exact ⟨τ',hit⟩
set_option maxHeartbeats 4000000 in
theorem c119 (p:Prg) (m:CMap) (hdl:p.data.length≤12) (hls: ∀d ∈ p.data,d.fit p) (hfew:p.few) (tb:Nat): ∀ (n:Nat),n≤7→C119 p m tb n:=by
 intro n
 induction n using Nat.strongRecOn with
 |ind n IH=>
 intro hn u cs σ hwf hat hT
 obtain ⟨cs',hat',h124⟩:=c124 p u hwf σ cs hat
 obtain ⟨nwf,nk⟩:=u.now_wf hwf
 have hty:=u.now_ty hwf
 obtain ⟨_,hxx,c1,c3⟩:=Mt.at_agg hat
 cases hxx
 have c2:cs.take 7=cs:=List.take_of_length_le (by omega)
 have c4:cs.drop 7=[]:=List.drop_of_length_le (by omega)
 suffices h: ∃τ,bodyI CI XB GI af119 [.ptr tb 0, .agg cs, .int .i64 n] σ=some (.ret (.int .i64 (u.ty.cnt p n)),σ++τ) by
  obtain ⟨τ,h⟩:=h
  exact CI_tree tab119 h rfl rfl
 rw [←hty]
 generalize u.now=u' at*
 rcases u' with ⟨⟨tk,tn,ts,L,tls,ttl⟩,ps,ml⟩
 simp only at nk
 obtain ⟨w,hc,hw⟩:=Mt.at_iff.1 hat'
 cases hc
 have hnc: (Ty.mk tk tn ts L tls ttl).cs++[w]=[.int .i64 tk, .int .i64 tn, .str ts, .slice (tysD L), .slice (tls.map Lab.d), .int .i64 ttl,w]:=by simp only [Ty.cs];rfl
 have h124:=fun τ=>h124 (σ++τ) τ rfl
 have hwf2:w= .nilptr∨ ∃a,w= .ptr a 0:=hw.elim (fun h=> .inl h.1) fun ⟨a,_,_,h,_⟩=> .inr ⟨a,h⟩
 simp only [Mt.ty,Ty.rep_np _ _ nk]
 obtain ⟨nsm,nord,npl,nm4,nml⟩:=nwf
 by_cases t6:tk=6
 rotate_left
 ·rw [cnt_base p t6]
  have n6: (tk != 6)=true:=by simpa using t6
  rw [hnc] at h124
  refine ⟨[.box [.int .i64 tk, .int .i64 tn, .str ts, .slice (tysD L), .slice (tls.map Lab.d), .int .i64 ttl,w]], ?_⟩
  by_cases n1:n=1
  ·subst n1
   by_cases t4:tk=4
   ·subst t4
    rcases hwf2 with rfl| ⟨wa,rfl⟩<;>simp [bodyI,af119,getA0,getA,setA0,setA,c1,c2,c3,c4,h124,putCells]
   ·have b4: (tk==4)=false:=by simpa using t4
    rcases hwf2 with rfl| ⟨wa,rfl⟩<;>simp [bodyI,af119,getA0,getA,setA0,setA,c1,c2,c3,c4,h124,putCells,n6,t4,b4]
  ·have b1: ((n:Int) != 1)=true:=by simp;omega
   rcases hwf2 with rfl| ⟨wa,rfl⟩<;>simp [bodyI,af119,getA0,getA,setA0,setA,c1,c2,c3,c4,h124,putCells,n6,n1,b1]
 subst t6
 rcases n with _|n
 ·rw [hnc] at h124
  refine ⟨[.box [.int .i64 6, .int .i64 tn, .str ts, .slice (tysD L), .slice (tls.map Lab.d), .int .i64 ttl,w]], ?_⟩
  rw [cnt_zero]
  rcases hwf2 with rfl| ⟨wa,rfl⟩<;>simp [bodyI,af119,getA0,getA,setA0,setA,c1,c2,c3,c4,h124,putCells]
 obtain ⟨nod,nop⟩:=ord_parts nord
 obtain ⟨i,hix,_,hi,hlen⟩:=ord_data nod
 have hdo:=datOf_idx hix hi
 rw [cnt_data p hdo]
 have hin1:=inner_wf npl nm4 nml L (fun y hy=>⟨tysSmall_mem nsm.2.2.2 hy,nop y hy⟩)
 obtain ⟨τ,h125,hwith⟩:=c125 p m hdl 6 tn ts L tls ttl ps ml nsm.1 (fun y hy=>mtsWf_mem hin1 (List.mem_map_of_mem (f:=fun t=>Mt.mk t ps ml) hy)) _ tb i hi hix (σ++[.box ((Ty.mk 6 tn ts L tls ttl).cs++[w])]) hT.app (Mt.at_app _ _ hat')
 have hl2: (σ++[Obj.box ((Ty.mk 6 tn ts L tls ttl).cs++[w])]).length=σ.length+1:=by simp
 rw [hl2] at h125 hwith
 have hdf:=hls _ (List.getElem_mem hi)
 have hfd:=hfew _ (List.getElem_mem hi)
 have hnowT:mtsTy ((inner ps ml L).map Mt.now)=L.map (Ty.rep ps (mtsTy ml)):=by
  rw [←inner_ty,mtsTy_map,mtsTy_map,List.map_map]
  exact List.map_congr_left fun y hy=>y.now_ty (mtsWf_mem hin1 hy)
 have hnowW:mtsWf p ((inner ps ml L).map Mt.now):=by
  have: ∀ (l:List Mt),mtsWf p l→mtsWf p (l.map Mt.now):=fun l=>by
   induction l with
   |nil=>exact fun _=>trivial
   |cons a r ih=>exact fun h=>⟨(a.now_wf h.1).1,ih h.2⟩
  exact this _ hin1
 have hB:=Nat.le_trans (cnt_le hfew (.mk 6 tn ts (L.map (Ty.rep ps (mtsTy ml))) tls ttl) (n+1) hn) (cB_le _ hn)
 rw [cnt_data p hdo] at hB
 obtain ⟨τ',hit⟩:=it119 p m hfew tb n (by omega) (fun j hj=>IH j (by omega) (by omega)) p.data[i].params ((inner ps ml L).map Mt.now) (σ.length+1+2) p.data[i].cons hfd.1
  (fun c hc=>⟨(hfd.2 c hc),fun t ht=>mtsWf_mem (inner_wf (p:=p) (ps:=p.data[i].params) (ml:=(inner ps ml L).map Mt.now) (by rw [List.length_map,inner_len];exact hlen) (by rw [List.length_map,inner_len];exact nsm.1) hnowW c.args (hdf.2.2 c hc).2) (List.mem_map_of_mem (f:=fun t=>Mt.mk t p.data[i].params ((inner ps ml L).map Mt.now)) ht)⟩)
  (by rw [hnowT];exact hB) _ hwith hT.app.app []
 rw [hnowT,List.append_nil,Int.natCast_zero] at hit
 refine ⟨[.box ((Ty.mk 6 tn ts L tls ttl).cs++[w])]++τ++τ', ?_⟩
 rw [←List.append_assoc,←List.append_assoc]
 generalize (p.data[i].cons.map fun c=>togT (Ty.cnt p) (c.args.map (Ty.rep p.data[i].params (L.map (Ty.rep ps (mtsTy ml))))) n).sum=v at*
 have hcl: (p.data[i].cons.map Con.d).length=p.data[i].cons.length:=List.length_map _
 clear IH hwith hat hat' hwf hT
 generalize hσ3:σ++[Obj.box ((Ty.mk 6 tn ts L tls ttl).cs++[w])]++τ=σ3 at*
 rw [hnc] at h124 h125
 clear hσ3
 generalize p.data[i].cons.map Con.d=cd at*
 have w1: ¬((n:Int) +1<1):=by omega
 rcases hwf2 with rfl| ⟨wa,rfl⟩<;>simp [bodyI,af119,getA0,getA,setA0,setA,c1,c2,c3,c4,h124,h125,putCells,hcl,hit,w1]
mutual
def Ty.ff (p:Prg) (A:Nat→Prop):Ty→Prop
 | .mk k _ s l _ _=>k≠5∧(k=6→A (datIx p s))∧tysFf p A l
def tysFf (p:Prg) (A:Nat→Prop):List Ty→Prop
 | []=>True
 |t::r=>t.ff p A∧tysFf p A r
end
theorem tysFf_iff {p:Prg} {A:Nat→Prop} : ∀ {l:List Ty},tysFf p A l↔ ∀t ∈ l,t.ff p A
 | []=>by simp [tysFf]
 |t::r=>by simp [tysFf,tysFf_iff (l:=r)]
mutual
theorem Ty.ff_mono {p:Prg} {A B:Nat→Prop} (h: ∀i,A i→B i): ∀ (t:Ty),t.ff p A→t.ff p B
 | .mk k _ s l _ _,hf=>by
  simp only [Ty.ff] at hf ⊢
  exact ⟨hf.1,fun h6=>h _ (hf.2.1 h6),tysFf_mono h l hf.2.2⟩
theorem tysFf_mono {p:Prg} {A B:Nat→Prop} (h: ∀i,A i→B i): ∀ (l:List Ty),tysFf p A l→tysFf p B l
 | [],_=>trivial
 |t::r,hf=>⟨t.ff_mono h hf.1,tysFf_mono h r hf.2⟩
end
def Dat.ff (p:Prg) (A:Nat→Prop) (d:Dat):Prop:= ∀c ∈ d.cons,∀a ∈ c.args,a.ff p A
def closedA (p:Prg) (A:Nat→Prop):Prop:= ∀i (hi:i<p.data.length),A i→p.data[i].ff p A
def noFun (p:Prg) (t:Ty):Prop:= ∃A,closedA p A∧t.ff p A
def setB (S:Nat→Bool) (i:Nat):Nat→Bool:=fun j=>S j||j==i
def unseen (S:Nat→Bool):Nat:=(List.range 12).countP fun j=> !S j
def incl (S S':Nat→Bool):Prop:= ∀i,S i=true→S' i=true
def newA (p:Prg) (S S':Nat→Bool):Prop:= ∀i (hi:i<p.data.length),S' i=true→S i=false→p.data[i].ff p (fun j=>S' j=true)
theorem countP_le {α:Type} {P Q:α→Bool} : ∀ (l:List α),(∀a ∈ l,P a=true→Q a=true)→l.countP P≤l.countP Q:=fun l h=>List.countP_mono_left h
theorem unseen_le {S S':Nat→Bool} (h:incl S S'):unseen S'≤unseen S:=countP_le _ fun a _ ha=>by
 cases hs:S a with
 |false=>rfl
 |true=>rw [h a hs] at ha;cases ha
theorem countP_lt {S:Nat→Bool} {i:Nat} (hs:S i=false): ∀ (l:List Nat),i ∈ l→(l.countP fun j=> !setB S i j) +1≤l.countP fun j=> !S j
 |a::r,hm=>by
  have hle: (r.countP fun j=> !setB S i j)≤r.countP fun j=> !S j:=countP_le _ fun a _ ha=>by
   unfold setB at ha
   cases hs:S a with
   |false=>rfl
   |true=>rw [hs] at ha;cases ha
  simp only [List.countP_cons]
  by_cases hai:a=i
  ·subst hai
   have h1:setB S a a=true:=by unfold setB;simp
   simp only [h1,hs]
   simp;exact hle
  ·have hm':i ∈ r:=by
    cases hm with
    |head=>exact absurd rfl hai
    |tail _ h=>exact h
   have:=countP_lt hs r hm'
   have h1:setB S i a=S a:=by unfold setB;simp [hai]
   rw [h1]
   omega
theorem unseen_lt {S:Nat→Bool} {i:Nat} (hs:S i=false) (hi:i<12):unseen (setB S i) +1≤unseen S:=countP_lt hs _ (List.mem_range.2 hi)
theorem incl_set (S:Nat→Bool) (i:Nat):incl S (setB S i):=fun j h=>by unfold setB;rw [h];rfl
theorem incl.trans {S S' S'':Nat→Bool} (h:incl S S') (h':incl S' S''):incl S S'':=fun i hi=>h' i (h i hi)
theorem newA.trans {p:Prg} {S S' S'':Nat→Bool} (h:newA p S S') (h':newA p S' S'') (hi2:incl S' S''):newA p S S'':=fun i hi h2 h0=>by
 cases hs:S' i with
 |false=>exact h' i hi h2 hs
 |true=>exact fun c hc a ha=>Ty.ff_mono (fun j hj=>hi2 j hj) a (h i hi hs h0 c hc a ha)
theorem newA_self (p:Prg) (S:Nat→Bool):newA p S S:=fun i _ h1 h2=>by rw [h1] at h2;cases h2
def postF (p:Prg) (S:Nat→Bool) (good: (Nat→Prop)→Prop) (r:Bool) (S':Nat→Bool):Prop:=
 incl S S'∧(r=false→good (fun j=>S' j=true)∧newA p S S')∧(r=true→ ∀A,closedA p A→ ¬good A)
def seenC (S:Nat→Bool):List D:=(List.range 12).map fun j=> .int .i64 (if S j then 1 else 0)
theorem seenC_len (S:Nat→Bool): (seenC S).length=12:=by simp [seenC]
theorem seenC_get (S:Nat→Bool) (i:Nat) (hi:i<12): (seenC S)[i]? =some (.int .i64 (if S i then 1 else 0)):=by
 unfold seenC
 rw [List.getElem?_map,List.getElem?_range hi];rfl
theorem seenC_set (S:Nat→Bool) (i:Nat): (seenC S).set i (.int .i64 1)=seenC (setB S i):=by
 refine List.ext_getElem? fun j=> ?_
 rw [List.getElem?_set]
 by_cases hj:j<12
 ·rw [seenC_get _ j hj,seenC_get _ j hj]
  by_cases h:i=j
  ·subst h
   simp [seenC_len,hj,setB]
  ·have h1:setB S i j=S j:=by unfold setB;simp;exact fun h'=>absurd h'.symm h
   rw [if_neg h,h1]
 ·have h1: ∀S,(seenC S)[j]? =none:=fun S=>List.getElem?_eq_none (by rw [seenC_len];omega)
  rw [h1,h1]
  split
  ·rw [if_neg (by rw [seenC_len];omega)]
  ·rfl
abbrev stS (σ:St) (q:Nat) (S:Nat→Bool):St:=σ.set q (.box (seenC S))
theorem loop_ff {α:Type} {f:Env→St→Option (AExit × Env × St)} (p:Prg) (l:List α) (good:α→(Nat→Prop)→Prop) (gm: ∀a ∈ l,∀A B:Nat→Prop,(∀i,A i→B i)→good a A→good a B) (σ:St) (q:Nat) (E:Nat→Env) (Y:AExit × Env) (hY:Y.1≠ .normal) (N:Nat)
 (h: ∀j (hj:j<l.length) (S:Nat→Bool) (τ:St),unseen S≤N→ ∃r S' τ',f (E j) (stS σ q S++τ)=some (if r then (.ret,[(6, .bool true)],stS σ q S'++τ') else (.normal,E (j+1),stS σ q S'++τ'))∧postF p S (good l[j]) r S')
 (hf: ∀S τ,f (E l.length) (stS σ q S++τ)=some (Y.1,Y.2,stS σ q S++τ)):
 ∀ (k j:Nat),j+k=l.length→ ∀ (S:Nat→Bool) (τ:St),unseen S≤N→ ∃r S' τ',iterI f (E j) (stS σ q S++τ)=some (if r then (.ret,[(6, .bool true)],stS σ q S'++τ') else (Y.1,Y.2,stS σ q S'++τ'))∧postF p S (fun A=> ∀a ∈ l.drop j,good a A) r S'
 |0,j,hj,S,τ,hS=>by
  obtain rfl:j=l.length:=by omega
  refine ⟨false,S,τ,iterI_end (hf S τ) hY,fun _ h=>h,fun _=>⟨?_,newA_self p S⟩,fun h=>by cases h⟩
  rw [List.drop_length]
  intro a ha;cases ha
 |k+1,j,hj,S,τ,hS=>by
  have hlt:j<l.length:=by omega
  obtain ⟨r,S1,τ1,h1,a1,a2,a3⟩:=h j hlt S τ hS
  rw [List.drop_eq_getElem_cons hlt]
  cases r with
  |true=>
   refine ⟨true,S1,τ1,iterI_end h1 (by simp),a1,fun h=>(by cases h),fun _ A hA hg=>a3 rfl A hA (hg _ List.mem_cons_self)⟩
  |false=>
   obtain ⟨r,S',τ',h2,b1,b2,b3⟩:=loop_ff p l good gm σ q E Y hY N h hf k (j+1) (by omega) S1 τ1 (Nat.le_trans (unseen_le a1) hS)
   simp only [Bool.false_eq_true,if_false] at h1
   refine ⟨r,S',τ',by rw [iterI_next h1];exact h2,a1.trans b1,fun hr=> ?_,fun hr A hA hg=>b3 hr A hA fun a ha=>hg a (List.mem_cons_of_mem _ ha)⟩
   obtain ⟨c1,c2⟩:=a2 rfl
   obtain ⟨d1,d2⟩:=b2 hr
   refine ⟨fun a ha=> ?_,c2.trans d2 b1⟩
   cases ha with
   |head=>exact gm _ (List.getElem_mem hlt) _ _ (fun i hi=>b1 i hi) c1
   |tail _ ha=>exact d1 a ha
theorem IsT.setS {σ:St} {tb:Nat} {p:Prg} {m:CMap} {q:Nat} {S:Nat→Bool} {o:Obj} (h:IsT σ tb p m) (hq:σ[q]? =some (.box (seenC S))):IsT (σ.set q o) tb p m:=by
 obtain ⟨j,h1,h2⟩:=h
 have n1:q≠tb:=by
  rintro rfl
  rw [hq] at h1
  have:=congrArg List.length (Obj.box.inj (Option.some.inj h1))
  rw [seenC_len,List.length_append,p.cs_len] at this
  simp at this
 have n2:q≠j:=by
  rintro rfl
  rw [hq] at h2;cases h2
 exact ⟨j,by rw [List.getElem?_set_ne n1];exact h1,by rw [List.getElem?_set_ne n2];exact h2⟩
def C118 (p:Prg) (m:CMap) (tb q N:Nat) (t:Ty):Prop:= ∀ (S:Nat→Bool),unseen S≤N→ ∀ (σ:St),IsT σ tb p m→σ[q]? =some (.box (seenC S))→
 ∃r S',CI (.fn 118) [.ptr tb 0, .agg t.cs, .ptr q 0] σ=some (.ret (.bool r),stS σ q S')∧postF p S (fun A=>t.ff p A) r S'
theorem stS_get {σ:St} {q:Nat} {S:Nat→Bool} {τ:St} (hq:q<σ.length): (stS σ q S++τ)[q]? =some (.box (seenC S)):=getSs hq
theorem stS_set {σ:St} {q:Nat} {S S':Nat→Bool} {τ:St} (hq:q<σ.length):stS (stS σ q S++τ) q S'=stS σ q S'++τ:=setSs hq
theorem rd_ff (p:Prg) (m:CMap) (tb q N:Nat) (t:Ty) (ht:C118 p m tb q N t) (σ:St) (hq:q<σ.length) (hT: ∀S τ,IsT (stS σ q S++τ) tb p m) (S:Nat→Bool) (τ:St) (hS:unseen S≤N):
 ∃r S',CI (.fn 118) [.ptr tb 0, .agg t.cs, .ptr q 0] (stS σ q S++τ)=some (.ret (.bool r),stS σ q S'++τ)∧postF p S (fun A=>t.ff p A) r S':=by
 obtain ⟨r,S',h1,h2⟩:=ht S hS (stS σ q S++τ) (hT S τ) (stS_get hq)
 rw [stS_set hq] at h1
 exact ⟨r,S',h1,h2⟩
set_option maxHeartbeats 2000000 in
theorem it118_0 (p:Prg) (m:CMap) (tb q N:Nat) (l:List Ty) (hl:l.length≤4) (d4:D) (hh: ∀t ∈ l,C118 p m tb q N t) (σ:St) (hq:q<σ.length) (hT: ∀S τ,IsT (stS σ q S++τ) tb p m) (S:Nat→Bool) (τ:St) (hS:unseen S≤N):
 ∃r S' τ',iterI (evalI CI XB GI 73 false lp118_0) [(0, .ptr tb 0),(2, .ptr q 0),(4,d4),(18, .slice (l.map Ty.d)),(19, .int .i64 l.length),(20, .int .i64 (0:Nat))] (stS σ q S++τ)=
  some (if r then (.ret,[(6, .bool true)],stS σ q S'++τ') else (.exit 0,[(0, .ptr tb 0),(2, .ptr q 0),(4,d4),(18, .slice (l.map Ty.d)),(19, .int .i64 l.length),(20, .int .i64 l.length),(21, .bool false)],stS σ q S'++τ'))∧postF p S (fun A=> ∀t ∈ l,t.ff p A) r S':=by
 obtain ⟨ld,hld,hll,hlg⟩:=opq Ty.d l
 rw [hld]
 exact loop_ff (f:=evalI CI XB GI 73 false lp118_0) p l (fun t A=>t.ff p A) (fun a _ A B h=>a.ff_mono h) σ q (fun j=>[(0, .ptr tb 0),(2, .ptr q 0),(4,d4),(18, .slice ld),(19, .int .i64 l.length),(20, .int .i64 (j:Nat))])
  (.exit 0,[(0, .ptr tb 0),(2, .ptr q 0),(4,d4),(18, .slice ld),(19, .int .i64 l.length),(20, .int .i64 l.length),(21, .bool false)]) (by simp) N
  (fun j hj S τ hS=>by
    obtain ⟨r,S',h1,h2⟩:=rd_ff p m tb q N l[j] (hh _ (List.getElem_mem hj)) σ hq hT S (τ++[.box l[j].cs]) hS
    refine ⟨r,S',τ++[.box l[j].cs], ?_,h2⟩
    simp only [←List.append_assoc] at h1 ⊢
    have hw:=wrap_nat (n:=j) (by omega)
    obtain ⟨g2,g3⟩:=hlg j hj
    have hjj: (j:Int) <l.length:=by omega
    have y1:=l[j].cs_len
    have y2:=l[j].cs_take
    have y3:l[j].cs.all D.one=true:=by cases l[j];rfl
    unfold Ty.d at g3
    clear h2 hh hT hS
    generalize l[j].cs=xc at*
    generalize stS σ q S++τ=σ1 at*
    generalize stS σ q S'++τ=σ2 at*
    cases r<;>simp [lp118_0,hj,hjj,hw,hll,g2,g3,y1,y2,y3,getA0,getA,setA0,setA,h1,putCells])
  (fun S τ=>by simp [lp118_0,hll]) l.length 0 (by omega) S τ hS
set_option maxHeartbeats 2000000 in
theorem it118_1 (p:Prg) (m:CMap) (tb q N:Nat) (l:List Ty) (hl:l.length≤4) (d54 d55 d56:D) (hh: ∀t ∈ l,C118 p m tb q N t) (σ:St) (hq:q<σ.length) (hT: ∀S τ,IsT (stS σ q S++τ) tb p m) (S:Nat→Bool) (τ:St) (hS:unseen S≤N):
 ∃r S' τ',iterI (evalI CI XB GI 73 false lp118_1) [(0, .ptr tb 0),(2, .ptr q 0),(54,d54),(55,d55),(56,d56),(61, .slice (l.map Ty.d)),(62, .int .i64 l.length),(63, .int .i64 (0:Nat))] (stS σ q S++τ)=
  some (if r then (.ret,[(6, .bool true)],stS σ q S'++τ') else (.exit 4,[(0, .ptr tb 0),(2, .ptr q 0),(54,d54),(55,d55),(56,d56),(61, .slice (l.map Ty.d)),(62, .int .i64 l.length),(63, .int .i64 l.length),(64, .bool false)],stS σ q S'++τ'))∧postF p S (fun A=> ∀t ∈ l,t.ff p A) r S':=by
 obtain ⟨ld,hld,hll,hlg⟩:=opq Ty.d l
 rw [hld]
 exact loop_ff (f:=evalI CI XB GI 73 false lp118_1) p l (fun t A=>t.ff p A) (fun a _ A B h=>a.ff_mono h) σ q (fun j=>[(0, .ptr tb 0),(2, .ptr q 0),(54,d54),(55,d55),(56,d56),(61, .slice ld),(62, .int .i64 l.length),(63, .int .i64 (j:Nat))])
  (.exit 4,[(0, .ptr tb 0),(2, .ptr q 0),(54,d54),(55,d55),(56,d56),(61, .slice ld),(62, .int .i64 l.length),(63, .int .i64 l.length),(64, .bool false)]) (by simp) N
  (fun j hj S τ hS=>by
    obtain ⟨r,S',h1,h2⟩:=rd_ff p m tb q N l[j] (hh _ (List.getElem_mem hj)) σ hq hT S (τ++[.box l[j].cs]) hS
    refine ⟨r,S',τ++[.box l[j].cs], ?_,h2⟩
    simp only [←List.append_assoc] at h1 ⊢
    have hw:=wrap_nat (n:=j) (by omega)
    obtain ⟨g2,g3⟩:=hlg j hj
    have hjj: (j:Int) <l.length:=by omega
    have y1:=l[j].cs_len
    have y2:=l[j].cs_take
    have y3:l[j].cs.all D.one=true:=by cases l[j];rfl
    unfold Ty.d at g3
    clear h2 hh hT hS
    generalize l[j].cs=xc at*
    generalize stS σ q S++τ=σ1 at*
    generalize stS σ q S'++τ=σ2 at*
    cases r<;>simp [lp118_1,hj,hjj,hw,hll,g2,g3,y1,y2,y3,getA0,getA,setA0,setA,h1,putCells])
  (fun S τ=>by simp [lp118_1,hll]) l.length 0 (by omega) S τ hS
set_option maxHeartbeats 2000000 in
theorem it118_2 (p:Prg) (m:CMap) (tb q N:Nat) (l:List Con) (hl:l.length≤100) (hh: ∀c ∈ l,c.args.length≤4∧ ∀t ∈ c.args,C118 p m tb q N t) (σ:St) (hq:q<σ.length) (hT: ∀S τ,IsT (stS σ q S++τ) tb p m) (S:Nat→Bool) (τ:St) (hS:unseen S≤N):
 ∃r S' τ',iterI (evalI CI XB GI 73 false lp118_2) [(0, .ptr tb 0),(2, .ptr q 0),(54, .slice (l.map Con.d)),(55, .int .i64 l.length),(56, .int .i64 (0:Nat))] (stS σ q S++τ)=
  some (if r then (.ret,[(6, .bool true)],stS σ q S'++τ') else (.exit 2,[(0, .ptr tb 0),(2, .ptr q 0),(54, .slice (l.map Con.d)),(55, .int .i64 l.length),(56, .int .i64 l.length),(57, .bool false)],stS σ q S'++τ'))∧postF p S (fun A=> ∀c ∈ l,∀t ∈ c.args,t.ff p A) r S':=by
 obtain ⟨ld,hld,hll,hlg⟩:=opq Con.d l
 rw [hld]
 exact loop_ff (f:=evalI CI XB GI 73 false lp118_2) p l (fun c A=> ∀t ∈ c.args,t.ff p A) (fun a _ A B h hg t ht=>t.ff_mono h (hg t ht)) σ q (fun j=>[(0, .ptr tb 0),(2, .ptr q 0),(54, .slice ld),(55, .int .i64 l.length),(56, .int .i64 (j:Nat))])
  (.exit 2,[(0, .ptr tb 0),(2, .ptr q 0),(54, .slice ld),(55, .int .i64 l.length),(56, .int .i64 l.length),(57, .bool false)]) (by simp) N
  (fun j hj S τ hS=>by
    obtain ⟨h4,hh⟩:=hh _ (List.getElem_mem hj)
    obtain ⟨r,S',τ',h1,h2⟩:=it118_1 p m tb q N l[j].args h4 (.slice ld) (.int .i64 l.length) (.int .i64 (j:Nat)) hh σ hq hT S (τ++[.box l[j].cs]) hS
    refine ⟨r,S',τ', ?_,h2⟩
    have hc2:l[j].cs=[.str l[j].name, .slice (l[j].args.map Ty.d)]:=by unfold Con.cs;rw [tysD_map]
    have hdd:l[j].d= .agg [.str l[j].name, .slice (l[j].args.map Ty.d)]:=by rw [←hc2];rfl
    rw [←List.append_assoc,hc2,Int.natCast_zero] at h1
    have hw:=wrap_nat (n:=j) (by omega)
    obtain ⟨g2,g3⟩:=hlg j hj
    have hjj: (j:Int) <l.length:=by omega
    rw [hdd] at g3
    have hal: (l[j].args.map Ty.d).length=l[j].args.length:=List.length_map _
    clear h2 hh hT hS
    generalize l[j].args.map Ty.d=ad at*
    generalize stS σ q S++τ=σ1 at*
    generalize stS σ q S'++τ'=σ2 at*
    cases r<;>simp [lp118_2,hj,hjj,hw,hll,g2,g3,hal,getA0,getA,setA0,setA,h1,putCells])
  (fun S τ=>by simp [lp118_2,hll]) l.length 0 (by omega) S τ hS
theorem stS_self {σ:St} {q:Nat} {S:Nat→Bool} (hq:σ[q]? =some (.box (seenC S))):stS σ q S=σ:=by
 obtain ⟨h1,h2⟩:=List.getElem?_eq_some_iff.1 hq
 unfold stS
 rw [←h2];exact List.set_getElem_self h1
set_option maxHeartbeats 4000000 in
theorem c118_step (p:Prg) (m:CMap) (hdl:p.data.length≤12) (hls: ∀d ∈ p.data,d.fit p) (tb q N:Nat) (hN: ∀N',N'<N→ ∀ (t:Ty) (params:List Bs),t.small→t.ord p params=0→C118 p m tb q N' t):
 ∀ (t:Ty) (params:List Bs),t.small→t.ord p params=0→C118 p m tb q N t
 | .mk k n s l ls tail,params,hsm,hord=>fun S hS σ hT hq=>by
  have ih:=fun y (hy:y ∈ l)=>c118_step p m hdl hls tb q N hN y params (tysSmall_mem hsm.2.2.2 hy) ((ord_parts hord).2 y hy)
  have hql:=lt_of_get hq
  have hcs: (Ty.mk k n s l ls tail).cs=[.int .i64 k, .int .i64 n, .str s, .slice (l.map Ty.d), .slice (ls.map Lab.d), .int .i64 tail]:=by simp only [Ty.cs,tysD_map]
  have hTS: ∀S τ,IsT (stS σ q S++τ) tb p m:=fun S τ=>(hT.setS hq).app
  have hsl: ∀S:Nat→Bool,(stS σ q S).length=σ.length:=fun S=>by simp
  have hfin: ∀ (r:Bool) (S':Nat→Bool) (τ:St),bodyI CI XB GI af118 [.ptr tb 0, .agg (Ty.mk k n s l ls tail).cs, .ptr q 0] σ=some (.ret (.bool r),stS σ q S'++τ)→CI (.fn 118) [.ptr tb 0, .agg (Ty.mk k n s l ls tail).cs, .ptr q 0] σ=some (.ret (.bool r),stS σ q S'):=fun r S' τ h=>by
   refine CI_fn tab118 h ?_
   rw [postI_set (by
    simp only [Obj.under]
    refine treeL_under _ ?_
    have: ∀l:List Nat,treeL (l.map fun j=>D.int .i64 (if S' j then 1 else 0))=true:=fun l=>by
     induction l with
     |nil=>rfl
     |cons a r ih=>simp only [List.map_cons,treeL,D.tree,ih,Bool.and_self]
    exact this _) rfl rfl]
   simp [D.weak]
  rw [hcs] at hfin ⊢
  by_cases k5:k=5
  ·subst k5
   refine ⟨true,S,hfin true S [.box [.int .i64 5, .int .i64 n, .str s, .slice (l.map Ty.d), .slice (ls.map Lab.d), .int .i64 tail]] ?_,fun _ h=>h,fun h=>(by cases h),fun _ A _ hg=> ?_⟩
   ·rw [stS_self hq]
    simp [bodyI,af118,getA0,getA]
   ·simp only [Ty.ff] at hg;exact hg.1 rfl
  have b5: (k==5)=false:=by simpa using k5
  have hb0: ∀S τ,stS (σ++[.box [.int .i64 k, .int .i64 n, .str s, .slice (l.map Ty.d), .slice (ls.map Lab.d), .int .i64 tail]]) q S++τ=stS σ q S++([.box [.int .i64 k, .int .i64 n, .str s, .slice (l.map Ty.d), .slice (ls.map Lab.d), .int .i64 tail]]++τ):=fun S τ=>by
   unfold stS;rw [setO hql,List.append_assoc]
  have hTS0: ∀S τ,IsT (stS (σ++[.box [.int .i64 k, .int .i64 n, .str s, .slice (l.map Ty.d), .slice (ls.map Lab.d), .int .i64 tail]]) q S++τ) tb p m:=fun S τ=>by rw [hb0];exact hTS _ _
  have hq0:q< (σ++[Obj.box [.int .i64 k, .int .i64 n, .str s, .slice (l.map Ty.d), .slice (ls.map Lab.d), .int .i64 tail]]).length:=by simp;omega
  obtain ⟨r,S1,τ1,hit,hp1,hp2,hp3⟩:=it118_0 p m tb q N l hsm.1 (.ptr σ.length 0) ih _ hq0 hTS0 S [] hS
  rw [List.append_nil,show stS (σ++[.box [.int .i64 k, .int .i64 n, .str s, .slice (l.map Ty.d), .slice (ls.map Lab.d), .int .i64 tail]]) q S=σ++[.box [.int .i64 k, .int .i64 n, .str s, .slice (l.map Ty.d), .slice (ls.map Lab.d), .int .i64 tail]] by
   have:=hb0 S [];rw [List.append_nil,List.append_nil,stS_self hq] at this;exact this,Int.natCast_zero,hb0] at hit
  have hll: (l.map Ty.d).length=l.length:=List.length_map _
  have hx1: ∀S τ,(stS σ q S++([.box [.int .i64 k, .int .i64 n, .str s, .slice (l.map Ty.d), .slice (ls.map Lab.d), .int .i64 tail]]++τ))[σ.length]? =some (.box [.int .i64 k, .int .i64 n, .str s, .slice (l.map Ty.d), .slice (ls.map Lab.d), .int .i64 tail]):=fun S τ=>by rw [←hsl S];exact getA0
  cases r with
  |true=>
   refine ⟨true,S1,hfin true S1 ([.box [.int .i64 k, .int .i64 n, .str s, .slice (l.map Ty.d), .slice (ls.map Lab.d), .int .i64 tail]]++τ1) ?_,hp1,fun h=>(by cases h),fun _ A hA hg=>hp3 rfl A hA ?_⟩
   ·clear hTS hfin hTS0 hb0 hx1
    generalize stS σ q S1++_=σ1 at*
    generalize l.map Ty.d=ld at*
    simp [bodyI,af118,getA0,getA,b5,hll,hit]
   ·simp only [Ty.ff] at hg;exact tysFf_iff.1 hg.2.2
  |false=>
  simp only [Bool.false_eq_true,if_false] at hit
  obtain ⟨g1,g2⟩:=hp2 rfl
  by_cases k6:k=6
  rotate_left
  ·have n6: (k != 6)=true:=by simpa using k6
   refine ⟨false,S1,hfin false S1 ([.box [.int .i64 k, .int .i64 n, .str s, .slice (l.map Ty.d), .slice (ls.map Lab.d), .int .i64 tail]]++τ1) ?_,hp1,fun _=>⟨?_,g2⟩,fun h=>(by cases h)⟩
   ·have hx1:=hx1 S1 τ1
    clear hTS hfin hTS0 hb0
    generalize stS σ q S1++_=σ1 at*
    generalize l.map Ty.d=ld at*
    simp [bodyI,af118,getA0,getA,b5,hll,hit,hx1,n6]
   ·simp only [Ty.ff];exact ⟨k5,fun h=>absurd h k6,tysFf_iff.2 g1⟩
  subst k6
  obtain ⟨nod,nop⟩:=ord_parts hord
  obtain ⟨i,hix,hdx,hi,hlen⟩:=ord_data nod
  have h117:=fun σ hT=>c117 p m (by unfold maxL;omega) s tb σ hT
  rw [hix] at h117
  have hTa:=hTS S1 ([.box [.int .i64 6, .int .i64 n, .str s, .slice (l.map Ty.d), .slice (ls.map Lab.d), .int .i64 tail]]++τ1)
  have h117:=h117 _ hTa
  have hqa: (stS σ q S1++([.box [.int .i64 6, .int .i64 n, .str s, .slice (l.map Ty.d), .slice (ls.map Lab.d), .int .i64 tail]]++τ1))[q]? =some (.box (seenC S1)):=getSs hql
  have hseen:=seenC_get S1 i (by omega)
  have hsl12:=seenC_len S1
  have hi12: (i:Int) <12:=by omega
  have hi0: (0:Int)≤i:=by omega
  have hhd: (List.drop i (seenC S1)).head?=some (.int .i64 (if S1 i then 1 else 0)):=by rw [List.head?_drop];exact hseen
  have hx1:=hx1 S1 τ1
  cases hs:S1 i with
  |true=>
   rw [hs] at hseen hhd
   refine ⟨false,S1,hfin false S1 ([.box [.int .i64 6, .int .i64 n, .str s, .slice (l.map Ty.d), .slice (ls.map Lab.d), .int .i64 tail]]++τ1) ?_,hp1,fun _=>⟨?_,g2⟩,fun h=>(by cases h)⟩
   ·clear hTS hfin hTS0 hb0 hTa
    generalize stS σ q S1++_=σ1 at*
    generalize l.map Ty.d=ld at*
    generalize seenC S1=sc at*
    simp [bodyI,af118,getA0,getA,hll,hit,hx1,h117,hqa,hi12,hi0,hseen,hhd,hsl12]
   ·simp only [Ty.ff];exact ⟨by decide,fun _=>by rw [hdx];exact hs,tysFf_iff.2 g1⟩
  |false=>
   rw [hs] at hseen hhd
   have hu:=unseen_lt hs (by omega)
   have hu1:=unseen_le hp1
   have hdf:=hls _ (List.getElem_mem hi)
   obtain ⟨r,S2,τ2,hit2,hq1,hq2,hq3⟩:=it118_2 p m tb q (unseen (setB S1 i)) p.data[i].cons hdf.2.1 (fun c hc=>⟨(hdf.2.2 c hc).1,fun t ht=>hN _ (by omega) t _ ((hdf.2.2 c hc).2 t ht).1 ((hdf.2.2 c hc).2 t ht).2⟩) σ hql hTS (setB S1 i) ([.box [.int .i64 6, .int .i64 n, .str s, .slice (l.map Ty.d), .slice (ls.map Lab.d), .int .i64 tail]]++τ1) (Nat.le_refl _)
   rw [Int.natCast_zero] at hit2
   have hset: (stS σ q S1++([Obj.box [.int .i64 6, .int .i64 n, .str s, .slice (l.map Ty.d), .slice (ls.map Lab.d), .int .i64 tail]]++τ1)).set q (.box (List.take i (seenC S1)++ .int .i64 1::List.drop (i+1) (seenC S1)))=stS σ q (setB S1 i)++([.box [.int .i64 6, .int .i64 n, .str s, .slice (l.map Ty.d), .slice (ls.map Lab.d), .int .i64 tail]]++τ1):=by
    have e:List.take i (seenC S1)++ .int .i64 1::List.drop (i+1) (seenC S1)=(seenC S1).set i (.int .i64 1):=by
     rw [List.set_eq_take_append_cons_drop,if_pos (by omega)]
    rw [e,seenC_set];exact stS_set hql
   have hi12':i+1≤12:=by omega
   have hTb:=hTS (setB S1 i) ([.box [.int .i64 6, .int .i64 n, .str s, .slice (l.map Ty.d), .slice (ls.map Lab.d), .int .i64 tail]]++τ1)
   obtain ⟨j,hT1,_⟩:=hTb
   obtain ⟨ld,hld,hll2,hlg⟩:=opq Dat.d p.data
   obtain ⟨f2,f3⟩:=hlg i hi
   have hii: (i:Int) <p.data.length:=by omega
   have hhd2: (p.cs++[D.map j]).head?=some (.slice ld):=by rw [p.cs_eq,←hld];rfl
   have hdd:p.data[i].d= .agg [.str p.data[i].name,slD p.data[i].params, .slice (p.data[i].cons.map Con.d)]:=rfl
   rw [hdd] at f3
   have hcl: (p.data[i].cons.map Con.d).length=p.data[i].cons.length:=List.length_map _
   have hbody:bodyI CI XB GI af118 [.ptr tb 0, .agg [.int .i64 6, .int .i64 n, .str s, .slice (l.map Ty.d), .slice (ls.map Lab.d), .int .i64 tail], .ptr q 0] σ=some (.ret (.bool r),stS σ q S2++τ2):=by
    clear hTS hfin hTS0 hb0 hTa hq1 hq2 hq3
    generalize stS σ q (setB S1 i)++_=σ2 at*
    generalize stS σ q S1++_=σ1 at*
    generalize stS σ q S2++τ2=σ3 at*
    generalize l.map Ty.d=td at*
    generalize p.data[i].cons.map Con.d=cd at*
    generalize seenC S1=sc at*
    generalize p.cs++[D.map j]=pc at*
    cases r<;>simp [bodyI,af118,getA0,getA,hll,hit,hx1,h117,hqa,hi12,hi0,hseen,hhd,hsl12,hi12',hset,hT1,hhd2,hll2,hi,hii,f2,f3,hcl,hit2]
   refine ⟨r,S2,hfin r S2 τ2 hbody,hp1.trans ((incl_set S1 i).trans hq1),fun hr=> ?_,fun hr A hA hg=> ?_⟩
   ·obtain ⟨c1,c2⟩:=hq2 hr
    have hmono:=fun (j:Nat) (h:S1 j=true)=>hq1 j (incl_set S1 i j h)
    refine ⟨?_,fun j hj h2 h0=> ?_⟩
    ·simp only [Ty.ff]
     refine ⟨by decide,fun _=>by rw [hdx];exact hq1 i (by unfold setB;simp),tysFf_iff.2 fun t ht=>t.ff_mono (fun j h=>hmono j h) (g1 t ht)⟩
    ·cases hs1:S1 j with
     |true=>exact fun c hc a ha=>a.ff_mono (fun j h=>hmono j h) (g2 j hj hs1 h0 c hc a ha)
     |false=>
      by_cases hji:j=i
      ·subst hji;exact c1
      ·exact c2 j hj h2 (by unfold setB;rw [hs1];simp [hji])
   ·simp only [Ty.ff] at hg
    have hAi:A i:=by rw [←hdx];exact hg.2.1 trivial
    exact hq3 hr A hA (hA i hi hAi)
theorem c118 (p:Prg) (m:CMap) (hdl:p.data.length≤12) (hls: ∀d ∈ p.data,d.fit p) (tb q:Nat): ∀ (N:Nat) (t:Ty) (params:List Bs),t.small→t.ord p params=0→C118 p m tb q N t:=by
 intro N
 induction N using Nat.strongRecOn with
 |ind N IH=>exact c118_step p m hdl hls tb q N IH
open Classical in
noncomputable def Prg.hasF (p:Prg) (t:Ty):Bool:= !decide (noFun p t)
theorem c118_top (p:Prg) (m:CMap) (hdl:p.data.length≤12) (hls: ∀d ∈ p.data,d.fit p) (tb q:Nat) (t:Ty) (hsm:t.small) (ho:t.ord p []=0) (σ:St) (hT:IsT σ tb p m) (hq:σ[q]? =some (.box (seenC fun _=>false))):
 ∃S',CI (.fn 118) [.ptr tb 0, .agg t.cs, .ptr q 0] σ=some (.ret (.bool (p.hasF t)),stS σ q S'):=by
 obtain ⟨r,S',h1,_,h2,h3⟩:=c118 p m hdl hls tb q _ t [] hsm ho (fun _=>false) (Nat.le_refl _) σ hT hq
 refine ⟨S', ?_⟩
 have:p.hasF t=r:=by
  unfold Prg.hasF
  cases r with
  |true=>
   have: ¬noFun p t:=fun ⟨A,hA,hg⟩=>h3 rfl A hA hg
   simp [this]
  |false=>
   obtain ⟨g1,g2⟩:=h2 rfl
   have:noFun p t:=⟨fun j=>S' j=true,fun i hi hA=>g2 i hi hA rfl,g1⟩
   simp [this]
 rw [this];exact h1
end Go.AI
namespace Go.AI
open Go Go.Proofs Go.Lx
set_option maxRecDepth 100000
end Go.AI
