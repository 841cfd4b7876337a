/- Texts of the proof: what functions of the program compute, step by step. No conditions of its own. -/
import Derived.Test.YtgenoggafhhgfaaGreatDoorH7
import Derived.Test.YtgenoggafhhgfaaGreatDoorH5
import Derived.Lib.MapLaws
import Derived.Test.YtgenoggafhhgfaaGreatDoorTie
import Derived.Test.YtgenoggafhhgfaaGreatDoorCards
import Derived.ProofKit
import Derived.OpenShut
import Derived.ShutString
import Derived.LaidMore
import Derived.Lay
import Derived.SevenTiedAt
import Derived.Stop.Joined
import Derived.Stop.LaidErr
import Derived.MakeChecks
import Derived.Lib.LaidTab
import Derived.SizedLaws
import Derived.ChangeOld
import Derived.ChangeArms
import Derived.Below
set_option linter.unusedVariables false
set_option linter.unusedSimpArgs false
namespace Go.AI
open Go Go.Proofs
set_option maxRecDepth 100000
theorem RU: ∀p ∈ m14,jc aW (bt L95) GC 14 p.1 p.2:=by
 intro p hp
 unfold m14 at hp
 simp only [List.mem_cons,List.not_mem_nil,or_false] at hp
 rcases hp with rfl|rfl
 ·exact bg NJ
 ·exact bg NQ
theorem N2:Real Tryz.prog 14:=⟨_,Tryz.func14,by kernel_rfl,by kernel_rfl⟩
def L14:iU:=(14,memo m14)::L95
theorem N3:dI Tryz.prog GC (bt L14):=dI.over gN gN N2 (cE RU)
theorem RV: ∀p ∈ m15,jc aW (bt L95) GC 15 p.1 p.2:=by
 intro p hp
 unfold m15 at hp
 simp only [List.mem_cons,List.not_mem_nil,or_false] at hp
 subst hp
 exact bg NW
theorem N4:Real Tryz.prog 15:=⟨_,Tryz.func15,by kernel_rfl,by kernel_rfl⟩
def L15:iU:=(15,memo m15)::L14
theorem N5:dI Tryz.prog GC (bt L15):=dI.over gN N3 N4 (cE RV)
theorem RW: ∀p ∈ m20,jc aW (bt L95) GC 20 p.1 p.2:=by
 intro p hp
 unfold m20 at hp
 simp only [List.mem_cons,List.not_mem_nil,or_false] at hp
 rcases hp with rfl|rfl
 ·exact bg NK
 ·exact bg NR
theorem N6:Real Tryz.prog 20:=⟨_,Tryz.func20,by kernel_rfl,by kernel_rfl⟩
def L20:iU:=(20,memo m20)::L15
theorem N7:dI Tryz.prog GC (bt L20):=dI.over gN N5 N6 (cE RW)
theorem RX: ∀p ∈ m22,jc aW (bt L95) GC 22 p.1 p.2:=by
 intro p hp
 unfold m22 at hp
 simp only [List.mem_cons,List.not_mem_nil,or_false] at hp
 rcases hp with rfl|rfl
 ·exact bg NX
 ·exact bg NL
theorem N8:Real Tryz.prog 22:=⟨_,Tryz.func22,by kernel_rfl,by kernel_rfl⟩
def L22:iU:=(22,memo m22)::L20
theorem N9:dI Tryz.prog GC (bt L22):=dI.over gN N7 N8 (cE RX)
theorem RY: ∀p ∈ m24,jc aW (bt L95) GC 24 p.1 p.2:=by
 intro p hp
 unfold m24 at hp
 simp only [List.mem_cons,List.not_mem_nil,or_false] at hp
 subst hp
 exact bg NS
theorem Oa:Real Tryz.prog 24:=⟨_,Tryz.func24,by kernel_rfl,by kernel_rfl⟩
def L24:iU:=(24,memo m24)::L22
theorem Ob:dI Tryz.prog GC (bt L24):=dI.over gN N9 Oa (cE RY)
theorem RZ: ∀p ∈ m26,jc aW (bt L95) GC 26 p.1 p.2:=by
 intro p hp
 unfold m26 at hp
 simp only [List.mem_cons,List.not_mem_nil,or_false] at hp
 subst hp
 exact bg NY
theorem Oc:Real Tryz.prog 26:=⟨_,Tryz.func26,by kernel_rfl,by kernel_rfl⟩
def L26:iU:=(26,memo m26)::L24
theorem Od:dI Tryz.prog GC (bt L26):=dI.over gN Ob Oc (cE RZ)
theorem R0: ∀p ∈ m30,jc aW (bt L95) GC 30 p.1 p.2:=by
 intro p hp
 unfold m30 at hp
 simp only [List.mem_cons,List.not_mem_nil,or_false] at hp
 subst hp
 exact bg NM
theorem Oe:Real Tryz.prog 30:=⟨_,Tryz.func30,by kernel_rfl,by kernel_rfl⟩
def L30:iU:=(30,memo m30)::L26
theorem Of:dI Tryz.prog GC (bt L30):=dI.over gN Od Oe (cE R0)
theorem R1: ∀p ∈ m32,jc aW (bt L95) GC 32 p.1 p.2:=by
 intro p hp
 unfold m32 at hp
 simp only [List.mem_cons,List.not_mem_nil,or_false] at hp
 subst hp
 exact bg NT
theorem Og:Real Tryz.prog 32:=⟨_,Tryz.func32,by kernel_rfl,by kernel_rfl⟩
def L32:iU:=(32,memo m32)::L30
theorem Oh:dI Tryz.prog GC (bt L32):=dI.over gN Of Og (cE R1)
theorem R3: ∀p ∈ m34,jc aW (bt L95) GC 34 p.1 p.2:=by
 intro p hp
 unfold m34 at hp
 simp only [List.mem_cons,List.not_mem_nil,or_false] at hp
 subst hp
 exact bg NZ
theorem Oi:Real Tryz.prog 34:=⟨_,Tryz.func34,by kernel_rfl,by kernel_rfl⟩
def L34:iU:=(34,memo m34)::L32
theorem Oj:dI Tryz.prog GC (bt L34):=dI.over gN Oh Oi (cE R3)
theorem R4: ∀p ∈ m36,jc aW (bt L95) GC 36 p.1 p.2:=by
 intro p hp
 unfold m36 at hp
 simp only [List.mem_cons,List.not_mem_nil,or_false] at hp
 subst hp
 exact bg NN
theorem Ok:Real Tryz.prog 36:=⟨_,Tryz.func36,by kernel_rfl,by kernel_rfl⟩
def L36:iU:=(36,memo m36)::L34
theorem Ol:dI Tryz.prog GC (bt L36):=dI.over gN Oj Ok (cE R4)
theorem R5: ∀p ∈ m38,jc aW (bt L95) GC 38 p.1 p.2:=by
 intro p hp
 unfold m38 at hp
 simp only [List.mem_cons,List.not_mem_nil,or_false] at hp
 rcases hp with rfl|rfl|rfl|rfl|rfl
 ·exact bg NU
 ·exact bg N0
 ·exact bg NO
 ·exact bg NV
 ·exact bg N1
theorem Om:Real Tryz.prog 38:=⟨_,Tryz.func38,by kernel_rfl,by kernel_rfl⟩
def L38:iU:=(38,memo m38)::L36
theorem On:dI Tryz.prog GC (bt L38):=dI.over gN Ol Om (cE R5)
theorem R6: ∀p ∈ m40,jc aW (bt L95) GC 40 p.1 p.2:=by
 intro p hp
 unfold m40 at hp
 simp only [List.mem_cons,List.not_mem_nil,or_false] at hp
 subst hp
 exact bg NP
theorem Oo:Real Tryz.prog 40:=⟨_,Tryz.func40,by kernel_rfl,by kernel_rfl⟩
def L40:iU:=(40,memo m40)::L38
theorem Oq:dI Tryz.prog GC (bt L40):=dI.over gN On Oo (cE R6)
def XM:iU:=L40
theorem R7:dI Tryz.prog GC (bt XM):=Oq
theorem R8:vE aW (bt XM) GC 60 16 []=some (.bool true):=by kernel_rfl
theorem Ot:Real Tryz.prog 16:=⟨_,Tryz.func16,by kernel_rfl,by kernel_rfl⟩
theorem Ou:fo Tryz.prog GC 16 [] (.bool true):=(qs R7 My Cm.tree Cm.Ng Cm.post mixed R8).2.2
def qI (f:FuncId):Bool:=[117,101,123,195].contains f
noncomputable def nD (f:FuncId) (σ:St) (x:Option (dJ × St)):Option (dJ × St):=if (f==196)=true then x else eA qI f σ x
noncomputable def GI:Gl:= {g:=vR,nat:=fun _=>none,catches:=IU,query:=qI,post:=nD}
theorem FO:kF GI:=by
 have hI:kF ({GI with post:=eA qI} :Gl):=Fu rfl
 constructor
 ·intro f σ x r σ' hx
  have hx:nD f σ x=some (r,σ'):=hx
  unfold nD at hx
  split at hx
  ·exact ⟨r,σ',hx,fun _ _ _ _ _ h=>h⟩
  ·exact hI.sound f σ x r σ' hx
 ·intro f σ x d σ' hq hx
  have hx:nD f σ x=some (.ret d,σ'):=hx
  unfold nD at hx
  split at hx
  ·rename_i hf
   have:f=196:=by simpa using hf
   subst this
   cases hq
  ·exact hI.query f σ x d σ' hq hx
theorem I0:IsG GI:=⟨rfl,rfl,rfl,FO⟩
@[simp] theorem R9:GI.g=vR:=rfl
@[simp] theorem Sa (f:FuncId):GI.nat f=none:=rfl
@[simp] theorem Ro:GI.post=nD:=rfl
@[simp] theorem QY:GI.query=qI:=rfl
def g16:List D->Option D
 | []=>some (.bool true)
 |_=>none
def XI:iU:=[(16,g16),(222,Cl)]
theorem QZ:dI Tryz.prog GI (bt XI):=by
 refine dI.cons (dI.cons (L:=[]) (fun f g h=>by cases h) Dx (Dw I0)) Ot fun args r _ h=> ?_
 unfold g16 at h
 split at h
 ·cases h;exact ⟨rfl,Ou⟩
 ·cases h
noncomputable abbrev CI:cC:=jq aW (bt XI) GI
abbrev XB:FuncId->Bool:=fun f=>(bt XI f).isSome
theorem uq (f:FuncId) (σ:St):GI.post f σ none=none:=by
 show nD f σ none=none
 unfold nD;split<;>rfl
theorem uy {f:FuncId} (h: (f==16)=false/\(f==222)=false:=by exact ⟨rfl,rfl⟩):bt XI f=none:=by
 simp only [beq_eq_false_iff_ne,ne_eq] at h
 simp [bt,XI,h.1,h.2]
def okF (f:FuncId):Prop:=((f==16)=false/\(f==222)=false)/\(f==196)=false
theorem yy {af:aF} (hT:aW 196=some af) {args:List D} {σ:St} {y:dJ × St} (h:ah CI XB GI af args σ=some y):CI (.fn 196) args σ=some y:=
 A3 uq (uy ⟨rfl,rfl⟩) hT h rfl
theorem dj {f:FuncId} {af:aF} (hT:aW f=some af) {args:List D} {σ:St} {x y:dJ × St} (h:ah CI XB GI af args σ=some y) (hp:eA qI f σ (some y)=some x)
 (hx:okF f:=by exact ⟨⟨rfl,rfl⟩,rfl⟩):CI (.fn f) args σ=some x:=
 A3 uq (uy hx.1) hT h (by show nD f σ _=_;unfold nD;rw [if_neg (by rw [hx.2];exact Bool.false_ne_true)];exact hp)
theorem aR {f:FuncId} {af:aF} (hT:aW f=some af) {args:List D} {σ τ:St} {d r:D} (h:ah CI XB GI af args σ=some (.ret d,σ++τ)) (hd:d.tree=true) (hr:d.weak=r)
 (hx:okF f:=by exact ⟨⟨rfl,rfl⟩,rfl⟩):CI (.fn f) args σ=some (.ret r,σ):=
 dj hT h (by rw [og hd,hr]) hx
theorem br {f:FuncId} {af:aF} (hT:aW f=some af) {args:List D} {σ:St} {d r:D} (h:ah CI XB GI af args σ=some (.ret d,σ)) (hd:d.tree=true) (hr:d.weak=r)
 (hx:okF f:=by exact ⟨⟨rfl,rfl⟩,rfl⟩):CI (.fn f) args σ=some (.ret r,σ):=
 dj hT h (by rw [A6 hd,hr]) hx
structure Lab where
 s:Bs
 n:Int
inductive Ty where
 |mk (kind n:Int) (s:Bs) (l:List Ty) (labels:List Lab) (tail:Int)
mutual
inductive Ex where
 |mk (kind n:Int) (s t:Bs) (names:List Bs) (l:List Ex) (aV:List Arm)
inductive Arm where
 |mk (op:Bs) (names:List Bs) (body:Ex)
end
structure Con where
 name:Bs
 args:List Ty
structure Dat where
 name:Bs
 params:List Bs
 cons:List Con
structure Opn where
 name:Bs
 arg:Ty
 res:Ty
 once:Bool
structure Eff where
 name:Bs
 ops:List Opn
structure Dfn where
 name:Bs
 body:Ex
structure Prg where
 data:List Dat
 aA:List Eff
 defs:List Dfn
 main:Ex
def Lab.d (x:Lab):D:= .agg [.str x.s, .int .i64 x.n]
mutual
def Ty.cs:Ty->List D
 | .mk k n s l labels tail=>[.int .i64 k, .int .i64 n, .str s, .slice (aT l), .slice (labels.map Lab.d), .int .i64 tail]
def aT:List Ty->List D
 | []=>[]
 |t::r=> .agg t.cs::aT r
end
def Ty.d (t:Ty):D:= .agg t.cs
mutual
def Ex.cs:Ex->List D
 | .mk k n s t names l aV=>[.int .i64 k, .int .i64 n, .str s, .str t,slD names, .slice (aX l), .slice (dx aV)]
def aX:List Ex->List D
 | []=>[]
 |x::r=> .agg x.cs::aX r
def Arm.cs:Arm->List D
 | .mk op names body=> .str op::slD names::body.cs
def dx:List Arm->List D
 | []=>[]
 |x::r=> .agg x.cs::dx r
end
def Ex.d (x:Ex):D:= .agg x.cs
def Arm.d (x:Arm):D:= .agg x.cs
def Con.cs (c:Con):List D:=[.str c.name, .slice (aT c.args)]
def Con.d (c:Con):D:= .agg c.cs
def Dat.cs (d:Dat):List D:=[.str d.name,slD d.params, .slice (d.cons.map Con.d)]
def Dat.d (d:Dat):D:= .agg d.cs
def Opn.cs (o:Opn):List D:= .str o.name::(o.arg.cs++o.res.cs++[.bool o.once])
def Opn.d (o:Opn):D:= .agg o.cs
def Eff.cs (e:Eff):List D:=[.str e.name, .slice (e.ops.map Opn.d)]
def Eff.d (e:Eff):D:= .agg e.cs
def Dfn.cs (d:Dfn):List D:= .str d.name::d.body.cs
def Dfn.d (d:Dfn):D:= .agg d.cs
def Prg.cs (p:Prg):List D:=[.slice (p.data.map Dat.d), .slice (p.aA.map Eff.d), .slice (p.defs.map Dfn.d)]++p.main.cs
def Prg.d (p:Prg):D:= .agg p.cs
theorem bS: ∀ (l:List Ty),aT l=l.map Ty.d
 | []=>rfl
 |t::r=>by simp only [aT,List.map_cons,bS r];rfl
theorem bI: ∀ (l:List Ex),aX l=l.map Ex.d
 | []=>rfl
 |t::r=>by simp only [aX,List.map_cons,bI r];rfl
theorem jG: ∀ (l:List Arm),dx l=l.map Arm.d
 | []=>rfl
 |t::r=>by simp only [dx,List.map_cons,jG r];rfl
def Plain (d:D):Prop:=d.tree=true/\d.weak=d
theorem cR (s:Bs):Plain (.str s):=⟨rfl,rfl⟩
theorem iJ (k:IntKind) (n:Int):Plain (.int k n):=⟨rfl,rfl⟩
theorem Cn (b:Bool):Plain (.bool b):=⟨rfl,rfl⟩
def bA (l:List D):Prop:=bW l=true/\dU l=l
theorem bA.nil:bA []:=⟨rfl,rfl⟩
theorem bA.cons {d:D} {l:List D} (h:Plain d) (hl:bA l):bA (d::l):=⟨by simp [bW,h.1,hl.1],by simp [dU,h.2,hl.2]⟩
theorem bA.app {a b:List D} (ha:bA a) (hb:bA b):bA (a++b):=by
 induction a with
 |nil=>exact hb
 |cons x a ih=>
  obtain ⟨h1,h2⟩:=ha
  simp only [bW,Bool.and_eq_true,dU,List.cons.injEq] at h1 h2
  exact bA.cons ⟨h1.1,h2.1⟩ (ih ⟨h1.2,h2.2⟩)
theorem bA.slice {l:List D} (h:bA l):Plain (.slice l):=⟨h.1,by simp only [D.weak,h.2]⟩
theorem bA.agg {l:List D} (h:bA l):Plain (.agg l):=⟨h.1,by simp only [D.weak,h.2]⟩
theorem bA.map {α:Type} {f:α->D} {l:List α} (h: ∀x ∈ l,Plain (f x)):bA (l.map f):=by
 induction l with
 |nil=>exact .nil
 |cons a r ih=>exact .cons (h a List.mem_cons_self) (ih fun x hx=>h x (List.mem_cons_of_mem _ hx))
theorem fQ (l:List Bs):Plain (slD l):=(bA.map fun x _=>cR x).slice
theorem Lab.plain (x:Lab):Plain x.d:=bA.agg (.cons (cR _) (.cons (iJ _ _) .nil))
mutual
theorem Ty.plain: ∀ (t:Ty),bA t.cs
 | .mk k n s l labels tail=> .cons (iJ _ _) (.cons (iJ _ _) (.cons (cR _) (.cons (iE l).slice (.cons (bA.map fun x _=>x.plain).slice (.cons (iJ _ _) .nil)))))
theorem iE: ∀ (l:List Ty),bA (aT l)
 | []=> .nil
 |t::r=> .cons t.plain.agg (iE r)
end
mutual
theorem Ex.plain: ∀ (t:Ex),bA t.cs
 | .mk k n s t names l aV=> .cons (iJ _ _) (.cons (iJ _ _) (.cons (cR _) (.cons (cR _) (.cons (fQ _) (.cons (bu l).slice (.cons (vT aV).slice .nil))))))
theorem bu: ∀ (l:List Ex),bA (aX l)
 | []=> .nil
 |t::r=> .cons t.plain.agg (bu r)
theorem Arm.plain: ∀ (t:Arm),bA t.cs
 | .mk op names body=> .cons (cR _) (.cons (fQ _) body.plain)
theorem vT: ∀ (l:List Arm),bA (dx l)
 | []=> .nil
 |t::r=> .cons t.plain.agg (vT r)
end
theorem Con.plain (c:Con):Plain c.d:=bA.agg (.cons (cR _) (.cons (iE _).slice .nil))
theorem Dat.plain (d:Dat):Plain d.d:=bA.agg (.cons (cR _) (.cons (fQ _) (.cons (bA.map fun c _=>c.plain).slice .nil)))
theorem Opn.plain (o:Opn):Plain o.d:=bA.agg (.cons (cR _) (.app (.app o.arg.plain o.res.plain) (.cons (Cn _) .nil)))
theorem Eff.plain (e:Eff):Plain e.d:=bA.agg (.cons (cR _) (.cons (bA.map fun c _=>c.plain).slice .nil))
theorem Dfn.plain (d:Dfn):Plain d.d:=bA.agg (.cons (cR _) d.body.plain)
theorem Prg.plain (p:Prg):Plain p.d:=bA.agg (.app (.cons (bA.map fun c _=>c.plain).slice (.cons (bA.map fun c _=>c.plain).slice (.cons (bA.map fun c _=>c.plain).slice .nil))) p.main.plain)
def aQ:Nat:=8796093021952
def cT (l:List Bs) (s:Bs):Int:=match l.findIdx? (· ==s) with|some i=>i|none=> -1
theorem Pd (l:List Bs) (s:Bs) (σ:St) (hl:l.length<=aQ):CI (.fn 152) [slD l, .str s] σ=some (.ret (.int .i64 (cT l s)),σ):=by
 unfold aQ at hl
 refine br BH (d:= .int .i64 (cT l s)) ?_ rfl rfl
 have hit:=cK (f:=aD CI XB GI 19 false iA) (σ:=σ) l (fun i=>[(0,slD l),(1, .str s),(5, .int .i64 (i:Nat))]) (· ==s) (fun i=>(.ret,[(4, .int .i64 (i:Nat))],σ)) (.exit 0,[(0,slD l),(1, .str s),(5, .int .i64 l.length),(9, .bool false)],σ) (by simp) (by simp)
  (fun i hi=>by
    have hw:=aI (n:=i) (by omega)
    cases hb:l[i] ==s<;>simp [iA,hi,hw,hb]) (by
    simp [iA])
 rw [Int.natCast_zero] at hit
 unfold cT
 cases hf:l.findIdx? (· ==s)<;>(rw [hf] at hit;simp [ah,wT,hit])
theorem Sc (l:List Bs) (s:Bs) (σ:St) (hl:l.length<=aQ):CI (.fn 122) [slD l, .str s] σ=some (.ret (.bool (decide (0<=cT l s))),σ):=by
 refine br BI (d:= .bool (decide (0<=cT l s))) ?_ rfl rfl
 simp [ah,wU,Pd l s σ hl]
theorem c89 (l:List Bs) (s:Bs) (σ:St) (hl:l.length<=aQ):CI (.fn 89) [slD l, .str s] σ=some (.ret (.int .i64 (cT l s)),σ):=by
 unfold aQ at hl
 refine br FG (d:= .int .i64 (cT l s)) ?_ rfl rfl
 have hit:=cK (f:=aD CI XB GI 19 false kI) (σ:=σ) l (fun i=>[(0,slD l),(1, .str s),(7, .int .i64 l.length),(8, .int .i64 (i:Nat))]) (· ==s) (fun i=>(.ret,[(4, .int .i64 (i:Nat))],σ)) (.exit 0,[(0,slD l),(1, .str s),(7, .int .i64 l.length),(8, .int .i64 l.length),(9, .bool false)],σ) (by simp) (by simp)
  (fun i hi=>by
    have hw:=aI (n:=i) (by omega)
    have hc: (s==l[i])=(l[i] ==s):=BEq.comm
    cases hb:l[i] ==s<;>simp [kI,hi,hw,hb,hc]) (by
    simp [kI])
 rw [Int.natCast_zero] at hit
 unfold cT
 cases hf:l.findIdx? (· ==s)<;>(rw [hf] at hit;simp [ah,Eb,hit])
theorem Sd (l:List Bs) (s:Bs) (σ:St) (hl:l.length<=aQ):CI (.fn 111) [slD l, .str s] σ=some (.ret (.bool (decide (0<=cT l s))),σ):=by
 refine br Ci (d:= .bool (decide (0<=cT l s))) ?_ rfl rfl
 simp [ah,xO,c89 l s σ hl]
theorem p5 (n a b:Int) (σ:St):CI (.fn 157) [.int .i64 n, .int .i64 a, .int .i64 b] σ=some (.ret (.bool (decide (a<=n)&&decide (n<=b))),σ):=by
 refine br MM (d:= .bool (decide (a<=n)&&decide (n<=b))) ?_ rfl rfl
 by_cases h1:a<=n<;>simp [ah,Dk,h1]
theorem Ed (n a b:Int) (σ:St):CI (.fn 198) [.int .i64 n, .int .i64 a, .int .i64 b] σ=some (.ret (.bool (decide (a<=n)&&decide (n<=b))),σ):=by
 refine br M3 (d:= .bool (decide (a<=n)&&decide (n<=b))) ?_ rfl rfl
 by_cases h1:a<=n<;>simp [ah,Dt,h1]
end Go.AI
namespace Go.Lx
abbrev Bs:=List UInt8
def I1 (c:UInt8):Bool:=c==32||c==9||c==10
def mq (c:UInt8):Bool:=c==95|| (97<=c&&c<=122)
def zo (c:UInt8):Bool:=65<=c&&c<=90
def JS (c:UInt8):Bool:=48<=c&&c<=57
def isW (c:UInt8):Bool:=mq c||zo c||JS c
def kind (c:UInt8):Int:=if I1 c then 1 else if mq c then 2 else if zo c then 3 else if JS c then 4 else 0
def kws:List Bs:=[[102,117,110],[108,101,116],[114,101,99],[105,110],[105,102],[116,104,101,110],[101,108,115,101],[109,97,116,99,104],[100,111],
 [104,97,110,100,108,101],[115,104,97,108,108,111,119],[110,97,109,101,100],[109,97,115,107],[117,115,105,110,103],[99,108,111,115,101],
 [114,101,115,117,109,101],[100,114,111,112],[114,101,116,117,114,110],[116,114,117,101],[102,97,108,115,101],[100,97,116,97],[101,102,102,101,99,116],
 [111,110,99,101],[100,101,102],[109,97,105,110]]
def isKey (s:Bs):Bool:=kws.contains s
def iq (p:UInt8->Bool) (s:Bs):Bool:=match s with
 | []=>false
 |c::r=>decide (r.length<12)&&p c&&(c::r).all isW
def m8 (s:Bs):Bool:=iq mq s&& !isKey s
def upW (s:Bs):Bool:=iq zo s
def qz (n:Int):Int:=if (n==32) || (n==9) || (n==10) then 1 else if (n==95) || (decide (97<=n)&&decide (n<=122)) then 2 else if decide (65<=n)&&decide (n<=90) then 3
 else if decide (48<=n)&&decide (n<=57) then 4 else 0
def wJ (n:Int):Bool:=(decide (n>=97)&&decide (n<=122)) || ((decide (n>=65)&&decide (n<=90)) || ((decide (n>=48)&&decide (n<=57)) || (n==95)))
theorem ey {p:Int->UInt8->Prop} (h: ∀n:Fin 256,p n.val (UInt8.ofNat n.val)) (c:UInt8):p c.toNat c:=by
 have:=h ⟨c.toNat,c.toNat_lt⟩
 simpa using this
theorem Dz (c:UInt8):wJ c.toNat=isW c:=ey (p:=fun n c=>wJ n=isW c) (by decide+kernel) c
theorem FP (c:UInt8):qz c.toNat=kind c:=ey (p:=fun n c=>qz n=kind c) (by decide+kernel) c
theorem I2 (c:UInt8): ((decide ((c.toNat:Int)>=97)&&decide ((c.toNat:Int)<=122)) || (true&&((c.toNat:Int) ==95)))=mq c:=
 ey (p:=fun n c=>((decide (n>=97)&&decide (n<=122)) || (true&&(n==95)))=mq c) (by decide+kernel) c
theorem Ov (c:UInt8): ((decide ((c.toNat:Int)>=65)&&decide ((c.toNat:Int)<=90)) || (false&&((c.toNat:Int) ==95)))=zo c:=
 ey (p:=fun n c=>((decide (n>=65)&&decide (n<=90)) || (false&&(n==95)))=zo c) (by decide+kernel) c
theorem Bw (c:UInt8): (decide ((c.toNat:Int) <128)&&decide (2<=qz c.toNat))=isW c:=
 ey (p:=fun n c=>(decide (n<128)&&decide (2<=qz n))=isW c) (by decide+kernel) c
theorem FQ (c:UInt8): (kind c==2)=mq c:=ey (p:=fun n c=>(kind c==2)=mq c) (by decide+kernel) c
theorem I3 (c:UInt8): (kind c==3)=zo c:=ey (p:=fun n c=>(kind c==3)=zo c) (by decide+kernel) c
def iX (k:Int) (s:Bs):Bool:=match s with
 | []=>false
 |c::r=>decide (r.length<12)&&(kind c==k)&&(c::r).all isW
theorem Ee (s:Bs):iX 2 s=iq mq s:=by
 cases s with
 |nil=>rfl
 |cons c r=>simp only [iX,iq,FQ]
theorem FT (s:Bs):iX 3 s=iq zo s:=by
 cases s with
 |nil=>rfl
 |cons c r=>simp only [iX,iq,I3]
def mu (lo hi:Int) (un:Bool) (s:Bs):Bool:=match s with
 | []=>false
 |c::r=>decide (r.length<12)&&((decide ((c.toNat:Int)>=lo)&&decide ((c.toNat:Int)<=hi)) || (un&&((c.toNat:Int) ==95)))&&(c::r).all (fun c=>wJ c.toNat)
theorem Ef (s:Bs):mu 97 122 true s=iq mq s:=by
 cases s with
 |nil=>rfl
 |cons c r=>simp only [mu,iq,I2,Dz]
theorem FU (s:Bs):mu 65 90 false s=iq zo s:=by
 cases s with
 |nil=>rfl
 |cons c r=>simp only [mu,iq,Ov,Dz]
end Go.Lx
namespace Go.AI
open Go Go.Proofs Go.Lx
set_option maxRecDepth 100000
theorem FV (n:Int) (σ:St):CI (.fn 218) [.int .u8 n] σ=some (.ret (.int .i64 (qz n)),σ):=by
 refine br Nc (d:= .int .i64 (qz n)) ?_ rfl rfl
 unfold qz
 cases h1:n==32
 ·cases h2:n==9
  ·cases h3:n==10
   ·cases h4:n==95
    ·by_cases h5:97<=n
     ·by_cases h6:n<=122
      ·simp [ah,jt,h1,h2,h3,h4,h5,h6]
      ·have h7: ¬n<=90:=by omega
       have h8: ¬n<=57:=by omega
       have h9:65<=n:=by omega
       have h10:48<=n:=by omega
       simp [ah,jt,h1,h2,h3,h4,h5,h6,h7,h8,h9,h10]
     ·by_cases h6:65<=n
      ·by_cases h7:n<=90
       ·simp [ah,jt,h1,h2,h3,h4,h5,h6,h7]
       ·have h8: ¬n<=57:=by omega
        have h10:48<=n:=by omega
        simp [ah,jt,h1,h2,h3,h4,h5,h6,h7,h8,h10]
      ·by_cases h7:48<=n
       ·by_cases h8:n<=57
        ·simp [ah,jt,h1,h2,h3,h4,h5,h6,h7,h8]
        ·simp [ah,jt,h1,h2,h3,h4,h5,h6,h7,h8]
       ·simp [ah,jt,h1,h2,h3,h4,h5,h6,h7]
    ·simp [ah,jt,h1,h2,h3,h4]
   ·simp [ah,jt,h1,h2,h3]
  ·simp [ah,jt,h1,h2]
 ·simp [ah,jt,h1]
theorem decode_ascii (l:Bs) (i:Nat) (hi:i<l.length) (h: (l[i].toNat:Int) <128):Utf8.decode ⟨l.toArray⟩ i=(l[i].toNat,1):=by
 rw [Lib.decode_at]
 have hg: (ByteArray.get! ⟨l.toArray⟩ i)=l[i]:=by
  simp [ByteArray.get!,hi]
 rw [hg]
 unfold Lib.decodeN
 rw [if_pos (by omega)]
theorem Co (l:Bs) (i:Nat) (hi:i<l.length) (h: ¬(l[i].toNat:Int) <128):128<=(Utf8.decode ⟨l.toArray⟩ i).1:=by
 rw [Lib.decode_at]
 have hg: (ByteArray.get! ⟨l.toArray⟩ i)=l[i]:=by
  simp [ByteArray.get!,hi]
 rw [hg]
 rcases Lib.decodeN_shape ((ByteArray.size ⟨l.toArray⟩) - i) l[i].toNat (ByteArray.get! ⟨l.toArray⟩ (i+1)).toNat (ByteArray.get! ⟨l.toArray⟩ (i+2)).toNat (ByteArray.get! ⟨l.toArray⟩ (i+3)).toNat with h1|h1|h1|h1|h1
 ·omega
 ·rw [h1.2.2.2.2];exact h1.2.2.2.1
 ·rw [h1.2.2.2.2.2.2];show 128<=_;omega
 ·rw [h1.2.2.2.2.2.2.2];show 128<=_;omega
 ·rw [h1];show 128<=65533;omega
theorem Q0 (l:Bs) (σ:St):aU (aD CI XB GI 34 false kM) [(22, .ptr σ.length 0)] (σ++[.siter l 0])=
 some (match l.findIdx? (fun c=> !isW c) with
  |some i=>(.ret,[(4, .bool false)],σ++[.siter l (i+ (Utf8.decode ⟨l.toArray⟩ i).2)])
  |none=>(.exit 0,(22, .ptr σ.length 0)::[(23, .tuple [.bool false]),(24, .bool false)],σ++[.siter l l.length])):=by
 have:=oH (f:=aD CI XB GI 34 false kM) l (fun i=>(22, .ptr σ.length 0)::(if i=0 then [] else [(33, .bool false)])) (fun i=>σ++[.siter l i]) (fun c=> !isW c)
  (fun i=>(.ret,[(4, .bool false)],σ++[.siter l (i+ (Utf8.decode ⟨l.toArray⟩ i).2)])) (.exit 0,[(22, .ptr σ.length 0),(23, .tuple [.bool false]),(24, .bool false)],σ++[.siter l l.length]) (by simp) (by simp)
  (fun i hi=>by
    generalize htl: (if i=0 then ([]:Env) else [(33, .bool false)])=tl
    have htl':tl=[]\/tl=[(33, .bool false)]:=by subst htl;split<;>simp
    simp only [Nat.add_one_ne_zero,if_false]
    by_cases h: (l[i].toNat:Int) <128
    ·have hd:=decode_ascii l i hi h
     have hk:=Bw l[i]
     have hw:IntKind.u8.wrap (l[i].toNat:Int)=l[i].toNat:=by simp [IntKind.wrap,IntKind.bits,IntKind.signed];have:=l[i].toNat_lt;omega
     obtain ⟨n,hn⟩: ∃n:Int,(l[i].toNat:Int)=n:=⟨_,rfl⟩
     rw [hn] at hk hw h
     have h2: ¬(127:Int) <n:=by omega
     have h2':n<=127:=by omega
     cases hW:isW l[i] with
     |true=>
      rw [hW] at hk
      simp only [Bool.and_eq_true,decide_eq_true_eq] at hk
      have h3: ¬qz n<2:=by omega
      rcases htl' with rfl|rfl<;>simp [kM,az,aN,hi,hd,hn,hw,h2,h2',h3,FV]
     |false=>
      rw [hW] at hk
      have h3:qz n<2:=by
       have:decide (n<128)=true:=decide_eq_true h
       rw [this] at hk
       simp at hk;omega
      rcases htl' with rfl|rfl<;>simp [kM,az,aN,hi,hd,hn,hw,h2,h2',h3,FV]
    ·have hd:=Co l i hi h
     have hk:=Bw l[i]
     have hW:isW l[i]=false:=by
      rw [<-hk]
      have:decide ((l[i].toNat:Int) <128)=false:=decide_eq_false h
      rw [this];rfl
     obtain ⟨⟨r,w⟩,hr⟩: ∃p,Utf8.decode ⟨l.toArray⟩ i=p:=⟨_,rfl⟩
     rw [hr] at hd
     have h2: (127:Int) < (r:Int):=by have:128<=r:=hd;omega
     have h2':127<r:=by omega
     rcases htl' with rfl|rfl<;>simp [kM,az,aN,hi,hr,h2,h2',hW]) (by
    generalize htl: (if l.length=0 then ([]:Env) else [(33, .bool false)])=tl
    have htl':tl=[]\/tl=[(33, .bool false)]:=by subst htl;split<;>simp
    rcases htl' with rfl|rfl<;>simp [kM,az])
 exact this
theorem Q1 (s:Bs) (kd:Int) (σ:St):CI (.fn 209) [.str s, .int .i64 kd] σ=some (.ret (.bool (iX kd s)),σ):=by
 obtain ⟨τ,hτ⟩: ∃τ,ah CI XB GI qy [.str s, .int .i64 kd] σ=some (.ret (.bool (iX kd s)),σ++τ):=by
  cases s with
  |nil=>exact ⟨[],by simp [ah,qy,iX]⟩
  |cons c t=>
   by_cases h12:t.length<12
   ·have hit:=Q0 (c::t) σ
    generalize hl:c::t=l at*
    have e2: ¬(12:Int) <l.length:=by rw [<-hl];simp;omega
    have e2': ¬12<l.length:=by rw [<-hl];simp;omega
    have e6:0<l.length:=by rw [<-hl];simp
    have e7: (l==([]:Bs))=false:=by rw [<-hl];rfl
    have e4:l[0]=c:=by simp [<-hl]
    have hk:=FP c
    have hs:iX kd l=((kind c==kd)&&l.all isW):=by
     rw [<-hl];simp only [iX,decide_eq_true h12,Bool.true_and]
    rw [hs]
    cases hkd:kind c==kd
    ·have hb: (kind c != kd)=true:=by simp only [bne,hkd];rfl
     exact ⟨[],by simp [ah,qy,FV,e2,e2',e4,e6,e7,hk,hb]⟩
    ·have hb: (kind c != kd)=false:=by simp only [bne,hkd];rfl
     cases hf:l.findIdx? (fun c=> !isW c) with
     |none=>
      rw [hf] at hit
      rw [jr hf]
      exact ⟨[.siter l l.length],by simp [ah,qy,FV,e2,e2',e4,e6,e7,hk,hb,hit]⟩
     |some i=>
      rw [hf] at hit
      rw [js hf]
      exact ⟨[.siter l (i+ (Utf8.decode ⟨l.toArray⟩ i).2)],by simp [ah,qy,FV,e2,e2',e4,e6,e7,hk,hb,hit]⟩
   ·have hs:iX kd (c::t)=false:=by simp only [iX,decide_eq_false h12,Bool.false_and]
    rw [hs]
    generalize hl:c::t=l at*
    have e2: (12:Int) <l.length:=by rw [<-hl];simp;omega
    have e2':12<l.length:=by rw [<-hl];simp;omega
    have e7: (l==([]:Bs))=false:=by rw [<-hl];rfl
    exact ⟨[],by simp [ah,qy,e2,e2',e7]⟩
 exact aR M7 hτ rfl rfl
theorem Se (s:Bs) (σ:St):CI (.fn 185) [.str s] σ=some (.ret (.bool (upW s)),σ):=by
 refine br M1 (d:= .bool (upW s)) ?_ rfl rfl
 simp [ah,Dr,Q1,FT,upW]
def kwm (l:List Bs):List (D × D):=l.map fun s=>(.str s, .int .i64 1)
theorem vU (s:Bs) (v:D): ∀ (l:List Bs),s ∉ l->gD 2 (.str s) v (kwm l)=some (kwm l++[(.str s,v)])
 | [],_=>rfl
 |a::r,h=>by
  have hne: (s==a)=false:=by simp only [List.mem_cons,not_or] at h;simpa using h.1
  have ih:=vU s v r (by simp only [List.mem_cons,not_or] at h;exact h.2)
  simp only [kwm,List.map_cons,gD,D.cX,hne] at ih ⊢
  rw [ih];rfl
theorem sO (s:Bs): ∀ (l:List Bs),eZ 2 (.str s) (kwm l)=some (if l.contains s then some (.int .i64 1) else none)
 | []=>rfl
 |a::r=>by
  have ih:=sO s r
  simp only [kwm,List.map_cons,eZ,D.cX] at ih ⊢
  cases h:s==a with
  |true=>
   have:s=a:=by simpa using h
   subst this
   simp
  |false=>
   simp only [ih,List.contains_cons,h,Bool.false_or]
theorem Eg:kws.Nodup:=by decide+kernel
theorem I4 (i:Nat) (hi:i<kws.length):kws[i] ∉ kws.take i:=by
 intro hm
 obtain ⟨j,hj,hj'⟩:=List.mem_take_iff_getElem.1 hm
 have:=(List.getElem_inj (i:=j) (j:=i) (h₀:=by omega) (h₁:=hi) Eg).1 hj'
 omega
theorem Cp:Cl [.str [102,117,110,32,108,101,116,32,114,101,99,32,105,110,32,105,102,32,116,104,101,110,32,101,108,115,101,32,109,97,116,99,104,32,100,111,32,104,97,110,100,108,101,32,115,104,97,108,108,111,119,32,110,97,109,101,100,32,109,97,115,107,32,117,115,105,110,103,32,99,108,111,115,101,32,114,101,115,117,109,101,32,100,114,111,112,32,114,101,116,117,114,110,32,116,114,117,101,32,102,97,108,115,101,32,100,97,116,97,32,101,102,102,101,99,116,32,111,110,99,101,32,100,101,102,32,109,97,105,110]]=some (slD kws):=by kernel_rfl
theorem Sf (l:Bs) (r:D) (σ:St) (h:Cl [.str l]=some r):CI (.fn 222) [.str l] σ=some (.ret r,σ):=by
 refine wV uq (g:=fun a=>Cl (dU a)) (by simp [bt,XI]) ?_
 simp [j4,h]
theorem Sg (σ:St):CI (.fn 219) [] σ=some (.ret (.map σ.length),σ++[.map (kwm kws)]):=by
 have hit:=oH (f:=aD CI XB GI 15 false tR) kws (fun i=>[(1, .map σ.length),(5,slD kws),(6, .int .i64 kws.length),(7, .int .i64 (i:Nat))]) (fun i=>σ++[.map (kwm (kws.take i))]) (fun _=>false)
  (fun i=>(.ret,[],σ)) (.exit 0,[(1, .map σ.length),(5,slD kws),(6, .int .i64 kws.length),(7, .int .i64 kws.length),(8, .bool false)],σ++[.map (kwm kws)]) (by simp) (by simp)
  (fun i hi=>by
    have hw:=aI (n:=i) (by have:kws.length=25:=rfl;omega)
    have hm:=vU kws[i] (.int .i64 1) (kws.take i) (I4 i hi)
    have ht:kwm (kws.take i)++[(.str kws[i], .int .i64 1)]=kwm (kws.take (i+1)):=by
     rw [List.take_add_one,List.getElem?_eq_getElem hi]
     unfold kwm
     rw [List.map_append];rfl
    rw [ht] at hm
    generalize hk:kws=K at*
    generalize hg:K[i]=s at*
    simp [tR,hi,hw,az,aN,D.cX,hg,hm]) (by
    have:kws.take kws.length=kws:=List.take_length
    generalize kws=K at*
    simp [tR,this])
 have hn:kws.findIdx? (fun _=>false)=none:=by rw [List.findIdx?_eq_none_iff];simp
 rw [hn,Int.natCast_zero] at hit
 have h0:kwm (kws.take 0)=[]:=rfl
 rw [h0] at hit
 have h25:=Sf _ _ (σ++[.map []]) Cp
 have hb:ah CI XB GI Bq [] σ=some (.ret (.map σ.length),σ++[.map (kwm kws)]):=by
  generalize kws=K at*
  simp [ah,Bq,h25,hit]
 refine dj Nd hb ?_
 have hk:nB σ (σ++[.map (kwm kws)]):=fX
 simp [eA,trim,if_pos hk,fK,strip,D.under,qI]
theorem Si (s:Bs) (σ:St):CI (.fn 210) [.str s] σ=some (.ret (.bool (isKey s)),σ):=by
 refine aR (τ:=[.map (kwm kws)]) M8 (d:= .bool (isKey s)) ?_ rfl rfl
 have hf:=sO s kws
 unfold isKey
 have hg:=Sg σ
 generalize kws=K at*
 cases h:K.contains s<;>(rw [h] at hf;simp [ah,Du,hg,az,hf,D.cX])
theorem Sj (s:Bs) (σ:St):CI (.fn 184) [.str s] σ=some (.ret (.bool (m8 s)),σ):=by
 refine br M0 (d:= .bool (m8 s)) ?_ rfl rfl
 unfold m8
 cases h:iq mq s<;>simp [ah,Dq,Q1,Ee,h,Si]
def Bx:List Bs:=[[43],[45],[42],[60],[61,61]]
def isC (s:Bs) (k:Int):Bool:=if k==1 then m8 s else if k==2 then upW s else if k==3 then Bx.contains s else s==[]
theorem fq (s:Bs) (k:Int) (σ:St):CI (.fn 143) [.str s, .int .i64 k] σ=some (.ret (.bool (isC s k)),σ):=by
 refine br MK (d:= .bool (isC s k)) ?_ rfl rfl
 unfold isC
 cases h1:k==1
 ·cases h2:k==2
  ·cases h3:k==3
   ·simp [ah,nC,h1,h2,h3]
   ·unfold Bx
    simp only [List.contains_cons,List.contains_nil,Bool.or_false]
    cases a1:s==[43]
    ·cases a2:s==[45]
     ·cases a3:s==[42]
      ·cases a4:s==[60]<;>simp [ah,nC,h1,h2,h3,a1,a2,a3,a4]
      ·simp [ah,nC,h1,h2,h3,a1,a2,a3]
     ·simp [ah,nC,h1,h2,h3,a1,a2]
    ·simp [ah,nC,h1,h2,h3,a1]
  ·simp [ah,nC,h1,h2,Se]
 ·simp [ah,nC,h1,Sj]
def By:Bs:=[73,110,116]
def sP:Bs:=[66,111,111,108]
def sQ:Bs:=[85,110,105,116]
def builtins:List Bs:=[By,sP,sQ]
def qA (s:Bs):Int:=if s==By then 2 else if s==sP then 3 else if s==sQ then 4 else 0
theorem Sk (s:Bs) (σ:St):CI (.fn 199) [.str s] σ=some (.ret (.tuple [.int .i64 (qA s), .bool (builtins.contains s)]),σ):=by
 refine br M4 (d:= .tuple [.int .i64 (qA s), .bool (builtins.contains s)]) ?_ rfl rfl
 unfold qA builtins By sP sQ
 simp only [List.contains_cons,List.contains_nil,Bool.or_false]
 cases h1:s==[73,110,116]
 ·cases h2:s==[66,111,111,108]
  ·cases h3:s==[85,110,105,116]<;>simp [ah,xP,h1,h2,h3]
  ·simp [ah,xP,h1,h2]
 ·simp [ah,xP,h1]
theorem Sl (σ:St):CI (.fn 180) [] σ=some (.ret (slD kws),σ):=by
 refine br MX (d:=slD kws) ?_ (by simp [vS]) (fQ _).2
 unfold kws
 simp [ah,Dp,bw]
theorem jI (l:List Bs) (s:Bs):decide (0<=cT l s)=l.contains s:=by
 unfold cT
 rw [Bool.eq_iff_iff]
 cases h:l.findIdx? (· ==s) with
 |none=>
  rw [List.findIdx?_eq_none_iff] at h
  simp only [decide_eq_true_eq,List.contains_iff_mem]
  constructor
  ·intro h;omega
  ·intro hm;have:=h s hm;simp at this
 |some i=>
  simp only [decide_eq_true_eq,List.contains_iff_mem]
  constructor
  ·intro _
   obtain ⟨hi,h1,_⟩:=List.findIdx?_eq_some_iff_getElem.1 h
   have:l[i]=s:=by simpa using h1
   rw [<-this];exact List.getElem_mem hi
  ·intro _;omega
theorem FW (l:List Bs) (s:Bs) (σ:St) (hl:l.length<=aQ):CI (.fn 122) [slD l, .str s] σ=some (.ret (.bool (l.contains s)),σ):=by
 rw [Sc l s σ hl,jI]
theorem Sm (l:List Bs) (s:Bs) (σ:St) (hl:l.length<=aQ):CI (.fn 111) [slD l, .str s] σ=some (.ret (.bool (l.contains s)),σ):=by
 rw [Sd l s σ hl,jI]
theorem Q2 (s:Bs) (lo hi:Int) (un:Bool) (σ:St):CI (.fn 179) [.str s, .int .u8 lo, .int .u8 hi, .bool un] σ=some (.ret (.bool (mu lo hi un s)),σ):=by
 refine br MW (d:= .bool (mu lo hi un s)) ?_ rfl rfl
 cases s with
 |nil=>simp [ah,iu,p5,mu]
 |cons c t=>
  by_cases h12:t.length<12
  ·have hit:=cK (f:=aD CI XB GI 72 false gR) (σ:=σ) (c::t) (fun i=>[(0, .str (c::t)),(9, .int .i64 (i:Nat))]) (fun c=> !wJ c.toNat) (fun i=>(.ret,[(8, .bool false)],σ)) (.exit 0,[(0, .str (c::t)),(9, .int .i64 (c::t).length),(39, .bool false)],σ) (by simp) (by simp)
    (fun i hi=>by
      generalize hl:c::t=l at*
      have hlen:l.length<=12:=by rw [<-hl];simp;omega
      have hw:=aI (n:=i) (by omega)
      obtain ⟨n,hn⟩: ∃n:Int,(l[i].toNat:Int)=n:=⟨_,rfl⟩
      rw [hn]
      unfold wJ
      by_cases h1:97<=n
      ·by_cases h2:n<=122
       ·simp [gR,hi,hn,hw,h1,h2]
       ·have h4: ¬n<=90:=by omega
        have h6: ¬n<=57:=by omega
        have h7: (n==95)=false:=by simp;omega
        have h3:65<=n:=by omega
        have h5:48<=n:=by omega
        simp [gR,hi,hn,hw,h1,h2,h3,h4,h5,h6,h7]
      ·by_cases h3:65<=n
       ·by_cases h4:n<=90
        ·simp [gR,hi,hn,hw,h1,h3,h4]
        ·have h6: ¬n<=57:=by omega
         have h5:48<=n:=by omega
         cases h7:n==95<;>simp [gR,hi,hn,hw,h1,h3,h4,h5,h6,h7]
       ·by_cases h5:48<=n
        ·by_cases h6:n<=57
         ·simp [gR,hi,hn,hw,h1,h3,h5,h6]
         ·cases h7:n==95<;>simp [gR,hi,hn,hw,h1,h3,h5,h6,h7]
        ·have h7: (n==95)=false:=by simp;omega
         simp [gR,hi,hn,hw,h1,h3,h5,h7]) (by
      generalize c::t=l at*
      simp [gR])
   rw [Int.natCast_zero] at hit
   generalize hl:c::t=l at*
   have e1:1<=(l.length:Int):=by rw [<-hl];simp;omega
   have e2: (l.length:Int)<=12:=by rw [<-hl];simp;omega
   have e3: (0:Int) <l.length:=by omega
   have e6:0<l.length:=by omega
   have e4:l[0]=c:=by simp [<-hl]
   have hs:mu lo hi un l=(((decide ((c.toNat:Int)>=lo)&&decide ((c.toNat:Int)<=hi)) || (un&&((c.toNat:Int) ==95)))&&l.all (fun c=>wJ c.toNat)):=by
    rw [<-hl];simp only [mu,decide_eq_true h12,Bool.true_and]
   rw [hs]
   have fin:ah CI XB GI iu [.str l, .int .u8 lo, .int .u8 hi, .bool un] σ=if ((decide ((c.toNat:Int)>=lo)&&decide ((c.toNat:Int)<=hi)) || (un&&((c.toNat:Int) ==95))) then some (.ret (.bool (l.all fun c=>wJ c.toNat)),σ) else some (.ret (.bool false),σ):=by
    generalize hn: (c.toNat:Int)=n at*
    cases hf:l.findIdx? (fun c=> !wJ c.toNat) with
    |none=>
     rw [hf] at hit
     rw [jr (p:=fun c:UInt8=>wJ (c.toNat:Int)) hf]
     by_cases hA:lo<=n
     ·by_cases hB:n<=hi
      ·simp [ah,iu,p5,e1,e2,e3,e4,e6,hn,hA,hB,hit]
      ·cases un
       ·simp [ah,iu,p5,e1,e2,e3,e4,e6,hn,hA,hB]
       ·cases h95:n==95<;>simp [ah,iu,p5,e1,e2,e3,e4,e6,hn,hA,hB,h95,hit]
     ·cases un
      ·simp [ah,iu,p5,e1,e2,e3,e4,e6,hn,hA]
      ·cases h95:n==95<;>simp [ah,iu,p5,e1,e2,e3,e4,e6,hn,hA,h95,hit]
    |some i=>
     rw [hf] at hit
     rw [js (p:=fun c:UInt8=>wJ (c.toNat:Int)) hf]
     by_cases hA:lo<=n
     ·by_cases hB:n<=hi
      ·simp [ah,iu,p5,e1,e2,e3,e4,e6,hn,hA,hB,hit]
      ·cases un
       ·simp [ah,iu,p5,e1,e2,e3,e4,e6,hn,hA,hB]
       ·cases h95:n==95<;>simp [ah,iu,p5,e1,e2,e3,e4,e6,hn,hA,hB,h95,hit]
     ·cases un
      ·simp [ah,iu,p5,e1,e2,e3,e4,e6,hn,hA]
      ·cases h95:n==95<;>simp [ah,iu,p5,e1,e2,e3,e4,e6,hn,hA,h95,hit]
   rw [fin]
   split
   ·rename_i h;rw [h,Bool.true_and]
   ·rename_i h;rw [Bool.eq_false_iff.2 h,Bool.false_and]
  ·have hs:mu lo hi un (c::t)=false:=by simp only [mu,decide_eq_false h12,Bool.false_and]
   rw [hs]
   generalize hl:c::t=l at*
   have e2: ¬(l.length:Int)<=12:=by rw [<-hl];simp;omega
   simp [ah,iu,p5,e2]
theorem zC (s:Bs) (σ:St):CI (.fn 135) [.str s] σ=some (.ret (.bool (m8 s)),σ):=by
 refine br MF (d:= .bool (m8 s)) ?_ rfl rfl
 have hk:=FW kws s σ (by decide)
 have h180:=Sl σ
 unfold m8 isKey
 generalize kws=K at*
 cases h:iq mq s<;>simp [ah,Di,Q2,Ef,h,h180,hk]
theorem qQ (s:Bs) (σ:St):CI (.fn 176) [.str s] σ=some (.ret (.bool (upW s)),σ):=by
 refine br MV (d:= .bool (upW s)) ?_ rfl rfl
 simp [ah,Dn,Q2,FU,upW]
theorem OU (s:Bs) (k:Int) (σ:St):CI (.fn 167) [.str s, .int .i64 k] σ=some (.ret (.bool (isC s k)),σ):=by
 refine br MR (d:= .bool (isC s k)) ?_ rfl rfl
 unfold isC
 have hk:=FW Bx s σ (by decide)
 simp only [Bx,slD,List.map_cons,List.map_nil] at hk
 cases h1:k==1
 ·cases h2:k==2
  ·cases h3:k==3
   ·simp [ah,vN,h1,h2,h3]
   ·simp [ah,vN,h1,h2,h3,bw,hk,Bx]
  ·simp [ah,vN,h1,h2,qQ]
 ·simp [ah,vN,h1,zC]
theorem Sn (s:Bs) (σ:St):CI (.fn 168) [.str s] σ=some (.ret (.bool (builtins.contains s)),σ):=by
 refine br MS (d:= .bool (builtins.contains s)) ?_ rfl rfl
 have hk:=FW builtins s σ (by decide)
 simp only [builtins,By,sP,sQ,slD,List.map_cons,List.map_nil] at hk
 simp [ah,Dm,bw,hk,builtins,By,sP,sQ]
theorem So (s:Bs) (σ:St):CI (.fn 137) [.str s] σ=some (.ret (.bool (builtins.contains s)),σ):=by
 refine br MG (d:= .bool (builtins.contains s)) ?_ rfl rfl
 have hk:=FW builtins s σ (by decide)
 simp only [builtins,By,sP,sQ,slD,List.map_cons,List.map_nil] at hk
 simp [ah,Dj,bw,hk,builtins,By,sP,sQ]
def Ty.n:Ty->Int| .mk _ n .. =>n
def Ty.s:Ty->Bs| .mk _ _ s .. =>s
def Ty.tail:Ty->Int| .mk _ _ _ _ _ t=>t
def cV (l:List Bs) (s:Bs):Bool:=l.contains s
def isB (s:Bs):Bool:=cV builtins s
theorem rN (s:Bs) (σ:St):CI (.fn 199) [.str s] σ=some (.ret (.tuple [.int .i64 (qA s), .bool (isB s)]),σ):=Sk s σ
theorem dO (l:List Bs) (s:Bs) (σ:St) (hl:l.length<=aQ):CI (.fn 122) [slD l, .str s] σ=some (.ret (.bool (cV l s)),σ):=FW l s σ hl
theorem mw (l:List Bs) (s:Bs) (σ:St) (hl:l.length<=aQ):CI (.fn 111) [slD l, .str s] σ=some (.ret (.bool (cV l s)),σ):=Sm l s σ hl
theorem jE (s:Bs) (σ:St):CI (.fn 168) [.str s] σ=some (.ret (.bool (isB s)),σ):=Sn s σ
theorem F6 (s:Bs) (σ:St):CI (.fn 137) [.str s] σ=some (.ret (.bool (isB s)),σ):=So s σ
def inR (n a b:Int):Bool:=decide (a<=n)&&decide (n<=b)
def k9 (x:Lab):Int:=if upW x.s then (if inR x.n 0 999999999 then 0 else 1) else 4
def qP (ls:List Lab) (tail:Int):Int:=bn (ls.map k9++[if inR tail (-1) 999999999 then 0 else 1])
def s6 (ls:List Lab) (tail:Int):D:= .agg [.slice (ls.map Lab.d), .int .i64 tail]
theorem s7 (s:Bs):isC s 2=upW s:=rfl
theorem Eh (s:Bs):isC s 1=m8 s:=rfl
theorem Sp (ls:List Lab) (tail:Int) (σ:St) (hl:ls.length<=aQ):CI (.fn 200) [s6 ls tail] σ=some (.ret (.int .i64 (qP ls tail)),σ):=by
 unfold aQ at hl
 obtain ⟨τ,hτ⟩: ∃τ,ah CI XB GI vQ [s6 ls tail] σ=some (.ret (.int .i64 (qP ls tail)),σ++τ):=by
  obtain ⟨τ,hit⟩:=eT (f:=aD CI XB GI 27 false kL) (σ:=σ++[.box [.slice (ls.map Lab.d), .int .i64 tail]]) ls (fun i=>[(1, .ptr σ.length 0),(6, .slice (ls.map Lab.d)),(7, .int .i64 ls.length),(8, .int .i64 (i:Nat))]) (fun a=>k9 a != 0) (fun a=>(.ret,[(2, .int .i64 (k9 a))]))
   (.exit 0,[(1, .ptr σ.length 0),(6, .slice (ls.map Lab.d)),(7, .int .i64 ls.length),(8, .int .i64 ls.length),(9, .bool false)]) (by simp) (by simp)
   (fun i hi τ=>by
     have hw:=aI (n:=i) (by omega)
     rcases hx:ls[i] with ⟨s,n⟩
     generalize hσ:σ++[.box [.slice (ls.map Lab.d), .int .i64 tail]]++τ=σ1
     refine ⟨τ++[.box [.str s, .int .i64 n]], ?_⟩
     rw [<-List.append_assoc,hσ]
     unfold k9 inR
     cases h1:upW s
     ·simp [kL,hi,hw,hx,Lab.d,h1,az,aN,fq,s7]
     ·by_cases h2:0<=n
      ·by_cases h3:n<=999999999
       ·simp [kL,hi,hw,hx,Lab.d,h1,h2,h3,az,aN,fq,Ed,s7]
       ·simp [kL,hi,hw,hx,Lab.d,h1,h2,h3,az,aN,fq,Ed,s7]
      ·simp [kL,hi,hw,hx,Lab.d,h1,h2,az,aN,fq,Ed,s7]) (fun τ=>⟨τ,by simp [kL]⟩) []
  rw [Int.natCast_zero,List.append_nil] at hit
  refine ⟨[.box [.slice (ls.map Lab.d), .int .i64 tail]]++τ, ?_⟩
  rw [<-List.append_assoc]
  have hg: (σ++[.box [.slice (ls.map Lab.d), .int .i64 tail]]++τ)[σ.length]? =some (.box [.slice (ls.map Lab.d), .int .i64 tail]):=by
   rw [List.append_assoc];exact az
  unfold qP
  rw [nJ,cS]
  cases hf:ls.find? (fun a=>k9 a != 0) with
  |some a=>
   rw [hf] at hit
   have:k9 a≠0:=by have:=List.find?_some hf;simpa using this
   simp [ah,vQ,s6,az,hit,this]
  |none=>
   rw [hf] at hit
   generalize hσ:σ++[.box [.slice (ls.map Lab.d), .int .i64 tail]]++τ=σ1 at*
   unfold bn inR
   by_cases h2: -1<=tail
   ·by_cases h3:tail<=999999999<;>simp [ah,vQ,s6,az,hit,hg,Ed,h2,h3,bn]
   ·simp [ah,vQ,s6,az,hit,hg,Ed,h2,bn]
 exact aR M5 hτ rfl rfl
theorem Sq (ls:List Lab) (tail:Int) (σ:St) (hl:ls.length<=aQ):CI (.fn 200) [.agg [.slice (ls.map Lab.d), .int .i64 tail]] σ=some (.ret (.int .i64 (qP ls tail)),σ):=Sp ls tail σ hl
theorem mz (n a b:Int) (σ:St):CI (.fn 198) [.int .i64 n, .int .i64 a, .int .i64 b] σ=some (.ret (.bool (inR n a b)),σ):=Ed n a b σ
theorem gz (n a b:Int) (σ:St):CI (.fn 157) [.int .i64 n, .int .i64 a, .int .i64 b] σ=some (.ret (.bool (inR n a b)),σ):=p5 n a b σ
def cI (k:Int):Int:=if k=1 then 1 else if k=6 then 2 else 0
def cz (k:Int):Int:=if k=5 then 2 else 0
def dG (k:Int):Int:=if k=5 then 2 else if k=6 then 4 else 0
def bR (k n:Int) (s:Bs) (len:Nat) (ls:List Lab) (tail:Int):Int:=
 if (!inR k 0 6) || ((!inR n 0 999999999) || ((k != 0)&&decide (0<n))) then 1
 else if (!isC s (cI k)) ||isB s then 4
 else if !inR len (cz k) (dG k) then 7
 else if k=5 then qP ls tail
 else if decide (0<ls.length) || (tail != 0) then 1 else 0
set_option maxHeartbeats 1000000 in
theorem Sr (k n:Int) (s:Bs) (l:List D) (ls:List Lab) (tail:Int) (σ:St) (hl:ls.length<=aQ):
 CI (.fn 163) [.agg [.int .i64 k, .int .i64 n, .str s, .slice l, .slice (ls.map Lab.d), .int .i64 tail]] σ=some (.ret (.int .i64 (bR k n s l.length ls tail)),σ):=by
 obtain ⟨τ,hτ⟩: ∃τ,ah CI XB GI fP [.agg [.int .i64 k, .int .i64 n, .str s, .slice l, .slice (ls.map Lab.d), .int .i64 tail]] σ=some (.ret (.int .i64 (bR k n s l.length ls tail)),σ++τ):=by
  refine ⟨[.box [.int .i64 k, .int .i64 n, .str s, .slice l, .slice (ls.map Lab.d), .int .i64 tail]], ?_⟩
  have h200:=fun σ=>Sq ls tail σ hl
  have hz:decide (0<ls.length)=true-> ¬ls.map Lab.d=[]:=by cases ls<;>simp
  have hz':decide (0<ls.length)=false->ls.map Lab.d=[]:=by cases ls<;>simp
  unfold bR
  generalize ls.map Lab.d=lsd at*
  generalize decide (0<ls.length)=lp at*
  cases hk:inR k 0 6
  ·simp [ah,fP,az,mz,hk]
  cases hn:inR n 0 999999999
  ·simp [ah,fP,az,mz,hk,hn]
  have rest: ∀ (_: ((k != 0)&&decide (0<n))=false),ah CI XB GI fP [.agg [.int .i64 k, .int .i64 n, .str s, .slice l, .slice lsd, .int .i64 tail]] σ=
   some (.ret (.int .i64 (if (!isC s (cI k)) ||isB s then 4 else if !inR l.length (cz k) (dG k) then 7 else if k=5 then qP ls tail else if lp|| (tail != 0) then 1 else 0)),σ++[.box [.int .i64 k, .int .i64 n, .str s, .slice l, .slice lsd, .int .i64 tail]]):=by
   intro h0
   have hkk:k=0\/k=1\/k=2\/k=3\/k=4\/k=5\/k=6:=by
    unfold inR at hk;simp at hk;omega
   by_cases h5:k=5
   ·subst h5
    have hp: ¬0<n:=by simpa using h0
    cases hc:isC s 0
    ·simp [ah,fP,az,mz,hk,hn,hp,cI,rN,fq,hc]
    cases hb:isB s
    ·cases hlen:inR l.length 2 2<;>simp [ah,fP,az,mz,hk,hn,hp,cI,cz,dG,rN,fq,hc,hb,hlen,h200]
    ·simp [ah,fP,az,mz,hk,hn,hp,cI,rN,fq,hc,hb]
   ·cases hc:isC s (cI k)
    ·cases hk0:k != 0
     ·have:k=0:=by simpa using hk0
      subst this
      simp [cI] at hc
      simp [ah,fP,az,mz,hk,hn,rN,fq,hc,cI]
     ·have hp: ¬0<n:=by rw [hk0] at h0;simpa using h0
      rcases hkk with rfl|rfl|rfl|rfl|rfl|rfl|rfl<;>simp [cI] at hc hk0 h5<;>simp [ah,fP,az,mz,hk,hn,hp,rN,fq,hc,cI]
    ·cases hb:isB s
     ·cases hlen:inR l.length (cz k) (dG k)
      ·cases hk0:k != 0
       ·have:k=0:=by simpa using hk0
        subst this
        simp [cI,cz,dG] at hc hlen
        simp [ah,fP,az,mz,hk,hn,rN,fq,hc,hb,hlen,cI,cz,dG]
       ·have hp: ¬0<n:=by rw [hk0] at h0;simpa using h0
        rcases hkk with rfl|rfl|rfl|rfl|rfl|rfl|rfl<;>simp [cI,cz,dG] at hc hk0 h5 hlen<;>simp [ah,fP,az,mz,hk,hn,hp,rN,fq,hc,hb,hlen,cI,cz,dG]
      ·cases hls:lp
       rotate_left
       ·have hls':=hz hls
        have hls2:0<lsd.length:=List.length_pos_iff.2 hls'
        cases hk0:k != 0
        ·have:k=0:=by simpa using hk0
         subst this
         simp [cI,cz,dG] at hc hlen
         simp [ah,fP,az,mz,hk,hn,rN,fq,hc,hb,hlen,hls,hls',hls2,cI,cz,dG]
        ·have hp: ¬0<n:=by rw [hk0] at h0;simpa using h0
         rcases hkk with rfl|rfl|rfl|rfl|rfl|rfl|rfl<;>simp [cI,cz,dG] at hc hk0 h5 hlen<;>simp [ah,fP,az,mz,hk,hn,hp,rN,fq,hc,hb,hlen,hls,hls',hls2,cI,cz,dG]
       ·have hls':=hz' hls
        have hls2:lsd.length=0:=by rw [hls'];rfl
        cases hk0:k != 0
        ·have:k=0:=by simpa using hk0
         subst this
         simp [cI,cz,dG] at hc hlen
         cases ht:tail != 0<;>simp [ah,fP,az,mz,hk,hn,rN,fq,hc,hb,hlen,hls,hls',hls2,ht,cI,cz,dG]
        ·have hp: ¬0<n:=by rw [hk0] at h0;simpa using h0
         cases ht:tail != 0<;>(rcases hkk with rfl|rfl|rfl|rfl|rfl|rfl|rfl<;>simp [cI,cz,dG] at hc hk0 h5 hlen<;>simp [ah,fP,az,mz,hk,hn,hp,rN,fq,hc,hb,hlen,hls,hls',hls2,ht,cI,cz,dG])
     ·cases hk0:k != 0
      ·have:k=0:=by simpa using hk0
       subst this
       simp [cI] at hc
       simp [ah,fP,az,mz,hk,hn,rN,fq,hc,hb,cI]
      ·have hp: ¬0<n:=by rw [hk0] at h0;simpa using h0
       rcases hkk with rfl|rfl|rfl|rfl|rfl|rfl|rfl<;>simp [cI] at hc hk0 h5<;>simp [ah,fP,az,mz,hk,hn,hp,rN,fq,hc,hb,cI]
  cases h0: (k != 0)&&decide (0<n)
  ·rw [rest h0];simp
  ·have h1: (k != 0)=true/\0<n:=by simpa using h0
   simp [ah,fP,az,mz,hk,hn,h1.1,h1.2]
 exact aR MO hτ rfl rfl
@[simp] theorem Ty.aL (t:Ty):t.cs.length=6:=by cases t;rfl
@[simp] theorem Ty.aM (t:Ty):t.cs.take 6=t.cs:=List.take_of_length_le (by simp)
@[simp] theorem Ex.aL (t:Ex):t.cs.length=7:=by cases t;rfl
@[simp] theorem Ex.aM (t:Ex):t.cs.take 7=t.cs:=List.take_of_length_le (by simp)
@[simp] theorem Arm.aL (t:Arm):t.cs.length=9:=by cases t;simp [Arm.cs]
@[simp] theorem Arm.aM (t:Arm):t.cs.take 9=t.cs:=List.take_of_length_le (by simp)
mutual
def Ty.ok:Ty->Prop
 | .mk _ _ _ l ls _=>l.length<=aQ/\ls.length<=aQ/\kQ l
def kQ:List Ty->Prop
 | []=>True
 |t::r=>t.ok/\kQ r
end
mutual
def Ty.e:Ty->Int
 | .mk k n s l ls tail=>if bR k n s l.length ls tail=0 then j8 l else bR k n s l.length ls tail
def j8:List Ty->Int
 | []=>0
 |t::r=>if t.e=0 then j8 r else t.e
end
theorem cN (l:List Ty): (aT l).length=l.length:=by rw [bS];simp
mutual
theorem Q3: ∀ (t:Ty),t.ok-> ∀ (σ:St),CI (.fn 114) [.agg t.cs] σ=some (.ret (.int .i64 t.e),σ)
 | .mk k n s l ls tail,hok,σ=>by
  obtain ⟨h1,h2,h3⟩:=hok
  have h163:=fun σ=>Sr k n s (aT l) ls tail σ h2
  rw [cN] at h163
  obtain ⟨τ,hτ⟩: ∃τ,ah CI XB GI A9 [.agg (Ty.mk k n s l ls tail).cs] σ=some (.ret (.int .i64 (Ty.e (.mk k n s l ls tail))),σ++τ):=by
   refine ⟨[.box (Ty.mk k n s l ls tail).cs], ?_⟩
   obtain ⟨j,hit⟩:=JT l [] (bR k n s l.length ls tail) (σ++[.box (Ty.mk k n s l ls tail).cs]) σ.length ⟨k,n,s, .slice (ls.map Lab.d),tail,by rw [az];rfl⟩ h1 h3 _ rfl
   simp only [Ty.e]
   simp only [List.length_nil,Int.natCast_zero] at hit
   simp only [Ty.cs] at hit ⊢
   generalize ls.map Lab.d=lsd at*
   generalize aT l=ld at*
   simp [ah,A9,az,h163,hit]
  exact aR MB hτ rfl rfl
theorem JT: ∀ (r pre:List Ty) (e:Int) (σ:St) (p:Nat),(∃k n s ls tail,σ[p]? =some (.box [.int .i64 k, .int .i64 n, .str s, .slice (aT (pre++r)),ls, .int .i64 tail]))->(pre++r).length<=aQ->kQ r-> ∀ (m:Nat),m=pre.length->
 ∃j:Int,aU (aD CI XB GI 25 false mZ) [(1, .ptr p 0),(3, .int .i64 e),(4, .int .i64 (m:Nat))] σ=
  some (.exit 0,[(1, .ptr p 0),(3, .int .i64 (if e=0 then j8 r else e)),(4, .int .i64 j),(15, .bool false)],σ)
 | [],pre,e,σ,p,hσ,hl,hok,m,hm=>by
  obtain ⟨k,n,s,ls,tail,hσ⟩:=hσ
  rw [List.append_nil] at hσ
  refine ⟨(m:Int),aH ?_ (by simp)⟩
  have he: (if e=0 then j8 [] else e)=e:=by simp only [j8];split<;>simp_all
  rw [he]
  have hlen:=cN pre
  generalize aT pre=ld at*
  simp [mZ,hσ,hlen,hm]
 |a::r,pre,e,σ,p,hσ,hl,hok,m,hm=>by
  obtain ⟨k,n,s,ls,tail,hσ⟩:=hσ
  obtain ⟨hok1,hok2⟩:=hok
  unfold aQ at hl
  have hmt: (m:Int) < ((pre++a::r).length:Nat):=by simp;omega
  have hlen:=cN (pre++a::r)
  have bq: (aT (pre++a::r))[m]? =some (.agg a.cs):=by rw [bS,hm];simp [Ty.d]
  have hw:=aI (n:=m) (by simp at hl;omega)
  by_cases he:e=0
  ·subst he
   have ha:=fun σ=>Q3 a hok1 σ
   obtain ⟨j,ih⟩:=JT r (pre++[a]) a.e σ p ⟨k,n,s,ls,tail,by simpa using hσ⟩ (by simp at hl ⊢;unfold aQ;omega) hok2 (m+1) (by simp [hm])
   refine ⟨j, ?_⟩
   have hb:aD CI XB GI 25 false mZ [(1, .ptr p 0),(3, .int .i64 0),(4, .int .i64 (m:Nat))] σ=some (.normal,[(1, .ptr p 0),(3, .int .i64 a.e),(4, .int .i64 ((m+1:Nat):Int))],σ):=by
    generalize (pre++a::r).length=q at*
    generalize aT (pre++a::r)=ld at*
    have h1: (m:Int) <ld.length:=by rw [hlen];exact hmt
    have h2:m<ld.length:=by omega
    have h3:ld[m]= .agg a.cs:=by rw [List.getElem?_eq_getElem h2] at bq;exact Option.some.inj bq
    simp [mZ,hσ,h1,h2,h3,hw,ha]
   rw [aO hb,ih]
   simp only [if_true,j8]
  ·refine ⟨(m:Int),aH ?_ (by simp)⟩
   rw [if_neg he]
   have h0: (e==0)=false:=by simpa using he
   generalize (pre++a::r).length=q at*
   generalize aT (pre++a::r)=ld at*
   have h1: (m:Int) <ld.length:=by rw [hlen];exact hmt
   simp [mZ,hσ,h1,h0,he]
end
mutual
def Ty.take:Ty->Int->Int->Bool × Int
 | .mk _ _ _ l ls _,left,depth=>if left - 1<0\/200<depth\/24<ls.length then (false,left - 1) else bZ l (left - 1) (depth+1)
def bZ:List Ty->Int->Int->Bool × Int
 | [],left,_=>(true,left)
 |t::r,left,d=>if (t.take left d).1 then bZ r (t.take left d).2 d else (false,(t.take left d).2)
end
mutual
theorem Ty.take_left: ∀ (t:Ty) (left d:Int),0<=left-> -1<=(t.take left d).2/\(t.take left d).2<=left/\((t.take left d).1=true->0<=(t.take left d).2)
 | .mk _ _ _ l ls _,left,d,h=>by
  simp only [Ty.take]
  split
  ·exact ⟨by simp;omega,by simp;omega,by simp⟩
  ·have:=qB l (left - 1) (d+1) (by omega)
   exact ⟨this.1,by omega,this.2.2⟩
theorem qB: ∀ (l:List Ty) (left d:Int),0<=left-> -1<=(bZ l left d).2/\(bZ l left d).2<=left/\((bZ l left d).1=true->0<=(bZ l left d).2)
 | [],left,d,h=>by simp only [bZ];exact ⟨by omega,by omega,fun _=>h⟩
 |t::r,left,d,h=>by
  obtain ⟨h1,h2,h3⟩:=t.take_left left d h
  simp only [bZ]
  split
  ·rename_i ht
   obtain ⟨a1,a2,a3⟩:=qB r _ d (h3 ht)
   exact ⟨a1,by omega,a3⟩
  ·exact ⟨h1,h2,by simp⟩
end
def eS (left deep:Int):Obj:= .box [.int .i64 left, .int .i64 deep]
theorem oM {n:Nat} {left deep:Int} : (eS left deep).under n:=by simp [eS,Obj.under,cL,D.under]
mutual
theorem Q4: ∀ (t:Ty),t.ok-> ∀ (left deep depth:Int) (i:Nat) (σ:St),σ[i]? =some (eS left deep)->0<=left->left<=1000000->0<=depth->depth<=1000->
 CI (.fn 113) [.ptr i 0, .agg t.cs, .int .i64 depth] σ=some (.ret (.bool (t.take left depth).1),σ.set i (eS (t.take left depth).2 deep))
 | .mk k n s l ls tail,hok,left,deep,depth,i,σ,hσ,h0,h1,hd0,hd1=>by
  obtain ⟨ho1,ho2,ho3⟩:=hok
  have hi:=b8 hσ
  have hw:IntKind.i64.wrap (left - 1)=left - 1:=wrap_i64 (by omega) (by omega)
  obtain ⟨τ,hτ⟩: ∃τ,ah CI XB GI sM [.ptr i 0, .agg (Ty.mk k n s l ls tail).cs, .int .i64 depth] σ=some (.ret (.bool ((Ty.mk k n s l ls tail).take left depth).1),σ.set i (eS ((Ty.mk k n s l ls tail).take left depth).2 deep)++τ):=by
   refine ⟨[.box [.ptr i 0], .box (Ty.mk k n s l ls tail).cs, .box [.int .i64 depth]], ?_⟩
   have hlen: ((ls.map Lab.d).length:Int)=ls.length:=by simp
   have hlen2: (ls.map Lab.d).length=ls.length:=by simp
   simp only [Ty.take]
   have hit:0<=left - 1->depth<=200->CI (.fn 161) [.slice (aT l), .func 162 [] [.ptr σ.length 0, .ptr (σ.length+2) 0]] (σ.set i (eS (left - 1) deep)++[.box [.ptr i 0], .box (Ty.mk k n s l ls tail).cs, .box [.int .i64 depth]])=
    some (.ret (.bool (!(bZ l (left - 1) (depth+1)).1)),σ.set i (eS (bZ l (left - 1) (depth+1)).2 deep)++[.box [.ptr i 0], .box (Ty.mk k n s l ls tail).cs, .box [.int .i64 depth]]):=fun hl0 hdl=>by
    rw [Ss l ho3 ho1 (left - 1) deep depth i σ.length (σ.length+2) _ (nr hi) n8 pX (by omega) (by omega) hl0 (by omega) hd0 (by omega),Ak hi]
   simp only [Ty.cs,eS] at hit hσ ⊢
   generalize ls.map Lab.d=lsd at*
   generalize aT l=ld at*
   by_cases hn:left - 1<0
   ·simp [ah,sM,az,aS,bD hσ,n8,pX,nr hi,jb hi,hw,hn]
   ·by_cases hd:200<depth
    ·simp [ah,sM,az,aS,bD hσ,n8,pX,nr hi,jb hi,hw,hn,hd]
    ·by_cases hl24:24<ls.length
     ·have hl24':24<lsd.length:=by omega
      have hl24'': (24:Int) < (lsd.length:Int):=by omega
      simp [ah,sM,az,aS,bD hσ,n8,pX,nr hi,jb hi,hw,hn,hd,hl24,hl24',hl24'']
     ·have hl24': ¬24<lsd.length:=by omega
      have hl24'': ¬(24:Int) < (lsd.length:Int):=by omega
      have hit:=hit (by omega) (by omega)
      simp [ah,sM,az,aS,bD hσ,n8,pX,nr hi,jb hi,hw,hn,hd,hl24,hl24',hl24'',hit]
  exact dj MA hτ (iF oM rfl rfl)
theorem Su: ∀ (t:Ty),t.ok-> ∀ (left deep depth:Int) (i pm pd:Nat) (σ:St),σ[i]? =some (eS left deep)->σ[pm]? =some (.box [.ptr i 0])->σ[pd]? =some (.box [.int .i64 depth])->0<=left->left<=1000000->0<=depth->depth<=900->
 CI (.fn 162) [.agg t.cs, .ptr pm 0, .ptr pd 0] σ=some (.ret (.bool (!(t.take left (depth+1)).1)),σ.set i (eS (t.take left (depth+1)).2 deep))
 |t,hok,left,deep,depth,i,pm,pd,σ,hσ,hpm,hpd,h0,h1,hd0,hd1=>by
  have hi:=b8 hσ
  have hw:IntKind.i64.wrap (depth+1)=depth+1:=wrap_i64 (by omega) (by omega)
  have hc:=Q4 t hok left deep (depth+1) i (σ++[.box t.cs]) (bD hσ) h0 h1 (by omega) (by omega)
  rw [jb hi] at hc
  have hτ:ah CI XB GI Bh [.agg t.cs, .ptr pm 0, .ptr pd 0] σ=some (.ret (.bool (!(t.take left (depth+1)).1)),σ.set i (eS (t.take left (depth+1)).2 deep)++[.box t.cs]):=by
   have hall:t.cs.all D.one=true:=by cases t;rfl
   simp [ah,Bh,az,bD hpm,bD hpd,hall,hw,hc]
  exact dj MN hτ (iF oM rfl rfl)
theorem JU: ∀ (r pre:List Ty),kQ r->(pre++r).length<=aQ-> ∀ (left deep depth:Int) (i pm pd:Nat) (σ:St),σ[i]? =some (eS left deep)->σ[pm]? =some (.box [.ptr i 0])->σ[pd]? =some (.box [.int .i64 depth])->pm≠i->pd≠i->0<=left->left<=1000000->0<=depth->depth<=900-> ∀m,m=pre.length->
 (∃j:Nat,(bZ r left (depth+1)).1=false/\aU (aD CI XB GI 19 false gS) [(0, .slice (aT (pre++r))),(1, .func 162 [] [.ptr pm 0, .ptr pd 0]),(7, .int .i64 (pre++r).length),(8, .int .i64 (m:Nat))] σ=
   some (.ret,[(4, .int .i64 j)],σ.set i (eS (bZ r left (depth+1)).2 deep)))\/
 ((bZ r left (depth+1)).1=true/\aU (aD CI XB GI 19 false gS) [(0, .slice (aT (pre++r))),(1, .func 162 [] [.ptr pm 0, .ptr pd 0]),(7, .int .i64 (pre++r).length),(8, .int .i64 (m:Nat))] σ=
   some (.exit 0,[(0, .slice (aT (pre++r))),(1, .func 162 [] [.ptr pm 0, .ptr pd 0]),(7, .int .i64 (pre++r).length),(8, .int .i64 (pre++r).length),(9, .bool false)],σ.set i (eS (bZ r left (depth+1)).2 deep)))
 | [],pre,hok,hl,left,deep,depth,i,pm,pd,σ,hσ,hpm,hpd,hne1,hne2,h0,h1,hd0,hd1,m,hm=>by
  right
  refine ⟨rfl, ?_⟩
  have hs:σ.set i (eS (bZ [] left (depth+1)).2 deep)=σ:=by
   simp only [bZ]
   rw [<-(List.getElem?_eq_some_iff.1 hσ).2];exact List.set_getElem_self _
  rw [hs]
  refine aH ?_ (by simp)
  have:m=(pre++([]:List Ty)).length:=by rw [hm];simp
  generalize (pre++([]:List Ty)).length=q at*
  generalize aT (pre++[])=ld at*
  simp [gS,this]
 |a::r,pre,hok,hl,left,deep,depth,i,pm,pd,σ,hσ,hpm,hpd,hne1,hne2,h0,h1,hd0,hd1,m,hm=>by
  obtain ⟨hok1,hok2⟩:=hok
  unfold aQ at hl
  have hi:=b8 hσ
  have hmt:m< (pre++a::r).length:=by simp;omega
  have hlen:=cN (pre++a::r)
  have bq: (aT (pre++a::r))[m]? =some (.agg a.cs):=by rw [bS,hm];simp [Ty.d]
  have hw:=aI (n:=m) (by simp at hl;omega)
  have ha:=Su a hok1 left deep depth i pm pd σ hσ hpm hpd h0 h1 hd0 hd1
  obtain ⟨b1,b2,b3⟩:=a.take_left left (depth+1) h0
  simp only [bZ]
  cases hta: (a.take left (depth+1)).1 with
  |false=>
   left
   refine ⟨m,by simp,aH ?_ (by simp)⟩
   rw [hta] at ha
   simp only [Bool.false_eq_true,if_false]
   generalize (pre++a::r).length=q at*
   generalize aT (pre++a::r)=ld at*
   have h2:m<ld.length:=by omega
   have h1': (m:Int) <ld.length:=by omega
   have h3:ld[m]= .agg a.cs:=by rw [List.getElem?_eq_getElem h2] at bq;exact Option.some.inj bq
   have hq: (m:Int) <q:=by omega
   simp [gS,h1',h2,h3,hq,ha,hmt]
  |true=>
   rw [hta] at ha
   simp only [if_true]
   have ih:=JU r (pre++[a]) hok2 (by simp at hl ⊢;unfold aQ;omega) (a.take left (depth+1)).2 deep depth i pm pd (σ.set i (eS (a.take left (depth+1)).2 deep)) (List.getElem?_set_self hi)
    (by rw [List.getElem?_set_ne (Ne.symm hne1)];exact hpm) (by rw [List.getElem?_set_ne (Ne.symm hne2)];exact hpd) hne1 hne2 (b3 hta) (by omega) hd0 hd1 (m+1) (by simp [hm])
   have hp:pre++[a]++r=pre++a::r:=by simp
   rw [hp,List.set_set] at ih
   have hb:aD CI XB GI 19 false gS [(0, .slice (aT (pre++a::r))),(1, .func 162 [] [.ptr pm 0, .ptr pd 0]),(7, .int .i64 (pre++a::r).length),(8, .int .i64 (m:Nat))] σ=
    some (.normal,[(0, .slice (aT (pre++a::r))),(1, .func 162 [] [.ptr pm 0, .ptr pd 0]),(7, .int .i64 (pre++a::r).length),(8, .int .i64 ((m+1:Nat):Int))],σ.set i (eS (a.take left (depth+1)).2 deep)):=by
    generalize (pre++a::r).length=q at*
    generalize aT (pre++a::r)=ld at*
    have h2:m<ld.length:=by omega
    have h1': (m:Int) <ld.length:=by omega
    have h3:ld[m]= .agg a.cs:=by rw [List.getElem?_eq_getElem h2] at bq;exact Option.some.inj bq
    have hq: (m:Int) <q:=by omega
    simp [gS,h1',h2,h3,hq,ha,hw,hmt]
   rw [aO hb]
   exact ih
theorem Ss: ∀ (l:List Ty),kQ l->l.length<=aQ-> ∀ (left deep depth:Int) (i pm pd:Nat) (σ:St),σ[i]? =some (eS left deep)->σ[pm]? =some (.box [.ptr i 0])->σ[pd]? =some (.box [.int .i64 depth])->pm≠i->pd≠i->0<=left->left<=1000000->0<=depth->depth<=900->
 CI (.fn 161) [.slice (aT l), .func 162 [] [.ptr pm 0, .ptr pd 0]] σ=some (.ret (.bool (!(bZ l left (depth+1)).1)),σ.set i (eS (bZ l left (depth+1)).2 deep))
 |l,hok,hl,left,deep,depth,i,pm,pd,σ,hσ,hpm,hpd,hne1,hne2,h0,h1,hd0,hd1=>by
  have hlen:=cN l
  have hit:=JU l [] hok hl left deep depth i pm pd σ hσ hpm hpd hne1 hne2 h0 h1 hd0 hd1 0 rfl
  simp only [List.nil_append,Int.natCast_zero] at hit
  generalize aT l=ld at*
  obtain ⟨j,hj,h197⟩: ∃j:Int,decide (0<=j)= !(bZ l left (depth+1)).1/\CI (.fn 197) [.slice ld, .func 162 [] [.ptr pm 0, .ptr pd 0]] σ=some (.ret (.int .i64 j),σ.set i (eS (bZ l left (depth+1)).2 deep)):=by
   rcases hit with ⟨j,hf,hit⟩ | ⟨hf,hit⟩
   ·refine ⟨j,by rw [hf];simp,dj zm (y:=(.ret (.int .i64 j),σ.set i (eS (bZ l left (depth+1)).2 deep))) ?_ (mX (by simp) rfl rfl rfl)⟩
    simp [ah,vP,hlen,hit]
   ·refine ⟨-1,by rw [hf];rfl,dj zm (y:=(.ret (.int .i64 (-1)),σ.set i (eS (bZ l left (depth+1)).2 deep))) ?_ (mX (by simp) rfl rfl rfl)⟩
    simp [ah,vP,hlen,hit]
  refine dj FJ (y:=(.ret (.bool (!(bZ l left (depth+1)).1)),σ.set i (eS (bZ l left (depth+1)).2 deep))) ?_ (mX (by simp) rfl rfl rfl)
  rw [<-hj]
  simp [ah,Bg,h197]
end
def Ty.chk (t:Ty):Int:=if (t.take 3000 1).1 then t.e else 3
theorem c60 (t:Ty) (hok:t.ok) (σ:St):CI (.fn 60) [.agg t.cs] σ=some (.ret (.int .i64 t.chk),σ):=by
 obtain ⟨τ,hτ⟩: ∃τ,ah CI XB GI Ea [.agg t.cs] σ=some (.ret (.int .i64 t.chk),σ++τ):=by
  refine ⟨[.box t.cs,eS (t.take 3000 1).2 0], ?_⟩
  have h113:=Q4 t hok 3000 0 1 (σ.length+1) (σ++[.box t.cs,eS 3000 0]) (by rw [aS];rfl) (by omega) (by omega) (by omega) (by omega)
  rw [bP] at h113
  have h114:=fun σ=>Q3 t hok σ
  have hall:t.cs.all D.one=true:=by cases t;rfl
  unfold Ty.chk
  simp only [eS,List.set] at*
  generalize (t.take 3000 1).2=q at*
  cases h: (t.take 3000 1).1
  ·rw [h] at h113
   simp [ah,Ea,bQ,aE,az,aS,bP,aN,hall,h113]
  ·rw [h] at h113
   simp [ah,Ea,bQ,aE,az,aS,bP,aN,hall,h113,h114]
 exact aR QN hτ rfl rfl
mutual
def Ty.cl (p:Int->Bool):Ty->Bool
 | .mk k _ _ l ls tail=> !(k==0|| (k==5&&p tail))&&ls.all (fun x=>x.n==0)&&o7 p l
def o7 (p:Int->Bool):List Ty->Bool
 | []=>true
 |t::r=>t.cl p&&o7 p r
end
theorem mG (p:Int->Bool): ∀ (l:List Ty),o7 p l=l.all (fun t=>t.cl p)
 | []=>rfl
 |t::r=>by simp only [o7,List.all_cons,mG p r]
theorem dX: ∀ {l:List Ty} {t:Ty},kQ l->t ∈ l->t.ok
 | [],t,_,h=>by cases h
 |a::r,t,⟨h1,h2⟩,h=>by
  cases h with
  |head=>exact h1
  |tail _ h=>exact dX h2 h
def je (n:Int):Bool:=decide (0<=n)
def dF (n:Int):Bool:=n != -1
theorem Sv (x:Lab) (σ:St):CI (.fn 216) [.agg [.str x.s, .int .i64 x.n]] σ=some (.ret (.bool (x.n != 0)),σ):=by
 have hτ:ah CI XB GI Bo [.agg [.str x.s, .int .i64 x.n]] σ=some (.ret (.bool (x.n != 0)),σ++[.box [.str x.s, .int .i64 x.n]]):=by
  simp [ah,Bo,az]
 exact aR Na hτ rfl rfl
theorem Sw (l:List Lab) (σ:St) (hl:l.length<=aQ): ∃j:Int,decide (0<=j)= !(l.all fun x=>x.n==0)/\CI (.fn 221) [.slice (l.map Lab.d), .func 216 [] []] σ=some (.ret (.int .i64 j),σ):=by
 unfold aQ at hl
 have hit:=cK (f:=aD CI XB GI 19 false tS) (σ:=σ) l (fun i=>[(0, .slice (l.map Lab.d)),(1, .func 216 [] []),(7, .int .i64 l.length),(8, .int .i64 (i:Nat))]) (fun x=> !(x.n==0)) (fun i=>(.ret,[(4, .int .i64 (i:Nat))],σ)) (.exit 0,[(0, .slice (l.map Lab.d)),(1, .func 216 [] []),(7, .int .i64 l.length),(8, .int .i64 l.length),(9, .bool false)],σ) (by simp) (by simp)
  (fun i hi=>by
    have hw:=aI (n:=i) (by omega)
    have hc:=Sv l[i] σ
    cases hb:l[i].n==0<;>simp only [bne,hb] at hc<;>simp [tS,hi,hw,Lab.d,hc]) (by
    simp [tS])
 rw [Int.natCast_zero] at hit
 cases hf:l.findIdx? (fun x=> !(x.n==0)) with
 |none=>
  rw [hf] at hit
  refine ⟨-1,by rw [jr hf];rfl,br FL (d:= .int .i64 (-1)) ?_ rfl rfl⟩
  simp [ah,Br,hit]
 |some i=>
  rw [hf] at hit
  refine ⟨i,by rw [js hf];simp,br FL (d:= .int .i64 i) ?_ rfl rfl⟩
  simp [ah,Br,hit]
theorem Sx (l:List Lab) (σ:St) (hl:l.length<=aQ):CI (.fn 215) [.slice (l.map Lab.d), .func 216 [] []] σ=some (.ret (.bool (!(l.all fun x=>x.n==0))),σ):=by
 obtain ⟨j,hj,h⟩:=Sw l σ hl
 refine br M9 (d:= .bool (!(l.all fun x=>x.n==0))) ?_ rfl rfl
 rw [<-hj]
 simp [ah,Dv,h]
theorem Sy (l:List Ty) (f:Nat) (caps:List D) (Q:Ty->Bool) (σ:St) (hl:l.length<=aQ) (h: ∀x ∈ l,CI (.fn f) (.agg x.cs::caps) σ=some (.ret (.bool (!Q x)),σ)):
 CI (.fn 161) [.slice (aT l), .func f [] caps] σ=some (.ret (.bool (!l.all Q)),σ):=by
 unfold aQ at hl
 have hlen:=cN l
 have hit:=cK (f:=aD CI XB GI 19 false gS) (σ:=σ) l (fun i=>[(0, .slice (aT l)),(1, .func f [] caps),(7, .int .i64 l.length),(8, .int .i64 (i:Nat))]) (fun x=> !Q x) (fun i=>(.ret,[(4, .int .i64 (i:Nat))],σ)) (.exit 0,[(0, .slice (aT l)),(1, .func f [] caps),(7, .int .i64 l.length),(8, .int .i64 l.length),(9, .bool false)],σ) (by simp) (by simp)
  (fun i hi=>by
    have hw:=aI (n:=i) (by omega)
    have hc:=h l[i] (List.getElem_mem hi)
    have bq: (aT l)[i]? =some (.agg l[i].cs):=by rw [bS];simp [Ty.d,hi]
    generalize aT l=ld at*
    have h2:i<ld.length:=by omega
    have h3:ld[i]= .agg l[i].cs:=by rw [List.getElem?_eq_getElem h2] at bq;exact Option.some.inj bq
    cases hb:Q l[i]<;>rw [hb] at hc<;>simp [gS,hi,hw,h2,h3,hc]) (by
    generalize aT l=ld at*
    simp [gS])
 rw [Int.natCast_zero] at hit
 generalize aT l=ld at*
 obtain ⟨j,hj,h197⟩: ∃j:Int,decide (0<=j)= !(l.all Q)/\CI (.fn 197) [.slice ld, .func f [] caps] σ=some (.ret (.int .i64 j),σ):=by
  cases hf:l.findIdx? (fun x=> !Q x) with
  |none=>
   rw [hf] at hit
   refine ⟨-1,by rw [jr hf];rfl,br zm (d:= .int .i64 (-1)) ?_ rfl rfl⟩
   simp [ah,vP,hlen,hit]
  |some i=>
   rw [hf] at hit
   refine ⟨i,by rw [js hf];simp,br zm (d:= .int .i64 i) ?_ rfl rfl⟩
   simp [ah,vP,hlen,hit]
 refine br FJ (d:= .bool (!(l.all Q))) ?_ rfl rfl
 rw [<-hj]
 simp [ah,Bg,h197]
theorem Q5: ∀ (t:Ty),t.ok-> ∀ (σ:St),CI (.fn 208) [.agg t.cs] σ=some (.ret (.bool (t.cl je)),σ)
 | .mk k n s l ls tail,hok,σ=>by
  obtain ⟨h1,h2,h3⟩:=hok
  have h217: ∀x ∈ l,∀σ,CI (.fn 217) [.agg x.cs] σ=some (.ret (.bool (!x.cl je)),σ):=fun x hx σ=>by
   have ih:=Q5 x (dX h3 hx)
   have hall:x.cs.all D.one=true:=by cases x;rfl
   have hτ:ah CI XB GI Bp [.agg x.cs] σ=some (.ret (.bool (!x.cl je)),σ++[.box x.cs]):=by
    simp [ah,Bp,az,hall,ih]
   exact aR Nb hτ rfl rfl
  have h161:=fun σ=>Sy l 217 [] (fun t=>t.cl je) σ h1 (fun x hx=>h217 x hx σ)
  have h215:=fun σ=>Sx ls σ h2
  have hτ:ah CI XB GI sN [.agg (Ty.mk k n s l ls tail).cs] σ=some (.ret (.bool ((Ty.mk k n s l ls tail).cl je)),σ++[.box (Ty.mk k n s l ls tail).cs]):=by
   simp only [Ty.cl,mG,Ty.cs]
   unfold je at*
   generalize ls.map Lab.d=lsd at*
   generalize aT l=ld at*
   generalize (ls.all fun x=>x.n==0)=lb at*
   generalize (l.all fun t=>t.cl fun n=>decide (0<=n))=tb at*
   cases hk:k==0
   ·cases hk5:k==5
    ·cases lb<;>simp [ah,sN,az,hk,hk5,h215,h161]
    ·by_cases ht:0<=tail
     ·simp [ah,sN,az,hk,hk5,ht]
     ·cases lb<;>simp [ah,sN,az,hk,hk5,ht,h215,h161]
   ·simp [ah,sN,az,hk]
  exact aR M6 hτ rfl rfl
termination_by t=>SizeOf.sizeOf t
decreasing_by
 have:=List.sizeOf_lt_of_mem hx
 simp only [Ty.mk.sizeOf_spec]
 omega
def dZ (pre:List Bs):List Bs->Int->Int
 | [],_=>0
 |s::r,k=>if isC s k then (if cV pre s then 5 else dZ (pre++[s]) r k) else 4
def fU (l:List Bs) (k:Int):Int:=dZ [] l k
theorem JV (k:Int) (σ:St): ∀ (r pre:List Bs),(pre++r).length<=aQ-> ∀m,m=pre.length->
 aU (aD CI XB GI 26 false m5) [(0,slD (pre++r)),(1, .int .i64 k),(7,slD (pre++r)),(8, .int .i64 (pre++r).length),(9, .int .i64 (m:Nat))] σ=
  some (if dZ pre r k=0 then (.exit 0,[(0,slD (pre++r)),(1, .int .i64 k),(7,slD (pre++r)),(8, .int .i64 (pre++r).length),(9, .int .i64 (pre++r).length),(10, .bool false)],σ) else (.ret,[(4, .int .i64 (dZ pre r k))],σ))
 | [],pre,hl,m,hm=>by
  have:m=(pre++([]:List Bs)).length:=by rw [hm];simp
  refine aH ?_ (by simp [dZ])
  generalize pre++([]:List Bs)=q at*
  simp [m5,this,dZ]
 |s::r,pre,hl,m,hm=>by
  have hmt:m< (pre++s::r).length:=by simp;omega
  have bq: (pre++s::r)[m]? =some s:=by rw [hm];simp
  have htk: ((pre++s::r).map D.str).take m=pre.map D.str:=by rw [hm];simp
  have hw:=aI (n:=m) (by unfold aQ at hl;simp at hl;omega)
  have mw:=mw pre s σ (by unfold aQ at*;simp at hl;omega)
  have hp:pre++[s]++r=pre++s::r:=by simp
  have ih:=JV k σ r (pre++[s]) (by rw [hp];exact hl) (m+1) (by simp [hm])
  rw [hp] at ih
  simp only [dZ]
  simp only [slD] at mw
  generalize hq:pre++s::r=q at*
  have h3:q[m]=s:=by rw [List.getElem?_eq_getElem hmt] at bq;exact Option.some.inj bq
  have hm': (m:Int)<=q.length:=by omega
  by_cases hc:isC s k=true
  ·by_cases hh:cV pre s=true
   ·simp only [hc,hh,if_true]
    refine aH ?_ (by simp)
    rw [hh] at mw
    simp [m5,hmt,h3,fq,hc,bound,hm',htk,mw]
   ·simp only [hc,if_true,if_neg hh]
    rw [<-ih]
    refine aO ?_
    rw [Bool.not_eq_true] at hh
    rw [hh] at mw
    simp [m5,hmt,h3,fq,hc,hw,bound,hm',htk,mw]
  ·simp only [if_neg hc]
   refine aH ?_ (by simp)
   rw [Bool.not_eq_true] at hc
   simp [m5,hmt,h3,fq,hc]
theorem Q6 (l:List Bs) (k:Int) (σ:St) (hl:l.length<=aQ):CI (.fn 182) [slD l, .int .i64 k] σ=some (.ret (.int .i64 (fU l k)),σ):=by
 refine br MY (d:= .int .i64 (fU l k)) ?_ rfl rfl
 have hit:=JV k σ l [] hl 0 rfl
 rw [Int.natCast_zero,List.nil_append] at hit
 unfold fU
 by_cases h:dZ [] l k=0
 ·rw [if_pos h] at hit
  simp [ah,Bl,hit,h]
 ·rw [if_neg h] at hit
  simp [ah,Bl,hit]
def eF (t:Ty):Int:=if t.chk=0 then (if t.cl je then 0 else 1) else t.chk
def gA (l:List Ty):Int:=bn (l.map eF)
theorem Q7 (l:List Ty) (σ:St) (hl:l.length<=aQ) (hok:kQ l):CI (.fn 183) [.slice (aT l)] σ=some (.ret (.int .i64 (gA l)),σ):=by
 have hlen:=cN l
 obtain ⟨τ,hτ⟩: ∃τ,ah CI XB GI Bm [.slice (aT l)] σ=some (.ret (.int .i64 (gA l)),σ++τ):=by
  obtain ⟨τ,hit⟩:=eT (f:=aD CI XB GI 21 false qv) (σ:=σ) l (fun i=>[(6, .slice (aT l)),(7, .int .i64 l.length),(8, .int .i64 (i:Nat))]) (fun a=>eF a != 0) (fun a=>(.ret,[(2, .int .i64 (eF a))]))
   (.exit 0,[(6, .slice (aT l)),(7, .int .i64 l.length),(8, .int .i64 l.length),(9, .bool false)]) (by simp) (by simp)
   (fun i hi τ=>by
     have hw:=aI (n:=i) (by unfold aQ at hl;omega)
     have hx:=dX hok (List.getElem_mem hi)
     have bq: (aT l)[i]? =some (.agg l[i].cs):=by rw [bS];simp [Ty.d,hi]
     generalize aT l=ld at*
     have h2:i<ld.length:=by omega
     have h3:ld[i]= .agg l[i].cs:=by rw [List.getElem?_eq_getElem h2] at bq;exact Option.some.inj bq
     generalize l[i]=x at*
     refine ⟨τ++[.box x.cs], ?_⟩
     rw [<-List.append_assoc]
     generalize σ++τ=σ1
     have h60:=fun σ=>c60 x hx σ
     have h208:=fun σ=>Q5 x hx σ
     have hall:x.cs.all D.one=true:=by cases x;rfl
     unfold eF
     by_cases hc:x.chk=0
     ·cases hcl:x.cl je<;>rw [hc] at h60<;>simp only [hcl] at h208<;>simp [qv,hi,hw,h2,h3,hc,hcl,h60,h208,az,aN,hall,aE]
     ·have hc': (x.chk != 0)=true:=by simpa using hc
      simp [qv,hi,hw,h2,h3,hc,hc',h60,az,aN,hall,aE]) (fun τ=>⟨τ,by generalize aT l=ld at*;simp [qv]⟩) []
  rw [Int.natCast_zero,List.append_nil] at hit
  refine ⟨τ, ?_⟩
  unfold gA
  rw [cS]
  generalize aT l=ld at*
  cases hf:l.find? (fun a=>eF a != 0)<;>(rw [hf] at hit;simp [ah,Bm,hlen,hit])
 exact aR MZ hτ rfl rfl
def Con.ok (c:Con):Prop:=c.args.length<=aQ/\kQ c.args
def Dat.ok (d:Dat):Prop:=d.params.length<=aQ/\d.cons.length<=aQ/\ ∀c ∈ d.cons,c.ok
def qU (c:Con):Int:=if 4<c.args.length then 3 else if upW c.name then gA c.args else 4
def ja (d:Dat):Int:=if 4<d.params.length\/8<d.cons.length then 3 else if upW d.name then (if fU d.params 1=0 then bn (d.cons.map qU) else fU d.params 1) else 4
theorem Sz (d:Dat) (hok:d.ok) (σ:St):CI (.fn 140) [d.d] σ=some (.ret (.int .i64 (ja d)),σ):=by
 rcases d with ⟨name,params,cons⟩
 obtain ⟨hp,hcl,hc⟩:=hok
 simp only at hp hcl hc
 obtain ⟨τ,hτ⟩: ∃τ,ah CI XB GI qu [Dat.d ⟨name,params,cons⟩] σ=some (.ret (.int .i64 (ja ⟨name,params,cons⟩)),σ++τ):=by
  obtain ⟨τ,hit⟩:=eT (f:=aD CI XB GI 53 false kK) (σ:=σ++[.box (Dat.cs ⟨name,params,cons⟩)]) cons (fun i=>[(30, .slice (cons.map Con.d)),(31, .int .i64 cons.length),(32, .int .i64 (i:Nat))]) (fun a=>qU a != 0) (fun a=>(.ret,[(2, .int .i64 (qU a))]))
   (.exit 1,[(30, .slice (cons.map Con.d)),(31, .int .i64 cons.length),(32, .int .i64 cons.length),(33, .bool false)]) (by simp) (by simp)
   (fun i hi τ=>by
     have hw:=aI (n:=i) (by unfold aQ at hcl;omega)
     have hx:=hc _ (List.getElem_mem hi)
     have hlen: (cons.map Con.d).length=cons.length:=by simp
     have bq: (cons.map Con.d)[i]? =some (Con.d cons[i]):=by simp [hi]
     generalize cons.map Con.d=ld at*
     have h2:i<ld.length:=by omega
     have h3:ld[i]=Con.d cons[i]:=by rw [List.getElem?_eq_getElem h2] at bq;exact Option.some.inj bq
     generalize cons[i]=x at*
     rcases x with ⟨cn,args⟩
     obtain ⟨ha,hb⟩:=hx
     simp only at ha hb
     have h183:=fun σ=>Q7 args σ ha hb
     have hal:=cN args
     refine ⟨τ++[.box (Con.cs ⟨cn,args⟩)], ?_⟩
     rw [<-List.append_assoc]
     simp only [Con.d,Con.cs] at*
     generalize σ++[.box (Dat.cs ⟨name,params,cons⟩)]++τ=σ1 at*
     unfold qU
     generalize aT args=ad at*
     by_cases h4:4<args.length
     ·have h4': (4:Int) <args.length:=by omega
      have h4'':4<ad.length:=by omega
      simp [kK,hi,hw,h2,h3,az,aN,h4,h4',h4'',hal]
     ·have h4': ¬(4:Int) <args.length:=by omega
      have h4'': ¬4<ad.length:=by omega
      cases hu:upW cn
      ·simp [kK,hi,hw,h2,h3,az,aN,h4,h4',h4'',hal,fq,s7,hu]
      ·by_cases hd:gA args=0
       ·simp [kK,hi,hw,h2,h3,az,aN,h4,h4',h4'',hal,fq,s7,hu,h183,hd]
       ·have hd': (gA args != 0)=true:=by simpa using hd
        simp [kK,hi,hw,h2,h3,az,aN,h4,h4',h4'',hal,fq,s7,hu,h183,hd,hd']) (fun τ=>⟨τ,by simp [kK]⟩) []
  rw [Int.natCast_zero,List.append_nil] at hit
  have hlen: (cons.map Con.d).length=cons.length:=by simp
  have h182:=fun σ=>Q6 params 1 σ hp
  unfold ja
  simp only [Dat.d,Dat.cs] at*
  rw [cS]
  simp only [slD] at*
  have hpl: (params.map D.str).length=params.length:=by simp
  generalize cons.map Con.d=ld at*
  generalize params.map D.str=pd at*
  by_cases h4:4<params.length
  ·have h4': (4:Int) <params.length:=by omega
   have h4'':4<pd.length:=by omega
   refine ⟨[.box [.str name, .slice pd, .slice ld]], ?_⟩
   simp [ah,qu,az,h4,h4',h4'',hpl]
  have h4': ¬(4:Int) <params.length:=by omega
  have h4'': ¬4<pd.length:=by omega
  by_cases h8:8<cons.length
  ·have h8': (8:Int) <cons.length:=by omega
   have h8'':8<ld.length:=by omega
   refine ⟨[.box [.str name, .slice pd, .slice ld]], ?_⟩
   simp [ah,qu,az,h4,h4',h4'',hpl,h8,h8',h8'',hlen]
  have h8': ¬(8:Int) <cons.length:=by omega
  have h8'': ¬8<ld.length:=by omega
  cases hu:upW name
  ·refine ⟨[.box [.str name, .slice pd, .slice ld]], ?_⟩
   simp [ah,qu,az,h4,h4',h4'',hpl,h8,h8',h8'',hlen,fq,s7,hu]
  by_cases hd:fU params 1=0
  ·refine ⟨[.box [.str name, .slice pd, .slice ld]]++τ, ?_⟩
   rw [<-List.append_assoc]
   rw [hd] at h182
   cases hf:cons.find? (fun a=>qU a != 0)<;>(rw [hf] at hit;simp [ah,qu,az,h4,h4',h4'',hpl,h8,h8',h8'',hlen,fq,s7,hu,h182,hd,hit])
  ·have hd': (fU params 1 != 0)=true:=by simpa using hd
   refine ⟨[.box [.str name, .slice pd, .slice ld]], ?_⟩
   simp [ah,qu,az,h4,h4',h4'',hpl,h8,h8',h8'',hlen,fq,s7,hu,h182,hd,hd']
 exact aR MH hτ rfl rfl
def Opn.ok (o:Opn):Prop:=o.arg.ok/\o.res.ok
def Eff.ok (e:Eff):Prop:=e.ops.length<=aQ/\ ∀o ∈ e.ops,o.ok
def qT (o:Opn):Int:=if m8 o.name then gA [o.arg,o.res] else 4
def iZ (e:Eff):Int:=if 8<e.ops.length then 3 else if upW e.name then bn (e.ops.map qT) else 4
theorem SA (e:Eff) (hok:e.ok) (σ:St):CI (.fn 141) [e.d] σ=some (.ret (.int .i64 (iZ e)),σ):=by
 rcases e with ⟨name,ops⟩
 obtain ⟨hol,ho⟩:=hok
 simp only at hol ho
 obtain ⟨τ,hτ⟩: ∃τ,ah CI XB GI vM [Eff.d ⟨name,ops⟩] σ=some (.ret (.int .i64 (iZ ⟨name,ops⟩)),σ++τ):=by
  obtain ⟨τ,hit⟩:=eT (f:=aD CI XB GI 37 false m4) (σ:=σ++[.box (Eff.cs ⟨name,ops⟩)]) ops (fun i=>[(17, .slice (ops.map Opn.d)),(18, .int .i64 ops.length),(19, .int .i64 (i:Nat))]) (fun a=>qT a != 0) (fun a=>(.ret,[(2, .int .i64 (qT a))]))
   (.exit 1,[(17, .slice (ops.map Opn.d)),(18, .int .i64 ops.length),(19, .int .i64 ops.length),(20, .bool false)]) (by simp) (by simp)
   (fun i hi τ=>by
     have hw:=aI (n:=i) (by unfold aQ at hol;omega)
     have hx:=ho _ (List.getElem_mem hi)
     have hlen: (ops.map Opn.d).length=ops.length:=by simp
     have bq: (ops.map Opn.d)[i]? =some (Opn.d ops[i]):=by simp [hi]
     generalize ops.map Opn.d=ld at*
     have h2:i<ld.length:=by omega
     have h3:ld[i]=Opn.d ops[i]:=by rw [List.getElem?_eq_getElem h2] at bq;exact Option.some.inj bq
     generalize ops[i]=x at*
     rcases x with ⟨on,arg,res,once⟩
     obtain ⟨ha,hb⟩:=hx
     simp only at ha hb
     have h183:=fun σ=>Q7 [arg,res] σ (by unfold aQ;simp) ⟨ha,hb,trivial⟩
     refine ⟨τ++[.box (Opn.cs ⟨on,arg,res,once⟩)], ?_⟩
     rw [<-List.append_assoc]
     unfold qT
     simp only [Opn.d,Opn.cs,aT] at*
     generalize gA [arg,res]=dE at*
     rcases arg with ⟨k1,n1,s1,l1,ls1,t1⟩
     rcases res with ⟨k2,n2,s2,l2,ls2,t2⟩
     simp only [Ty.cs,List.cons_append,List.nil_append] at*
     generalize aT l1=ld1 at*
     generalize aT l2=ld2 at*
     generalize ls1.map Lab.d=lsd1 at*
     generalize ls2.map Lab.d=lsd2 at*
     generalize σ++[.box (Eff.cs ⟨name,ops⟩)]++τ=σ1 at*
     cases hu:m8 on
     ·simp [m4,hi,hw,h2,h3,az,aN,fq,Eh,hu]
     ·by_cases hd:dE=0
      ·simp [m4,hi,hw,h2,h3,az,aN,fq,Eh,hu,bw,h183,hd]
      ·have hd': (dE != 0)=true:=by simpa using hd
       simp [m4,hi,hw,h2,h3,az,aN,fq,Eh,hu,bw,h183,hd,hd']) (fun τ=>⟨τ,by simp [m4]⟩) []
  rw [Int.natCast_zero,List.append_nil] at hit
  have hlen: (ops.map Opn.d).length=ops.length:=by simp
  unfold iZ
  simp only [Eff.d,Eff.cs] at*
  rw [cS]
  generalize ops.map Opn.d=ld at*
  by_cases h8:8<ops.length
  ·have h8': (8:Int) <ops.length:=by omega
   have h8'':8<ld.length:=by omega
   refine ⟨[.box [.str name, .slice ld]], ?_⟩
   simp [ah,vM,az,h8,h8',h8'',hlen]
  have h8': ¬(8:Int) <ops.length:=by omega
  have h8'': ¬8<ld.length:=by omega
  cases hu:upW name
  ·refine ⟨[.box [.str name, .slice ld]], ?_⟩
   simp [ah,vM,az,h8,h8',h8'',hlen,fq,s7,hu]
  refine ⟨[.box [.str name, .slice ld]]++τ, ?_⟩
  rw [<-List.append_assoc]
  cases hf:ops.find? (fun a=>qT a != 0)<;>(rw [hf] at hit;simp [ah,vM,az,h8,h8',h8'',hlen,fq,s7,hu,hit])
 exact aR MI hτ rfl rfl
mutual
def Ex.ok:Ex->Prop
 | .mk _ _ _ _ names l aV=>names.length<=aQ/\l.length<=aQ/\aV.length<=aQ/\AE l/\zp aV
def AE:List Ex->Prop
 | []=>True
 |x::r=>x.ok/\AE r
def Arm.ok:Arm->Prop
 | .mk _ names body=>names.length<=aQ/\body.ok
def zp:List Arm->Prop
 | []=>True
 |x::r=>x.ok/\zp r
end
theorem iH: ∀ {l:List Ex} {t:Ex},AE l->t ∈ l->t.ok
 | [],t,_,h=>by cases h
 |a::r,t,⟨h1,h2⟩,h=>by
  cases h with
  |head=>exact h1
  |tail _ h=>exact iH h2 h
theorem kN: ∀ {l:List Arm} {t:Arm},zp l->t ∈ l->t.ok
 | [],t,_,h=>by cases h
 |a::r,t,⟨h1,h2⟩,h=>by
  cases h with
  |head=>exact h1
  |tail _ h=>exact kN h2 h
def Arm.op:Arm->Bs| .mk op _ _=>op
def Arm.names:Arm->List Bs| .mk _ names _=>names
def Arm.body:Arm->Ex| .mk _ _ body=>body
def Ex.parts:Ex->List Ex| .mk _ _ _ _ _ l aV=>l++aV.map Arm.body
theorem Ex.FX {e x:Ex} (hx:x ∈ e.parts):SizeOf.sizeOf x<SizeOf.sizeOf e:=by
 rcases e with ⟨k,n,s,t,names,l,aV⟩
 simp only [Ex.parts,List.mem_append,List.mem_map] at hx
 simp only [Ex.mk.sizeOf_spec]
 rcases hx with hx| ⟨a,ha,rfl⟩
 ·have:=List.sizeOf_lt_of_mem hx
  omega
 ·have:=List.sizeOf_lt_of_mem ha
  rcases a with ⟨op,ns,body⟩
  simp only [Arm.mk.sizeOf_spec] at this
  simp only [Arm.body]
  omega
theorem cu (l:List Ex): (aX l).length=l.length:=by rw [bI];simp
theorem wX (l:List Arm): (dx l).length=l.length:=by rw [jG];simp
theorem Ex.bJ (x:Ex):x.cs.all D.one=true:=by cases x;rfl
theorem Arm.dw (a:Arm):a.cs= .str a.op::slD a.names::a.body.cs:=by cases a;rfl
section
variable {β:Type} (f:Nat) (caps:List D) (i:Nat) (o:β->Obj) (I:β->Prop) (step:Ex->β->Bool × β) (σ:St)
end
def I5:Bs:=[114,101,116,117,114,110]
def Q8 (k:Int) (first:Bool):Int:=if k==11 then 2 else if first then 0 else 1
def SB (k:Int) (first:Bool) (a:Arm):Bool:=if k==11 then decide (a.names.length<=4) else if first then a.names.length==1&&a.op==I5 else a.names.length==2
def Q9 (k:Int) (pre:List Bs) (a:Arm):Int:=
 if SB k (pre==[]) a then (if Q8 k (pre==[]) != 0&& !isC a.op (Q8 k (pre==[])) then 4 else if fU a.names 1=0 then (if cV pre a.op then 5 else 0) else fU a.names 1) else 7
structure Sh where
 s:Int
 t:Int
 n:Int
 m:Int
 p:Int
 q:Int
 a:Bool
 lo:Int
 hi:Int
 deriving DecidableEq,Inhabited
def Sh.cs (x:Sh):List D:=sh x.s x.t x.n x.m x.p x.q x.a x.lo x.hi
def ta:List Sh:=[⟨1,0,0,0,0,0,false,0,0⟩,⟨0,0,0,0,0,0,false,(-999999999),999999999⟩,⟨0,0,0,0,0,0,false,0,1⟩,⟨0,0,0,0,0,0,false,0,0⟩,⟨0,0,1,0,1,0,false,0,0⟩,⟨0,0,0,0,2,0,false,0,0⟩,⟨0,0,1,0,2,0,false,0,0⟩,⟨0,0,2,0,2,0,false,0,0⟩,⟨0,0,0,0,3,0,false,0,0⟩,⟨3,0,0,0,2,0,false,0,0⟩,⟨2,0,0,0,0,4,false,0,0⟩,⟨0,0,0,0,1,0,true,0,0⟩,⟨1,0,0,0,1,0,false,0,0⟩,⟨1,1,0,0,1,0,false,0,0⟩,⟨2,0,0,0,1,0,true,0,1⟩,⟨2,0,1,0,1,0,true,0,0⟩,⟨2,0,0,0,1,0,false,0,0⟩,⟨0,0,1,12,3,0,false,0,0⟩,⟨1,0,0,0,1,0,false,0,0⟩,⟨1,0,0,0,0,0,false,0,0⟩]
def shapeOf (k:Int):Sh:=ta.getD k.toNat default
theorem xQ: ∀ (j:Nat),j<20->(jA.drop (j*9)).take 9=(ta.getD j default).cs
 |0,_=>rfl
 |1,_=>rfl
 |2,_=>rfl
 |3,_=>rfl
 |4,_=>rfl
 |5,_=>rfl
 |6,_=>rfl
 |7,_=>rfl
 |8,_=>rfl
 |9,_=>rfl
 |10,_=>rfl
 |11,_=>rfl
 |12,_=>rfl
 |13,_=>rfl
 |14,_=>rfl
 |15,_=>rfl
 |16,_=>rfl
 |17,_=>rfl
 |18,_=>rfl
 |19,_=>rfl
 |j+20,h=>by omega
def FY (k:Int):List Bs->List Arm->Int
 |_,[]=>0
 |pre,a::r=>if Q9 k pre a=0 then FY k (pre++[a.op]) r else Q9 k pre a
def JW (k n:Int) (s t:Bs) (names:List Bs) (nl:Nat) (aV:List Arm):Int:=
 if inR k 0 19 then
  if inR n (shapeOf k).lo (shapeOf k).hi then
   if isC s (shapeOf k).s&&isC t (shapeOf k).t then
    if inR names.length (shapeOf k).n ((shapeOf k).n+ (shapeOf k).m)&&inR nl (shapeOf k).p ((shapeOf k).p+ (shapeOf k).q) then
     if (!(shapeOf k).a&&decide (0<aV.length)) ||decide (9<aV.length) then 7
     else if fU (names.take (if k=17 then 1 else names.length)) 1=0 then
      if fU (names.drop (if k=17 then 1 else names.length)) 2=0 then
       if FY k [] aV=0 then (if k != 11&&((shapeOf k).a&&decide (aV.length=0)) then 7 else 0) else FY k [] aV
      else fU (names.drop (if k=17 then 1 else names.length)) 2
     else fU (names.take (if k=17 then 1 else names.length)) 1
    else 7
   else 4
  else 1
 else 1
theorem Sh.dw (x:Sh):x.cs=[.int .i64 x.s, .int .i64 x.t, .int .i64 x.n, .int .i64 x.m, .int .i64 x.p, .int .i64 x.q, .bool x.a, .int .i64 x.lo, .int .i64 x.hi]:=rfl
mutual
def Ex.e:Ex->Int
 | .mk k n s t names l aV=>if JW k n s t names l.length aV=0 then (if Ow l=0 then FZ aV else Ow l) else JW k n s t names l.length aV
def Ow:List Ex->Int
 | []=>0
 |x::r=>if x.e=0 then Ow r else x.e
def FZ:List Arm->Int
 | []=>0
 | .mk _ _ b::r=>if b.e=0 then FZ r else b.e
end
mutual
def Ex.take:Ex->Int->Int × Int->Bool × (Int × Int)
 | .mk _ _ _ _ _ l aV,d,b=>if b.1 - 1<0\/200<d then (false,(b.1 - 1,if d>b.2 then d else b.2))
  else if (kO l (d+1) (b.1 - 1,if d>b.2 then d else b.2)).1 then mA aV (d+1) (kO l (d+1) (b.1 - 1,if d>b.2 then d else b.2)).2
  else (false,(kO l (d+1) (b.1 - 1,if d>b.2 then d else b.2)).2)
def kO:List Ex->Int->Int × Int->Bool × (Int × Int)
 | [],_,b=>(true,b)
 |x::r,d,b=>if (x.take d b).1 then kO r d (x.take d b).2 else (false,(x.take d b).2)
def mA:List Arm->Int->Int × Int->Bool × (Int × Int)
 | [],_,b=>(true,b)
 | .mk _ _ x::r,d,b=>if (x.take d b).1 then mA r d (x.take d b).2 else (false,(x.take d b).2)
end
theorem qD (d:Int): ∀ (l:List Ex) (b:Int × Int),kO l d b=j0 (fun x=>x.take d) l b
 | [],b=>rfl
 |x::r,b=>by simp only [kO,j0,qD d r]
theorem nE (d:Int): ∀ (l:List Arm) (b:Int × Int),mA l d b=j0 (fun x=>x.take d) (l.map Arm.body) b
 | [],b=>rfl
 | .mk _ _ x::r,b=>by simp only [mA,List.map_cons,j0,Arm.body,nE d r]
def F0 (d b:Int):Int:=if d>b then d else b
theorem Ex.yb (e:Ex) (d:Int) (b:Int × Int):e.take d b=if b.1 - 1<0\/200<d then (false,(b.1 - 1,F0 d b.2)) else j0 (fun x=>x.take (d+1)) e.parts (b.1 - 1,F0 d b.2):=by
 rcases e with ⟨k,n,s,t,names,l,aV⟩
 simp only [Ex.take,Ex.parts,xN,qD,nE,F0]
theorem Ox:Nat.log2 512=9:=by decide
theorem Ra:Nat.testBit 511 4=true:=by decide
def Dfn.ok (d:Dfn):Prop:=d.body.ok
structure Prg.ok (p:Prg):Prop where
 dl:p.data.length<=aQ
 d: ∀d ∈ p.data,d.ok
 el:p.aA.length<=aQ
 e: ∀e ∈ p.aA,e.ok
 fl:p.defs.length<=aQ
 f: ∀f ∈ p.defs,f.ok
 m:p.main.ok
def Rb (d:Dfn) (out:Ex):Ex:= .mk 6 0 [] [] [d.name] [d.body,out] []
def pn (l:List Dfn) (m:Ex):Ex:=l.foldr Rb m
def idx:Nat->Int
 |0=> -1
 |k+1=>k
def orE (a b:Int):Int:=if a=0 then b else a
def zH (d:Dfn):Int:=if m8 d.name then d.body.e else 4
def Prg.syn (p:Prg):Int:=
 if 12<p.data.length\/12<p.aA.length\/60<p.defs.length then 3
 else orE (bn (p.data.map ja)) (orE (bn (p.aA.map iZ)) (if ((pn p.defs p.main).take 1 (3000,0)).1 then orE (bn (p.defs.map zH)) p.main.e else 3))
end Go.AI
namespace Go.Proofs.YtgenoggafhhgfaaGreatDoor
open Go Go.AI Go.ChangeShapes Go.WideShapes Go.ChangeAt Go.RowKit
set_option maxRecDepth 100000
def rO (W:World) (b:Nat):Prop:=b<W.heap.size
def RC (W:World) (ds:List D) (cs:List Value):Prop:=ds.length=cs.length/\ ∀ (j:Nat) (d:D),ds[j]? =some d-> ∃v,cs[j]? =some v/\R (bare (rO W)) W d v
theorem RC.one {W:World} {d:D} {v:Value} (h:R (bare (rO W)) W d v):RC W [d] [v]:=
 ⟨rfl,fun j x hx=>by
  match j,hx with
  |0,hx=>cases hx;exact ⟨v,rfl,h⟩⟩
theorem RC.nil {W:World} {cs:List Value} {off:Nat} (h:cs.length<=off):RC W [] (cs.drop off):=⟨by rw [List.drop_eq_nil_of_le h];rfl,fun j x hx=>by simp at hx⟩
theorem RC.cons {W:World} {a rest:List D} {cs:List Value} {off s:Nat} (h:RC W a ((cs.drop off).take s)) (hr:RC W rest (cs.drop (off+s))) (hl:off+s<=cs.length):RC W (a++rest) (cs.drop off):=by
 obtain ⟨h1,h2⟩:=h
 obtain ⟨r1,r2⟩:=hr
 simp only [List.length_take,List.length_drop] at h1 r1
 have hal:a.length=s:=by omega
 refine ⟨by simp only [List.length_append,List.length_drop];omega,fun j d hd=> ?_⟩
 by_cases hj:j<a.length
 ·rw [List.getElem?_append_left hj] at hd
  obtain ⟨v,hv,hvr⟩:=h2 j d hd
  rw [List.getElem?_take_of_lt (by omega)] at hv
  exact ⟨v,hv,hvr⟩
 ·rw [List.getElem?_append_right (by omega)] at hd
  obtain ⟨v,hv,hvr⟩:=r2 (j - a.length) d hd
  rw [List.getElem?_drop] at hv ⊢
  exact ⟨v,by rw [<-hv];congr 1;omega,hvr⟩
section
variable {H:Type} {enc:TypeId × Value->H} {W:World} {sp:Nat->Bool} {held:Bool}
def Fit {H:Type} (t:TypeId) (d:DataW H):Prop:=(d.weights Tryz.prog t).all (· <=reachBytes)=true
def dA {α:Type} (enc:TypeId × Value->H) (W:World) (sp:Nat->Bool) (held:Bool) (t:TypeId) (f:α->List D) (ok:α->Prop) (m:Nat):Prop:=
 ∀ (cs:List Value) (x:DataW H × List MemPlace),DataW.trod enc Tryz.prog W 0 sp held m t cs=some x->Fit t x.1-> ∃a,RC W (f a) cs/\ok a
theorem qE: ∀ (ts:List TypeId) (ds:List (DataW H)),(DataW.weightsEach Tryz.prog ts ds).all (· <=reachBytes)=true-> ∀ (i:Nat) (t:TypeId) (d:DataW H),ts[i]? =some t->ds[i]? =some d->Fit t d
 | [],_,_,i,t,d,ht,_=>by simp at ht
 |_::_,[],_,i,t,d,_,hd=>by simp at hd
 |t::ts,d::ds,h,0,u,e,ht,hd=>by
  cases ht;cases hd
  simp only [DataW.weightsEach,List.all_append,Bool.and_eq_true] at h
  exact h.1
 |t::ts,d::ds,h,i+1,u,e,ht,hd=>by
  simp only [DataW.weightsEach,List.all_append,Bool.and_eq_true] at h
  exact qE ts ds h.2 i u e (by simpa using ht) (by simpa using hd)
theorem DA (e:TypeId): ∀ (ds:List (DataW H)),(DataW.weightsAll Tryz.prog e ds).all (· <=reachBytes)=true-> ∀d ∈ ds,Fit e d
 | [],_,d,hd=>by cases hd
 |a::r,h,d,hd=>by
  simp only [DataW.weightsAll,List.all_append,Bool.and_eq_true] at h
  cases hd with
  |head=>exact h.1
  |tail _ hd=>exact DA e r h.2 d hd
theorem iK {t:TypeId} {k:IntKind} (ht:Tryz.prog.underlying t=some (.int k)) (m:Nat):dA enc W sp held t (fun n:Int=>[.int k n]) (fun n=>(Lit.int k n).wf=true) m:=by
 intro cs x h _
 obtain ⟨n,rfl,rfl,hw⟩:=DataW.trod_int ht h
 exact ⟨n, .one (.int _ _),hw⟩
theorem eJ {t:TypeId} (ht:Tryz.prog.underlying t=some .string) (m:Nat):dA enc W sp held t (fun s:Bs=>[.str s]) (fun _=>True) m:=by
 intro cs x h _
 obtain ⟨s,rfl,rfl,_⟩:=DataW.trod_string ht h
 exact ⟨s.data.toList, .one (R.str (ρ:=bare (rO W)) (W:=W) s),trivial⟩
theorem Cq {t:TypeId} (ht:Tryz.prog.underlying t=some .bool) (m:Nat):dA enc W sp held t (fun b:Bool=>[.bool b]) (fun _=>True) m:=by
 intro cs x h _
 obtain ⟨b,rfl,rfl⟩:=DataW.trod_bool ht h
 exact ⟨b, .one (.bool _),trivial⟩
theorem DB {α:Type} {P:Nat->α->Prop} : ∀ (n:Nat),(∀i,i<n-> ∃t,P i t)-> ∃l:List α,l.length=n/\ ∀i t,l[i]? =some t->P i t
 |0,_=>⟨[],rfl,fun i t h=>by simp at h⟩
 |n+1,h=>by
  obtain ⟨l,h1,h2⟩:=DB n fun i hi=>h i (by omega)
  obtain ⟨t,ht⟩:=h n (by omega)
  refine ⟨l++[t],by simp [h1],fun i u hu=> ?_⟩
  rw [List.getElem?_append] at hu
  split at hu
  ·exact h2 i u hu
  ·rename_i hi
   have hin:i=n:=by
    have:=(List.getElem?_eq_some_iff.1 hu).1
    simp at this;omega
   subst hin
   rw [h1] at hu
   simp at hu
   rw [<-hu];exact ht
theorem zq {α:Type} {f:α->List D} {ok:α->Prop} (g:α->D) (hg: ∀a,(g a).cells=f a) {t e:TypeId} {sz bytes:Nat} (ht:Tryz.prog.underlying t=some (.slice e)) (hsz:Tryz.prog.cellsOf e=sz) (hsz0:0<sz) (hfl: ∀a,(f a).length=sz)
 (hb:Tryz.prog.bytesOf e=bytes) {m:Nat} (ih: ∀n,n<m->dA enc W sp held e f ok n):
 dA enc W sp held t (fun l:List α=>[.slice (l.map g)]) (fun l=>l.length*bytes<=reachBytes/\ ∀a ∈ l,ok a) m:=by
 intro cs x h hfit
 rcases DataW.trod_slice ht h with ⟨rfl,rfl⟩ | ⟨a,len,cap,elems,rest,n,rfl,rfl,rfl,_,hlc,_,hlen,hel,_,_⟩
 ·exact ⟨[], .one (.slice0 none 0),by simp,by simp⟩
 ·rw [hsz] at hel
  have hF: (elems.length+rest.length) *bytes<=reachBytes/\(∀d ∈ elems.map (·.1),Fit e d):=by
   unfold Fit at hfit
   simp only [DataW.weights,ht,List.all_cons,List.all_append,Bool.and_eq_true,decide_eq_true_eq,List.length_map,hb] at hfit
   exact ⟨hfit.1,DA e _ hfit.2.1⟩
  have hlm:len*bytes<=reachBytes:=by
   have h1:=hF.1
   rw [hlen] at h1
   exact Nat.le_trans (Nat.mul_le_mul_right _ (by omega)) h1
  obtain ⟨ls,h1,h2⟩:=DB (P:=fun i (v:α)=>ok v/\ ∃csi,W.cells? 0 (a.add (i*sz)) sz=some csi/\RC W (f v) csi) len fun i hi=>by
   have hi2:=hel i hi
   rw [List.getElem?_eq_getElem (by omega)] at hi2
   obtain ⟨csi,hcs,htr⟩:=Option.bind_eq_some_iff.1 hi2
   obtain ⟨v,hv,hok⟩:=ih n (by omega) csi _ htr (hF.2 _ (List.mem_map_of_mem (List.getElem_mem _)))
   exact ⟨v,hok,csi,hcs,hv⟩
  refine ⟨ls, ?_,by rw [h1];exact hlm,fun v hv=>by
   obtain ⟨i,hi⟩:=List.mem_iff_getElem?.1 hv
   exact (h2 i v hi).1⟩
  refine .one ?_
  by_cases h0:len=0
  ·subst h0
   have:ls=[]:=List.length_eq_zero_iff.1 h1
   subst this
   exact .slice0 (some a) cap
  ·have cell: ∀i v,ls[i]? =some v-> ∀j d,(f v)[j]? =some d-> ∃w,W.cell? ((a.add (i*sz)).add j)=some w/\R (bare (rO W)) W d w:=by
    intro i v hv j d hd
    obtain ⟨_,csi,hcs,hr1,hr2⟩:=h2 i v hv
    obtain ⟨w,hw,hwr⟩:=hr2 j d hd
    unfold World.cells? at hcs
    rw [if_pos (Nat.zero_le _)] at hcs
    have hj:j<sz:=by have:=(List.getElem?_eq_some_iff.1 hd).1;rw [hfl] at this;exact this
    obtain ⟨w',hw',hwc⟩:=Lib.mapM_at hcs j j (by simp [hj])
    rw [hw'] at hw
    cases hw
    exact ⟨w,hwc,hwr⟩
   obtain ⟨v0,hv0⟩: ∃v,ls[0]? =some v:=⟨ls[0]'(by omega),by simp⟩
   obtain ⟨d0,hd0⟩: ∃d,(f v0)[0]? =some d:=⟨(f v0)[0]'(by rw [hfl];omega),by simp⟩
   obtain ⟨w0,hc0,_⟩:=cell 0 v0 hv0 0 d0 hd0
   simp only [Nat.zero_mul] at hc0
   obtain ⟨b,off,sp'⟩:=a
   have hs:sp'=none:=by
    cases sp' with
    |none=>rfl
    |some q=>
     simp only [Addr.add,if_true,World.cell?] at hc0
     split at hc0<;>simp at hc0
   subst hs
   have hblk:rO W b:=by
    simp only [Addr.add,if_true,World.cell?] at hc0
    split at hc0
    ·rename_i hb';exact (Array.getElem?_eq_some_iff.1 hb').1
    ·cases hc0
   have hadd: ∀i j:Nat,((⟨b,off,none⟩:Addr).add (i*sz)).add j=⟨b,off+ (i*sz+j),none⟩:=by
    intro i j
    unfold Addr.add
    by_cases hi:i*sz=0<;>by_cases hj:j=0<;>simp [hi,hj]<;>omega
   have key: ∀ (i jj:Nat) (e dd:D),(ls.map g)[i]? =some e->e.cells[jj]? =some dd-> ∃v,W.cell? ⟨b,off+ (i*sz+jj),none⟩=some v/\R (bare (rO W)) W dd v:=by
    intro i jj e dd he hdd
    rw [List.getElem?_map] at he
    obtain ⟨v,hv,rfl⟩:=Option.map_eq_some_iff.1 he
    rw [hg] at hdd
    obtain ⟨w,hw,hr⟩:=cell i v hv jj dd hdd
    rw [hadd] at hw
    exact ⟨w,hw,hr⟩
   refine R.slice (sz:=sz) (f:=fun i jj=>(W.cell? ⟨b,off+ (i*sz+jj),none⟩).getD undef) hblk (by simp [h1]) hlc ?_ ?_ ?_
   ·intro i e he
    rw [List.getElem?_map] at he
    obtain ⟨v,_,rfl⟩:=Option.map_eq_some_iff.1 he
    rw [hg,hfl]
   ·intro i jj e dd he hdd
    obtain ⟨v,hv,_⟩:=key i jj e dd he hdd
    simp only [hv,Option.getD_some]
   ·intro i jj e dd he hdd
    obtain ⟨v,hv,hr⟩:=key i jj e dd he hdd
    simp only [hv,Option.getD_some]
    exact hr
theorem dL {α:Type} {f:α->List D} {ok:α->Prop} (g:α->D) (hg: ∀a,(g a).cells=f a) {t e:TypeId} {sz bytes:Nat} (ht:Tryz.prog.underlying t=some (.slice e)) (hsz:Tryz.prog.cellsOf e=sz) (hsz0:0<sz) (hfl: ∀a,(f a).length=sz)
 (hb:Tryz.prog.bytesOf e=bytes) (hb16:16<=bytes) {m:Nat} (ih: ∀n,n<m->dA enc W sp held e f ok n):
 dA enc W sp held t (fun l:List α=>[.slice (l.map g)]) (fun l=>l.length<=aQ/\ ∀a ∈ l,ok a) m:=by
 intro cs x h hfit
 obtain ⟨a,hr,h1,h2⟩:=zq g hg ht hsz hsz0 hfl hb ih cs x h hfit
 refine ⟨a,hr, ?_,h2⟩
 have h3:a.length*16<=a.length*bytes:=Nat.mul_le_mul_left _ hb16
 unfold reachBytes at h1
 unfold aQ
 omega
theorem cQ {t:TypeId} {fs:Array Field} (ht:Tryz.prog.underlying t=some (.struct fs)) {m:Nat} {cs:List Value} {x:DataW H × List MemPlace} (h:DataW.trod enc Tryz.prog W 0 sp held m t cs=some x) (hfit:Fit t x.1):
 cs.length=Tryz.prog.cellsOf t/\ ∃n,n<m/\ ∀ (i:Nat) (f:Field),fs[i]? =some f-> ∃y,DataW.trod enc Tryz.prog W 0 sp held n f.type ((cs.drop f.offset).take (Tryz.prog.cellsOf f.type))=some y/\Fit f.type y.1:=by
 obtain ⟨xs,n,rfl,rfl,hl,hlen,hf⟩:=DataW.trod_struct ht h
 refine ⟨hl,n,by omega,fun i f hi=> ?_⟩
 have hi':i<fs.size:=(Array.getElem?_eq_some_iff.1 hi).1
 have h1:=hf i f hi
 rw [List.getElem?_eq_getElem (by omega)] at h1
 refine ⟨_,h1, ?_⟩
 unfold Fit at hfit
 simp only [DataW.weights,ht] at hfit
 refine qE _ _ hfit i f.type _ ?_ ?_
 ·rw [List.getElem?_map,Array.getElem?_toList,hi];rfl
 ·rw [List.getElem?_map,List.getElem?_eq_getElem (by omega)];rfl
theorem aZ {α:Type} {f:α->List D} {ok:α->Prop} {cs:List Value} {fs:Array Field} {n:Nat} (h: ∀ (i:Nat) (f:Field),fs[i]? =some f-> ∃y,DataW.trod enc Tryz.prog W 0 sp held n f.type ((cs.drop f.offset).take (Tryz.prog.cellsOf f.type))=some y/\Fit f.type y.1)
 {t:TypeId} (ho:dA enc W sp held t f ok n) (i off sz:Nat) (hi: (fs[i]?).map (fun q=>(q.type,q.offset))=some (t,off)) (hsz:Tryz.prog.cellsOf t=sz): ∃a,RC W (f a) ((cs.drop off).take sz)/\ok a:=by
 obtain ⟨fd,hfd,he⟩:=Option.map_eq_some_iff.1 hi
 cases he
 obtain ⟨y,hy,hfit⟩:=h i fd hfd
 rw [hsz] at hy
 exact ho _ y hy hfit
end
end Go.Proofs.YtgenoggafhhgfaaGreatDoor
namespace Go.Proofs.YtgenoggafhhgfaaGreatDoor
open Go Go.AI Go.ChangeShapes Go.WideShapes Go.ChangeAt Go.RowKit
set_option maxRecDepth 100000
section
variable {H:Type} {enc:TypeId × Value->H} {W:World} {sp:Nat->Bool} {held:Bool}
theorem oN (m:Nat):dA enc W sp held 26 (fun l:List Bs=>[slD l]) (fun l=>l.length<=aQ/\ ∀a ∈ l,True) m:=
 dL (α:=Bs) (f:=fun s=>[D.str s]) D.str (fun _=>rfl) Tryz.underlying26 (e:=9) (by kernel_rfl) Nat.one_pos (fun _=>rfl) (by kernel_rfl) (bytes:=16) (Nat.le_refl _) fun n _=>eJ Tryz.underlying9 n
def Lab.cs (x:Lab):List D:=[.str x.s, .int .i64 x.n]
theorem Ei (m:Nat):dA enc W sp held 151 Lab.cs (fun _=>True) m:=by
 intro cs x h hfit
 obtain ⟨hl,n,hn,hfs⟩:=cQ Tryz.underlying151 h hfit
 have hl:cs.length=2:=hl.trans (by kernel_rfl)
 obtain ⟨s,rs,_⟩:=aZ hfs (eJ Tryz.underlying9 n) 0 0 1 rfl (by kernel_rfl)
 obtain ⟨k,rk,_⟩:=aZ hfs (iK Tryz.underlying3 n) 1 1 1 rfl (by kernel_rfl)
 have hR:=RC.cons (off:=0) (s:=1) rs (RC.cons (off:=1) (s:=1) rk (RC.nil (W:=W) (cs:=cs) (off:=2) (by omega)) (by omega)) (by omega)
 rw [List.drop_zero] at hR
 refine ⟨⟨s,k⟩, ?_,trivial⟩
 simpa [Lab.cs] using hR
theorem Cr (m:Nat):dA enc W sp held 43 (fun l:List Lab=>[.slice (l.map Lab.d)]) (fun l=>l.length<=aQ/\ ∀a ∈ l,True) m:=
 dL (α:=Lab) (f:=Lab.cs) Lab.d (fun _=>rfl) Tryz.underlying43 (e:=151) (sz:=2) (by kernel_rfl) (by omega) (fun _=>rfl) (by kernel_rfl) (bytes:=24) (by omega) fun n _=>Ei n
theorem Ej (m:Nat):dA enc W sp held 45 (fun x:List Lab × Int=>[.slice (x.1.map Lab.d), .int .i64 x.2]) (fun x=>x.1.length<=aQ) m:=by
 intro cs x h hfit
 obtain ⟨hl,n,hn,hfs⟩:=cQ Tryz.underlying45 h hfit
 have hl:cs.length=2:=hl.trans (by kernel_rfl)
 obtain ⟨ls,rls,ols⟩:=aZ hfs (Cr n) 0 0 1 rfl (by kernel_rfl)
 obtain ⟨k,rk,_⟩:=aZ hfs (iK Tryz.underlying3 n) 1 1 1 rfl (by kernel_rfl)
 have hR:=RC.cons (off:=0) (s:=1) rls (RC.cons (off:=1) (s:=1) rk (RC.nil (W:=W) (cs:=cs) (off:=2) (by omega)) (by omega)) (by omega)
 rw [List.drop_zero] at hR
 refine ⟨(ls,k), ?_,ols.1⟩
 simpa using hR
theorem rP: ∀ {l:List Ty},(∀a ∈ l,a.ok)->kQ l
 | [],_=>trivial
 |t::r,h=>⟨h t List.mem_cons_self,rP fun a ha=>h a (List.mem_cons_of_mem _ ha)⟩
theorem qF {m:Nat} (ih: ∀n,n<m->dA enc W sp held 47 Ty.cs Ty.ok n):dA enc W sp held 33 (fun l:List Ty=>[.slice (l.map Ty.d)]) (fun l=>l.length<=aQ/\ ∀a ∈ l,a.ok) m:=
 dL (α:=Ty) (f:=Ty.cs) Ty.d (fun _=>rfl) Tryz.underlying33 (e:=47) (sz:=6) (by kernel_rfl) (by omega) (fun _=>by simp) (by kernel_rfl) (bytes:=88) (by omega) ih
theorem qG: ∀ (m:Nat),dA enc W sp held 47 Ty.cs Ty.ok m:=by
 intro m
 induction m using Nat.strongRecOn with
 |_ m ih=>
  intro cs x h hfit
  obtain ⟨hl,n,hn,hfs⟩:=cQ Tryz.underlying47 h hfit
  have hl:cs.length=6:=hl.trans (by kernel_rfl)
  obtain ⟨kd,rkd,_⟩:=aZ hfs (iK Tryz.underlying42 n) 0 0 1 rfl (by kernel_rfl)
  obtain ⟨k,rk,_⟩:=aZ hfs (iK Tryz.underlying3 n) 1 1 1 rfl (by kernel_rfl)
  obtain ⟨s,rs,_⟩:=aZ hfs (eJ Tryz.underlying9 n) 2 2 1 rfl (by kernel_rfl)
  obtain ⟨l,rl,ol⟩:=aZ hfs (qF fun q hq=>ih q (by omega)) 3 3 1 rfl (by kernel_rfl)
  obtain ⟨rr,rrr,orw⟩:=aZ hfs (Ej n) 4 4 2 rfl (by kernel_rfl)
  have hR:=RC.cons (off:=0) (s:=1) rkd (RC.cons (off:=1) (s:=1) rk (RC.cons (off:=2) (s:=1) rs (RC.cons (off:=3) (s:=1) rl (RC.cons (off:=4) (s:=2) rrr (RC.nil (W:=W) (cs:=cs) (off:=6) (by omega)) (by omega)) (by omega)) (by omega)) (by omega)) (by omega)
  rw [List.drop_zero] at hR
  refine ⟨.mk kd k s l rr.1 rr.2, ?_,⟨ol.1,orw,rP ol.2⟩⟩
  simpa [Ty.cs,bS] using hR
theorem Ek (m:Nat):dA enc W sp held 33 (fun l:List Ty=>[.slice (l.map Ty.d)]) (fun l=>l.length<=aQ/\ ∀a ∈ l,a.ok) m:=qF fun n _=>qG n
theorem xR: ∀ {l:List Ex},(∀a ∈ l,a.ok)->AE l
 | [],_=>trivial
 |t::r,h=>⟨h t List.mem_cons_self,xR fun a ha=>h a (List.mem_cons_of_mem _ ha)⟩
theorem vV: ∀ {l:List Arm},(∀a ∈ l,a.ok)->zp l
 | [],_=>trivial
 |t::r,h=>⟨h t List.mem_cons_self,vV fun a ha=>h a (List.mem_cons_of_mem _ ha)⟩
theorem zu {m:Nat} (ih: ∀n,n<m->dA enc W sp held 30 Ex.cs Ex.ok n):dA enc W sp held 27 (fun l:List Ex=>[.slice (l.map Ex.d)]) (fun l=>l.length<=aQ/\ ∀a ∈ l,a.ok) m:=
 dL (α:=Ex) (f:=Ex.cs) Ex.d (fun _=>rfl) Tryz.underlying27 (e:=30) (sz:=7) (by kernel_rfl) (by omega) (fun _=>by simp) (by kernel_rfl) (bytes:=120) (by omega) ih
theorem wK {m:Nat} (ih: ∀n,n<m->dA enc W sp held 107 Arm.cs Arm.ok n):dA enc W sp held 28 (fun l:List Arm=>[.slice (l.map Arm.d)]) (fun l=>l.length<=aQ/\ ∀a ∈ l,a.ok) m:=
 dL (α:=Arm) (f:=Arm.cs) Arm.d (fun _=>rfl) Tryz.underlying28 (e:=107) (sz:=9) (by kernel_rfl) (by omega) (fun _=>by simp) (by kernel_rfl) (bytes:=160) (by omega) ih
theorem sR: ∀ (m:Nat),dA enc W sp held 30 Ex.cs Ex.ok m/\dA enc W sp held 107 Arm.cs Arm.ok m:=by
 intro m
 induction m using Nat.strongRecOn with
 |_ m ih=>
  constructor
  ·intro cs x h hfit
   obtain ⟨hl,n,hn,hfs⟩:=cQ Tryz.underlying30 h hfit
   have hl:cs.length=7:=hl.trans (by kernel_rfl)
   obtain ⟨kd,rkd,_⟩:=aZ hfs (iK Tryz.underlying25 n) 0 0 1 rfl (by kernel_rfl)
   obtain ⟨k,rk,_⟩:=aZ hfs (iK Tryz.underlying3 n) 1 1 1 rfl (by kernel_rfl)
   obtain ⟨s,rs,_⟩:=aZ hfs (eJ Tryz.underlying9 n) 2 2 1 rfl (by kernel_rfl)
   obtain ⟨u,ru,_⟩:=aZ hfs (eJ Tryz.underlying9 n) 3 3 1 rfl (by kernel_rfl)
   obtain ⟨ns,rns,ons⟩:=aZ hfs (oN n) 4 4 1 rfl (by kernel_rfl)
   obtain ⟨l,rl,ol⟩:=aZ hfs (zu fun q hq=>(ih q (by omega)).1) 5 5 1 rfl (by kernel_rfl)
   obtain ⟨ar,rar,oar⟩:=aZ hfs (wK fun q hq=>(ih q (by omega)).2) 6 6 1 rfl (by kernel_rfl)
   have hR:=RC.cons (off:=0) (s:=1) rkd (RC.cons (off:=1) (s:=1) rk (RC.cons (off:=2) (s:=1) rs (RC.cons (off:=3) (s:=1) ru (RC.cons (off:=4) (s:=1) rns (RC.cons (off:=5) (s:=1) rl (RC.cons (off:=6) (s:=1) rar (RC.nil (W:=W) (cs:=cs) (off:=7) (by omega)) (by omega)) (by omega)) (by omega)) (by omega)) (by omega)) (by omega)) (by omega)
   rw [List.drop_zero] at hR
   refine ⟨.mk kd k s u ns l ar, ?_,⟨ons.1,ol.1,oar.1,xR ol.2,vV oar.2⟩⟩
   simpa [Ex.cs,bI,jG] using hR
  ·intro cs x h hfit
   obtain ⟨hl,n,hn,hfs⟩:=cQ Tryz.underlying107 h hfit
   have hl:cs.length=9:=hl.trans (by kernel_rfl)
   obtain ⟨s,rs,_⟩:=aZ hfs (eJ Tryz.underlying9 n) 0 0 1 rfl (by kernel_rfl)
   obtain ⟨ns,rns,ons⟩:=aZ hfs (oN n) 1 1 1 rfl (by kernel_rfl)
   obtain ⟨bd,rbd,obd⟩:=aZ hfs (ih n hn).1 2 2 7 rfl (by kernel_rfl)
   have hR:=RC.cons (off:=0) (s:=1) rs (RC.cons (off:=1) (s:=1) rns (RC.cons (off:=2) (s:=7) rbd (RC.nil (W:=W) (cs:=cs) (off:=9) (by omega)) (by omega)) (by omega)) (by omega)
   rw [List.drop_zero] at hR
   refine ⟨.mk s ns bd, ?_,⟨ons.1,obd⟩⟩
   simpa [Arm.cs] using hR
theorem El (m:Nat):dA enc W sp held 54 Con.cs Con.ok m:=by
 intro cs x h hfit
 obtain ⟨hl,n,hn,hfs⟩:=cQ Tryz.underlying54 h hfit
 have hl:cs.length=2:=hl.trans (by kernel_rfl)
 obtain ⟨s,rs,_⟩:=aZ hfs (eJ Tryz.underlying9 n) 0 0 1 rfl (by kernel_rfl)
 obtain ⟨l,rl,ol⟩:=aZ hfs (Ek n) 1 1 1 rfl (by kernel_rfl)
 have hR:=RC.cons (off:=0) (s:=1) rs (RC.cons (off:=1) (s:=1) rl (RC.nil (W:=W) (cs:=cs) (off:=2) (by omega)) (by omega)) (by omega)
 rw [List.drop_zero] at hR
 refine ⟨⟨s,l⟩, ?_,⟨ol.1,rP ol.2⟩⟩
 simpa [Con.cs,bS] using hR
theorem Cs (m:Nat):dA enc W sp held 39 (fun l:List Con=>[.slice (l.map Con.d)]) (fun l=>l.length<=aQ/\ ∀a ∈ l,a.ok) m:=
 dL (α:=Con) (f:=Con.cs) Con.d (fun _=>rfl) Tryz.underlying39 (e:=54) (sz:=2) (by kernel_rfl) (by omega) (fun _=>rfl) (by kernel_rfl) (bytes:=40) (by omega) fun n _=>El n
theorem Em (m:Nat):dA enc W sp held 41 Dat.cs Dat.ok m:=by
 intro cs x h hfit
 obtain ⟨hl,n,hn,hfs⟩:=cQ Tryz.underlying41 h hfit
 have hl:cs.length=3:=hl.trans (by kernel_rfl)
 obtain ⟨s,rs,_⟩:=aZ hfs (eJ Tryz.underlying9 n) 0 0 1 rfl (by kernel_rfl)
 obtain ⟨ns,rns,ons⟩:=aZ hfs (oN n) 1 1 1 rfl (by kernel_rfl)
 obtain ⟨l,rl,ol⟩:=aZ hfs (Cs n) 2 2 1 rfl (by kernel_rfl)
 have hR:=RC.cons (off:=0) (s:=1) rs (RC.cons (off:=1) (s:=1) rns (RC.cons (off:=2) (s:=1) rl (RC.nil (W:=W) (cs:=cs) (off:=3) (by omega)) (by omega)) (by omega)) (by omega)
 rw [List.drop_zero] at hR
 refine ⟨⟨s,ns,l⟩, ?_,⟨ons.1,ol.1,ol.2⟩⟩
 simpa [Dat.cs] using hR
theorem Ct (m:Nat):dA enc W sp held 22 (fun l:List Dat=>[.slice (l.map Dat.d)]) (fun l=>l.length<=aQ/\ ∀a ∈ l,a.ok) m:=
 dL (α:=Dat) (f:=Dat.cs) Dat.d (fun _=>rfl) Tryz.underlying22 (e:=41) (sz:=3) (by kernel_rfl) (by omega) (fun _=>rfl) (by kernel_rfl) (bytes:=64) (by omega) fun n _=>Em n
theorem En (m:Nat):dA enc W sp held 89 Opn.cs Opn.ok m:=by
 intro cs x h hfit
 obtain ⟨hl,n,hn,hfs⟩:=cQ Tryz.underlying89 h hfit
 have hl:cs.length=14:=hl.trans (by kernel_rfl)
 obtain ⟨s,rs,_⟩:=aZ hfs (eJ Tryz.underlying9 n) 0 0 1 rfl (by kernel_rfl)
 obtain ⟨a,ra,oa⟩:=aZ hfs (qG n) 1 1 6 rfl (by kernel_rfl)
 obtain ⟨b,rb,ob⟩:=aZ hfs (qG n) 2 7 6 rfl (by kernel_rfl)
 obtain ⟨o,ro,_⟩:=aZ hfs (Cq Tryz.underlying4 n) 3 13 1 rfl (by kernel_rfl)
 have hR:=RC.cons (off:=0) (s:=1) rs (RC.cons (off:=1) (s:=6) ra (RC.cons (off:=7) (s:=6) rb (RC.cons (off:=13) (s:=1) ro (RC.nil (W:=W) (cs:=cs) (off:=14) (by omega)) (by omega)) (by omega)) (by omega)) (by omega)
 rw [List.drop_zero] at hR
 refine ⟨⟨s,a,b,o⟩, ?_,⟨oa,ob⟩⟩
 simpa [Opn.cs] using hR
theorem Cu (m:Nat):dA enc W sp held 85 (fun l:List Opn=>[.slice (l.map Opn.d)]) (fun l=>l.length<=aQ/\ ∀a ∈ l,a.ok) m:=
 dL (α:=Opn) (f:=Opn.cs) Opn.d (fun _=>rfl) Tryz.underlying85 (e:=89) (sz:=14) (by kernel_rfl) (by omega) (fun _=>by simp [Opn.cs]) (by kernel_rfl) (bytes:=200) (by omega) fun n _=>En n
theorem Eo (m:Nat):dA enc W sp held 87 Eff.cs Eff.ok m:=by
 intro cs x h hfit
 obtain ⟨hl,n,hn,hfs⟩:=cQ Tryz.underlying87 h hfit
 have hl:cs.length=2:=hl.trans (by kernel_rfl)
 obtain ⟨s,rs,_⟩:=aZ hfs (eJ Tryz.underlying9 n) 0 0 1 rfl (by kernel_rfl)
 obtain ⟨l,rl,ol⟩:=aZ hfs (Cu n) 1 1 1 rfl (by kernel_rfl)
 have hR:=RC.cons (off:=0) (s:=1) rs (RC.cons (off:=1) (s:=1) rl (RC.nil (W:=W) (cs:=cs) (off:=2) (by omega)) (by omega)) (by omega)
 rw [List.drop_zero] at hR
 refine ⟨⟨s,l⟩, ?_,⟨ol.1,ol.2⟩⟩
 simpa [Eff.cs] using hR
theorem Cv (m:Nat):dA enc W sp held 23 (fun l:List Eff=>[.slice (l.map Eff.d)]) (fun l=>l.length<=aQ/\ ∀a ∈ l,a.ok) m:=
 dL (α:=Eff) (f:=Eff.cs) Eff.d (fun _=>rfl) Tryz.underlying23 (e:=87) (sz:=2) (by kernel_rfl) (by omega) (fun _=>rfl) (by kernel_rfl) (bytes:=40) (by omega) fun n _=>Eo n
theorem Ep (m:Nat):dA enc W sp held 84 Dfn.cs Dfn.ok m:=by
 intro cs x h hfit
 obtain ⟨hl,n,hn,hfs⟩:=cQ Tryz.underlying84 h hfit
 have hl:cs.length=8:=hl.trans (by kernel_rfl)
 obtain ⟨s,rs,_⟩:=aZ hfs (eJ Tryz.underlying9 n) 0 0 1 rfl (by kernel_rfl)
 obtain ⟨b,rb,ob⟩:=aZ hfs (sR n).1 1 1 7 rfl (by kernel_rfl)
 have hR:=RC.cons (off:=0) (s:=1) rs (RC.cons (off:=1) (s:=7) rb (RC.nil (W:=W) (cs:=cs) (off:=8) (by omega)) (by omega)) (by omega)
 rw [List.drop_zero] at hR
 refine ⟨⟨s,b⟩, ?_,ob⟩
 simpa [Dfn.cs] using hR
theorem Cw (m:Nat):dA enc W sp held 24 (fun l:List Dfn=>[.slice (l.map Dfn.d)]) (fun l=>l.length<=aQ/\ ∀a ∈ l,a.ok) m:=
 dL (α:=Dfn) (f:=Dfn.cs) Dfn.d (fun _=>rfl) Tryz.underlying24 (e:=84) (sz:=8) (by kernel_rfl) (by omega) (fun _=>by simp [Dfn.cs]) (by kernel_rfl) (bytes:=136) (by omega) fun n _=>Ep n
theorem Er (m:Nat):dA enc W sp held 32 Prg.cs Prg.ok m:=by
 intro cs x h hfit
 obtain ⟨hl,n,hn,hfs⟩:=cQ Tryz.underlying32 h hfit
 have hl:cs.length=10:=hl.trans (by kernel_rfl)
 obtain ⟨ds,rds,ods⟩:=aZ hfs (Ct n) 0 0 1 rfl (by kernel_rfl)
 obtain ⟨es,res,oes⟩:=aZ hfs (Cv n) 1 1 1 rfl (by kernel_rfl)
 obtain ⟨fs,rfs,ofs⟩:=aZ hfs (Cw n) 2 2 1 rfl (by kernel_rfl)
 obtain ⟨mn,rmn,omn⟩:=aZ hfs (sR n).1 3 3 7 rfl (by kernel_rfl)
 have hR:=RC.cons (off:=0) (s:=1) rds (RC.cons (off:=1) (s:=1) res (RC.cons (off:=2) (s:=1) rfs (RC.cons (off:=3) (s:=7) rmn (RC.nil (W:=W) (cs:=cs) (off:=10) (by omega)) (by omega)) (by omega)) (by omega)) (by omega)
 rw [List.drop_zero] at hR
 refine ⟨⟨ds,es,fs,mn⟩, ?_,⟨ods.1,ods.2,oes.1,oes.2,ofs.1,ofs.2,omn⟩⟩
 simpa [Prg.cs] using hR
theorem vW {α:Type} {f:α->List D} {ok:α->Prop} {t:TypeId} {fs:Array Field} (ht:Tryz.prog.underlying t=some (.struct fs)) (ho: ∀m,dA enc W sp held t f ok m) {r:Reach} {b0:Nat} {v:Value} {d:DataW H} {ps:List MemPlace}
 (hv:Value.okWide Tryz.prog W r b0 t v) (h:DataW.Trod enc Tryz.prog W 0 sp held t v d ps) (hfit:Fit t d): ∃a,R (bare (rO W)) W (.agg (f a)) v/\ok a:=by
 obtain ⟨fuel,hf⟩:=h
 unfold Value.okWide at hv
 rw [ht] at hv
 obtain ⟨cs,rfl,hcs,_⟩:=hv
 obtain ⟨a,⟨h1,h2⟩,hok⟩:=ho fuel _ _ hf hfit
 refine ⟨a, .agg (by simpa [Value.cells] using h1.symm) fun j d hd=> ?_,hok⟩
 obtain ⟨v,hv,hr⟩:=h2 j d hd
 have:cs.getD j undef=v:=by
  have hv':cs[j]? =some v:=by simpa [Value.cells] using hv
  simp [Array.getD,Array.getElem?_eq_some_iff.1 hv']
  obtain ⟨hlt,he⟩:=Array.getElem?_eq_some_iff.1 hv'
  simp [hlt,he]
 rw [this];exact hr
end
end Go.Proofs.YtgenoggafhhgfaaGreatDoor
namespace Go.AI
open Go Go.Proofs
theorem Cx {f:FuncId} {args:List D} {r:D} (hr:r.tree=true) (h:CI (.fn f) args []=some (.ret r,[])):fo Tryz.prog GI f args r:=by
 obtain ⟨hreal,hcalls⟩:=(A1 uq QZ My I0.tree I0.Ng I0.post mixed).2 (.fn f) args [] (.ret r) [] h
 refine fun fx W vs hfx hG ha=> ?_
 have up: ∀ {d v},R (bare fx) W d v->R (oD Tryz.prog fx) W d v:=fun hr=>R.mono (ρ:=bare fx) (ρ':=oD Tryz.prog fx) (fun i v p h=>by simp [bare] at h) (fun _ h=>h) (fun _ _=>rfl) hr
 refine Calls.mono (hcalls (oD Tryz.prog fx) W vs (AT hfx) (fun g cs hg=>⟨up (hG g cs hg).1,(hG g cs hg).2⟩) rfl ⟨ha.1,fun j x hx=>up (ha.2 j x hx)⟩) fun en w he=> ?_
 obtain ⟨ρ1,L,hR1,hrr⟩:=he
 have hs:strip 16 [] r=some r:=by simp [strip,hr]
 cases en with
 |returned v=>
  refine ⟨ng ρ1 (leads 16 [] r),v,rfl,fun b hb=> .inl (L.fix b hb),fun b hb=> ?_,fun b hb=>L.own b hb (fun i v p h=>by simp [oD] at h),L.size,L.os,L.tape,L.output, ?_⟩
  ·rcases hb with hb| ⟨i,v,p,_,hp,rfl⟩
   ·rcases L.fixnew b hb with h| ⟨j,u,q,hq,_⟩ |hge
    ·exact .inl h
    ·simp [oD] at hq
    ·exact .inr ⟨hge,hR1.fixlt b hb⟩
   ·rcases L.new i v p hp with ⟨j,u,q,hq,_⟩ |hge
    ·simp [oD] at hq
    ·exact .inr ⟨hge,(hR1.blk i v p hp).1⟩
  ·exact jk hR1 (leads 16 [] r) 16 16 (Nat.le_refl _) r r v hrr hs fun i hi=>hi
 |_=>exact hrr.elim
end Go.AI
namespace Go.Proofs.YtgenoggafhhgfaaGreatDoor
open Go Go.AI Go.ChangeShapes Go.WideShapes Go.ChangeAt Go.RowKit
set_option maxRecDepth 100000
abbrev mB:List (String × DataW Unit):=[("unicode.White_Space",Rows.laid_unicode_White_Space),("strings.asciiSpace",Rows.laid_strings_asciiSpace),("reprise/syntax.shapes",Rows.laid_reprise_syntax_shapes)]
theorem Cy: (mB.all fun x=>x.2.handleName?.isNone)=true:=by kernel_rfl
theorem Es {W:World} (h:laidMetH Tryz.prog mB W):Lib.TabIs Tryz.prog W "strings.asciiSpace" .u8 Lib.asciiSpaceTab:=by
 rw [MakeChecks.laidMetH_plain _ _ _ Cy] at h
 have h3:=h.tail
 have e: (Rows.laid_strings_asciiSpace:DataW Unit)=Lib.tabData .u8 Lib.asciiSpaceTab:=by kernel_rfl
 rw [e] at h3
 exact Lib.tabIs_of_head (g:=1) (t:=251) (e:=5) (n:=256) (by kernel_rfl) (by kernel_rfl) (by kernel_rfl) (by kernel_rfl) (by kernel_rfl) (by kernel_rfl) h3
theorem Bz {W:World} {name:String} {g:Nat} {k:IntKind} {zs:List Int} (hg:Tryz.prog.globalNamed name=some g) (h:Lib.TabIs Tryz.prog W name k zs) (_h0:0<zs.length):
 R (bare (rO W)) W (.tptr (zs.map (.int k))) (.pointer (some ⟨g,0,none⟩))/\ ∃c ty fz,W.heap[g]? =some (.cells c ty fz)/\c.size=(zs.map (D.int k)).length:=by
 have hcell:=fun i hi=>h.cell hg i hi
 unfold Lib.TabIs World.var? at h
 rw [hg] at h
 simp only [Option.bind_some] at h
 split at h
 ·rename_i cs ty fz hb
  have hcs:=Option.some.inj h
  refine ⟨.tptr (f:=fun j=> .int k (zs.getD j 0)) ?_ (fun j hj=> ?_) (fun j d hd=> ?_),cs,ty,fz,hb,by rw [hcs];simp⟩
  ·exact (Array.getElem?_eq_some_iff.1 hb).1
  ·have:=hcell j (by simpa using hj)
   simpa using this
  ·have hj:j<zs.length:=by have:=(List.getElem?_eq_some_iff.1 hd).1;simpa using this
   have:d= .int k (zs.getD j 0):=by
    have:=(List.getElem?_eq_some_iff.1 hd).2
    simp at this
    simp [List.getD,hj,this]
   rw [this]
   exact .int _ _
 ·cases h
def s8:DataW Unit->List D
 | .lit (.int k n)=>[.int k n]
 | .lit (.bool b)=>[.bool b]
 |_=>[]
theorem gy {enc:TypeId × Value->Unit} {W:World} {sp:Nat->Bool} {held:Bool} {m:Nat} {t:TypeId} {cs:List Value} {x:DataW Unit × List MemPlace} (ht:Tryz.prog.underlying t=some (.int .i64)\/Tryz.prog.underlying t=some .bool)
 (h:DataW.trod enc Tryz.prog W 0 sp held m t cs=some x):RC W (s8 x.1) cs:=by
 rcases ht with ht|ht
 ·obtain ⟨n,rfl,rfl,_⟩:=DataW.trod_int ht h
  exact .one (.int _ _)
 ·obtain ⟨b,rfl,rfl⟩:=DataW.trod_bool ht h
  exact .one (.bool _)
theorem xQ {enc:TypeId × Value->Unit} {W:World} {sp:Nat->Bool} {held:Bool} {m:Nat} {cs:List Value} {parts:List (DataW Unit)} {ps:List MemPlace}
 (h:DataW.trod enc Tryz.prog W 0 sp held m 231 cs=some (.agg parts,ps)):RC W (parts.flatMap s8) cs:=by
 have hu:=Tryz.underlying231
 obtain ⟨xs,n,rfl,hx,hl,hlen,hf⟩:=DataW.trod_struct hu h
 have hl:cs.length=9:=hl.trans (by kernel_rfl)
 have hlen:xs.length=9:=hlen
 obtain ⟨rfl,_⟩:parts=xs.map (·.1)/\ps=_:=by simpa using hx
 have c3:Tryz.prog.cellsOf 3=1:=by kernel_rfl
 have c4:Tryz.prog.cellsOf 4=1:=by kernel_rfl
 obtain ⟨x0,x1,x2,x3,x4,x5,x6,x7,x8,rfl⟩: ∃x0 x1 x2 x3 x4 x5 x6 x7 x8,xs=[x0,x1,x2,x3,x4,x5,x6,x7,x8]:=by
  rcases xs with _| ⟨x0,_| ⟨x1,_| ⟨x2,_| ⟨x3,_| ⟨x4,_| ⟨x5,_| ⟨x6,_| ⟨x7,_| ⟨x8,_| ⟨x9,xs⟩⟩⟩⟩⟩⟩⟩⟩⟩⟩<;>simp at hlen
  exact ⟨_,_,_,_,_,_,_,_,_,rfl⟩
 have u3:=Tryz.underlying3
 have u4:=Tryz.underlying4
 have f0:RC W (s8 x0.1) ((cs.drop 0).take 1):=c3 ▸ gy (.inl u3) (hf 0 _ rfl)
 have f1:RC W (s8 x1.1) ((cs.drop 1).take 1):=c3 ▸ gy (.inl u3) (hf 1 _ rfl)
 have f2:RC W (s8 x2.1) ((cs.drop 2).take 1):=c3 ▸ gy (.inl u3) (hf 2 _ rfl)
 have f3:RC W (s8 x3.1) ((cs.drop 3).take 1):=c3 ▸ gy (.inl u3) (hf 3 _ rfl)
 have f4:RC W (s8 x4.1) ((cs.drop 4).take 1):=c3 ▸ gy (.inl u3) (hf 4 _ rfl)
 have f5:RC W (s8 x5.1) ((cs.drop 5).take 1):=c3 ▸ gy (.inl u3) (hf 5 _ rfl)
 have f6:RC W (s8 x6.1) ((cs.drop 6).take 1):=c4 ▸ gy (.inr u4) (hf 6 _ rfl)
 have f7:RC W (s8 x7.1) ((cs.drop 7).take 1):=c3 ▸ gy (.inl u3) (hf 7 _ rfl)
 have f8:RC W (s8 x8.1) ((cs.drop 8).take 1):=c3 ▸ gy (.inl u3) (hf 8 _ rfl)
 have hR:=RC.cons (off:=0) (s:=1) f0 (RC.cons (off:=1) (s:=1) f1 (RC.cons (off:=2) (s:=1) f2 (RC.cons (off:=3) (s:=1) f3 (RC.cons (off:=4) (s:=1) f4 (RC.cons (off:=5) (s:=1) f5 (RC.cons (off:=6) (s:=1) f6 (RC.cons (off:=7) (s:=1) f7 (RC.cons (off:=8) (s:=1) f8 (RC.nil (W:=W) (cs:=cs) (off:=9) (by omega)) (by omega)) (by omega)) (by omega)) (by omega)) (by omega)) (by omega)) (by omega)) (by omega)) (by omega)
 rw [List.drop_zero] at hR
 simpa using hR
def s6:DataW Unit->List D
 | .agg ps=>ps.flatMap s8
 |_=>[]
theorem Cz {enc:TypeId × Value->Unit} {W:World} {sp:Nat->Bool} {held:Bool} {m:Nat} {cs:List Value} {x:DataW Unit × List MemPlace}
 (h:DataW.trod enc Tryz.prog W 0 sp held m 231 cs=some x):RC W (s6 x.1) cs:=by
 have hu:=Tryz.underlying231
 obtain ⟨xs,n,_,hx,_⟩:=DataW.trod_struct hu h
 rcases x with ⟨d,ps⟩
 obtain ⟨rfl,_⟩:=Prod.mk.inj hx
 exact xQ h
theorem vX {W:World} {cs:List Value} {parts:List (DataW Unit)} (hl:cs.length=parts.length*9) (h: ∀i d,parts[i]? =some d->RC W (s6 d) ((cs.drop (i*9)).take 9)):
 ∀ (k i:Nat),i+k=parts.length->RC W ((parts.drop i).flatMap s6) (cs.drop (i*9))
 |0,i,hi=>by
  have:i=parts.length:=by omega
  subst this
  rw [List.drop_length]
  exact RC.nil (by omega)
 |k+1,i,hi=>by
  have hlt:i<parts.length:=by omega
  rw [List.drop_eq_getElem_cons hlt,List.flatMap_cons]
  have ih:=vX hl h k (i+1) (by omega)
  rw [show (i+1) *9=i*9+9 by omega] at ih
  exact RC.cons (h i _ (by simp [hlt])) ih (by rw [hl];omega)
theorem CA {W:World} (h:laidMetH Tryz.prog mB W):R (bare (rO W)) W (.tptr jA) (.pointer (some ⟨0,0,none⟩))/\ ∃c ty fz,W.heap[0]? =some (.cells c ty fz)/\c.size=jA.length:=by
 rw [MakeChecks.laidMetH_plain _ _ _ Cy] at h
 obtain ⟨ps,⟨g,t,cs,fuel,p,q,hg,ht,hvar,hd,_,_⟩,_⟩:=h.tail.tail
 have hg0:Tryz.prog.globalNamed "reprise/syntax.shapes" =some 0:=by kernel_rfl
 obtain rfl:=Option.some.inj (hg0.symm.trans hg)
 have ht0: (Tryz.prog.globals[0]?).map (·.type)=some 232:=by kernel_rfl
 obtain rfl:=Option.some.inj (ht0.symm.trans ht)
 have hu:Tryz.prog.underlying 232=some (.array 20 231):=by kernel_rfl
 obtain ⟨xs,m,rfl,hx,hl,hlen,hf⟩:=DataW.trod_array hu hd
 have hl:cs.toList.length=20*9:=hl.trans (by kernel_rfl)
 have c9:Tryz.prog.cellsOf 231=9:=by kernel_rfl
 obtain ⟨hparts,_⟩:=Prod.mk.inj hx
 have hR:RC W ((xs.map (·.1)).flatMap s6) cs.toList:=by
  have:=vX (W:=W) (cs:=cs.toList) (parts:=xs.map (·.1)) (by rw [hl];simp [hlen]) (fun i d hi=>by
   rw [List.getElem?_map] at hi
   obtain ⟨x,hx,rfl⟩:=Option.map_eq_some_iff.1 hi
   have hi20:i<20:=by have:=(List.getElem?_eq_some_iff.1 hx).1;omega
   have:=hf i hi20
   rw [c9,hx] at this
   exact Cz this) 20 0 (by simp [hlen])
  simpa using this
 have hsh: (xs.map (·.1)).flatMap s6=jA:=by
  have e: (Rows.laid_reprise_syntax_shapes:DataW Unit)= .agg (xs.map (·.1)):=hparts
  have: (match (Rows.laid_reprise_syntax_shapes:DataW Unit) with| .agg ps=>ps.flatMap s6|_=>[])=jA:=by kernel_rfl
  rw [e] at this
  exact this
 rw [hsh] at hR
 obtain ⟨hR1,hR2⟩:=hR
 unfold World.var? at hvar
 rw [hg0] at hvar
 simp only [Option.bind_some] at hvar
 split at hvar
 ·rename_i cs' ty fz hb
  cases hvar
  have hsz:jA.length=cs.size:=by rw [hR1];simp
  refine ⟨.tptr (f:=fun j=>cs.getD j undef) (Array.getElem?_eq_some_iff.1 hb).1 (fun j hj=> ?_) (fun j d hd=> ?_),cs,ty,fz,hb,hsz.symm⟩
  ·have hj':j<cs.size:=by omega
   simp [World.cell?,hb,Array.getD,hj']
  ·obtain ⟨v,hv,hr⟩:=hR2 j d hd
   have hv':cs[j]? =some v:=by simpa using hv
   obtain ⟨hlt,he⟩:=Array.getElem?_eq_some_iff.1 hv'
   have:cs.getD j undef=v:=by simp [Array.getD,hlt,he]
   rw [this];exact hr
 ·cases hvar
theorem I6 {W:World} (h:laidMetH Tryz.prog mB W):cY (bare (rO W)) W GI:=by
 intro g cs hg
 simp only [R9,vR] at hg
 split at hg
 ·rename_i hg1;subst hg1
  cases hg
  exact CA h
 ·split at hg
  ·rename_i hg3;subst hg3
   cases hg
   exact Bz (by kernel_rfl) (Es h) (by rw [Lib.asciiSpaceTab_length];omega)
  ·cases hg
theorem CB {W:World} {f:FuncId} {ds:List D} {vs:Array Value} (hC:CI (.fn f) ds []=some (.ret (.bool true),[])) (hL:laidMetH Tryz.prog mB W) (ha:Rs (bare (rO W)) W ds vs):
 Calls Tryz.prog f vs W fun e W'=>e= .returned (.bool true)/\Below W.heap.size W W':=by
 refine ((Cx rfl hC) (rO W) W vs (fun b hb=>hb) (I6 hL) ha).mono ?_
 rintro e w ⟨fx',v,rfl, -, -,h3,h4,h5,h6,h7,hr⟩
 exact ⟨by rw [hr.jX],⟨h5,h6,h7,h4,h3⟩⟩
theorem own:ownKnob Tryz.prog.godebug=none:=by kernel_rfl
theorem zw (os:Os) (args:Array Value):laidMetH Tryz.prog mB ((World.laidAll Tryz.prog os mB).forCall (fun _ _=>0) ⟨#[],args,[]⟩).memory:=by
 rw [MakeChecks.laidMetH_plain _ _ _ Cy];exact laidMet_laidAll _ (by kernel_rfl) (by kernel_rfl)
theorem laidOut:laidOutB Tryz.prog=true:=by kernel_rfl
theorem Oy {ρ:Ren} {W:World} {d d' d'':D} {v v' v'':Value} (h:R ρ W d v) (h':R ρ W d' v') (h'':R ρ W d'' v''):Rs ρ W [d,d',d''] #[v,v',v'']:=
 ⟨rfl,fun j x hx=>by
  match j,hx with
  |0,hx=>cases hx;exact h
  |1,hx=>cases hx;exact h'
  |2,hx=>cases hx;exact h''⟩
end Go.Proofs.YtgenoggafhhgfaaGreatDoor
