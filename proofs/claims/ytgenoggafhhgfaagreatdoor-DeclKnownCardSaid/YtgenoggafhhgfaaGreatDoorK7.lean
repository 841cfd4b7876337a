/- Texts of the proof: what functions of the program compute, step by step. No conditions of its own. -/
import Derived.Test.YtgenoggafhhgfaaGreatDoorK6
import Derived.Test.YtgenoggafhhgfaaGreatDoorK5
import Derived.Lib.MapLaws
set_option linter.unusedVariables false
set_option linter.unusedSimpArgs false
namespace Go.AI
open Go Go.Proofs
set_option maxRecDepth 100000
def qI (f:FuncId):Bool:=[117,101,123,195].contains f
noncomputable def postJ (f:FuncId) (σ:St) (x:Option (FRes × St)):Option (FRes × St):=if (f==196)=true then x else postI qI f σ x
noncomputable def GI:Gl:= {g:=globT,nat:=fun _=>none,catches:=catT,query:=qI,post:=postJ}
theorem postJ_ok:PostOK GI:=by
 have hI:PostOK ({GI with post:=postI qI} :Gl):=postI_ok rfl
 constructor
 ·intro f σ x r σ' hx
  have hx:postJ f σ x=some (r,σ'):=hx
  unfold postJ at hx
  split at hx
  ·exact ⟨r,σ',hx,fun _ _ _ _ _ h=>h⟩
  ·exact hI.sound f σ x r σ' hx
 ·intro f σ x d σ' hq hx
  have hx:postJ f σ x=some (.ret d,σ'):=hx
  unfold postJ at hx
  split at hx
  ·rename_i hf
   have:f=196:=by simpa using hf
   subst this
   cases hq
  ·exact hI.query f σ x d σ' hq hx
theorem isGI:IsG GI:=⟨rfl,rfl,rfl,postJ_ok⟩
@[simp] theorem GI_g:GI.g=globT:=rfl
@[simp] theorem GI_nat (f:FuncId):GI.nat f=none:=rfl
@[simp] theorem GI_post:GI.post=postJ:=rfl
@[simp] theorem GI_query:GI.query=qI:=rfl
def g16:List D→Option D
 | []=>some (.bool true)
 |_=>none
def XI:ExtL:=[(16,g16),(222,g222)]
theorem extRI:ExtR Tryz.prog GI (extOf XI):=by
 refine ExtR.cons (ExtR.cons (L:=[]) (fun f g h=>by cases h) real222 (pure222 isGI)) real16 fun args r _ h=> ?_
 unfold g16 at h
 split at h
 ·cases h;exact ⟨rfl,pure16⟩
 ·cases h
noncomputable abbrev CI:CallF:=callI tabT (extOf XI) GI
abbrev XB:FuncId→Bool:=fun f=>(extOf XI f).isSome
theorem postN (f:FuncId) (σ:St):GI.post f σ none=none:=by
 show postJ f σ none=none
 unfold postJ;split<;>rfl
theorem ext_none {f:FuncId} (h: (f==16)=false∧(f==222)=false:=by exact ⟨rfl,rfl⟩):extOf XI f=none:=by
 simp only [beq_eq_false_iff_ne,ne_eq] at h
 simp [extOf,XI,h.1,h.2]
def okF (f:FuncId):Prop:=((f==16)=false∧(f==222)=false)∧(f==196)=false
theorem CI_fn {f:FuncId} {af:AFunc} (hT:tabT f=some af) {args:List D} {σ:St} {x y:FRes × St} (h:bodyI CI XB GI af args σ=some y) (hp:postI qI f σ (some y)=some x)
 (hx:okF f:=by exact ⟨⟨rfl,rfl⟩,rfl⟩):CI (.fn f) args σ=some x:=
 callI_fn postN (ext_none hx.1) hT h (by show postJ f σ _=_;unfold postJ;rw [if_neg (by rw [hx.2];exact Bool.false_ne_true)];exact hp)
theorem CI_tree {f:FuncId} {af:AFunc} (hT:tabT f=some af) {args:List D} {σ τ:St} {d r:D} (h:bodyI CI XB GI af args σ=some (.ret d,σ++τ)) (hd:d.tree=true) (hr:d.weak=r)
 (hx:okF f:=by exact ⟨⟨rfl,rfl⟩,rfl⟩):CI (.fn f) args σ=some (.ret r,σ):=
 CI_fn hT h (by rw [postI_tree hd,hr]) hx
theorem CI_tree0 {f:FuncId} {af:AFunc} (hT:tabT f=some af) {args:List D} {σ:St} {d r:D} (h:bodyI CI XB GI af args σ=some (.ret d,σ)) (hd:d.tree=true) (hr:d.weak=r)
 (hx:okF f:=by exact ⟨⟨rfl,rfl⟩,rfl⟩):CI (.fn f) args σ=some (.ret r,σ):=
 CI_fn hT h (by rw [postI_tree0 hd,hr]) hx
structure Lab where
 s:Bs
 n:Int
inductive Ty where
 |mk (kind n:Int) (s:Bs) (l:List Ty) (labels:List Lab) (tail:Int)
mutual
inductive Ex where
 |mk (kind n:Int) (s t:Bs) (names:List Bs) (l:List Ex) (arms:List Arm)
inductive Arm where
 |mk (op:Bs) (names:List Bs) (body:Ex)
end
structure Con where
 name:Bs
 args:List Ty
structure Dat where
 name:Bs
 params:List Bs
 cons:List Con
structure Opn where
 name:Bs
 arg:Ty
 res:Ty
 once:Bool
structure Eff where
 name:Bs
 ops:List Opn
structure Dfn where
 name:Bs
 body:Ex
structure Prg where
 data:List Dat
 effects:List Eff
 defs:List Dfn
 main:Ex
def Lab.d (x:Lab):D:= .agg [.str x.s, .int .i64 x.n]
mutual
def Ty.cs:Ty→List D
 | .mk k n s l labels tail=>[.int .i64 k, .int .i64 n, .str s, .slice (tysD l), .slice (labels.map Lab.d), .int .i64 tail]
def tysD:List Ty→List D
 | []=>[]
 |t::r=> .agg t.cs::tysD r
end
def Ty.d (t:Ty):D:= .agg t.cs
mutual
def Ex.cs:Ex→List D
 | .mk k n s t names l arms=>[.int .i64 k, .int .i64 n, .str s, .str t,slD names, .slice (exsD l), .slice (armsD arms)]
def exsD:List Ex→List D
 | []=>[]
 |x::r=> .agg x.cs::exsD r
def Arm.cs:Arm→List D
 | .mk op names body=> .str op::slD names::body.cs
def armsD:List Arm→List D
 | []=>[]
 |x::r=> .agg x.cs::armsD r
end
def Ex.d (x:Ex):D:= .agg x.cs
def Arm.d (x:Arm):D:= .agg x.cs
def Con.cs (c:Con):List D:=[.str c.name, .slice (tysD c.args)]
def Con.d (c:Con):D:= .agg c.cs
def Dat.cs (d:Dat):List D:=[.str d.name,slD d.params, .slice (d.cons.map Con.d)]
def Dat.d (d:Dat):D:= .agg d.cs
def Opn.cs (o:Opn):List D:= .str o.name::(o.arg.cs++o.res.cs++[.bool o.once])
def Opn.d (o:Opn):D:= .agg o.cs
def Eff.cs (e:Eff):List D:=[.str e.name, .slice (e.ops.map Opn.d)]
def Eff.d (e:Eff):D:= .agg e.cs
def Dfn.cs (d:Dfn):List D:= .str d.name::d.body.cs
def Dfn.d (d:Dfn):D:= .agg d.cs
def Prg.cs (p:Prg):List D:=[.slice (p.data.map Dat.d), .slice (p.effects.map Eff.d), .slice (p.defs.map Dfn.d)]++p.main.cs
def Prg.d (p:Prg):D:= .agg p.cs
theorem tysD_map: ∀ (l:List Ty),tysD l=l.map Ty.d
 | []=>rfl
 |t::r=>by simp only [tysD,List.map_cons,tysD_map r];rfl
theorem exsD_map: ∀ (l:List Ex),exsD l=l.map Ex.d
 | []=>rfl
 |t::r=>by simp only [exsD,List.map_cons,exsD_map r];rfl
theorem armsD_map: ∀ (l:List Arm),armsD l=l.map Arm.d
 | []=>rfl
 |t::r=>by simp only [armsD,List.map_cons,armsD_map r];rfl
def Plain (d:D):Prop:=d.tree=true∧d.weak=d
theorem plain_str (s:Bs):Plain (.str s):=⟨rfl,rfl⟩
theorem plain_int (k:IntKind) (n:Int):Plain (.int k n):=⟨rfl,rfl⟩
theorem plain_bool (b:Bool):Plain (.bool b):=⟨rfl,rfl⟩
def PlainL (l:List D):Prop:=treeL l=true∧weakL l=l
theorem PlainL.nil:PlainL []:=⟨rfl,rfl⟩
theorem PlainL.cons {d:D} {l:List D} (h:Plain d) (hl:PlainL l):PlainL (d::l):=⟨by simp [treeL,h.1,hl.1],by simp [weakL,h.2,hl.2]⟩
theorem PlainL.app {a b:List D} (ha:PlainL a) (hb:PlainL b):PlainL (a++b):=by
 induction a with
 |nil=>exact hb
 |cons x a ih=>
  obtain ⟨h1,h2⟩:=ha
  simp only [treeL,Bool.and_eq_true,weakL,List.cons.injEq] at h1 h2
  exact PlainL.cons ⟨h1.1,h2.1⟩ (ih ⟨h1.2,h2.2⟩)
theorem PlainL.slice {l:List D} (h:PlainL l):Plain (.slice l):=⟨h.1,by simp only [D.weak,h.2]⟩
theorem PlainL.agg {l:List D} (h:PlainL l):Plain (.agg l):=⟨h.1,by simp only [D.weak,h.2]⟩
theorem PlainL.map {α:Type} {f:α→D} {l:List α} (h: ∀x ∈ l,Plain (f x)):PlainL (l.map f):=by
 induction l with
 |nil=>exact .nil
 |cons a r ih=>exact .cons (h a List.mem_cons_self) (ih fun x hx=>h x (List.mem_cons_of_mem _ hx))
theorem plain_strs (l:List Bs):Plain (slD l):=(PlainL.map fun x _=>plain_str x).slice
theorem Lab.plain (x:Lab):Plain x.d:=PlainL.agg (.cons (plain_str _) (.cons (plain_int _ _) .nil))
mutual
theorem Ty.plain: ∀ (t:Ty),PlainL t.cs
 | .mk k n s l labels tail=> .cons (plain_int _ _) (.cons (plain_int _ _) (.cons (plain_str _) (.cons (tys_plain l).slice (.cons (PlainL.map fun x _=>x.plain).slice (.cons (plain_int _ _) .nil)))))
theorem tys_plain: ∀ (l:List Ty),PlainL (tysD l)
 | []=> .nil
 |t::r=> .cons t.plain.agg (tys_plain r)
end
mutual
theorem Ex.plain: ∀ (t:Ex),PlainL t.cs
 | .mk k n s t names l arms=> .cons (plain_int _ _) (.cons (plain_int _ _) (.cons (plain_str _) (.cons (plain_str _) (.cons (plain_strs _) (.cons (exs_plain l).slice (.cons (arms_plain arms).slice .nil))))))
theorem exs_plain: ∀ (l:List Ex),PlainL (exsD l)
 | []=> .nil
 |t::r=> .cons t.plain.agg (exs_plain r)
theorem Arm.plain: ∀ (t:Arm),PlainL t.cs
 | .mk op names body=> .cons (plain_str _) (.cons (plain_strs _) body.plain)
theorem arms_plain: ∀ (l:List Arm),PlainL (armsD l)
 | []=> .nil
 |t::r=> .cons t.plain.agg (arms_plain r)
end
theorem Con.plain (c:Con):Plain c.d:=PlainL.agg (.cons (plain_str _) (.cons (tys_plain _).slice .nil))
theorem Dat.plain (d:Dat):Plain d.d:=PlainL.agg (.cons (plain_str _) (.cons (plain_strs _) (.cons (PlainL.map fun c _=>c.plain).slice .nil)))
theorem Opn.plain (o:Opn):Plain o.d:=PlainL.agg (.cons (plain_str _) (.app (.app o.arg.plain o.res.plain) (.cons (plain_bool _) .nil)))
theorem Eff.plain (e:Eff):Plain e.d:=PlainL.agg (.cons (plain_str _) (.cons (PlainL.map fun c _=>c.plain).slice .nil))
theorem Dfn.plain (d:Dfn):Plain d.d:=PlainL.agg (.cons (plain_str _) d.body.plain)
theorem Prg.plain (p:Prg):Plain p.d:=PlainL.agg (.app (.cons (PlainL.map fun c _=>c.plain).slice (.cons (PlainL.map fun c _=>c.plain).slice (.cons (PlainL.map fun c _=>c.plain).slice .nil))) p.main.plain)
def maxL:Nat:=8796093021952
def indexP (l:List Bs) (s:Bs):Int:=match l.findIdx? (· ==s) with|some i=>i|none=> -1
theorem c89 (l:List Bs) (s:Bs) (σ:St) (hl:l.length≤maxL):CI (.fn 89) [slD l, .str s] σ=some (.ret (.int .i64 (indexP l s)),σ):=by
 unfold maxL at hl
 refine CI_tree0 tab89 (d:= .int .i64 (indexP l s)) ?_ rfl rfl
 have hit:=loop_find (f:=evalI CI XB GI 19 false lp89_0) (σ:=σ) l (fun i=>[(0,slD l),(1, .str s),(7, .int .i64 l.length),(8, .int .i64 (i:Nat))]) (· ==s) (fun i=>(.ret,[(4, .int .i64 (i:Nat))],σ)) (.exit 0,[(0,slD l),(1, .str s),(7, .int .i64 l.length),(8, .int .i64 l.length),(9, .bool false)],σ) (by simp) (by simp)
  (fun i hi=>by
    have hw:=wrap_nat (n:=i) (by omega)
    have hc: (s==l[i])=(l[i] ==s):=BEq.comm
    cases hb:l[i] ==s<;>simp [lp89_0,hi,hw,hb,hc]) (by
    simp [lp89_0])
 rw [Int.natCast_zero] at hit
 unfold indexP
 cases hf:l.findIdx? (· ==s)<;>(rw [hf] at hit;simp [bodyI,af89,hit])
theorem c111 (l:List Bs) (s:Bs) (σ:St) (hl:l.length≤maxL):CI (.fn 111) [slD l, .str s] σ=some (.ret (.bool (decide (0≤indexP l s))),σ):=by
 refine CI_tree0 tab111 (d:= .bool (decide (0≤indexP l s))) ?_ rfl rfl
 simp [bodyI,af111,c89 l s σ hl]
theorem c198 (n a b:Int) (σ:St):CI (.fn 198) [.int .i64 n, .int .i64 a, .int .i64 b] σ=some (.ret (.bool (decide (a≤n)&&decide (n≤b))),σ):=by
 refine CI_tree0 tab198 (d:= .bool (decide (a≤n)&&decide (n≤b))) ?_ rfl rfl
 by_cases h1:a≤n<;>simp [bodyI,af198,h1]
end Go.AI
namespace Go.Lx
abbrev Bs:=List UInt8
def isBlank (c:UInt8):Bool:=c==32||c==9||c==10
def isLow (c:UInt8):Bool:=c==95|| (97≤c&&c≤122)
def isUp (c:UInt8):Bool:=65≤c&&c≤90
def isDig (c:UInt8):Bool:=48≤c&&c≤57
def isW (c:UInt8):Bool:=isLow c||isUp c||isDig c
def kind (c:UInt8):Int:=if isBlank c then 1 else if isLow c then 2 else if isUp c then 3 else if isDig c then 4 else 0
def kws:List Bs:=[[102,117,110],[108,101,116],[114,101,99],[105,110],[105,102],[116,104,101,110],[101,108,115,101],[109,97,116,99,104],[100,111],
 [104,97,110,100,108,101],[115,104,97,108,108,111,119],[110,97,109,101,100],[109,97,115,107],[117,115,105,110,103],[99,108,111,115,101],
 [114,101,115,117,109,101],[100,114,111,112],[114,101,116,117,114,110],[116,114,117,101],[102,97,108,115,101],[100,97,116,97],[101,102,102,101,99,116],
 [111,110,99,101],[100,101,102],[109,97,105,110]]
def isKey (s:Bs):Bool:=kws.contains s
def wordOf (p:UInt8→Bool) (s:Bs):Bool:=match s with
 | []=>false
 |c::r=>decide (r.length<12)&&p c&&(c::r).all isW
def varW (s:Bs):Bool:=wordOf isLow s&& !isKey s
def upW (s:Bs):Bool:=wordOf isUp s
def kindI (n:Int):Int:=if (n==32) || (n==9) || (n==10) then 1 else if (n==95) || (decide (97≤n)&&decide (n≤122)) then 2 else if decide (65≤n)&&decide (n≤90) then 3
 else if decide (48≤n)&&decide (n≤57) then 4 else 0
theorem all_bytes_Int {p:Int→UInt8→Prop} (h: ∀n:Fin 256,p n.val (UInt8.ofNat n.val)) (c:UInt8):p c.toNat c:=by
 have:=h ⟨c.toNat,c.toNat_lt⟩
 simpa using this
theorem kindI_eq (c:UInt8):kindI c.toNat=kind c:=all_bytes_Int (p:=fun n c=>kindI n=kind c) (by decide+kernel) c
theorem kindW_eq (c:UInt8): (decide ((c.toNat:Int) <128)&&decide (2≤kindI c.toNat))=isW c:=
 all_bytes_Int (p:=fun n c=>(decide (n<128)&&decide (2≤kindI n))=isW c) (by decide+kernel) c
theorem low_kind (c:UInt8): (kind c==2)=isLow c:=all_bytes_Int (p:=fun n c=>(kind c==2)=isLow c) (by decide+kernel) c
theorem up_kind (c:UInt8): (kind c==3)=isUp c:=all_bytes_Int (p:=fun n c=>(kind c==3)=isUp c) (by decide+kernel) c
def lwordI (k:Int) (s:Bs):Bool:=match s with
 | []=>false
 |c::r=>decide (r.length<12)&&(kind c==k)&&(c::r).all isW
theorem lword_low (s:Bs):lwordI 2 s=wordOf isLow s:=by
 cases s with
 |nil=>rfl
 |cons c r=>simp only [lwordI,wordOf,low_kind]
theorem lword_up (s:Bs):lwordI 3 s=wordOf isUp s:=by
 cases s with
 |nil=>rfl
 |cons c r=>simp only [lwordI,wordOf,up_kind]
end Go.Lx
namespace Go.AI
open Go Go.Proofs Go.Lx
set_option maxRecDepth 100000
theorem c218 (n:Int) (σ:St):CI (.fn 218) [.int .u8 n] σ=some (.ret (.int .i64 (kindI n)),σ):=by
 refine CI_tree0 tab218 (d:= .int .i64 (kindI n)) ?_ rfl rfl
 unfold kindI
 cases h1:n==32
 ·cases h2:n==9
  ·cases h3:n==10
   ·cases h4:n==95
    ·by_cases h5:97≤n
     ·by_cases h6:n≤122
      ·simp [bodyI,af218,h1,h2,h3,h4,h5,h6]
      ·have h7: ¬n≤90:=by omega
       have h8: ¬n≤57:=by omega
       have h9:65≤n:=by omega
       have h10:48≤n:=by omega
       simp [bodyI,af218,h1,h2,h3,h4,h5,h6,h7,h8,h9,h10]
     ·by_cases h6:65≤n
      ·by_cases h7:n≤90
       ·simp [bodyI,af218,h1,h2,h3,h4,h5,h6,h7]
       ·have h8: ¬n≤57:=by omega
        have h10:48≤n:=by omega
        simp [bodyI,af218,h1,h2,h3,h4,h5,h6,h7,h8,h10]
      ·by_cases h7:48≤n
       ·by_cases h8:n≤57
        ·simp [bodyI,af218,h1,h2,h3,h4,h5,h6,h7,h8]
        ·simp [bodyI,af218,h1,h2,h3,h4,h5,h6,h7,h8]
       ·simp [bodyI,af218,h1,h2,h3,h4,h5,h6,h7]
    ·simp [bodyI,af218,h1,h2,h3,h4]
   ·simp [bodyI,af218,h1,h2,h3]
  ·simp [bodyI,af218,h1,h2]
 ·simp [bodyI,af218,h1]
theorem decode_ascii (l:Bs) (i:Nat) (hi:i<l.length) (h: (l[i].toNat:Int) <128):Utf8.decode ⟨l.toArray⟩ i=(l[i].toNat,1):=by
 rw [Lib.decode_at]
 have hg: (ByteArray.get! ⟨l.toArray⟩ i)=l[i]:=by
  simp [ByteArray.get!,hi]
 rw [hg]
 unfold Lib.decodeN
 rw [if_pos (by omega)]
theorem decode_big (l:Bs) (i:Nat) (hi:i<l.length) (h: ¬(l[i].toNat:Int) <128):128≤(Utf8.decode ⟨l.toArray⟩ i).1:=by
 rw [Lib.decode_at]
 have hg: (ByteArray.get! ⟨l.toArray⟩ i)=l[i]:=by
  simp [ByteArray.get!,hi]
 rw [hg]
 rcases Lib.decodeN_shape ((ByteArray.size ⟨l.toArray⟩) - i) l[i].toNat (ByteArray.get! ⟨l.toArray⟩ (i+1)).toNat (ByteArray.get! ⟨l.toArray⟩ (i+2)).toNat (ByteArray.get! ⟨l.toArray⟩ (i+3)).toNat with h1|h1|h1|h1|h1
 ·omega
 ·rw [h1.2.2.2.2];exact h1.2.2.2.1
 ·rw [h1.2.2.2.2.2.2];show 128≤_;omega
 ·rw [h1.2.2.2.2.2.2.2];show 128≤_;omega
 ·rw [h1];show 128≤65533;omega
theorem it209 (l:Bs) (σ:St):iterI (evalI CI XB GI 34 false lp209_0) [(22, .ptr σ.length 0)] (σ++[.siter l 0])=
 some (match l.findIdx? (fun c=> !isW c) with
  |some i=>(.ret,[(4, .bool false)],σ++[.siter l (i+ (Utf8.decode ⟨l.toArray⟩ i).2)])
  |none=>(.exit 0,(22, .ptr σ.length 0)::[(23, .tuple [.bool false]),(24, .bool false)],σ++[.siter l l.length])):=by
 have:=loop_findS (f:=evalI CI XB GI 34 false lp209_0) l (fun i=>(22, .ptr σ.length 0)::(if i=0 then [] else [(33, .bool false)])) (fun i=>σ++[.siter l i]) (fun c=> !isW c)
  (fun i=>(.ret,[(4, .bool false)],σ++[.siter l (i+ (Utf8.decode ⟨l.toArray⟩ i).2)])) (.exit 0,[(22, .ptr σ.length 0),(23, .tuple [.bool false]),(24, .bool false)],σ++[.siter l l.length]) (by simp) (by simp)
  (fun i hi=>by
    generalize htl: (if i=0 then ([]:Env) else [(33, .bool false)])=tl
    have htl':tl=[]∨tl=[(33, .bool false)]:=by subst htl;split<;>simp
    simp only [Nat.add_one_ne_zero,if_false]
    by_cases h: (l[i].toNat:Int) <128
    ·have hd:=decode_ascii l i hi h
     have hk:=kindW_eq l[i]
     have hw:IntKind.u8.wrap (l[i].toNat:Int)=l[i].toNat:=by simp [IntKind.wrap,IntKind.bits,IntKind.signed];have:=l[i].toNat_lt;omega
     obtain ⟨n,hn⟩: ∃n:Int,(l[i].toNat:Int)=n:=⟨_,rfl⟩
     rw [hn] at hk hw h
     have h2: ¬(127:Int) <n:=by omega
     have h2':n≤127:=by omega
     cases hW:isW l[i] with
     |true=>
      rw [hW] at hk
      simp only [Bool.and_eq_true,decide_eq_true_eq] at hk
      have h3: ¬kindI n<2:=by omega
      rcases htl' with rfl|rfl<;>simp [lp209_0,getA0,setA0,hi,hd,hn,hw,h2,h2',h3,c218]
     |false=>
      rw [hW] at hk
      have h3:kindI n<2:=by
       have:decide (n<128)=true:=decide_eq_true h
       rw [this] at hk
       simp at hk;omega
      rcases htl' with rfl|rfl<;>simp [lp209_0,getA0,setA0,hi,hd,hn,hw,h2,h2',h3,c218]
    ·have hd:=decode_big l i hi h
     have hk:=kindW_eq l[i]
     have hW:isW l[i]=false:=by
      rw [←hk]
      have:decide ((l[i].toNat:Int) <128)=false:=decide_eq_false h
      rw [this];rfl
     obtain ⟨⟨r,w⟩,hr⟩: ∃p,Utf8.decode ⟨l.toArray⟩ i=p:=⟨_,rfl⟩
     rw [hr] at hd
     have h2: (127:Int) < (r:Int):=by have:128≤r:=hd;omega
     have h2':127<r:=by omega
     rcases htl' with rfl|rfl<;>simp [lp209_0,getA0,setA0,hi,hr,h2,h2',hW]) (by
    generalize htl: (if l.length=0 then ([]:Env) else [(33, .bool false)])=tl
    have htl':tl=[]∨tl=[(33, .bool false)]:=by subst htl;split<;>simp
    rcases htl' with rfl|rfl<;>simp [lp209_0,getA0])
 exact this
theorem c209 (s:Bs) (kd:Int) (σ:St):CI (.fn 209) [.str s, .int .i64 kd] σ=some (.ret (.bool (lwordI kd s)),σ):=by
 obtain ⟨τ,hτ⟩: ∃τ,bodyI CI XB GI af209 [.str s, .int .i64 kd] σ=some (.ret (.bool (lwordI kd s)),σ++τ):=by
  cases s with
  |nil=>exact ⟨[],by simp [bodyI,af209,lwordI]⟩
  |cons c t=>
   by_cases h12:t.length<12
   ·have hit:=it209 (c::t) σ
    generalize hl:c::t=l at*
    have e2: ¬(12:Int) <l.length:=by rw [←hl];simp;omega
    have e2': ¬12<l.length:=by rw [←hl];simp;omega
    have e6:0<l.length:=by rw [←hl];simp
    have e7: (l==([]:Bs))=false:=by rw [←hl];rfl
    have e4:l[0]=c:=by simp [←hl]
    have hk:=kindI_eq c
    have hs:lwordI kd l=((kind c==kd)&&l.all isW):=by
     rw [←hl];simp only [lwordI,decide_eq_true h12,Bool.true_and]
    rw [hs]
    cases hkd:kind c==kd
    ·have hb: (kind c != kd)=true:=by simp only [bne,hkd];rfl
     exact ⟨[],by simp [bodyI,af209,c218,e2,e2',e4,e6,e7,hk,hb]⟩
    ·have hb: (kind c != kd)=false:=by simp only [bne,hkd];rfl
     cases hf:l.findIdx? (fun c=> !isW c) with
     |none=>
      rw [hf] at hit
      rw [findIdx_all hf]
      exact ⟨[.siter l l.length],by simp [bodyI,af209,c218,e2,e2',e4,e6,e7,hk,hb,hit]⟩
     |some i=>
      rw [hf] at hit
      rw [findIdx_not hf]
      exact ⟨[.siter l (i+ (Utf8.decode ⟨l.toArray⟩ i).2)],by simp [bodyI,af209,c218,e2,e2',e4,e6,e7,hk,hb,hit]⟩
   ·have hs:lwordI kd (c::t)=false:=by simp only [lwordI,decide_eq_false h12,Bool.false_and]
    rw [hs]
    generalize hl:c::t=l at*
    have e2: (12:Int) <l.length:=by rw [←hl];simp;omega
    have e2':12<l.length:=by rw [←hl];simp;omega
    have e7: (l==([]:Bs))=false:=by rw [←hl];rfl
    exact ⟨[],by simp [bodyI,af209,e2,e2',e7]⟩
 exact CI_tree tab209 hτ rfl rfl
theorem c185 (s:Bs) (σ:St):CI (.fn 185) [.str s] σ=some (.ret (.bool (upW s)),σ):=by
 refine CI_tree0 tab185 (d:= .bool (upW s)) ?_ rfl rfl
 simp [bodyI,af185,c209,lword_up,upW]
def kwm (l:List Bs):List (D × D):=l.map fun s=>(.str s, .int .i64 1)
theorem mapSet_new (s:Bs) (v:D): ∀ (l:List Bs),s ∉ l→mapSet 2 (.str s) v (kwm l)=some (kwm l++[(.str s,v)])
 | [],_=>rfl
 |a::r,h=>by
  have hne: (s==a)=false:=by simp only [List.mem_cons,not_or] at h;simpa using h.1
  have ih:=mapSet_new s v r (by simp only [List.mem_cons,not_or] at h;exact h.2)
  simp only [kwm,List.map_cons,mapSet,D.kindEq,hne] at ih ⊢
  rw [ih];rfl
theorem mapFind_kwm (s:Bs): ∀ (l:List Bs),mapFind 2 (.str s) (kwm l)=some (if l.contains s then some (.int .i64 1) else none)
 | []=>rfl
 |a::r=>by
  have ih:=mapFind_kwm s r
  simp only [kwm,List.map_cons,mapFind,D.kindEq] at ih ⊢
  cases h:s==a with
  |true=>
   have:s=a:=by simpa using h
   subst this
   simp
  |false=>
   simp only [ih,List.contains_cons,h,Bool.false_or]
theorem kws_nodup:kws.Nodup:=by decide+kernel
theorem kws_new (i:Nat) (hi:i<kws.length):kws[i] ∉ kws.take i:=by
 intro hm
 obtain ⟨j,hj,hj'⟩:=List.mem_take_iff_getElem.1 hm
 have:=(List.getElem_inj (i:=j) (j:=i) (h₀:=by omega) (h₁:=hi) kws_nodup).1 hj'
 omega
theorem fields_kws:g222 [.str [102,117,110,32,108,101,116,32,114,101,99,32,105,110,32,105,102,32,116,104,101,110,32,101,108,115,101,32,109,97,116,99,104,32,100,111,32,104,97,110,100,108,101,32,115,104,97,108,108,111,119,32,110,97,109,101,100,32,109,97,115,107,32,117,115,105,110,103,32,99,108,111,115,101,32,114,101,115,117,109,101,32,100,114,111,112,32,114,101,116,117,114,110,32,116,114,117,101,32,102,97,108,115,101,32,100,97,116,97,32,101,102,102,101,99,116,32,111,110,99,101,32,100,101,102,32,109,97,105,110]]=some (slD kws):=by kernel_rfl
theorem c222 (l:Bs) (r:D) (σ:St) (h:g222 [.str l]=some r):CI (.fn 222) [.str l] σ=some (.ret r,σ):=by
 refine callI_ext postN (g:=fun a=>g222 (weakL a)) (by simp [extOf,XI]) ?_
 simp [callExt,h]
theorem c219 (σ:St):CI (.fn 219) [] σ=some (.ret (.map σ.length),σ++[.map (kwm kws)]):=by
 have hit:=loop_findS (f:=evalI CI XB GI 15 false lp219_0) kws (fun i=>[(1, .map σ.length),(5,slD kws),(6, .int .i64 kws.length),(7, .int .i64 (i:Nat))]) (fun i=>σ++[.map (kwm (kws.take i))]) (fun _=>false)
  (fun i=>(.ret,[],σ)) (.exit 0,[(1, .map σ.length),(5,slD kws),(6, .int .i64 kws.length),(7, .int .i64 kws.length),(8, .bool false)],σ++[.map (kwm kws)]) (by simp) (by simp)
  (fun i hi=>by
    have hw:=wrap_nat (n:=i) (by have:kws.length=25:=rfl;omega)
    have hm:=mapSet_new kws[i] (.int .i64 1) (kws.take i) (kws_new i hi)
    have ht:kwm (kws.take i)++[(.str kws[i], .int .i64 1)]=kwm (kws.take (i+1)):=by
     rw [List.take_add_one,List.getElem?_eq_getElem hi]
     unfold kwm
     rw [List.map_append];rfl
    rw [ht] at hm
    generalize hk:kws=K at*
    generalize hg:K[i]=s at*
    simp [lp219_0,hi,hw,getA0,setA0,D.kindEq,hg,hm]) (by
    have:kws.take kws.length=kws:=List.take_length
    generalize kws=K at*
    simp [lp219_0,this])
 have hn:kws.findIdx? (fun _=>false)=none:=by rw [List.findIdx?_eq_none_iff];simp
 rw [hn,Int.natCast_zero] at hit
 have h0:kwm (kws.take 0)=[]:=rfl
 rw [h0] at hit
 have h25:=c222 _ _ (σ++[.map []]) fields_kws
 have hb:bodyI CI XB GI af219 [] σ=some (.ret (.map σ.length),σ++[.map (kwm kws)]):=by
  generalize kws=K at*
  simp [bodyI,af219,h25,hit]
 refine CI_fn tab219 hb ?_
 have hk:Keeps σ (σ++[.map (kwm kws)]):=keeps_app
 simp [postI,trim,if_pos hk,trimV,strip,D.under,qI]
theorem c210 (s:Bs) (σ:St):CI (.fn 210) [.str s] σ=some (.ret (.bool (isKey s)),σ):=by
 refine CI_tree (τ:=[.map (kwm kws)]) tab210 (d:= .bool (isKey s)) ?_ rfl rfl
 have hf:=mapFind_kwm s kws
 unfold isKey
 have hg:=c219 σ
 generalize kws=K at*
 cases h:K.contains s<;>(rw [h] at hf;simp [bodyI,af210,hg,getA0,hf,D.kindEq])
theorem c184 (s:Bs) (σ:St):CI (.fn 184) [.str s] σ=some (.ret (.bool (varW s)),σ):=by
 refine CI_tree0 tab184 (d:= .bool (varW s)) ?_ rfl rfl
 unfold varW
 cases h:wordOf isLow s<;>simp [bodyI,af184,c209,lword_low,h,c210]
def prims:List Bs:=[[43],[45],[42],[60],[61,61]]
def isC (s:Bs) (k:Int):Bool:=if k==1 then varW s else if k==2 then upW s else if k==3 then prims.contains s else s==[]
theorem c143 (s:Bs) (k:Int) (σ:St):CI (.fn 143) [.str s, .int .i64 k] σ=some (.ret (.bool (isC s k)),σ):=by
 refine CI_tree0 tab143 (d:= .bool (isC s k)) ?_ rfl rfl
 unfold isC
 cases h1:k==1
 ·cases h2:k==2
  ·cases h3:k==3
   ·simp [bodyI,af143,h1,h2,h3]
   ·unfold prims
    simp only [List.contains_cons,List.contains_nil,Bool.or_false]
    cases a1:s==[43]
    ·cases a2:s==[45]
     ·cases a3:s==[42]
      ·cases a4:s==[60]<;>simp [bodyI,af143,h1,h2,h3,a1,a2,a3,a4]
      ·simp [bodyI,af143,h1,h2,h3,a1,a2,a3]
     ·simp [bodyI,af143,h1,h2,h3,a1,a2]
    ·simp [bodyI,af143,h1,h2,h3,a1]
  ·simp [bodyI,af143,h1,h2,c185]
 ·simp [bodyI,af143,h1,c184]
def nInt:Bs:=[73,110,116]
def nBool:Bs:=[66,111,111,108]
def nUnit:Bs:=[85,110,105,116]
def builtins:List Bs:=[nInt,nBool,nUnit]
def builtinK (s:Bs):Int:=if s==nInt then 2 else if s==nBool then 3 else if s==nUnit then 4 else 0
theorem c199 (s:Bs) (σ:St):CI (.fn 199) [.str s] σ=some (.ret (.tuple [.int .i64 (builtinK s), .bool (builtins.contains s)]),σ):=by
 refine CI_tree0 tab199 (d:= .tuple [.int .i64 (builtinK s), .bool (builtins.contains s)]) ?_ rfl rfl
 unfold builtinK builtins nInt nBool nUnit
 simp only [List.contains_cons,List.contains_nil,Bool.or_false]
 cases h1:s==[73,110,116]
 ·cases h2:s==[66,111,111,108]
  ·cases h3:s==[85,110,105,116]<;>simp [bodyI,af199,h1,h2,h3]
  ·simp [bodyI,af199,h1,h2]
 ·simp [bodyI,af199,h1]
theorem indexP_ge (l:List Bs) (s:Bs):decide (0≤indexP l s)=l.contains s:=by
 unfold indexP
 rw [Bool.eq_iff_iff]
 cases h:l.findIdx? (· ==s) with
 |none=>
  rw [List.findIdx?_eq_none_iff] at h
  simp only [decide_eq_true_eq,List.contains_iff_mem]
  constructor
  ·intro h;omega
  ·intro hm;have:=h s hm;simp at this
 |some i=>
  simp only [decide_eq_true_eq,List.contains_iff_mem]
  constructor
  ·intro _
   obtain ⟨hi,h1,_⟩:=List.findIdx?_eq_some_iff_getElem.1 h
   have:l[i]=s:=by simpa using h1
   rw [←this];exact List.getElem_mem hi
  ·intro _;omega
theorem k111 (l:List Bs) (s:Bs) (σ:St) (hl:l.length≤maxL):CI (.fn 111) [slD l, .str s] σ=some (.ret (.bool (l.contains s)),σ):=by
 rw [c111 l s σ hl,indexP_ge]
def Ty.n:Ty→Int| .mk _ n .. =>n
def Ty.s:Ty→Bs| .mk _ _ s .. =>s
def Ty.tail:Ty→Int| .mk _ _ _ _ _ t=>t
def hasS (l:List Bs) (s:Bs):Bool:=l.contains s
def isB (s:Bs):Bool:=hasS builtins s
theorem k199 (s:Bs) (σ:St):CI (.fn 199) [.str s] σ=some (.ret (.tuple [.int .i64 (builtinK s), .bool (isB s)]),σ):=c199 s σ
theorem h111 (l:List Bs) (s:Bs) (σ:St) (hl:l.length≤maxL):CI (.fn 111) [slD l, .str s] σ=some (.ret (.bool (hasS l s)),σ):=k111 l s σ hl
def inR (n a b:Int):Bool:=decide (a≤n)&&decide (n≤b)
def labE (x:Lab):Int:=if upW x.s then (if inR x.n 0 999999999 then 0 else 1) else 4
def rowE (ls:List Lab) (tail:Int):Int:=firstE (ls.map labE++[if inR tail (-1) 999999999 then 0 else 1])
def rowD (ls:List Lab) (tail:Int):D:= .agg [.slice (ls.map Lab.d), .int .i64 tail]
theorem isC2 (s:Bs):isC s 2=upW s:=rfl
theorem isC1 (s:Bs):isC s 1=varW s:=rfl
theorem c200 (ls:List Lab) (tail:Int) (σ:St) (hl:ls.length≤maxL):CI (.fn 200) [rowD ls tail] σ=some (.ret (.int .i64 (rowE ls tail)),σ):=by
 unfold maxL at hl
 obtain ⟨τ,hτ⟩: ∃τ,bodyI CI XB GI af200 [rowD ls tail] σ=some (.ret (.int .i64 (rowE ls tail)),σ++τ):=by
  obtain ⟨τ,hit⟩:=loop_seek (f:=evalI CI XB GI 27 false lp200_0) (σ:=σ++[.box [.slice (ls.map Lab.d), .int .i64 tail]]) ls (fun i=>[(1, .ptr σ.length 0),(6, .slice (ls.map Lab.d)),(7, .int .i64 ls.length),(8, .int .i64 (i:Nat))]) (fun a=>labE a != 0) (fun a=>(.ret,[(2, .int .i64 (labE a))]))
   (.exit 0,[(1, .ptr σ.length 0),(6, .slice (ls.map Lab.d)),(7, .int .i64 ls.length),(8, .int .i64 ls.length),(9, .bool false)]) (by simp) (by simp)
   (fun i hi τ=>by
     have hw:=wrap_nat (n:=i) (by omega)
     rcases hx:ls[i] with ⟨s,n⟩
     generalize hσ:σ++[.box [.slice (ls.map Lab.d), .int .i64 tail]]++τ=σ1
     refine ⟨τ++[.box [.str s, .int .i64 n]], ?_⟩
     rw [←List.append_assoc,hσ]
     unfold labE inR
     cases h1:upW s
     ·simp [lp200_0,hi,hw,hx,Lab.d,h1,getA0,setA0,c143,isC2]
     ·by_cases h2:0≤n
      ·by_cases h3:n≤999999999
       ·simp [lp200_0,hi,hw,hx,Lab.d,h1,h2,h3,getA0,setA0,c143,c198,isC2]
       ·simp [lp200_0,hi,hw,hx,Lab.d,h1,h2,h3,getA0,setA0,c143,c198,isC2]
      ·simp [lp200_0,hi,hw,hx,Lab.d,h1,h2,getA0,setA0,c143,c198,isC2]) (fun τ=>⟨τ,by simp [lp200_0]⟩) []
  rw [Int.natCast_zero,List.append_nil] at hit
  refine ⟨[.box [.slice (ls.map Lab.d), .int .i64 tail]]++τ, ?_⟩
  rw [←List.append_assoc]
  have hg: (σ++[.box [.slice (ls.map Lab.d), .int .i64 tail]]++τ)[σ.length]? =some (.box [.slice (ls.map Lab.d), .int .i64 tail]):=by
   rw [List.append_assoc];exact getA0
  unfold rowE
  rw [firstE_app,firstE_find]
  cases hf:ls.find? (fun a=>labE a != 0) with
  |some a=>
   rw [hf] at hit
   have:labE a≠0:=by have:=List.find?_some hf;simpa using this
   simp [bodyI,af200,rowD,getA0,hit,this]
  |none=>
   rw [hf] at hit
   generalize hσ:σ++[.box [.slice (ls.map Lab.d), .int .i64 tail]]++τ=σ1 at*
   unfold firstE inR
   by_cases h2: -1≤tail
   ·by_cases h3:tail≤999999999<;>simp [bodyI,af200,rowD,getA0,hit,hg,c198,h2,h3,firstE]
   ·simp [bodyI,af200,rowD,getA0,hit,hg,c198,h2,firstE]
 exact CI_tree tab200 hτ rfl rfl
theorem k200 (ls:List Lab) (tail:Int) (σ:St) (hl:ls.length≤maxL):CI (.fn 200) [.agg [.slice (ls.map Lab.d), .int .i64 tail]] σ=some (.ret (.int .i64 (rowE ls tail)),σ):=c200 ls tail σ hl
theorem k198 (n a b:Int) (σ:St):CI (.fn 198) [.int .i64 n, .int .i64 a, .int .i64 b] σ=some (.ret (.bool (inR n a b)),σ):=c198 n a b σ
def classT (k:Int):Int:=if k=1 then 1 else if k=6 then 2 else 0
def leastT (k:Int):Int:=if k=5 then 2 else 0
def mostT (k:Int):Int:=if k=5 then 2 else if k=6 then 4 else 0
def tnodeE (k n:Int) (s:Bs) (len:Nat) (ls:List Lab) (tail:Int):Int:=
 if (!inR k 0 6) || ((!inR n 0 999999999) || ((k != 0)&&decide (0<n))) then 1
 else if (!isC s (classT k)) ||isB s then 4
 else if !inR len (leastT k) (mostT k) then 7
 else if k=5 then rowE ls tail
 else if decide (0<ls.length) || (tail != 0) then 1 else 0
set_option maxHeartbeats 1000000 in
theorem c163 (k n:Int) (s:Bs) (l:List D) (ls:List Lab) (tail:Int) (σ:St) (hl:ls.length≤maxL):
 CI (.fn 163) [.agg [.int .i64 k, .int .i64 n, .str s, .slice l, .slice (ls.map Lab.d), .int .i64 tail]] σ=some (.ret (.int .i64 (tnodeE k n s l.length ls tail)),σ):=by
 obtain ⟨τ,hτ⟩: ∃τ,bodyI CI XB GI af163 [.agg [.int .i64 k, .int .i64 n, .str s, .slice l, .slice (ls.map Lab.d), .int .i64 tail]] σ=some (.ret (.int .i64 (tnodeE k n s l.length ls tail)),σ++τ):=by
  refine ⟨[.box [.int .i64 k, .int .i64 n, .str s, .slice l, .slice (ls.map Lab.d), .int .i64 tail]], ?_⟩
  have h200:=fun σ=>k200 ls tail σ hl
  have hz:decide (0<ls.length)=true→ ¬ls.map Lab.d=[]:=by cases ls<;>simp
  have hz':decide (0<ls.length)=false→ls.map Lab.d=[]:=by cases ls<;>simp
  unfold tnodeE
  generalize ls.map Lab.d=lsd at*
  generalize decide (0<ls.length)=lp at*
  cases hk:inR k 0 6
  ·simp [bodyI,af163,getA0,k198,hk]
  cases hn:inR n 0 999999999
  ·simp [bodyI,af163,getA0,k198,hk,hn]
  have rest: ∀ (_: ((k != 0)&&decide (0<n))=false),bodyI CI XB GI af163 [.agg [.int .i64 k, .int .i64 n, .str s, .slice l, .slice lsd, .int .i64 tail]] σ=
   some (.ret (.int .i64 (if (!isC s (classT k)) ||isB s then 4 else if !inR l.length (leastT k) (mostT k) then 7 else if k=5 then rowE ls tail else if lp|| (tail != 0) then 1 else 0)),σ++[.box [.int .i64 k, .int .i64 n, .str s, .slice l, .slice lsd, .int .i64 tail]]):=by
   intro h0
   have hkk:k=0∨k=1∨k=2∨k=3∨k=4∨k=5∨k=6:=by
    unfold inR at hk;simp at hk;omega
   by_cases h5:k=5
   ·subst h5
    have hp: ¬0<n:=by simpa using h0
    cases hc:isC s 0
    ·simp [bodyI,af163,getA0,k198,hk,hn,hp,classT,k199,c143,hc]
    cases hb:isB s
    ·cases hlen:inR l.length 2 2<;>simp [bodyI,af163,getA0,k198,hk,hn,hp,classT,leastT,mostT,k199,c143,hc,hb,hlen,h200]
    ·simp [bodyI,af163,getA0,k198,hk,hn,hp,classT,k199,c143,hc,hb]
   ·cases hc:isC s (classT k)
    ·cases hk0:k != 0
     ·have:k=0:=by simpa using hk0
      subst this
      simp [classT] at hc
      simp [bodyI,af163,getA0,k198,hk,hn,k199,c143,hc,classT]
     ·have hp: ¬0<n:=by rw [hk0] at h0;simpa using h0
      rcases hkk with rfl|rfl|rfl|rfl|rfl|rfl|rfl<;>simp [classT] at hc hk0 h5<;>simp [bodyI,af163,getA0,k198,hk,hn,hp,k199,c143,hc,classT]
    ·cases hb:isB s
     ·cases hlen:inR l.length (leastT k) (mostT k)
      ·cases hk0:k != 0
       ·have:k=0:=by simpa using hk0
        subst this
        simp [classT,leastT,mostT] at hc hlen
        simp [bodyI,af163,getA0,k198,hk,hn,k199,c143,hc,hb,hlen,classT,leastT,mostT]
       ·have hp: ¬0<n:=by rw [hk0] at h0;simpa using h0
        rcases hkk with rfl|rfl|rfl|rfl|rfl|rfl|rfl<;>simp [classT,leastT,mostT] at hc hk0 h5 hlen<;>simp [bodyI,af163,getA0,k198,hk,hn,hp,k199,c143,hc,hb,hlen,classT,leastT,mostT]
      ·cases hls:lp
       rotate_left
       ·have hls':=hz hls
        have hls2:0<lsd.length:=List.length_pos_iff.2 hls'
        cases hk0:k != 0
        ·have:k=0:=by simpa using hk0
         subst this
         simp [classT,leastT,mostT] at hc hlen
         simp [bodyI,af163,getA0,k198,hk,hn,k199,c143,hc,hb,hlen,hls,hls',hls2,classT,leastT,mostT]
        ·have hp: ¬0<n:=by rw [hk0] at h0;simpa using h0
         rcases hkk with rfl|rfl|rfl|rfl|rfl|rfl|rfl<;>simp [classT,leastT,mostT] at hc hk0 h5 hlen<;>simp [bodyI,af163,getA0,k198,hk,hn,hp,k199,c143,hc,hb,hlen,hls,hls',hls2,classT,leastT,mostT]
       ·have hls':=hz' hls
        have hls2:lsd.length=0:=by rw [hls'];rfl
        cases hk0:k != 0
        ·have:k=0:=by simpa using hk0
         subst this
         simp [classT,leastT,mostT] at hc hlen
         cases ht:tail != 0<;>simp [bodyI,af163,getA0,k198,hk,hn,k199,c143,hc,hb,hlen,hls,hls',hls2,ht,classT,leastT,mostT]
        ·have hp: ¬0<n:=by rw [hk0] at h0;simpa using h0
         cases ht:tail != 0<;>(rcases hkk with rfl|rfl|rfl|rfl|rfl|rfl|rfl<;>simp [classT,leastT,mostT] at hc hk0 h5 hlen<;>simp [bodyI,af163,getA0,k198,hk,hn,hp,k199,c143,hc,hb,hlen,hls,hls',hls2,ht,classT,leastT,mostT])
     ·cases hk0:k != 0
      ·have:k=0:=by simpa using hk0
       subst this
       simp [classT] at hc
       simp [bodyI,af163,getA0,k198,hk,hn,k199,c143,hc,hb,classT]
      ·have hp: ¬0<n:=by rw [hk0] at h0;simpa using h0
       rcases hkk with rfl|rfl|rfl|rfl|rfl|rfl|rfl<;>simp [classT] at hc hk0 h5<;>simp [bodyI,af163,getA0,k198,hk,hn,hp,k199,c143,hc,hb,classT]
  cases h0: (k != 0)&&decide (0<n)
  ·rw [rest h0];simp
  ·have h1: (k != 0)=true∧0<n:=by simpa using h0
   simp [bodyI,af163,getA0,k198,hk,hn,h1.1,h1.2]
 exact CI_tree tab163 hτ rfl rfl
@[simp] theorem Ty.cs_len (t:Ty):t.cs.length=6:=by cases t;rfl
@[simp] theorem Ty.cs_take (t:Ty):t.cs.take 6=t.cs:=List.take_of_length_le (by simp)
@[simp] theorem Ex.cs_len (t:Ex):t.cs.length=7:=by cases t;rfl
@[simp] theorem Ex.cs_take (t:Ex):t.cs.take 7=t.cs:=List.take_of_length_le (by simp)
@[simp] theorem Arm.cs_len (t:Arm):t.cs.length=9:=by cases t;simp [Arm.cs]
@[simp] theorem Arm.cs_take (t:Arm):t.cs.take 9=t.cs:=List.take_of_length_le (by simp)
mutual
def Ty.ok:Ty→Prop
 | .mk _ _ _ l ls _=>l.length≤maxL∧ls.length≤maxL∧tysOk l
def tysOk:List Ty→Prop
 | []=>True
 |t::r=>t.ok∧tysOk r
end
mutual
def Ty.e:Ty→Int
 | .mk k n s l ls tail=>if tnodeE k n s l.length ls tail=0 then tysE l else tnodeE k n s l.length ls tail
def tysE:List Ty→Int
 | []=>0
 |t::r=>if t.e=0 then tysE r else t.e
end
theorem tysD_len (l:List Ty): (tysD l).length=l.length:=by rw [tysD_map];simp
mutual
theorem c114: ∀ (t:Ty),t.ok→ ∀ (σ:St),CI (.fn 114) [.agg t.cs] σ=some (.ret (.int .i64 t.e),σ)
 | .mk k n s l ls tail,hok,σ=>by
  obtain ⟨h1,h2,h3⟩:=hok
  have h163:=fun σ=>c163 k n s (tysD l) ls tail σ h2
  rw [tysD_len] at h163
  obtain ⟨τ,hτ⟩: ∃τ,bodyI CI XB GI af114 [.agg (Ty.mk k n s l ls tail).cs] σ=some (.ret (.int .i64 (Ty.e (.mk k n s l ls tail))),σ++τ):=by
   refine ⟨[.box (Ty.mk k n s l ls tail).cs], ?_⟩
   obtain ⟨j,hit⟩:=it114 l [] (tnodeE k n s l.length ls tail) (σ++[.box (Ty.mk k n s l ls tail).cs]) σ.length ⟨k,n,s, .slice (ls.map Lab.d),tail,by rw [getA0];rfl⟩ h1 h3 _ rfl
   simp only [Ty.e]
   simp only [List.length_nil,Int.natCast_zero] at hit
   simp only [Ty.cs] at hit ⊢
   generalize ls.map Lab.d=lsd at*
   generalize tysD l=ld at*
   simp [bodyI,af114,getA0,h163,hit]
  exact CI_tree tab114 hτ rfl rfl
theorem it114: ∀ (r pre:List Ty) (e:Int) (σ:St) (p:Nat),(∃k n s ls tail,σ[p]? =some (.box [.int .i64 k, .int .i64 n, .str s, .slice (tysD (pre++r)),ls, .int .i64 tail]))→(pre++r).length≤maxL→tysOk r→ ∀ (m:Nat),m=pre.length→
 ∃j:Int,iterI (evalI CI XB GI 25 false lp114_0) [(1, .ptr p 0),(3, .int .i64 e),(4, .int .i64 (m:Nat))] σ=
  some (.exit 0,[(1, .ptr p 0),(3, .int .i64 (if e=0 then tysE r else e)),(4, .int .i64 j),(15, .bool false)],σ)
 | [],pre,e,σ,p,hσ,hl,hok,m,hm=>by
  obtain ⟨k,n,s,ls,tail,hσ⟩:=hσ
  rw [List.append_nil] at hσ
  refine ⟨(m:Int),iterI_end ?_ (by simp)⟩
  have he: (if e=0 then tysE [] else e)=e:=by simp only [tysE];split<;>simp_all
  rw [he]
  have hlen:=tysD_len pre
  generalize tysD pre=ld at*
  simp [lp114_0,hσ,hlen,hm]
 |a::r,pre,e,σ,p,hσ,hl,hok,m,hm=>by
  obtain ⟨k,n,s,ls,tail,hσ⟩:=hσ
  obtain ⟨hok1,hok2⟩:=hok
  unfold maxL at hl
  have hmt: (m:Int) < ((pre++a::r).length:Nat):=by simp;omega
  have hlen:=tysD_len (pre++a::r)
  have hget: (tysD (pre++a::r))[m]? =some (.agg a.cs):=by rw [tysD_map,hm];simp [Ty.d]
  have hw:=wrap_nat (n:=m) (by simp at hl;omega)
  by_cases he:e=0
  ·subst he
   have ha:=fun σ=>c114 a hok1 σ
   obtain ⟨j,ih⟩:=it114 r (pre++[a]) a.e σ p ⟨k,n,s,ls,tail,by simpa using hσ⟩ (by simp at hl ⊢;unfold maxL;omega) hok2 (m+1) (by simp [hm])
   refine ⟨j, ?_⟩
   have hb:evalI CI XB GI 25 false lp114_0 [(1, .ptr p 0),(3, .int .i64 0),(4, .int .i64 (m:Nat))] σ=some (.normal,[(1, .ptr p 0),(3, .int .i64 a.e),(4, .int .i64 ((m+1:Nat):Int))],σ):=by
    generalize (pre++a::r).length=q at*
    generalize tysD (pre++a::r)=ld at*
    have h1: (m:Int) <ld.length:=by rw [hlen];exact hmt
    have h2:m<ld.length:=by omega
    have h3:ld[m]= .agg a.cs:=by rw [List.getElem?_eq_getElem h2] at hget;exact Option.some.inj hget
    simp [lp114_0,hσ,h1,h2,h3,hw,ha]
   rw [iterI_next hb,ih]
   simp only [if_true,tysE]
  ·refine ⟨(m:Int),iterI_end ?_ (by simp)⟩
   rw [if_neg he]
   have h0: (e==0)=false:=by simpa using he
   generalize (pre++a::r).length=q at*
   generalize tysD (pre++a::r)=ld at*
   have h1: (m:Int) <ld.length:=by rw [hlen];exact hmt
   simp [lp114_0,hσ,h1,h0,he]
end
mutual
def Ty.take:Ty→Int→Int→Bool × Int
 | .mk _ _ _ l ls _,left,depth=>if left - 1<0∨200<depth∨24<ls.length then (false,left - 1) else tysTake l (left - 1) (depth+1)
def tysTake:List Ty→Int→Int→Bool × Int
 | [],left,_=>(true,left)
 |t::r,left,d=>if (t.take left d).1 then tysTake r (t.take left d).2 d else (false,(t.take left d).2)
end
mutual
theorem Ty.take_left: ∀ (t:Ty) (left d:Int),0≤left→ -1≤(t.take left d).2∧(t.take left d).2≤left∧((t.take left d).1=true→0≤(t.take left d).2)
 | .mk _ _ _ l ls _,left,d,h=>by
  simp only [Ty.take]
  split
  ·exact ⟨by simp;omega,by simp;omega,by simp⟩
  ·have:=tysTake_left l (left - 1) (d+1) (by omega)
   exact ⟨this.1,by omega,this.2.2⟩
theorem tysTake_left: ∀ (l:List Ty) (left d:Int),0≤left→ -1≤(tysTake l left d).2∧(tysTake l left d).2≤left∧((tysTake l left d).1=true→0≤(tysTake l left d).2)
 | [],left,d,h=>by simp only [tysTake];exact ⟨by omega,by omega,fun _=>h⟩
 |t::r,left,d,h=>by
  obtain ⟨h1,h2,h3⟩:=t.take_left left d h
  simp only [tysTake]
  split
  ·rename_i ht
   obtain ⟨a1,a2,a3⟩:=tysTake_left r _ d (h3 ht)
   exact ⟨a1,by omega,a3⟩
  ·exact ⟨h1,h2,by simp⟩
end
def mBox (left deep:Int):Obj:= .box [.int .i64 left, .int .i64 deep]
theorem mBox_under {n:Nat} {left deep:Int} : (mBox left deep).under n:=by simp [mBox,Obj.under,underL,D.under]
mutual
theorem c113: ∀ (t:Ty),t.ok→ ∀ (left deep depth:Int) (i:Nat) (σ:St),σ[i]? =some (mBox left deep)→0≤left→left≤1000000→0≤depth→depth≤1000→
 CI (.fn 113) [.ptr i 0, .agg t.cs, .int .i64 depth] σ=some (.ret (.bool (t.take left depth).1),σ.set i (mBox (t.take left depth).2 deep))
 | .mk k n s l ls tail,hok,left,deep,depth,i,σ,hσ,h0,h1,hd0,hd1=>by
  obtain ⟨ho1,ho2,ho3⟩:=hok
  have hi:=lt_of_get hσ
  have hw:IntKind.i64.wrap (left - 1)=left - 1:=wrap_i64 (by omega) (by omega)
  obtain ⟨τ,hτ⟩: ∃τ,bodyI CI XB GI af113 [.ptr i 0, .agg (Ty.mk k n s l ls tail).cs, .int .i64 depth] σ=some (.ret (.bool ((Ty.mk k n s l ls tail).take left depth).1),σ.set i (mBox ((Ty.mk k n s l ls tail).take left depth).2 deep)++τ):=by
   refine ⟨[.box [.ptr i 0], .box (Ty.mk k n s l ls tail).cs, .box [.int .i64 depth]], ?_⟩
   have hlen: ((ls.map Lab.d).length:Int)=ls.length:=by simp
   have hlen2: (ls.map Lab.d).length=ls.length:=by simp
   simp only [Ty.take]
   have hit:0≤left - 1→depth≤200→CI (.fn 161) [.slice (tysD l), .func 162 [] [.ptr σ.length 0, .ptr (σ.length+2) 0]] (σ.set i (mBox (left - 1) deep)++[.box [.ptr i 0], .box (Ty.mk k n s l ls tail).cs, .box [.int .i64 depth]])=
    some (.ret (.bool (!(tysTake l (left - 1) (depth+1)).1)),σ.set i (mBox (tysTake l (left - 1) (depth+1)).2 deep)++[.box [.ptr i 0], .box (Ty.mk k n s l ls tail).cs, .box [.int .i64 depth]]):=fun hl0 hdl=>by
    rw [c161 l ho3 ho1 (left - 1) deep depth i σ.length (σ.length+2) _ (getSs hi) getAs0 getAs (by omega) (by omega) hl0 (by omega) hd0 (by omega),setSs hi]
   simp only [Ty.cs,mBox] at hit hσ ⊢
   generalize ls.map Lab.d=lsd at*
   generalize tysD l=ld at*
   by_cases hn:left - 1<0
   ·simp [bodyI,af113,getA0,getA,getO hσ,getAs0,getAs,getSs hi,setO hi,hw,hn]
   ·by_cases hd:200<depth
    ·simp [bodyI,af113,getA0,getA,getO hσ,getAs0,getAs,getSs hi,setO hi,hw,hn,hd]
    ·by_cases hl24:24<ls.length
     ·have hl24':24<lsd.length:=by omega
      have hl24'': (24:Int) < (lsd.length:Int):=by omega
      simp [bodyI,af113,getA0,getA,getO hσ,getAs0,getAs,getSs hi,setO hi,hw,hn,hd,hl24,hl24',hl24'']
     ·have hl24': ¬24<lsd.length:=by omega
      have hl24'': ¬(24:Int) < (lsd.length:Int):=by omega
      have hit:=hit (by omega) (by omega)
      simp [bodyI,af113,getA0,getA,getO hσ,getAs0,getAs,getSs hi,setO hi,hw,hn,hd,hl24,hl24',hl24'',hit]
  exact CI_fn tab113 hτ (postI_set mBox_under rfl rfl)
theorem c162: ∀ (t:Ty),t.ok→ ∀ (left deep depth:Int) (i pm pd:Nat) (σ:St),σ[i]? =some (mBox left deep)→σ[pm]? =some (.box [.ptr i 0])→σ[pd]? =some (.box [.int .i64 depth])→0≤left→left≤1000000→0≤depth→depth≤900→
 CI (.fn 162) [.agg t.cs, .ptr pm 0, .ptr pd 0] σ=some (.ret (.bool (!(t.take left (depth+1)).1)),σ.set i (mBox (t.take left (depth+1)).2 deep))
 |t,hok,left,deep,depth,i,pm,pd,σ,hσ,hpm,hpd,h0,h1,hd0,hd1=>by
  have hi:=lt_of_get hσ
  have hw:IntKind.i64.wrap (depth+1)=depth+1:=wrap_i64 (by omega) (by omega)
  have hc:=c113 t hok left deep (depth+1) i (σ++[.box t.cs]) (getO hσ) h0 h1 (by omega) (by omega)
  rw [setO hi] at hc
  have hτ:bodyI CI XB GI af162 [.agg t.cs, .ptr pm 0, .ptr pd 0] σ=some (.ret (.bool (!(t.take left (depth+1)).1)),σ.set i (mBox (t.take left (depth+1)).2 deep)++[.box t.cs]):=by
   have hall:t.cs.all D.one=true:=by cases t;rfl
   simp [bodyI,af162,getA0,getO hpm,getO hpd,hall,hw,hc]
  exact CI_fn tab162 hτ (postI_set mBox_under rfl rfl)
theorem it197: ∀ (r pre:List Ty),tysOk r→(pre++r).length≤maxL→ ∀ (left deep depth:Int) (i pm pd:Nat) (σ:St),σ[i]? =some (mBox left deep)→σ[pm]? =some (.box [.ptr i 0])→σ[pd]? =some (.box [.int .i64 depth])→pm≠i→pd≠i→0≤left→left≤1000000→0≤depth→depth≤900→ ∀m,m=pre.length→
 (∃j:Nat,(tysTake r left (depth+1)).1=false∧iterI (evalI CI XB GI 19 false lp197_0) [(0, .slice (tysD (pre++r))),(1, .func 162 [] [.ptr pm 0, .ptr pd 0]),(7, .int .i64 (pre++r).length),(8, .int .i64 (m:Nat))] σ=
   some (.ret,[(4, .int .i64 j)],σ.set i (mBox (tysTake r left (depth+1)).2 deep)))∨
 ((tysTake r left (depth+1)).1=true∧iterI (evalI CI XB GI 19 false lp197_0) [(0, .slice (tysD (pre++r))),(1, .func 162 [] [.ptr pm 0, .ptr pd 0]),(7, .int .i64 (pre++r).length),(8, .int .i64 (m:Nat))] σ=
   some (.exit 0,[(0, .slice (tysD (pre++r))),(1, .func 162 [] [.ptr pm 0, .ptr pd 0]),(7, .int .i64 (pre++r).length),(8, .int .i64 (pre++r).length),(9, .bool false)],σ.set i (mBox (tysTake r left (depth+1)).2 deep)))
 | [],pre,hok,hl,left,deep,depth,i,pm,pd,σ,hσ,hpm,hpd,hne1,hne2,h0,h1,hd0,hd1,m,hm=>by
  right
  refine ⟨rfl, ?_⟩
  have hs:σ.set i (mBox (tysTake [] left (depth+1)).2 deep)=σ:=by
   simp only [tysTake]
   rw [←(List.getElem?_eq_some_iff.1 hσ).2];exact List.set_getElem_self _
  rw [hs]
  refine iterI_end ?_ (by simp)
  have:m=(pre++([]:List Ty)).length:=by rw [hm];simp
  generalize (pre++([]:List Ty)).length=q at*
  generalize tysD (pre++[])=ld at*
  simp [lp197_0,this]
 |a::r,pre,hok,hl,left,deep,depth,i,pm,pd,σ,hσ,hpm,hpd,hne1,hne2,h0,h1,hd0,hd1,m,hm=>by
  obtain ⟨hok1,hok2⟩:=hok
  unfold maxL at hl
  have hi:=lt_of_get hσ
  have hmt:m< (pre++a::r).length:=by simp;omega
  have hlen:=tysD_len (pre++a::r)
  have hget: (tysD (pre++a::r))[m]? =some (.agg a.cs):=by rw [tysD_map,hm];simp [Ty.d]
  have hw:=wrap_nat (n:=m) (by simp at hl;omega)
  have ha:=c162 a hok1 left deep depth i pm pd σ hσ hpm hpd h0 h1 hd0 hd1
  obtain ⟨b1,b2,b3⟩:=a.take_left left (depth+1) h0
  simp only [tysTake]
  cases hta: (a.take left (depth+1)).1 with
  |false=>
   left
   refine ⟨m,by simp,iterI_end ?_ (by simp)⟩
   rw [hta] at ha
   simp only [Bool.false_eq_true,if_false]
   generalize (pre++a::r).length=q at*
   generalize tysD (pre++a::r)=ld at*
   have h2:m<ld.length:=by omega
   have h1': (m:Int) <ld.length:=by omega
   have h3:ld[m]= .agg a.cs:=by rw [List.getElem?_eq_getElem h2] at hget;exact Option.some.inj hget
   have hq: (m:Int) <q:=by omega
   simp [lp197_0,h1',h2,h3,hq,ha,hmt]
  |true=>
   rw [hta] at ha
   simp only [if_true]
   have ih:=it197 r (pre++[a]) hok2 (by simp at hl ⊢;unfold maxL;omega) (a.take left (depth+1)).2 deep depth i pm pd (σ.set i (mBox (a.take left (depth+1)).2 deep)) (List.getElem?_set_self hi)
    (by rw [List.getElem?_set_ne (Ne.symm hne1)];exact hpm) (by rw [List.getElem?_set_ne (Ne.symm hne2)];exact hpd) hne1 hne2 (b3 hta) (by omega) hd0 hd1 (m+1) (by simp [hm])
   have hp:pre++[a]++r=pre++a::r:=by simp
   rw [hp,List.set_set] at ih
   have hb:evalI CI XB GI 19 false lp197_0 [(0, .slice (tysD (pre++a::r))),(1, .func 162 [] [.ptr pm 0, .ptr pd 0]),(7, .int .i64 (pre++a::r).length),(8, .int .i64 (m:Nat))] σ=
    some (.normal,[(0, .slice (tysD (pre++a::r))),(1, .func 162 [] [.ptr pm 0, .ptr pd 0]),(7, .int .i64 (pre++a::r).length),(8, .int .i64 ((m+1:Nat):Int))],σ.set i (mBox (a.take left (depth+1)).2 deep)):=by
    generalize (pre++a::r).length=q at*
    generalize tysD (pre++a::r)=ld at*
    have h2:m<ld.length:=by omega
    have h1': (m:Int) <ld.length:=by omega
    have h3:ld[m]= .agg a.cs:=by rw [List.getElem?_eq_getElem h2] at hget;exact Option.some.inj hget
    have hq: (m:Int) <q:=by omega
    simp [lp197_0,h1',h2,h3,hq,ha,hw,hmt]
   rw [iterI_next hb]
   exact ih
theorem c161: ∀ (l:List Ty),tysOk l→l.length≤maxL→ ∀ (left deep depth:Int) (i pm pd:Nat) (σ:St),σ[i]? =some (mBox left deep)→σ[pm]? =some (.box [.ptr i 0])→σ[pd]? =some (.box [.int .i64 depth])→pm≠i→pd≠i→0≤left→left≤1000000→0≤depth→depth≤900→
 CI (.fn 161) [.slice (tysD l), .func 162 [] [.ptr pm 0, .ptr pd 0]] σ=some (.ret (.bool (!(tysTake l left (depth+1)).1)),σ.set i (mBox (tysTake l left (depth+1)).2 deep))
 |l,hok,hl,left,deep,depth,i,pm,pd,σ,hσ,hpm,hpd,hne1,hne2,h0,h1,hd0,hd1=>by
  have hlen:=tysD_len l
  have hit:=it197 l [] hok hl left deep depth i pm pd σ hσ hpm hpd hne1 hne2 h0 h1 hd0 hd1 0 rfl
  simp only [List.nil_append,Int.natCast_zero] at hit
  generalize tysD l=ld at*
  obtain ⟨j,hj,h197⟩: ∃j:Int,decide (0≤j)= !(tysTake l left (depth+1)).1∧CI (.fn 197) [.slice ld, .func 162 [] [.ptr pm 0, .ptr pd 0]] σ=some (.ret (.int .i64 j),σ.set i (mBox (tysTake l left (depth+1)).2 deep)):=by
   rcases hit with ⟨j,hf,hit⟩ | ⟨hf,hit⟩
   ·refine ⟨j,by rw [hf];simp,CI_fn tab197 (y:=(.ret (.int .i64 j),σ.set i (mBox (tysTake l left (depth+1)).2 deep))) ?_ (postI_len (by simp) rfl rfl rfl)⟩
    simp [bodyI,af197,hlen,hit]
   ·refine ⟨-1,by rw [hf];rfl,CI_fn tab197 (y:=(.ret (.int .i64 (-1)),σ.set i (mBox (tysTake l left (depth+1)).2 deep))) ?_ (postI_len (by simp) rfl rfl rfl)⟩
    simp [bodyI,af197,hlen,hit]
  refine CI_fn tab161 (y:=(.ret (.bool (!(tysTake l left (depth+1)).1)),σ.set i (mBox (tysTake l left (depth+1)).2 deep))) ?_ (postI_len (by simp) rfl rfl rfl)
  rw [←hj]
  simp [bodyI,af161,h197]
end
def Ty.chk (t:Ty):Int:=if (t.take 3000 1).1 then t.e else 3
theorem c60 (t:Ty) (hok:t.ok) (σ:St):CI (.fn 60) [.agg t.cs] σ=some (.ret (.int .i64 t.chk),σ):=by
 obtain ⟨τ,hτ⟩: ∃τ,bodyI CI XB GI af60 [.agg t.cs] σ=some (.ret (.int .i64 t.chk),σ++τ):=by
  refine ⟨[.box t.cs,mBox (t.take 3000 1).2 0], ?_⟩
  have h113:=c113 t hok 3000 0 1 (σ.length+1) (σ++[.box t.cs,mBox 3000 0]) (by rw [getA];rfl) (by omega) (by omega) (by omega) (by omega)
  rw [setA] at h113
  have h114:=fun σ=>c114 t hok σ
  have hall:t.cs.all D.one=true:=by cases t;rfl
  unfold Ty.chk
  simp only [mBox,List.set] at*
  generalize (t.take 3000 1).2=q at*
  cases h: (t.take 3000 1).1
  ·rw [h] at h113
   simp [bodyI,af60,fillD,putCells,getA0,getA,setA,setA0,hall,h113]
  ·rw [h] at h113
   simp [bodyI,af60,fillD,putCells,getA0,getA,setA,setA0,hall,h113,h114]
 exact CI_tree tab60 hτ rfl rfl
mutual
def Ty.cl (p:Int→Bool):Ty→Bool
 | .mk k _ _ l ls tail=> !(k==0|| (k==5&&p tail))&&ls.all (fun x=>x.n==0)&&tysCl p l
def tysCl (p:Int→Bool):List Ty→Bool
 | []=>true
 |t::r=>t.cl p&&tysCl p r
end
theorem tysCl_all (p:Int→Bool): ∀ (l:List Ty),tysCl p l=l.all (fun t=>t.cl p)
 | []=>rfl
 |t::r=>by simp only [tysCl,List.all_cons,tysCl_all p r]
theorem tysOk_mem: ∀ {l:List Ty} {t:Ty},tysOk l→t ∈ l→t.ok
 | [],t,_,h=>by cases h
 |a::r,t,⟨h1,h2⟩,h=>by
  cases h with
  |head=>exact h1
  |tail _ h=>exact tysOk_mem h2 h
def tail0 (n:Int):Bool:=decide (0≤n)
def tailC (n:Int):Bool:=n != -1
theorem c216 (x:Lab) (σ:St):CI (.fn 216) [.agg [.str x.s, .int .i64 x.n]] σ=some (.ret (.bool (x.n != 0)),σ):=by
 have hτ:bodyI CI XB GI af216 [.agg [.str x.s, .int .i64 x.n]] σ=some (.ret (.bool (x.n != 0)),σ++[.box [.str x.s, .int .i64 x.n]]):=by
  simp [bodyI,af216,getA0]
 exact CI_tree tab216 hτ rfl rfl
theorem c221 (l:List Lab) (σ:St) (hl:l.length≤maxL): ∃j:Int,decide (0≤j)= !(l.all fun x=>x.n==0)∧CI (.fn 221) [.slice (l.map Lab.d), .func 216 [] []] σ=some (.ret (.int .i64 j),σ):=by
 unfold maxL at hl
 have hit:=loop_find (f:=evalI CI XB GI 19 false lp221_0) (σ:=σ) l (fun i=>[(0, .slice (l.map Lab.d)),(1, .func 216 [] []),(7, .int .i64 l.length),(8, .int .i64 (i:Nat))]) (fun x=> !(x.n==0)) (fun i=>(.ret,[(4, .int .i64 (i:Nat))],σ)) (.exit 0,[(0, .slice (l.map Lab.d)),(1, .func 216 [] []),(7, .int .i64 l.length),(8, .int .i64 l.length),(9, .bool false)],σ) (by simp) (by simp)
  (fun i hi=>by
    have hw:=wrap_nat (n:=i) (by omega)
    have hc:=c216 l[i] σ
    cases hb:l[i].n==0<;>simp only [bne,hb] at hc<;>simp [lp221_0,hi,hw,Lab.d,hc]) (by
    simp [lp221_0])
 rw [Int.natCast_zero] at hit
 cases hf:l.findIdx? (fun x=> !(x.n==0)) with
 |none=>
  rw [hf] at hit
  refine ⟨-1,by rw [findIdx_all hf];rfl,CI_tree0 tab221 (d:= .int .i64 (-1)) ?_ rfl rfl⟩
  simp [bodyI,af221,hit]
 |some i=>
  rw [hf] at hit
  refine ⟨i,by rw [findIdx_not hf];simp,CI_tree0 tab221 (d:= .int .i64 i) ?_ rfl rfl⟩
  simp [bodyI,af221,hit]
theorem c215 (l:List Lab) (σ:St) (hl:l.length≤maxL):CI (.fn 215) [.slice (l.map Lab.d), .func 216 [] []] σ=some (.ret (.bool (!(l.all fun x=>x.n==0))),σ):=by
 obtain ⟨j,hj,h⟩:=c221 l σ hl
 refine CI_tree0 tab215 (d:= .bool (!(l.all fun x=>x.n==0))) ?_ rfl rfl
 rw [←hj]
 simp [bodyI,af215,h]
theorem p161 (l:List Ty) (f:Nat) (caps:List D) (Q:Ty→Bool) (σ:St) (hl:l.length≤maxL) (h: ∀x ∈ l,CI (.fn f) (.agg x.cs::caps) σ=some (.ret (.bool (!Q x)),σ)):
 CI (.fn 161) [.slice (tysD l), .func f [] caps] σ=some (.ret (.bool (!l.all Q)),σ):=by
 unfold maxL at hl
 have hlen:=tysD_len l
 have hit:=loop_find (f:=evalI CI XB GI 19 false lp197_0) (σ:=σ) l (fun i=>[(0, .slice (tysD l)),(1, .func f [] caps),(7, .int .i64 l.length),(8, .int .i64 (i:Nat))]) (fun x=> !Q x) (fun i=>(.ret,[(4, .int .i64 (i:Nat))],σ)) (.exit 0,[(0, .slice (tysD l)),(1, .func f [] caps),(7, .int .i64 l.length),(8, .int .i64 l.length),(9, .bool false)],σ) (by simp) (by simp)
  (fun i hi=>by
    have hw:=wrap_nat (n:=i) (by omega)
    have hc:=h l[i] (List.getElem_mem hi)
    have hget: (tysD l)[i]? =some (.agg l[i].cs):=by rw [tysD_map];simp [Ty.d,hi]
    generalize tysD l=ld at*
    have h2:i<ld.length:=by omega
    have h3:ld[i]= .agg l[i].cs:=by rw [List.getElem?_eq_getElem h2] at hget;exact Option.some.inj hget
    cases hb:Q l[i]<;>rw [hb] at hc<;>simp [lp197_0,hi,hw,h2,h3,hc]) (by
    generalize tysD l=ld at*
    simp [lp197_0])
 rw [Int.natCast_zero] at hit
 generalize tysD l=ld at*
 obtain ⟨j,hj,h197⟩: ∃j:Int,decide (0≤j)= !(l.all Q)∧CI (.fn 197) [.slice ld, .func f [] caps] σ=some (.ret (.int .i64 j),σ):=by
  cases hf:l.findIdx? (fun x=> !Q x) with
  |none=>
   rw [hf] at hit
   refine ⟨-1,by rw [findIdx_all hf];rfl,CI_tree0 tab197 (d:= .int .i64 (-1)) ?_ rfl rfl⟩
   simp [bodyI,af197,hlen,hit]
  |some i=>
   rw [hf] at hit
   refine ⟨i,by rw [findIdx_not hf];simp,CI_tree0 tab197 (d:= .int .i64 i) ?_ rfl rfl⟩
   simp [bodyI,af197,hlen,hit]
 refine CI_tree0 tab161 (d:= .bool (!(l.all Q))) ?_ rfl rfl
 rw [←hj]
 simp [bodyI,af161,h197]
theorem c208: ∀ (t:Ty),t.ok→ ∀ (σ:St),CI (.fn 208) [.agg t.cs] σ=some (.ret (.bool (t.cl tail0)),σ)
 | .mk k n s l ls tail,hok,σ=>by
  obtain ⟨h1,h2,h3⟩:=hok
  have h217: ∀x ∈ l,∀σ,CI (.fn 217) [.agg x.cs] σ=some (.ret (.bool (!x.cl tail0)),σ):=fun x hx σ=>by
   have ih:=c208 x (tysOk_mem h3 hx)
   have hall:x.cs.all D.one=true:=by cases x;rfl
   have hτ:bodyI CI XB GI af217 [.agg x.cs] σ=some (.ret (.bool (!x.cl tail0)),σ++[.box x.cs]):=by
    simp [bodyI,af217,getA0,hall,ih]
   exact CI_tree tab217 hτ rfl rfl
  have h161:=fun σ=>p161 l 217 [] (fun t=>t.cl tail0) σ h1 (fun x hx=>h217 x hx σ)
  have h215:=fun σ=>c215 ls σ h2
  have hτ:bodyI CI XB GI af208 [.agg (Ty.mk k n s l ls tail).cs] σ=some (.ret (.bool ((Ty.mk k n s l ls tail).cl tail0)),σ++[.box (Ty.mk k n s l ls tail).cs]):=by
   simp only [Ty.cl,tysCl_all,Ty.cs]
   unfold tail0 at*
   generalize ls.map Lab.d=lsd at*
   generalize tysD l=ld at*
   generalize (ls.all fun x=>x.n==0)=lb at*
   generalize (l.all fun t=>t.cl fun n=>decide (0≤n))=tb at*
   cases hk:k==0
   ·cases hk5:k==5
    ·cases lb<;>simp [bodyI,af208,getA0,hk,hk5,h215,h161]
    ·by_cases ht:0≤tail
     ·simp [bodyI,af208,getA0,hk,hk5,ht]
     ·cases lb<;>simp [bodyI,af208,getA0,hk,hk5,ht,h215,h161]
   ·simp [bodyI,af208,getA0,hk]
  exact CI_tree tab208 hτ rfl rfl
termination_by t=>SizeOf.sizeOf t
decreasing_by
 have:=List.sizeOf_lt_of_mem hx
 simp only [Ty.mk.sizeOf_spec]
 omega
def distFrom (pre:List Bs):List Bs→Int→Int
 | [],_=>0
 |s::r,k=>if isC s k then (if hasS pre s then 5 else distFrom (pre++[s]) r k) else 4
def distE (l:List Bs) (k:Int):Int:=distFrom [] l k
theorem it182 (k:Int) (σ:St): ∀ (r pre:List Bs),(pre++r).length≤maxL→ ∀m,m=pre.length→
 iterI (evalI CI XB GI 26 false lp182_0) [(0,slD (pre++r)),(1, .int .i64 k),(7,slD (pre++r)),(8, .int .i64 (pre++r).length),(9, .int .i64 (m:Nat))] σ=
  some (if distFrom pre r k=0 then (.exit 0,[(0,slD (pre++r)),(1, .int .i64 k),(7,slD (pre++r)),(8, .int .i64 (pre++r).length),(9, .int .i64 (pre++r).length),(10, .bool false)],σ) else (.ret,[(4, .int .i64 (distFrom pre r k))],σ))
 | [],pre,hl,m,hm=>by
  have:m=(pre++([]:List Bs)).length:=by rw [hm];simp
  refine iterI_end ?_ (by simp [distFrom])
  generalize pre++([]:List Bs)=q at*
  simp [lp182_0,this,distFrom]
 |s::r,pre,hl,m,hm=>by
  have hmt:m< (pre++s::r).length:=by simp;omega
  have hget: (pre++s::r)[m]? =some s:=by rw [hm];simp
  have htk: ((pre++s::r).map D.str).take m=pre.map D.str:=by rw [hm];simp
  have hw:=wrap_nat (n:=m) (by unfold maxL at hl;simp at hl;omega)
  have h111:=h111 pre s σ (by unfold maxL at*;simp at hl;omega)
  have hp:pre++[s]++r=pre++s::r:=by simp
  have ih:=it182 k σ r (pre++[s]) (by rw [hp];exact hl) (m+1) (by simp [hm])
  rw [hp] at ih
  simp only [distFrom]
  simp only [slD] at h111
  generalize hq:pre++s::r=q at*
  have h3:q[m]=s:=by rw [List.getElem?_eq_getElem hmt] at hget;exact Option.some.inj hget
  have hm': (m:Int)≤q.length:=by omega
  by_cases hc:isC s k=true
  ·by_cases hh:hasS pre s=true
   ·simp only [hc,hh,if_true]
    refine iterI_end ?_ (by simp)
    rw [hh] at h111
    simp [lp182_0,hmt,h3,c143,hc,bound,hm',htk,h111]
   ·simp only [hc,if_true,if_neg hh]
    rw [←ih]
    refine iterI_next ?_
    rw [Bool.not_eq_true] at hh
    rw [hh] at h111
    simp [lp182_0,hmt,h3,c143,hc,hw,bound,hm',htk,h111]
  ·simp only [if_neg hc]
   refine iterI_end ?_ (by simp)
   rw [Bool.not_eq_true] at hc
   simp [lp182_0,hmt,h3,c143,hc]
theorem c182 (l:List Bs) (k:Int) (σ:St) (hl:l.length≤maxL):CI (.fn 182) [slD l, .int .i64 k] σ=some (.ret (.int .i64 (distE l k)),σ):=by
 refine CI_tree0 tab182 (d:= .int .i64 (distE l k)) ?_ rfl rfl
 have hit:=it182 k σ l [] hl 0 rfl
 rw [Int.natCast_zero,List.nil_append] at hit
 unfold distE
 by_cases h:distFrom [] l k=0
 ·rw [if_pos h] at hit
  simp [bodyI,af182,hit,h]
 ·rw [if_neg h] at hit
  simp [bodyI,af182,hit]
def declE1 (t:Ty):Int:=if t.chk=0 then (if t.cl tail0 then 0 else 1) else t.chk
def declE (l:List Ty):Int:=firstE (l.map declE1)
theorem c183 (l:List Ty) (σ:St) (hl:l.length≤maxL) (hok:tysOk l):CI (.fn 183) [.slice (tysD l)] σ=some (.ret (.int .i64 (declE l)),σ):=by
 have hlen:=tysD_len l
 obtain ⟨τ,hτ⟩: ∃τ,bodyI CI XB GI af183 [.slice (tysD l)] σ=some (.ret (.int .i64 (declE l)),σ++τ):=by
  obtain ⟨τ,hit⟩:=loop_seek (f:=evalI CI XB GI 21 false lp183_0) (σ:=σ) l (fun i=>[(6, .slice (tysD l)),(7, .int .i64 l.length),(8, .int .i64 (i:Nat))]) (fun a=>declE1 a != 0) (fun a=>(.ret,[(2, .int .i64 (declE1 a))]))
   (.exit 0,[(6, .slice (tysD l)),(7, .int .i64 l.length),(8, .int .i64 l.length),(9, .bool false)]) (by simp) (by simp)
   (fun i hi τ=>by
     have hw:=wrap_nat (n:=i) (by unfold maxL at hl;omega)
     have hx:=tysOk_mem hok (List.getElem_mem hi)
     have hget: (tysD l)[i]? =some (.agg l[i].cs):=by rw [tysD_map];simp [Ty.d,hi]
     generalize tysD l=ld at*
     have h2:i<ld.length:=by omega
     have h3:ld[i]= .agg l[i].cs:=by rw [List.getElem?_eq_getElem h2] at hget;exact Option.some.inj hget
     generalize l[i]=x at*
     refine ⟨τ++[.box x.cs], ?_⟩
     rw [←List.append_assoc]
     generalize σ++τ=σ1
     have h60:=fun σ=>c60 x hx σ
     have h208:=fun σ=>c208 x hx σ
     have hall:x.cs.all D.one=true:=by cases x;rfl
     unfold declE1
     by_cases hc:x.chk=0
     ·cases hcl:x.cl tail0<;>rw [hc] at h60<;>simp only [hcl] at h208<;>simp [lp183_0,hi,hw,h2,h3,hc,hcl,h60,h208,getA0,setA0,hall,putCells]
     ·have hc': (x.chk != 0)=true:=by simpa using hc
      simp [lp183_0,hi,hw,h2,h3,hc,hc',h60,getA0,setA0,hall,putCells]) (fun τ=>⟨τ,by generalize tysD l=ld at*;simp [lp183_0]⟩) []
  rw [Int.natCast_zero,List.append_nil] at hit
  refine ⟨τ, ?_⟩
  unfold declE
  rw [firstE_find]
  generalize tysD l=ld at*
  cases hf:l.find? (fun a=>declE1 a != 0)<;>(rw [hf] at hit;simp [bodyI,af183,hlen,hit])
 exact CI_tree tab183 hτ rfl rfl
def Con.ok (c:Con):Prop:=c.args.length≤maxL∧tysOk c.args
def Dat.ok (d:Dat):Prop:=d.params.length≤maxL∧d.cons.length≤maxL∧ ∀c ∈ d.cons,c.ok
def conE (c:Con):Int:=if 4<c.args.length then 3 else if upW c.name then declE c.args else 4
def datE (d:Dat):Int:=if 4<d.params.length∨8<d.cons.length then 3 else if upW d.name then (if distE d.params 1=0 then firstE (d.cons.map conE) else distE d.params 1) else 4
theorem c140 (d:Dat) (hok:d.ok) (σ:St):CI (.fn 140) [d.d] σ=some (.ret (.int .i64 (datE d)),σ):=by
 rcases d with ⟨name,params,cons⟩
 obtain ⟨hp,hcl,hc⟩:=hok
 simp only at hp hcl hc
 obtain ⟨τ,hτ⟩: ∃τ,bodyI CI XB GI af140 [Dat.d ⟨name,params,cons⟩] σ=some (.ret (.int .i64 (datE ⟨name,params,cons⟩)),σ++τ):=by
  obtain ⟨τ,hit⟩:=loop_seek (f:=evalI CI XB GI 53 false lp140_0) (σ:=σ++[.box (Dat.cs ⟨name,params,cons⟩)]) cons (fun i=>[(30, .slice (cons.map Con.d)),(31, .int .i64 cons.length),(32, .int .i64 (i:Nat))]) (fun a=>conE a != 0) (fun a=>(.ret,[(2, .int .i64 (conE a))]))
   (.exit 1,[(30, .slice (cons.map Con.d)),(31, .int .i64 cons.length),(32, .int .i64 cons.length),(33, .bool false)]) (by simp) (by simp)
   (fun i hi τ=>by
     have hw:=wrap_nat (n:=i) (by unfold maxL at hcl;omega)
     have hx:=hc _ (List.getElem_mem hi)
     have hlen: (cons.map Con.d).length=cons.length:=by simp
     have hget: (cons.map Con.d)[i]? =some (Con.d cons[i]):=by simp [hi]
     generalize cons.map Con.d=ld at*
     have h2:i<ld.length:=by omega
     have h3:ld[i]=Con.d cons[i]:=by rw [List.getElem?_eq_getElem h2] at hget;exact Option.some.inj hget
     generalize cons[i]=x at*
     rcases x with ⟨cn,args⟩
     obtain ⟨ha,hb⟩:=hx
     simp only at ha hb
     have h183:=fun σ=>c183 args σ ha hb
     have hal:=tysD_len args
     refine ⟨τ++[.box (Con.cs ⟨cn,args⟩)], ?_⟩
     rw [←List.append_assoc]
     simp only [Con.d,Con.cs] at*
     generalize σ++[.box (Dat.cs ⟨name,params,cons⟩)]++τ=σ1 at*
     unfold conE
     generalize tysD args=ad at*
     by_cases h4:4<args.length
     ·have h4': (4:Int) <args.length:=by omega
      have h4'':4<ad.length:=by omega
      simp [lp140_0,hi,hw,h2,h3,getA0,setA0,h4,h4',h4'',hal]
     ·have h4': ¬(4:Int) <args.length:=by omega
      have h4'': ¬4<ad.length:=by omega
      cases hu:upW cn
      ·simp [lp140_0,hi,hw,h2,h3,getA0,setA0,h4,h4',h4'',hal,c143,isC2,hu]
      ·by_cases hd:declE args=0
       ·simp [lp140_0,hi,hw,h2,h3,getA0,setA0,h4,h4',h4'',hal,c143,isC2,hu,h183,hd]
       ·have hd': (declE args != 0)=true:=by simpa using hd
        simp [lp140_0,hi,hw,h2,h3,getA0,setA0,h4,h4',h4'',hal,c143,isC2,hu,h183,hd,hd']) (fun τ=>⟨τ,by simp [lp140_0]⟩) []
  rw [Int.natCast_zero,List.append_nil] at hit
  have hlen: (cons.map Con.d).length=cons.length:=by simp
  have h182:=fun σ=>c182 params 1 σ hp
  unfold datE
  simp only [Dat.d,Dat.cs] at*
  rw [firstE_find]
  simp only [slD] at*
  have hpl: (params.map D.str).length=params.length:=by simp
  generalize cons.map Con.d=ld at*
  generalize params.map D.str=pd at*
  by_cases h4:4<params.length
  ·have h4': (4:Int) <params.length:=by omega
   have h4'':4<pd.length:=by omega
   refine ⟨[.box [.str name, .slice pd, .slice ld]], ?_⟩
   simp [bodyI,af140,getA0,h4,h4',h4'',hpl]
  have h4': ¬(4:Int) <params.length:=by omega
  have h4'': ¬4<pd.length:=by omega
  by_cases h8:8<cons.length
  ·have h8': (8:Int) <cons.length:=by omega
   have h8'':8<ld.length:=by omega
   refine ⟨[.box [.str name, .slice pd, .slice ld]], ?_⟩
   simp [bodyI,af140,getA0,h4,h4',h4'',hpl,h8,h8',h8'',hlen]
  have h8': ¬(8:Int) <cons.length:=by omega
  have h8'': ¬8<ld.length:=by omega
  cases hu:upW name
  ·refine ⟨[.box [.str name, .slice pd, .slice ld]], ?_⟩
   simp [bodyI,af140,getA0,h4,h4',h4'',hpl,h8,h8',h8'',hlen,c143,isC2,hu]
  by_cases hd:distE params 1=0
  ·refine ⟨[.box [.str name, .slice pd, .slice ld]]++τ, ?_⟩
   rw [←List.append_assoc]
   rw [hd] at h182
   cases hf:cons.find? (fun a=>conE a != 0)<;>(rw [hf] at hit;simp [bodyI,af140,getA0,h4,h4',h4'',hpl,h8,h8',h8'',hlen,c143,isC2,hu,h182,hd,hit])
  ·have hd': (distE params 1 != 0)=true:=by simpa using hd
   refine ⟨[.box [.str name, .slice pd, .slice ld]], ?_⟩
   simp [bodyI,af140,getA0,h4,h4',h4'',hpl,h8,h8',h8'',hlen,c143,isC2,hu,h182,hd,hd']
 exact CI_tree tab140 hτ rfl rfl
def Opn.ok (o:Opn):Prop:=o.arg.ok∧o.res.ok
def Eff.ok (e:Eff):Prop:=e.ops.length≤maxL∧ ∀o ∈ e.ops,o.ok
def opnE (o:Opn):Int:=if varW o.name then declE [o.arg,o.res] else 4
def effE (e:Eff):Int:=if 8<e.ops.length then 3 else if upW e.name then firstE (e.ops.map opnE) else 4
theorem c141 (e:Eff) (hok:e.ok) (σ:St):CI (.fn 141) [e.d] σ=some (.ret (.int .i64 (effE e)),σ):=by
 rcases e with ⟨name,ops⟩
 obtain ⟨hol,ho⟩:=hok
 simp only at hol ho
 obtain ⟨τ,hτ⟩: ∃τ,bodyI CI XB GI af141 [Eff.d ⟨name,ops⟩] σ=some (.ret (.int .i64 (effE ⟨name,ops⟩)),σ++τ):=by
  obtain ⟨τ,hit⟩:=loop_seek (f:=evalI CI XB GI 37 false lp141_0) (σ:=σ++[.box (Eff.cs ⟨name,ops⟩)]) ops (fun i=>[(17, .slice (ops.map Opn.d)),(18, .int .i64 ops.length),(19, .int .i64 (i:Nat))]) (fun a=>opnE a != 0) (fun a=>(.ret,[(2, .int .i64 (opnE a))]))
   (.exit 1,[(17, .slice (ops.map Opn.d)),(18, .int .i64 ops.length),(19, .int .i64 ops.length),(20, .bool false)]) (by simp) (by simp)
   (fun i hi τ=>by
     have hw:=wrap_nat (n:=i) (by unfold maxL at hol;omega)
     have hx:=ho _ (List.getElem_mem hi)
     have hlen: (ops.map Opn.d).length=ops.length:=by simp
     have hget: (ops.map Opn.d)[i]? =some (Opn.d ops[i]):=by simp [hi]
     generalize ops.map Opn.d=ld at*
     have h2:i<ld.length:=by omega
     have h3:ld[i]=Opn.d ops[i]:=by rw [List.getElem?_eq_getElem h2] at hget;exact Option.some.inj hget
     generalize ops[i]=x at*
     rcases x with ⟨on,arg,res,once⟩
     obtain ⟨ha,hb⟩:=hx
     simp only at ha hb
     have h183:=fun σ=>c183 [arg,res] σ (by unfold maxL;simp) ⟨ha,hb,trivial⟩
     refine ⟨τ++[.box (Opn.cs ⟨on,arg,res,once⟩)], ?_⟩
     rw [←List.append_assoc]
     unfold opnE
     simp only [Opn.d,Opn.cs,tysD] at*
     generalize declE [arg,res]=dE at*
     rcases arg with ⟨k1,n1,s1,l1,ls1,t1⟩
     rcases res with ⟨k2,n2,s2,l2,ls2,t2⟩
     simp only [Ty.cs,List.cons_append,List.nil_append] at*
     generalize tysD l1=ld1 at*
     generalize tysD l2=ld2 at*
     generalize ls1.map Lab.d=lsd1 at*
     generalize ls2.map Lab.d=lsd2 at*
     generalize σ++[.box (Eff.cs ⟨name,ops⟩)]++τ=σ1 at*
     cases hu:varW on
     ·simp [lp141_0,hi,hw,h2,h3,getA0,setA0,c143,isC1,hu]
     ·by_cases hd:dE=0
      ·simp [lp141_0,hi,hw,h2,h3,getA0,setA0,c143,isC1,hu,fillRow,h183,hd]
      ·have hd': (dE != 0)=true:=by simpa using hd
       simp [lp141_0,hi,hw,h2,h3,getA0,setA0,c143,isC1,hu,fillRow,h183,hd,hd']) (fun τ=>⟨τ,by simp [lp141_0]⟩) []
  rw [Int.natCast_zero,List.append_nil] at hit
  have hlen: (ops.map Opn.d).length=ops.length:=by simp
  unfold effE
  simp only [Eff.d,Eff.cs] at*
  rw [firstE_find]
  generalize ops.map Opn.d=ld at*
  by_cases h8:8<ops.length
  ·have h8': (8:Int) <ops.length:=by omega
   have h8'':8<ld.length:=by omega
   refine ⟨[.box [.str name, .slice ld]], ?_⟩
   simp [bodyI,af141,getA0,h8,h8',h8'',hlen]
  have h8': ¬(8:Int) <ops.length:=by omega
  have h8'': ¬8<ld.length:=by omega
  cases hu:upW name
  ·refine ⟨[.box [.str name, .slice ld]], ?_⟩
   simp [bodyI,af141,getA0,h8,h8',h8'',hlen,c143,isC2,hu]
  refine ⟨[.box [.str name, .slice ld]]++τ, ?_⟩
  rw [←List.append_assoc]
  cases hf:ops.find? (fun a=>opnE a != 0)<;>(rw [hf] at hit;simp [bodyI,af141,getA0,h8,h8',h8'',hlen,c143,isC2,hu,hit])
 exact CI_tree tab141 hτ rfl rfl
mutual
def Ex.ok:Ex→Prop
 | .mk _ _ _ _ names l arms=>names.length≤maxL∧l.length≤maxL∧arms.length≤maxL∧exsOk l∧armsOk arms
def exsOk:List Ex→Prop
 | []=>True
 |x::r=>x.ok∧exsOk r
def Arm.ok:Arm→Prop
 | .mk _ names body=>names.length≤maxL∧body.ok
def armsOk:List Arm→Prop
 | []=>True
 |x::r=>x.ok∧armsOk r
end
theorem exsOk_mem: ∀ {l:List Ex} {t:Ex},exsOk l→t ∈ l→t.ok
 | [],t,_,h=>by cases h
 |a::r,t,⟨h1,h2⟩,h=>by
  cases h with
  |head=>exact h1
  |tail _ h=>exact exsOk_mem h2 h
theorem armsOk_mem: ∀ {l:List Arm} {t:Arm},armsOk l→t ∈ l→t.ok
 | [],t,_,h=>by cases h
 |a::r,t,⟨h1,h2⟩,h=>by
  cases h with
  |head=>exact h1
  |tail _ h=>exact armsOk_mem h2 h
def Arm.op:Arm→Bs| .mk op _ _=>op
def Arm.names:Arm→List Bs| .mk _ names _=>names
def Arm.body:Arm→Ex| .mk _ _ body=>body
def Ex.parts:Ex→List Ex| .mk _ _ _ _ _ l arms=>l++arms.map Arm.body
theorem Ex.parts_ok {e x:Ex} (he:e.ok) (hx:x ∈ e.parts):x.ok:=by
 rcases e with ⟨k,n,s,t,names,l,arms⟩
 obtain ⟨_,_,_,h1,h2⟩:=he
 simp only [Ex.parts,List.mem_append,List.mem_map] at hx
 rcases hx with hx| ⟨a,ha,rfl⟩
 ·exact exsOk_mem h1 hx
 ·have:=armsOk_mem h2 ha
  rcases a with ⟨op,ns,body⟩
  exact this.2
theorem Ex.parts_lt {e x:Ex} (hx:x ∈ e.parts):SizeOf.sizeOf x<SizeOf.sizeOf e:=by
 rcases e with ⟨k,n,s,t,names,l,arms⟩
 simp only [Ex.parts,List.mem_append,List.mem_map] at hx
 simp only [Ex.mk.sizeOf_spec]
 rcases hx with hx| ⟨a,ha,rfl⟩
 ·have:=List.sizeOf_lt_of_mem hx
  omega
 ·have:=List.sizeOf_lt_of_mem ha
  rcases a with ⟨op,ns,body⟩
  simp only [Arm.mk.sizeOf_spec] at this
  simp only [Arm.body]
  omega
theorem exsD_len (l:List Ex): (exsD l).length=l.length:=by rw [exsD_map];simp
theorem armsD_len (l:List Arm): (armsD l).length=l.length:=by rw [armsD_map];simp
theorem Ex.cs_all (x:Ex):x.cs.all D.one=true:=by cases x;rfl
theorem Arm.cs_eq (a:Arm):a.cs= .str a.op::slD a.names::a.body.cs:=by cases a;rfl
section
variable {β:Type} (f:Nat) (caps:List D) (i:Nat) (o:β→Obj) (I:β→Prop) (step:Ex→β→Bool × β) (σ:St)
theorem p172 (hi:i<σ.length) (ho: ∀b m,(o b).under m) (e:Ex) (hok:e.ok)
 (hI: ∀x ∈ e.parts,∀b,I b→(step x b).1=true→I (step x b).2)
 (h: ∀x ∈ e.parts,∀b τ,I b→CI (.fn f) (.agg x.cs::caps) (σ.set i (o b)++τ)=some (.ret (.bool (step x b).1),σ.set i (o (step x b).2)++τ))
 (b:β) (hb:I b):CI (.fn 172) [.agg e.cs, .func f [] caps] (σ.set i (o b))=some (.ret (.bool (foldB step e.parts b).1),σ.set i (o (foldB step e.parts b).2)):=by
 rcases e with ⟨k,n,s,t,names,l,arms⟩
 obtain ⟨_,hl,ha,_,_⟩:=hok
 simp only [Ex.parts,List.mem_append,List.mem_map] at hI h ⊢
 have hexl:=exsD_len l
 have harl:=armsD_len arms
 have hsl: ∀b,(σ.set i (o b)).length=σ.length:=fun b=>by simp
 obtain ⟨τ1,hit1⟩:=loop_foldB (f:=evalI CI XB GI 34 false lp172_0) l (fun j=>[(1, .func f [] caps),(2, .ptr σ.length 0),(10, .slice (exsD l)),(11, .int .i64 l.length),(12, .int .i64 (j:Nat))]) (fun b=>σ.set i (o b)++[.box (Ex.mk k n s t names l arms).cs]) I step
  (.ret,[(4, .bool false)]) (.exit 0,[(1, .func f [] caps),(2, .ptr σ.length 0),(10, .slice (exsD l)),(11, .int .i64 l.length),(12, .int .i64 l.length),(13, .bool false)]) (by simp) (by simp)
  (fun j hj b hb=>hI _ (.inl (List.getElem_mem hj)) b hb)
  (fun j hj b τ hb=>by
    have hw:=wrap_nat (n:=j) (by unfold maxL at hl;omega)
    have hc:=fun τ=>h l[j] (.inl (List.getElem_mem hj)) b τ hb
    have hget: (exsD l)[j]? =some (.agg l[j].cs):=by rw [exsD_map];simp [Ex.d,hj]
    generalize exsD l=ld at*
    have h2:j<ld.length:=by omega
    have h3:ld[j]= .agg l[j].cs:=by rw [List.getElem?_eq_getElem h2] at hget;exact Option.some.inj hget
    generalize l[j]=x at*
    refine ⟨τ++[.box x.cs], ?_⟩
    have hall:=x.cs_all
    have hc:=hc ([.box (Ex.mk k n s t names l arms).cs]++τ++[.box x.cs])
    generalize step x b=r at*
    simp only [←List.append_assoc] at hc ⊢
    generalize σ.set i (o b)++[.box (Ex.mk k n s t names l arms).cs]++τ=σ1 at*
    cases hr:r.1<;>rw [hr] at hc<;>simp [lp172_0,hj,hw,h2,h3,getA0,setA0,hall,putCells,hc])
  (fun b τ hb=>⟨τ,by generalize exsD l=ld at*;simp [lp172_0]⟩) b [] hb
 rw [Int.natCast_zero,List.append_nil] at hit1
 rw [foldB_app]
 by_cases hf1: (foldB step l b).1=true
 ·rw [if_pos hf1] at hit1
  have hb1:I (foldB step l b).2:=foldB_inv l (fun a ha b hb hs=>hI a (.inl ha) b hb hs) b hb hf1
  obtain ⟨τ2,hit2⟩:=loop_foldB (f:=evalI CI XB GI 34 false lp172_1) arms (fun j=>[(1, .func f [] caps),(22, .slice (armsD arms)),(23, .int .i64 arms.length),(24, .int .i64 (j:Nat))]) (fun b=>σ.set i (o b)++[.box (Ex.mk k n s t names l arms).cs]) I (fun a=>step a.body)
   (.ret,[(4, .bool false)]) (.exit 2,[(1, .func f [] caps),(22, .slice (armsD arms)),(23, .int .i64 arms.length),(24, .int .i64 arms.length),(25, .bool false)]) (by simp) (by simp)
   (fun j hj b hb=>hI _ (.inr ⟨_,List.getElem_mem hj,rfl⟩) b hb)
   (fun j hj b τ hb=>by
     have hw:=wrap_nat (n:=j) (by unfold maxL at ha;omega)
     have hc:=fun τ=>h arms[j].body (.inr ⟨_,List.getElem_mem hj,rfl⟩) b τ hb
     have hget: (armsD arms)[j]? =some (.agg arms[j].cs):=by rw [armsD_map];simp [Arm.d,hj]
     generalize armsD arms=ld at*
     have h2:j<ld.length:=by omega
     have h3:ld[j]= .agg arms[j].cs:=by rw [List.getElem?_eq_getElem h2] at hget;exact Option.some.inj hget
     rw [Arm.cs_eq] at h3
     generalize arms[j]=x at*
     refine ⟨τ++[.box x.cs], ?_⟩
     rw [Arm.cs_eq]
     have hall:=x.body.cs_all
     have hc:=hc ([.box (Ex.mk k n s t names l arms).cs]++τ++[.box (.str x.op::slD x.names::x.body.cs)])
     generalize step x.body b=r at*
     generalize x.names.map D.str=nd at*
     simp only [←List.append_assoc] at hc ⊢
     generalize σ.set i (o b)++[.box (Ex.mk k n s t names l arms).cs]++τ=σ1 at*
     cases hr:r.1<;>rw [hr] at hc<;>simp [lp172_1,hj,hw,h2,h3,getA0,setA0,hall,putCells,hc])
   (fun b τ hb=>⟨τ,by generalize armsD arms=ld at*;simp [lp172_1]⟩) (foldB step l b).2 τ1 hb1
  rw [Int.natCast_zero] at hit2
  rw [if_pos hf1,foldB_map]
  refine CI_fn tab172 (y:=(.ret (.bool (foldB (fun a=>step a.body) arms (foldB step l b).2).1),(σ.set i (o b)).set i (o (foldB (fun a=>step a.body) arms (foldB step l b).2).2)++([.box (Ex.mk k n s t names l arms).cs]++τ2))) ?_ (postI_set (ho _ _) rfl rfl |>.trans (by rw [List.set_set];rfl))
  have hg: ∀b,(σ.set i (o b)++(.box (Ex.mk k n s t names l arms).cs::τ1))[σ.length]? =some (.box (Ex.mk k n s t names l arms).cs):=fun b=>by rw [getAs0];rfl
  simp only [List.append_assoc,List.cons_append,List.nil_append] at hit1 hit2 ⊢
  rw [List.set_set]
  generalize foldB (fun a=>step a.body) arms (foldB step l b).2=r2 at*
  generalize foldB step l b=r1 at*
  simp only [Ex.cs] at*
  generalize exsD l=ld at*
  generalize armsD arms=ad at*
  generalize names.map D.str=nd at*
  cases hr2:r2.1<;>rw [hr2] at hit2<;>simp [bodyI,af172,hexl,harl,getA0,getAs0,hsl,hit1,hit2,hg]
 ·rw [if_neg hf1] at hit1 ⊢
  refine CI_fn tab172 (y:=(.ret (.bool false),(σ.set i (o b)).set i (o (foldB step l b).2)++([.box (Ex.mk k n s t names l arms).cs]++τ1))) ?_ (postI_set (ho _ _) rfl rfl |>.trans (by rw [List.set_set];rfl))
  simp only [List.append_assoc,List.cons_append,List.nil_append] at hit1 ⊢
  rw [List.set_set]
  generalize foldB step l b=r1 at*
  simp only [Ex.cs] at*
  generalize exsD l=ld at*
  generalize armsD arms=ad at*
  generalize names.map D.str=nd at*
  simp [bodyI,af172,hexl,harl,getA0,getAs0,hsl,hit1]
end
theorem Arm.cs_all (x:Arm):x.cs.all D.one=true:=by rw [Arm.cs_eq];cases x;simp [D.one,Arm.body,Ex.cs_all]
theorem c214 (x:Arm) (op:Bs) (rest:List D) (p:Nat) (σ:St) (hσ:σ[p]? =some (.box (.str op::rest))):CI (.fn 214) [.agg x.cs, .ptr p 0] σ=some (.ret (.bool (x.op==op)),σ):=by
 have hτ:bodyI CI XB GI af214 [.agg x.cs, .ptr p 0] σ=some (.ret (.bool (x.op==op)),σ++[.box x.cs]):=by
  have hall:=x.body.cs_all
  rw [Arm.cs_eq] at*
  generalize x.op=xo at*
  generalize x.names.map D.str=nd at*
  generalize x.body.cs=bd at*
  simp [bodyI,af214,getA0,getO hσ,hall]
 exact CI_tree tab214 hτ rfl rfl
theorem findIdx_any {α:Type} (l:List α) (p:α→Bool): (l.findIdx? p=none→l.any p=false)∧(∀i,l.findIdx? p=some i→l.any p=true):=by
 constructor
 ·intro h
  rw [List.findIdx?_eq_none_iff] at h
  exact List.any_eq_false.2 fun x hx=>by simp [h x hx]
 ·intro i h
  obtain ⟨hi,h1,_⟩:=List.findIdx?_eq_some_iff_getElem.1 h
  exact List.any_eq_true.2 ⟨_,List.getElem_mem hi,h1⟩
theorem any_op (l:List Arm) (op:Bs): (l.any fun x=>x.op==op)=hasS (l.map Arm.op) op:=by
 unfold hasS
 rw [Bool.eq_iff_iff]
 simp
theorem c213 (l:List Arm) (op:Bs) (rest:List D) (p:Nat) (σ:St) (hl:l.length≤maxL) (hσ:σ[p]? =some (.box (.str op::rest))):
 CI (.fn 213) [.slice (armsD l), .func 214 [] [.ptr p 0]] σ=some (.ret (.bool (hasS (l.map Arm.op) op)),σ):=by
 unfold maxL at hl
 have hlen:=armsD_len l
 rw [←any_op]
 have hit:=loop_find (f:=evalI CI XB GI 19 false lp220_0) (σ:=σ) l (fun i=>[(0, .slice (armsD l)),(1, .func 214 [] [.ptr p 0]),(7, .int .i64 l.length),(8, .int .i64 (i:Nat))]) (fun x=>x.op==op) (fun i=>(.ret,[(4, .int .i64 (i:Nat))],σ)) (.exit 0,[(0, .slice (armsD l)),(1, .func 214 [] [.ptr p 0]),(7, .int .i64 l.length),(8, .int .i64 l.length),(9, .bool false)],σ) (by simp) (by simp)
  (fun i hi=>by
    have hw:=wrap_nat (n:=i) (by omega)
    have hc:=c214 l[i] op rest p σ hσ
    have hget: (armsD l)[i]? =some (.agg l[i].cs):=by rw [armsD_map];simp [Arm.d,hi]
    have hcl:=l[i].cs_take
    have hcl2:=l[i].cs_len
    generalize armsD l=ld at*
    have h2:i<ld.length:=by omega
    have h3:ld[i]= .agg l[i].cs:=by rw [List.getElem?_eq_getElem h2] at hget;exact Option.some.inj hget
    generalize l[i].cs=xd at*
    generalize l[i].op=xo at*
    by_cases hb: (xo==op)=true
    ·rw [hb] at hc
     simp [lp220_0,hi,hw,h2,h3,hc,hcl,hcl2,hb]
    ·rw [Bool.not_eq_true] at hb
     rw [hb] at hc
     simp [lp220_0,hi,hw,h2,h3,hc,hcl,hcl2,hb]) (by
    generalize armsD l=ld at*
    simp [lp220_0])
 rw [Int.natCast_zero] at hit
 generalize armsD l=ld at*
 obtain ⟨j,hj,h220⟩: ∃j:Int,decide (0≤j)=(l.any fun x=>x.op==op)∧CI (.fn 220) [.slice ld, .func 214 [] [.ptr p 0]] σ=some (.ret (.int .i64 j),σ):=by
  cases hf:l.findIdx? (fun x=>x.op==op) with
  |none=>
   rw [hf] at hit
   refine ⟨-1,by rw [(findIdx_any _ _).1 hf];rfl,CI_tree0 tab220 (d:= .int .i64 (-1)) ?_ rfl rfl⟩
   simp [bodyI,af220,hlen,hit]
  |some i=>
   rw [hf] at hit
   refine ⟨i,by rw [(findIdx_any _ _).2 i hf];simp,CI_tree0 tab220 (d:= .int .i64 i) ?_ rfl rfl⟩
   simp [bodyI,af220,hlen,hit]
 refine CI_tree0 tab213 (d:= .bool (l.any fun x=>x.op==op)) ?_ rfl rfl
 rw [←hj]
 simp [bodyI,af213,h220]
def nReturn:Bs:=[114,101,116,117,114,110]
def armC (k:Int) (first:Bool):Int:=if k==11 then 2 else if first then 0 else 1
def armF (k:Int) (first:Bool) (a:Arm):Bool:=if k==11 then decide (a.names.length≤4) else if first then a.names.length==1&&a.op==nReturn else a.names.length==2
def armE (k:Int) (pre:List Bs) (a:Arm):Int:=
 if armF k (pre==[]) a then (if armC k (pre==[]) != 0&& !isC a.op (armC k (pre==[])) then 4 else if distE a.names 1=0 then (if hasS pre a.op then 5 else 0) else distE a.names 1) else 7
set_option maxHeartbeats 1000000 in
theorem c203 (k n:Int) (s t:Bs) (names:List D) (l:List D) (arms:List Arm) (i:Nat) (hi:i<arms.length) (σ:St) (hl:arms.length≤maxL) (ha:arms[i].ok):
 CI (.fn 203) [.agg [.int .i64 k, .int .i64 n, .str s, .str t, .slice names, .slice l, .slice (armsD arms)], .int .i64 i] σ=some (.ret (.int .i64 (armE k ((arms.take i).map Arm.op) arms[i])),σ):=by
 obtain ⟨τ,hτ⟩: ∃τ,bodyI CI XB GI af203 [.agg [.int .i64 k, .int .i64 n, .str s, .str t, .slice names, .slice l, .slice (armsD arms)], .int .i64 i] σ=some (.ret (.int .i64 (armE k ((arms.take i).map Arm.op) arms[i])),σ++τ):=by
  refine ⟨[.box [.int .i64 k, .int .i64 n, .str s, .str t, .slice names, .slice l, .slice (armsD arms)], .box arms[i].cs], ?_⟩
  have h0: ((arms.take i).map Arm.op==[])=decide (i=0):=by
   rw [Bool.eq_iff_iff]
   simp only [beq_iff_eq,decide_eq_true_eq,List.map_eq_nil_iff,List.take_eq_nil_iff]
   constructor
   ·rintro (h|h)
    ·exact h
    ·simp [h] at hi
   ·exact .inl
  have h213:=fun (p:Nat) (σ:St) (rest:List D) (hp:σ[p]? =some (.box (.str (arms[i]'hi).op::rest)))=>c213 (arms.take i) arms[i].op rest p σ (by simp;omega) hp
  have htk:armsD (arms.take i)=(armsD arms).take i:=by simp only [armsD_map,List.map_take]
  have hget: (armsD arms)[i]? =some (.agg arms[i].cs):=by rw [armsD_map];simp [Arm.d,hi]
  have hlen:=armsD_len arms
  have hw: (i:Int)≤arms.length:=by omega
  have hall9: ∀x ∈ armsD arms,x.cells.length=9:=by
   intro x hx
   rw [armsD_map] at hx
   simp only [List.mem_map] at hx
   obtain ⟨a,_,rfl⟩:=hx
   simp [Arm.d,D.cells]
  rw [htk] at h213
  unfold armE
  rw [h0]
  generalize hasS ((arms.take i).map Arm.op) arms[i].op=hd at*
  generalize armsD arms=ad at*
  have h2:i<ad.length:=by omega
  have h3:ad[i]= .agg arms[i].cs:=by rw [List.getElem?_eq_getElem h2] at hget;exact Option.some.inj hget
  have ha':arms[i].names.length≤maxL:=by
   generalize arms[i]=x at*
   rcases x with ⟨_,_,_⟩
   exact ha.1
  have h182:=fun σ=>c182 arms[i].names 1 σ ha'
  have hbd:=arms[i].body.cs_all
  unfold armF armC
  rw [Arm.cs_eq] at*
  generalize arms[i].op=xo at*
  have hnl: (arms[i].names.map D.str).length=arms[i].names.length:=by simp
  simp only [slD] at*
  generalize distE arms[i].names 1=dE at*
  generalize arms[i].names.length=nl at*
  generalize arms[i].names.map D.str=nd at*
  have hcl:=arms[i].body.cs_len
  generalize arms[i].body.cs=bd at*
  have h213:=h213 (σ.length+1) (σ++[.box [.int .i64 k, .int .i64 n, .str s, .str t, .slice names, .slice l, .slice ad], .box (.str xo:: .slice nd::bd)]) (.slice nd::bd) (by rw [getA];rfl)
  have htk7:bd.take 7=bd:=List.take_of_length_le (by omega)
  have fin: ∀ (c:Int),bodyI CI XB GI af203 [.agg [.int .i64 k, .int .i64 n, .str s, .str t, .slice names, .slice l, .slice ad], .int .i64 i] σ=(if (c != 0)&& !isC xo c then some (.ret (.int .i64 4),σ++[.box [.int .i64 k, .int .i64 n, .str s, .str t, .slice names, .slice l, .slice ad], .box (.str xo:: .slice nd::bd)])
   else if dE=0 then (if hd then some (.ret (.int .i64 5),σ++[.box [.int .i64 k, .int .i64 n, .str s, .str t, .slice names, .slice l, .slice ad], .box (.str xo:: .slice nd::bd)]) else some (.ret (.int .i64 0),σ++[.box [.int .i64 k, .int .i64 n, .str s, .str t, .slice names, .slice l, .slice ad], .box (.str xo:: .slice nd::bd)]))
   else some (.ret (.int .i64 dE),σ++[.box [.int .i64 k, .int .i64 n, .str s, .str t, .slice names, .slice l, .slice ad], .box (.str xo:: .slice nd::bd)]))→
   bodyI CI XB GI af203 [.agg [.int .i64 k, .int .i64 n, .str s, .str t, .slice names, .slice l, .slice ad], .int .i64 i] σ=some (.ret (.int .i64 (if (c != 0)&& !isC xo c then 4 else if dE=0 then (if hd then 5 else 0) else dE)),σ++[.box [.int .i64 k, .int .i64 n, .str s, .str t, .slice names, .slice l, .slice ad], .box (.str xo:: .slice nd::bd)]):=fun c h=>by
   rw [h]
   split
   ·rfl
   ·split
    ·split<;>rfl
    ·rfl
  have e1': ((nl:Int)=1)=(nl=1):=by rw [eq_iff_iff];omega
  have e2': ((nl:Int)=2)=(nl=2):=by rw [eq_iff_iff];omega
  have e1: ((nl:Int) ==1)=decide (nl=1):=by rw [Bool.eq_iff_iff];simp [e1']
  have e2: ((nl:Int) ==2)=decide (nl=2):=by rw [Bool.eq_iff_iff];simp [e2']
  have hall': (ad.all fun e=>e.cells.length==9)=true:=List.all_eq_true.2 fun x hx=>by simp only [hall9 x hx];rfl
  simp only [D.cells] at hall'
  have hw2: (i:Int)≤ad.length:=by omega
  have hw3:i≤ad.length:=by omega
  by_cases hk:k=11
  ·subst hk
   simp only [beq_self_eq_true,if_true]
   by_cases h4:nl≤4
   ·have h4': (nl:Int)≤4:=by omega
    rw [if_pos (by simpa using h4)]
    refine fin 2 ?_
    by_cases hc:isC xo 2=true
    ·by_cases hd0:dE=0
     ·cases hd<;>by_cases n2:nl=2<;>simp [bodyI,af203,getA0,getA,setA,h3,h2,hbd,hcl,htk7,hnl,n2,e1,e2,e1',e2',h4,h4',putCells,c143,hc,h182,hd0,bound,hw2,hw3,hall',h213, -List.all_eq_true]
     ·have hd': (dE != 0)=true:=by simpa using hd0
      by_cases n2:nl=2<;>simp [bodyI,af203,getA0,getA,setA,h3,h2,hbd,hcl,htk7,hnl,n2,e1,e2,e1',e2',h4,h4',putCells,c143,hc,h182,hd0,hd']
    ·rw [Bool.not_eq_true] at hc
     by_cases n2:nl=2<;>simp [bodyI,af203,getA0,getA,setA,h3,h2,hbd,hcl,htk7,hnl,n2,e1,e2,e1',e2',h4,h4',putCells,c143,hc]
   ·have h4': ¬(nl:Int)≤4:=by omega
    have n2: ¬nl=2:=by omega
    rw [if_neg (by simpa using h4)]
    simp [bodyI,af203,getA0,getA,setA,h3,h2,hbd,hcl,htk7,hnl,n2,e1,e2,e1',e2',h4,h4',putCells]
  ·have hk': (k==11)=false:=by simpa using hk
   simp only [hk',Bool.false_eq_true,if_false]
   by_cases hi0:i=0
   ·subst hi0
    rw [List.take_zero] at h213
    simp only [decide_true,if_true]
    by_cases n1:nl=1
    ·cases hr:xo==nReturn
     ·rw [if_neg (by simp)]
      unfold nReturn at hr
      simp [bodyI,af203,getA0,getA,setA,h3,h2,hbd,hcl,htk7,hnl,n1,e1,e2,e1',e2',putCells,hk',hr]
     ·rw [if_pos (by simp [n1])]
      unfold nReturn at hr
      refine fin 0 ?_
      by_cases hd0:dE=0
      ·cases hd<;>simp [bodyI,af203,getA0,getA,setA,h3,h2,hbd,hcl,htk7,hnl,n1,e1,e2,e1',e2',putCells,hk',hr,h182,hd0,bound,hw2,hw3,hall',h213, -List.all_eq_true]
      ·have hd': (dE != 0)=true:=by simpa using hd0
       simp [bodyI,af203,getA0,getA,setA,h3,h2,hbd,hcl,htk7,hnl,n1,e1,e2,e1',e2',putCells,hk',hr,h182,hd0,hd']
    ·rw [if_neg (by simp [n1])]
     by_cases n2:nl=2<;>simp [bodyI,af203,getA0,getA,setA,h3,h2,hbd,hcl,htk7,hnl,n1,n2,e1,e2,e1',e2',putCells,hk']
   ·have hi0': ((i:Int) ==0)=false:=by simpa using hi0
    simp only [hi0,decide_false,Bool.false_eq_true,if_false]
    by_cases n2:nl=2
    ·rw [if_pos (by simp [n2])]
     refine fin 1 ?_
     by_cases hc:isC xo 1=true
     ·by_cases hd0:dE=0
      ·cases hd<;>simp [bodyI,af203,getA0,getA,setA,h3,h2,hbd,hcl,htk7,hnl,n2,e1,e2,e1',e2',hi0,hi0',hk',putCells,c143,hc,h182,hd0,bound,hw2,hw3,hall',h213, -List.all_eq_true]
      ·have hd': (dE != 0)=true:=by simpa using hd0
       simp [bodyI,af203,getA0,getA,setA,h3,h2,hbd,hcl,htk7,hnl,n2,e1,e2,e1',e2',hi0,hi0',hk',putCells,c143,hc,h182,hd0,hd']
     ·rw [Bool.not_eq_true] at hc
      simp [bodyI,af203,getA0,getA,setA,h3,h2,hbd,hcl,htk7,hnl,n2,e1,e2,e1',e2',hi0,hi0',hk',putCells,c143,hc]
    ·rw [if_neg (by simp [n2])]
     simp [bodyI,af203,getA0,getA,setA,h3,h2,hbd,hcl,htk7,hnl,n2,e1,e2,e1',e2',hi0,hi0',hk',putCells]
 exact CI_tree tab203 hτ rfl rfl
structure Sh where
 s:Int
 t:Int
 n:Int
 m:Int
 p:Int
 q:Int
 a:Bool
 lo:Int
 hi:Int
 deriving DecidableEq,Inhabited
def Sh.cs (x:Sh):List D:=sh x.s x.t x.n x.m x.p x.q x.a x.lo x.hi
def shapesL:List Sh:=[⟨1,0,0,0,0,0,false,0,0⟩,⟨0,0,0,0,0,0,false,(-999999999),999999999⟩,⟨0,0,0,0,0,0,false,0,1⟩,⟨0,0,0,0,0,0,false,0,0⟩,⟨0,0,1,0,1,0,false,0,0⟩,⟨0,0,0,0,2,0,false,0,0⟩,⟨0,0,1,0,2,0,false,0,0⟩,⟨0,0,2,0,2,0,false,0,0⟩,⟨0,0,0,0,3,0,false,0,0⟩,⟨3,0,0,0,2,0,false,0,0⟩,⟨2,0,0,0,0,4,false,0,0⟩,⟨0,0,0,0,1,0,true,0,0⟩,⟨1,0,0,0,1,0,false,0,0⟩,⟨1,1,0,0,1,0,false,0,0⟩,⟨2,0,0,0,1,0,true,0,1⟩,⟨2,0,1,0,1,0,true,0,0⟩,⟨2,0,0,0,1,0,false,0,0⟩,⟨0,0,1,12,3,0,false,0,0⟩,⟨1,0,0,0,1,0,false,0,0⟩,⟨1,0,0,0,0,0,false,0,0⟩]
def shapeOf (k:Int):Sh:=shapesL.getD k.toNat default
theorem shape_row: ∀ (j:Nat),j<20→(shapes.drop (j*9)).take 9=(shapesL.getD j default).cs
 |0,_=>rfl
 |1,_=>rfl
 |2,_=>rfl
 |3,_=>rfl
 |4,_=>rfl
 |5,_=>rfl
 |6,_=>rfl
 |7,_=>rfl
 |8,_=>rfl
 |9,_=>rfl
 |10,_=>rfl
 |11,_=>rfl
 |12,_=>rfl
 |13,_=>rfl
 |14,_=>rfl
 |15,_=>rfl
 |16,_=>rfl
 |17,_=>rfl
 |18,_=>rfl
 |19,_=>rfl
 |j+20,h=>by omega
theorem shape_len:shapes.length=180:=rfl
theorem shape_small: ∀x ∈ shapesL,0≤x.n∧x.n≤100∧0≤x.m∧x.m≤100∧0≤x.p∧x.p≤100∧0≤x.q∧x.q≤100:=by decide
theorem shapeOf_mem {k:Int} (h:inR k 0 19=true):shapeOf k ∈ shapesL:=by
 unfold inR at h
 simp only [Bool.and_eq_true,decide_eq_true_eq] at h
 unfold shapeOf
 have:k.toNat<shapesL.length:=by simp [shapesL];omega
 rw [List.getD,List.getElem?_eq_getElem this]
 exact List.getElem_mem this
def armsE (k:Int):List Bs→List Arm→Int
 |_,[]=>0
 |pre,a::r=>if armE k pre a=0 then armsE k (pre++[a.op]) r else armE k pre a
theorem it174 (k n:Int) (s t:Bs) (names l:List D) (p:Nat) (d3:D) (σ:St): ∀ (r pre:List Arm),(pre++r).length≤maxL→armsOk (pre++r)→σ[p]? =some (.box [.int .i64 k, .int .i64 n, .str s, .str t, .slice names, .slice l, .slice (armsD (pre++r))])→ ∀m,m=pre.length→
 iterI (evalI CI XB GI 132 false lp174_0) [(1, .ptr p 0),(3,d3),(108, .int .i64 (pre++r).length),(109, .int .i64 (m:Nat))] σ=
  some (if armsE k (pre.map Arm.op) r=0 then (.exit 1,[(1, .ptr p 0),(3,d3),(108, .int .i64 (pre++r).length),(109, .int .i64 (pre++r).length),(110, .bool false)],σ) else (.ret,[(2, .int .i64 (armsE k (pre.map Arm.op) r))],σ))
 | [],pre,hl,hok,hσ,m,hm=>by
  have:m=(pre++([]:List Arm)).length:=by rw [hm];simp
  refine iterI_end ?_ (by simp [armsE])
  generalize (pre++([]:List Arm)).length=q at*
  simp [lp174_0,this,armsE]
 |a::r,pre,hl,hok,hσ,m,hm=>by
  have hmt:m< (pre++a::r).length:=by simp;omega
  have hget: (pre++a::r)[m]=a:=by simp [hm]
  have htk: ((pre++a::r).take m).map Arm.op=pre.map Arm.op:=by rw [hm];simp
  have hw:=wrap_nat (n:=m) (by unfold maxL at hl;simp at hl;omega)
  have hao: (pre++a::r)[m].ok:=by rw [hget];exact armsOk_mem hok (by simp)
  have hc:=c203 k n s t names l (pre++a::r) m hmt σ hl hao
  rw [hget,htk] at hc
  have hp:pre++[a]++r=pre++a::r:=by simp
  have ih:=it174 k n s t names l p d3 σ r (pre++[a]) (by rw [hp];exact hl) (by rw [hp];exact hok) (by rw [hp];exact hσ) (m+1) (by simp [hm])
  rw [hp] at ih
  simp only [List.map_append,List.map_cons,List.map_nil] at ih
  simp only [armsE]
  clear hget hao
  generalize (pre++a::r).length=q at*
  generalize armsD (pre++a::r)=ad at*
  have hmt': (m:Int) <q:=by omega
  by_cases he:armE k (pre.map Arm.op) a=0
  ·simp only [if_pos he]
   rw [←ih]
   refine iterI_next ?_
   rw [he] at hc
   simp [lp174_0,hmt,hmt',hw,hσ,hc]
  ·simp only [if_neg he]
   have he': (armE k (pre.map Arm.op) a != 0)=true:=by simpa using he
   refine iterI_end ?_ (by simp)
   simp [lp174_0,hmt,hmt',hw,hσ,hc,he,he']
def nodeE (k n:Int) (s t:Bs) (names:List Bs) (nl:Nat) (arms:List Arm):Int:=
 if inR k 0 19 then
  if inR n (shapeOf k).lo (shapeOf k).hi then
   if isC s (shapeOf k).s&&isC t (shapeOf k).t then
    if inR names.length (shapeOf k).n ((shapeOf k).n+ (shapeOf k).m)&&inR nl (shapeOf k).p ((shapeOf k).p+ (shapeOf k).q) then
     if (!(shapeOf k).a&&decide (0<arms.length)) ||decide (9<arms.length) then 7
     else if distE (names.take (if k=17 then 1 else names.length)) 1=0 then
      if distE (names.drop (if k=17 then 1 else names.length)) 2=0 then
       if armsE k [] arms=0 then (if k != 11&&((shapeOf k).a&&decide (arms.length=0)) then 7 else 0) else armsE k [] arms
      else distE (names.drop (if k=17 then 1 else names.length)) 2
     else distE (names.take (if k=17 then 1 else names.length)) 1
    else 7
   else 4
  else 1
 else 1
theorem Sh.cs_eq (x:Sh):x.cs=[.int .i64 x.s, .int .i64 x.t, .int .i64 x.n, .int .i64 x.m, .int .i64 x.p, .int .i64 x.q, .bool x.a, .int .i64 x.lo, .int .i64 x.hi]:=rfl
set_option maxHeartbeats 4000000 in
theorem c174 (e:Ex) (hok:e.ok) (σ:St): ∀ (k n:Int) (s t:Bs) (names:List Bs) (l:List Ex) (arms:List Arm),e= .mk k n s t names l arms→CI (.fn 174) [.agg e.cs] σ=some (.ret (.int .i64 (nodeE k n s t names l.length arms)),σ):=by
 rintro k n s t names l arms rfl
 obtain ⟨hnl,hll,hal,hlo,hao⟩:=hok
 have hit:=it174 k n s t (names.map D.str) (exsD l) σ.length (.ptr (σ.length+1) 0) (σ++[.box (Ex.mk k n s t names l arms).cs, .box (shapeOf k).cs]) arms [] hal hao (by rw [getA0];rfl) 0 rfl
 rw [Int.natCast_zero,List.nil_append,List.map_nil] at hit
 simp only [Ex.cs] at*
 have hexl:=exsD_len l
 have harl:=armsD_len arms
 have h182a:=fun f (hf:f≤names.length)=>fun σ=>c182 (names.take f) 1 σ (by simp;omega)
 have h182b:=fun f (hf:f≤names.length)=>fun σ=>c182 (names.drop f) 2 σ (by simp;unfold maxL at*;omega)
 simp only [slD,List.map_take,List.map_drop] at h182a h182b
 have hndl: (names.map D.str).length=names.length:=by simp
 unfold nodeE
 obtain ⟨τ,hτ⟩: ∃τ,bodyI CI XB GI af174 [.agg [.int .i64 k, .int .i64 n, .str s, .str t,slD names, .slice (exsD l), .slice (armsD arms)]] σ=some (.ret (.int .i64 (nodeE k n s t names l.length arms)),σ++τ):=by
  unfold nodeE
  simp only [slD] at*
  by_cases hk:inR k 0 19=true
  rotate_left
  ·rw [if_neg hk]
   rw [Bool.not_eq_true] at hk
   refine ⟨[.box [.int .i64 k, .int .i64 n, .str s, .str t, .slice (names.map D.str), .slice (exsD l), .slice (armsD arms)]], ?_⟩
   simp [bodyI,af174,getA0,k198,hk]
  rw [if_pos hk]
  refine ⟨[.box [.int .i64 k, .int .i64 n, .str s, .str t, .slice (names.map D.str), .slice (exsD l), .slice (armsD arms)], .box (shapeOf k).cs], ?_⟩
  have hk0:0≤k∧k<20:=by unfold inR at hk;simp at hk;omega
  have hk1:=hk0.1
  have hk2:=hk0.2
  have hrow: (shapes.drop (k.toNat*9)).take 9=(shapeOf k).cs:=shape_row k.toNat (by omega)
  have hrl:9≤shapes.length - k.toNat*9:=by rw [shape_len];omega
  have hsm:=shape_small _ (shapeOf_mem hk)
  have hw1:IntKind.i64.wrap ((shapeOf k).n+ (shapeOf k).m)=(shapeOf k).n+ (shapeOf k).m:=wrap_i64 (by omega) (by omega)
  have hw2:IntKind.i64.wrap ((shapeOf k).p+ (shapeOf k).q)=(shapeOf k).p+ (shapeOf k).q:=wrap_i64 (by omega) (by omega)
  have hg:globT 0=some shapes:=rfl
  rw [Sh.cs_eq] at*
  generalize hxs:shapeOf k=xs at*
  rcases xs with ⟨s1,s2,s3,s4,s5,s6,s7,s8,s9⟩
  simp only at*
  generalize exsD l=ld at*
  generalize armsD arms=ad at*
  generalize hnd:names.map D.str=nd at*
  by_cases hr:inR n s8 s9=true
  rotate_left
  ·rw [if_neg hr]
   rw [Bool.not_eq_true] at hr
   simp [bodyI,af174,getA0,getA,setA,k198,hk,hk1,hk2,hg,hrow,hrl,putCells,hr]
  rw [if_pos hr]
  by_cases hs:isC s s1=true
  rotate_left
  ·rw [Bool.not_eq_true] at hs
   rw [if_neg (by simp [hs])]
   simp [bodyI,af174,getA0,getA,setA,k198,c143,hk,hk1,hk2,hg,hrow,hrl,putCells,hr,hs]
  by_cases ht:isC t s2=true
  rotate_left
  ·rw [Bool.not_eq_true] at ht
   rw [if_neg (by simp [ht])]
   simp [bodyI,af174,getA0,getA,setA,k198,c143,hk,hk1,hk2,hg,hrow,hrl,putCells,hr,hs,ht]
  rw [if_pos (by simp [hs,ht])]
  by_cases hn1:inR names.length s3 (s3+s4)=true
  rotate_left
  ·rw [Bool.not_eq_true] at hn1
   rw [if_neg (by simp [hn1])]
   simp [bodyI,af174,getA0,getA,setA,k198,c143,hk,hk1,hk2,hg,hrow,hrl,putCells,hr,hs,ht,hndl,hw1,hn1]
  by_cases hl1:inR l.length s5 (s5+s6)=true
  rotate_left
  ·rw [Bool.not_eq_true] at hl1
   rw [if_neg (by simp [hl1])]
   simp [bodyI,af174,getA0,getA,setA,k198,c143,hk,hk1,hk2,hg,hrow,hrl,putCells,hr,hs,ht,hndl,hw1,hn1,hexl,hw2,hl1]
  rw [if_pos (by simp [hn1,hl1])]
  by_cases ha0:s7=false∧0<arms.length
  ·obtain ⟨rfl,ha0⟩:=ha0
   have ha0': (0:Int) <arms.length:=by omega
   rw [if_pos (by simp [ha0])]
   simp [bodyI,af174,getA0,getA,setA,k198,c143,hk,hk1,hk2,hg,hrow,hrl,putCells,hr,hs,ht,hndl,hw1,hn1,hexl,hw2,hl1,harl,ha0,ha0']
  by_cases ha9:9<arms.length
  ·obtain rfl:s7=true:=by
    cases s7 with
    |true=>rfl
    |false=>exact absurd ⟨rfl,by omega⟩ ha0
   have ha9': (9:Int) <arms.length:=by omega
   rw [if_pos (by simp [ha9])]
   simp [bodyI,af174,getA0,getA,setA,k198,c143,hk,hk1,hk2,hg,hrow,hrl,putCells,hr,hs,ht,hndl,hw1,hn1,hexl,hw2,hl1,harl,ha9,ha9']
  have ha9': ¬(9:Int) <arms.length:=by omega
  have hneg: ¬((!s7&&decide (0<arms.length) ||decide (9<arms.length))=true):=by
   intro h
   rw [Bool.or_eq_true,Bool.and_eq_true] at h
   rcases h with ⟨h1,h2⟩ |h
   ·exact ha0 ⟨by simpa using h1,by simpa using h2⟩
   ·exact ha9 (by simpa using h)
  rw [if_neg hneg]
  obtain ⟨f,hf,hfl,hfk⟩: ∃f:Nat,(if k=17 then 1 else names.length)=f∧f≤names.length∧ ∀ (P:Prop),((k=17→f=1→P)→(k≠17→f=names.length→P)→P):=by
   by_cases h17:k=17
   ·refine ⟨1,by rw [if_pos h17], ?_,fun P h1 _=>h1 h17 rfl⟩
    subst h17
    have h3:s3=1:=by
     have: (shapeOf 17).n=1:=rfl
     rw [hxs] at this
     exact this
    unfold inR at hn1
    simp at hn1
    omega
   ·exact ⟨names.length,by rw [if_neg h17],Nat.le_refl _,fun P _ h2=>h2 h17 rfl⟩
  rw [hf]
  have q1:=h182a f hfl
  have q2:=h182b f hfl
  clear h182a h182b
  have hfl': (f:Int)≤names.length:=by omega
  have hs7:s7=false→arms.length=0:=fun h=>Nat.eq_zero_of_not_pos fun h0=>ha0 ⟨h,h0⟩
  have hall1: (nd.all fun e=>e.cells.length==1)=true:=by
   rw [←hnd]
   exact List.all_eq_true.2 fun x hx=>by
    obtain ⟨y,_,rfl⟩:=List.mem_map.1 hx
    rfl
  simp only [D.cells] at hall1
  have key:bodyI CI XB GI af174 [.agg [.int .i64 k, .int .i64 n, .str s, .str t, .slice nd, .slice ld, .slice ad]] σ=
   some (.ret (.int .i64 (if distE (names.take f) 1=0 then if distE (names.drop f) 2=0 then if armsE k [] arms=0 then (if k != 11&&(s7&&decide (arms.length=0)) then 7 else 0) else armsE k [] arms else distE (names.drop f) 2 else distE (names.take f) 1)),
    σ++[.box [.int .i64 k, .int .i64 n, .str s, .str t, .slice nd, .slice ld, .slice ad], .box [.int .i64 s1, .int .i64 s2, .int .i64 s3, .int .i64 s4, .int .i64 s5, .int .i64 s6, .bool s7, .int .i64 s8, .int .i64 s9]]):=by
   generalize hN:names.length=N at*
   generalize distE (names.take f) 1=d1 at*
   generalize distE (names.drop f) 2=d2 at*
   have hfl2: (f:Int)≤N:=by omega
   have htk:f=N→nd.take N=nd:=fun h=>List.take_of_length_le (by omega)
   refine hfk _ (fun h17 hf1=> ?_) (fun h17 hfN=> ?_)
   ·subst hf1
    have h17b: (k==17)=true:=by simpa using h17
    have hN1:1≤N:=by omega
    have hN1': (1:Int)≤N:=by omega
    have htkN:nd.take N=nd:=List.take_of_length_le (by omega)
    rw [List.drop_one] at q2
    by_cases hd1:d1=0
    ·rw [if_pos hd1]
     rw [hd1] at q1
     by_cases hd2:d2=0
     ·rw [if_pos hd2]
      rw [hd2] at q2
      by_cases he:armsE k [] arms=0
      ·rw [if_pos he]
       rw [if_pos he] at hit
       by_cases h11:k=11
       ·have h11b: (k==11)=true:=by simpa using h11
        have h11c: (k != 11)=false:=by simpa using h11
        cases s7
        ·have ha00:=hs7 rfl
         simp only [ha00,Int.natCast_zero] at hit
         simp [bodyI,af174,getA0,getA,setA,k198,c143,hk,hk1,hk2,hg,hrow,hrl,putCells,hr,hs,ht,hndl,hw1,hn1,hexl,hw2,hl1,harl,bound,hall1, -List.all_eq_true,ha00,h17b,hfl,hfl',hfl2,hN1,hN1',htkN,q1,q2,hit,h11b,h11c]
        ·simp [bodyI,af174,getA0,getA,setA,k198,c143,hk,hk1,hk2,hg,hrow,hrl,putCells,hr,hs,ht,hndl,hw1,hn1,hexl,hw2,hl1,harl,bound,hall1, -List.all_eq_true,ha9,ha9',h17b,hfl,hfl',hfl2,hN1,hN1',htkN,q1,q2,hit,h11b,h11c]
       ·have h11b: (k==11)=false:=by simpa using h11
        have h11c: (k != 11)=true:=by simpa using h11
        cases s7
        ·have ha00:=hs7 rfl
         simp only [ha00,Int.natCast_zero] at hit
         simp [bodyI,af174,getA0,getA,setA,k198,c143,hk,hk1,hk2,hg,hrow,hrl,putCells,hr,hs,ht,hndl,hw1,hn1,hexl,hw2,hl1,harl,bound,hall1, -List.all_eq_true,ha00,h17b,hfl,hfl',hfl2,hN1,hN1',htkN,q1,q2,hit,h11b,h11c]
        ·by_cases haz:arms.length=0
         ·have haz': (arms.length:Int)=0:=by omega
          simp only [haz,Int.natCast_zero] at hit
          simp [bodyI,af174,getA0,getA,setA,k198,c143,hk,hk1,hk2,hg,hrow,hrl,putCells,hr,hs,ht,hndl,hw1,hn1,hexl,hw2,hl1,harl,bound,hall1, -List.all_eq_true,ha9,ha9',h17b,hfl,hfl',hfl2,hN1,hN1',htkN,q1,q2,hit,h11b,h11c,haz,haz']
         ·have haz': ¬(arms.length:Int)=0:=by omega
          have haz'': ((arms.length:Int) ==0)=false:=by simpa using haz'
          simp [bodyI,af174,getA0,getA,setA,k198,c143,hk,hk1,hk2,hg,hrow,hrl,putCells,hr,hs,ht,hndl,hw1,hn1,hexl,hw2,hl1,harl,bound,hall1, -List.all_eq_true,ha9,ha9',h17b,hfl,hfl',hfl2,hN1,hN1',htkN,q1,q2,hit,h11b,h11c,haz,haz',haz'']
      ·rw [if_neg he]
       rw [if_neg he] at hit
       cases s7
       ·have ha00:=hs7 rfl
        simp only [ha00,Int.natCast_zero] at hit
        simp [bodyI,af174,getA0,getA,setA,k198,c143,hk,hk1,hk2,hg,hrow,hrl,putCells,hr,hs,ht,hndl,hw1,hn1,hexl,hw2,hl1,harl,bound,hall1, -List.all_eq_true,ha00,h17b,hfl,hfl',hfl2,hN1,hN1',htkN,q1,q2,hit]
       ·simp [bodyI,af174,getA0,getA,setA,k198,c143,hk,hk1,hk2,hg,hrow,hrl,putCells,hr,hs,ht,hndl,hw1,hn1,hexl,hw2,hl1,harl,bound,hall1, -List.all_eq_true,ha9,ha9',h17b,hfl,hfl',hfl2,hN1,hN1',htkN,q1,q2,hit]
     ·rw [if_neg hd2]
      have hd2': (d2 != 0)=true:=by simpa using hd2
      cases s7
      ·have ha00:=hs7 rfl
       simp [bodyI,af174,getA0,getA,setA,k198,c143,hk,hk1,hk2,hg,hrow,hrl,putCells,hr,hs,ht,hndl,hw1,hn1,hexl,hw2,hl1,harl,bound,hall1, -List.all_eq_true,ha00,h17b,hfl,hfl',hfl2,hN1,hN1',htkN,q1,q2,hd2,hd2']
      ·simp [bodyI,af174,getA0,getA,setA,k198,c143,hk,hk1,hk2,hg,hrow,hrl,putCells,hr,hs,ht,hndl,hw1,hn1,hexl,hw2,hl1,harl,bound,hall1, -List.all_eq_true,ha9,ha9',h17b,hfl,hfl',hfl2,hN1,hN1',htkN,q1,q2,hd2,hd2']
    ·rw [if_neg hd1]
     have hd1': (d1 != 0)=true:=by simpa using hd1
     cases s7
     ·have ha00:=hs7 rfl
      simp [bodyI,af174,getA0,getA,setA,k198,c143,hk,hk1,hk2,hg,hrow,hrl,putCells,hr,hs,ht,hndl,hw1,hn1,hexl,hw2,hl1,harl,bound,hall1, -List.all_eq_true,ha00,h17b,hfl,hfl',hfl2,hN1,hN1',htkN,q1,hd1,hd1']
     ·simp [bodyI,af174,getA0,getA,setA,k198,c143,hk,hk1,hk2,hg,hrow,hrl,putCells,hr,hs,ht,hndl,hw1,hn1,hexl,hw2,hl1,harl,bound,hall1, -List.all_eq_true,ha9,ha9',h17b,hfl,hfl',hfl2,hN1,hN1',htkN,q1,hd1,hd1']
   ·subst hfN
    have h17': (k==17)=false:=by simpa using h17
    have htk:=htk rfl
    have hdr:nd.drop f=[]:=List.drop_of_length_le (by omega)
    rw [htk] at q1
    rw [hdr] at q2
    by_cases hd1:d1=0
    ·rw [if_pos hd1]
     rw [hd1] at q1
     by_cases hd2:d2=0
     ·rw [if_pos hd2]
      rw [hd2] at q2
      by_cases he:armsE k [] arms=0
      ·rw [if_pos he]
       rw [if_pos he] at hit
       by_cases h11:k=11
       ·have h11b: (k==11)=true:=by simpa using h11
        have h11c: (k != 11)=false:=by simpa using h11
        cases s7
        ·have ha00:=hs7 rfl
         simp only [ha00,Int.natCast_zero] at hit
         simp [bodyI,af174,getA0,getA,setA,k198,c143,hk,hk1,hk2,hg,hrow,hrl,putCells,hr,hs,ht,hndl,hw1,hn1,hexl,hw2,hl1,harl,bound,hall1, -List.all_eq_true,ha00,h17,h17',htk,hdr,q1,q2,hit,h11b,h11c]
        ·simp [bodyI,af174,getA0,getA,setA,k198,c143,hk,hk1,hk2,hg,hrow,hrl,putCells,hr,hs,ht,hndl,hw1,hn1,hexl,hw2,hl1,harl,bound,hall1, -List.all_eq_true,ha9,ha9',h17,h17',htk,hdr,q1,q2,hit,h11b,h11c]
       ·have h11b: (k==11)=false:=by simpa using h11
        have h11c: (k != 11)=true:=by simpa using h11
        cases s7
        ·have ha00:=hs7 rfl
         simp only [ha00,Int.natCast_zero] at hit
         simp [bodyI,af174,getA0,getA,setA,k198,c143,hk,hk1,hk2,hg,hrow,hrl,putCells,hr,hs,ht,hndl,hw1,hn1,hexl,hw2,hl1,harl,bound,hall1, -List.all_eq_true,ha00,h17,h17',htk,hdr,q1,q2,hit,h11b,h11c]
        ·by_cases haz:arms.length=0
         ·have haz': (arms.length:Int)=0:=by omega
          simp only [haz,Int.natCast_zero] at hit
          simp [bodyI,af174,getA0,getA,setA,k198,c143,hk,hk1,hk2,hg,hrow,hrl,putCells,hr,hs,ht,hndl,hw1,hn1,hexl,hw2,hl1,harl,bound,hall1, -List.all_eq_true,ha9,ha9',h17,h17',htk,hdr,q1,q2,hit,h11b,h11c,haz,haz']
         ·have haz': ¬(arms.length:Int)=0:=by omega
          have haz'': ((arms.length:Int) ==0)=false:=by simpa using haz'
          simp [bodyI,af174,getA0,getA,setA,k198,c143,hk,hk1,hk2,hg,hrow,hrl,putCells,hr,hs,ht,hndl,hw1,hn1,hexl,hw2,hl1,harl,bound,hall1, -List.all_eq_true,ha9,ha9',h17,h17',htk,hdr,q1,q2,hit,h11b,h11c,haz,haz',haz'']
      ·rw [if_neg he]
       rw [if_neg he] at hit
       cases s7
       ·have ha00:=hs7 rfl
        simp only [ha00,Int.natCast_zero] at hit
        simp [bodyI,af174,getA0,getA,setA,k198,c143,hk,hk1,hk2,hg,hrow,hrl,putCells,hr,hs,ht,hndl,hw1,hn1,hexl,hw2,hl1,harl,bound,hall1, -List.all_eq_true,ha00,h17,h17',htk,hdr,q1,q2,hit]
       ·simp [bodyI,af174,getA0,getA,setA,k198,c143,hk,hk1,hk2,hg,hrow,hrl,putCells,hr,hs,ht,hndl,hw1,hn1,hexl,hw2,hl1,harl,bound,hall1, -List.all_eq_true,ha9,ha9',h17,h17',htk,hdr,q1,q2,hit]
     ·rw [if_neg hd2]
      have hd2': (d2 != 0)=true:=by simpa using hd2
      cases s7
      ·have ha00:=hs7 rfl
       simp [bodyI,af174,getA0,getA,setA,k198,c143,hk,hk1,hk2,hg,hrow,hrl,putCells,hr,hs,ht,hndl,hw1,hn1,hexl,hw2,hl1,harl,bound,hall1, -List.all_eq_true,ha00,h17,h17',htk,hdr,q1,q2,hd2,hd2']
      ·simp [bodyI,af174,getA0,getA,setA,k198,c143,hk,hk1,hk2,hg,hrow,hrl,putCells,hr,hs,ht,hndl,hw1,hn1,hexl,hw2,hl1,harl,bound,hall1, -List.all_eq_true,ha9,ha9',h17,h17',htk,hdr,q1,q2,hd2,hd2']
    ·rw [if_neg hd1]
     have hd1': (d1 != 0)=true:=by simpa using hd1
     cases s7
     ·have ha00:=hs7 rfl
      simp [bodyI,af174,getA0,getA,setA,k198,c143,hk,hk1,hk2,hg,hrow,hrl,putCells,hr,hs,ht,hndl,hw1,hn1,hexl,hw2,hl1,harl,bound,hall1, -List.all_eq_true,ha00,h17,h17',htk,hdr,q1,hd1,hd1']
     ·simp [bodyI,af174,getA0,getA,setA,k198,c143,hk,hk1,hk2,hg,hrow,hrl,putCells,hr,hs,ht,hndl,hw1,hn1,hexl,hw2,hl1,harl,bound,hall1, -List.all_eq_true,ha9,ha9',h17,h17',htk,hdr,q1,hd1,hd1']
  exact key
 exact CI_tree tab174 hτ rfl rfl
mutual
def Ex.e:Ex→Int
 | .mk k n s t names l arms=>if nodeE k n s t names l.length arms=0 then (if exsE l=0 then armsBE arms else exsE l) else nodeE k n s t names l.length arms
def exsE:List Ex→Int
 | []=>0
 |x::r=>if x.e=0 then exsE r else x.e
def armsBE:List Arm→Int
 | []=>0
 | .mk _ _ b::r=>if b.e=0 then armsBE r else b.e
end
def stepE (x:Ex) (_:Int):Bool × Int:=(x.e==0,x.e)
theorem foldE: ∀ (l:List Ex),foldB stepE l 0=(exsE l==0,exsE l)
 | []=>rfl
 |x::r=>by
  by_cases h:x.e=0
  ·have hb: (x.e==0)=true:=by simpa using h
   simp only [foldB,stepE,exsE,hb,h,if_true]
   exact foldE r
  ·have hb: (x.e==0)=false:=by simpa using h
   simp only [foldB,stepE,exsE,hb,if_neg h,Bool.false_eq_true,if_false]
theorem armsBE_map: ∀ (l:List Arm),armsBE l=exsE (l.map Arm.body)
 | []=>rfl
 | .mk _ _ b::r=>by simp only [armsBE,List.map_cons,exsE,Arm.body,armsBE_map r]
theorem exsE_app: ∀ (a b:List Ex),exsE (a++b)=if exsE a=0 then exsE b else exsE a
 | [],b=>by simp [exsE]
 |x::a,b=>by
  simp only [List.cons_append,exsE]
  by_cases h:x.e=0
  ·simp only [if_pos h];exact exsE_app a b
  ·simp only [if_neg h]
theorem Ex.e_eq (k n:Int) (s t:Bs) (names:List Bs) (l:List Ex) (arms:List Arm):
 (Ex.mk k n s t names l arms).e=if nodeE k n s t names l.length arms=0 then exsE (Ex.mk k n s t names l arms).parts else nodeE k n s t names l.length arms:=by
 simp only [Ex.e,Ex.parts,exsE_app,armsBE_map]
theorem c131: ∀ (e:Ex),e.ok→ ∀ (σ:St),CI (.fn 131) [.agg e.cs] σ=some (.ret (.int .i64 e.e),σ)
 | .mk k n s t names l arms,hok,σ=>by
  have h174:=fun σ=>c174 _ hok σ k n s t names l arms rfl
  have h175: ∀x ∈ (Ex.mk k n s t names l arms).parts,∀ (i:Nat) (b:Int) (σ:St),σ[i]? =some (.box [.int .i64 b])→CI (.fn 175) [.agg x.cs, .ptr i 0] σ=some (.ret (.bool (x.e==0)),σ.set i (.box [.int .i64 x.e])):=fun x hx i b σ hi=>by
   have ih:=c131 x (Ex.parts_ok hok hx)
   have hall:=x.cs_all
   have hlt:=lt_of_get hi
   have hτ:bodyI CI XB GI af175 [.agg x.cs, .ptr i 0] σ=some (.ret (.bool (x.e==0)),σ.set i (.box [.int .i64 x.e])++[.box x.cs]):=by
    simp [bodyI,af175,getA0,getO hi,setO hlt,getSs hlt,hall,ih,putCells]
   exact CI_fn tab175 hτ (postI_set (by simp [Obj.under,underL,D.under]) rfl rfl)
  rw [Ex.e_eq]
  have h172:=fun (i:Nat) (σ:St) (hi:i<σ.length)=>p172 175 [.ptr i 0] i (fun b:Int=> .box [.int .i64 b]) (fun _=>True) stepE σ hi (fun b m=>by simp [Obj.under,underL,D.under]) (Ex.mk k n s t names l arms) hok (fun _ _ _ _ _=>trivial)
   (fun x hx b τ _=>by
     have:=h175 x hx i b (σ.set i (.box [.int .i64 b])++τ) (getSs hi)
     rw [setSs hi] at this
     exact this) 0 trivial
  rw [foldE] at h172
  generalize (Ex.mk k n s t names l arms).parts=ps at*
  have hall:=(Ex.mk k n s t names l arms).cs_all
  have hcl:=(Ex.mk k n s t names l arms).cs_len
  have htk:=(Ex.mk k n s t names l arms).cs_take
  obtain ⟨τ,hτ⟩: ∃τ,bodyI CI XB GI af131 [.agg (Ex.mk k n s t names l arms).cs] σ=some (.ret (.int .i64 (if nodeE k n s t names l.length arms=0 then exsE ps else nodeE k n s t names l.length arms)),σ++τ):=by
   generalize (Ex.mk k n s t names l arms).cs=ec at*
   by_cases hz:nodeE k n s t names l.length arms=0
   ·rw [if_pos hz]
    rw [hz] at h174
    refine ⟨[.box ec, .box [.int .i64 (exsE ps)]], ?_⟩
    have h:=h172 (σ.length+1) (σ++[.box ec, .box [.int .i64 0]]) (by simp)
    simp only [setA,List.set] at h
    simp [bodyI,af131,getA0,getA,setA,hall,hcl,htk,h174,putCells,h]
   ·rw [if_neg hz]
    have hz': (nodeE k n s t names l.length arms==0)=false:=by simpa using hz
    refine ⟨[.box ec, .box [.int .i64 (nodeE k n s t names l.length arms)]], ?_⟩
    simp [bodyI,af131,getA0,getA,setA,hall,hcl,htk,h174,putCells,hz,hz']
  exact CI_tree tab131 hτ rfl rfl
termination_by e=>SizeOf.sizeOf e
decreasing_by exact Ex.parts_lt hx
mutual
def Ex.take:Ex→Int→Int × Int→Bool × (Int × Int)
 | .mk _ _ _ _ _ l arms,d,b=>if b.1 - 1<0∨200<d then (false,(b.1 - 1,if d>b.2 then d else b.2))
  else if (exsTake l (d+1) (b.1 - 1,if d>b.2 then d else b.2)).1 then armsTake arms (d+1) (exsTake l (d+1) (b.1 - 1,if d>b.2 then d else b.2)).2
  else (false,(exsTake l (d+1) (b.1 - 1,if d>b.2 then d else b.2)).2)
def exsTake:List Ex→Int→Int × Int→Bool × (Int × Int)
 | [],_,b=>(true,b)
 |x::r,d,b=>if (x.take d b).1 then exsTake r d (x.take d b).2 else (false,(x.take d b).2)
def armsTake:List Arm→Int→Int × Int→Bool × (Int × Int)
 | [],_,b=>(true,b)
 | .mk _ _ x::r,d,b=>if (x.take d b).1 then armsTake r d (x.take d b).2 else (false,(x.take d b).2)
end
theorem exsTake_fold (d:Int): ∀ (l:List Ex) (b:Int × Int),exsTake l d b=foldB (fun x=>x.take d) l b
 | [],b=>rfl
 |x::r,b=>by simp only [exsTake,foldB,exsTake_fold d r]
theorem armsTake_fold (d:Int): ∀ (l:List Arm) (b:Int × Int),armsTake l d b=foldB (fun x=>x.take d) (l.map Arm.body) b
 | [],b=>rfl
 | .mk _ _ x::r,b=>by simp only [armsTake,List.map_cons,foldB,Arm.body,armsTake_fold d r]
def deepM (d b:Int):Int:=if d>b then d else b
theorem Ex.take_eq (e:Ex) (d:Int) (b:Int × Int):e.take d b=if b.1 - 1<0∨200<d then (false,(b.1 - 1,deepM d b.2)) else foldB (fun x=>x.take (d+1)) e.parts (b.1 - 1,deepM d b.2):=by
 rcases e with ⟨k,n,s,t,names,l,arms⟩
 simp only [Ex.take,Ex.parts,foldB_app,exsTake_fold,armsTake_fold,deepM]
def inB (B:Int) (b:Int × Int):Prop:=0≤b.1∧b.1≤B
theorem Ex.take_in (B:Int): ∀ (e:Ex) (d:Int) (b:Int × Int),inB B b→(e.take d b).1=true→inB B (e.take d b).2
 |e,d,b,hb,h=>by
  rw [Ex.take_eq] at h ⊢
  by_cases h0:b.1 - 1<0∨200<d
  ·rw [if_pos h0] at h;cases h
  ·rw [if_neg h0] at h ⊢
   refine foldB_inv e.parts (fun x hx b hb hs=>Ex.take_in B x (d+1) b hb hs) _ ?_ h
   obtain ⟨h1,h2⟩:=hb
   exact ⟨by simp only;omega,by simp only;omega⟩
termination_by e=>SizeOf.sizeOf e
decreasing_by exact Ex.parts_lt hx
theorem log512:Nat.log2 512=9:=by decide
theorem tb511:Nat.testBit 511 4=true:=by decide
set_option maxHeartbeats 1000000 in
theorem c130: ∀ (e:Ex),e.ok→ ∀ (d:Int) (b:Int × Int) (i:Nat) (σ:St),inB 1000000 b→0≤d→d≤1000→σ[i]? =some (mBox b.1 b.2)→
 CI (.fn 130) [.ptr i 0, .agg e.cs, .int .i64 d] σ=some (.ret (.bool (e.take d b).1),σ.set i (mBox (e.take d b).2.1 (e.take d b).2.2))
 |e,hok,d,b,i,σ,hb,hd0,hd1,hσ=>by
  have hi:=lt_of_get hσ
  have hall:=e.cs_all
  have hcl:=e.cs_len
  have htk:=e.cs_take
  have hw:IntKind.i64.wrap (b.1 - 1)=b.1 - 1:=wrap_i64 (by have:=hb.1;omega) (by have:=hb.2;omega)
  have hwd:IntKind.i64.wrap (d+1)=d+1:=wrap_i64 (by omega) (by omega)
  have h173:d≤200→ ∀x ∈ e.parts,∀ (pm pd:Nat) (b:Int × Int) (σ:St),inB 1000000 b→σ[i]? =some (mBox b.1 b.2)→σ[pm]? =some (.box [.ptr i 0])→σ[pd]? =some (.box [.int .i64 d])→
   CI (.fn 173) [.agg x.cs, .ptr pm 0, .ptr pd 0] σ=some (.ret (.bool (x.take (d+1) b).1),σ.set i (mBox (x.take (d+1) b).2.1 (x.take (d+1) b).2.2)):=fun hd x hx pm pd b σ hb hσ hpm hpd=>by
   have hi:=lt_of_get hσ
   have ih:=c130 x (Ex.parts_ok hok hx) (d+1) b i (σ++[.box x.cs]) hb (by omega) (by omega) (getO hσ)
   rw [setO hi] at ih
   have hall:=x.cs_all
   have hcl:=x.cs_len
   have htk:=x.cs_take
   have hτ:bodyI CI XB GI af173 [.agg x.cs, .ptr pm 0, .ptr pd 0] σ=some (.ret (.bool (x.take (d+1) b).1),σ.set i (mBox (x.take (d+1) b).2.1 (x.take (d+1) b).2.2)++[.box x.cs]):=by
    generalize x.take (d+1) b=r at*
    simp [bodyI,af173,getA0,getO hpm,getO hpd,hall,hcl,htk,hwd,ih]
   exact CI_fn tab173 hτ (postI_set mBox_under rfl rfl)
  obtain ⟨τ,hτ⟩: ∃τ,bodyI CI XB GI af130 [.ptr i 0, .agg e.cs, .int .i64 d] σ=some (.ret (.bool (e.take d b).1),σ.set i (mBox (e.take d b).2.1 (e.take d b).2.2)++τ):=by
   refine ⟨[.box [.ptr i 0], .box e.cs, .box [.int .i64 d]], ?_⟩
   rw [Ex.take_eq]
   have h172: ¬b.1 - 1<0→ ¬200<d→_:=fun h0 hd=>p172 173 [.ptr σ.length 0, .ptr (σ.length+2) 0] i (fun b:Int × Int=>mBox b.1 b.2) (inB 1000000) (fun x=>x.take (d+1)) (σ++[.box [.ptr i 0], .box e.cs, .box [.int .i64 d]]) (by simp;omega) (fun b m=>mBox_under) e hok
    (fun x hx b hb hs=>Ex.take_in _ x _ b hb hs)
    (fun x hx b τ hb=>by
      rw [setO hi]
      have:=h173 (by omega) x hx σ.length (σ.length+2) b (σ.set i (mBox b.1 b.2)++[.box [.ptr i 0], .box e.cs, .box [.int .i64 d]]++τ) hb (by rw [List.append_assoc];exact getSs hi) (by rw [List.append_assoc];exact getAs0) (by rw [List.append_assoc];exact getAs)
      rw [List.append_assoc,setSs hi] at this
      rw [List.append_assoc,setO hi,List.append_assoc]
      exact this) (b.1 - 1,deepM d b.2) ⟨by simp only;omega,by have:=hb.2;simp only;omega⟩
   simp only [setO hi] at h172
   unfold deepM at*
   by_cases h0:b.1 - 1<0
   ·rw [if_pos (.inl h0)]
    simp [bodyI,af130,log512,tb511,mBox,getA0,getA,getO hσ,getAs0,getAs,getSs hi,setSs hi,setO hi,hall,hcl,htk,hw,h0]
   ·by_cases hd:200<d
    ·rw [if_pos (.inr hd)]
     simp [bodyI,af130,log512,tb511,mBox,getA0,getA,getO hσ,getAs0,getAs,getSs hi,setSs hi,setO hi,hall,hcl,htk,hw,h0,hd]
    ·rw [if_neg (by simp [h0,hd])]
     have h:=h172 h0 hd
     simp only [gt_iff_lt] at h ⊢
     generalize foldB (fun x=>x.take (d+1)) e.parts _=r at*
     simp only [mBox] at h
     simp [bodyI,af130,log512,tb511,mBox,getA0,getA,getO hσ,getAs0,getAs,getSs hi,setSs hi,setO hi,hall,hcl,htk,hw,h0,hd,h]
  exact CI_fn tab130 hτ (postI_set mBox_under rfl rfl)
termination_by e=>SizeOf.sizeOf e
decreasing_by exact Ex.parts_lt hx
end Go.AI
