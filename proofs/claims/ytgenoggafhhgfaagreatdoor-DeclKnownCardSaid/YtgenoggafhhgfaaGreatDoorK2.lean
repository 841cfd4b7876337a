/- Texts of the proof: an interpreter over trees, proved to follow the model. No conditions of its own. -/
import Derived.Test.YtgenoggafhhgfaaGreatDoorK1
import Derived.Deep.AppendSrc
import Derived.Laws.MakeOwn
import Derived.Laws.Tables
import Derived.OrdersIn
import Derived.RangeFuncRecord
import Derived.TacticsIn
set_option linter.unusedVariables false
set_option linter.unusedSimpArgs false
namespace Go.AI
open Go
section
variable {P:Program} {ρ:Ren} {W:World} {σ:St}
theorem size_data (s:ByteArray):s.data.toList.length=s.size:=by
 show s.data.toList.length=s.data.size
 simp
theorem sliceStr_sound {t:TypeId} (ht:P.underlying t=some .string) {s:ByteArray} {lo hi:Option D} {b h:Nat} {vlo vhi:Option Value}
 (h1:bound s.data.toList.length s.data.toList.length hi=some h) (h2:bound h 0 lo=some b) (hlo:OptR ρ W lo vlo) (hhi:OptR ρ W hi vhi):
 ∃v,(Instr.sliceAt t (.string s) vlo vhi none).run P W= .ok v W∧R ρ W (.str ((s.data.toList.take h).drop b)) v:=by
 rw [size_data] at h1
 obtain ⟨hb,hle,hle2⟩:=bounds_sound (P:=P) h1 h2 hlo hhi (Nat.le_refl _) false W
 refine ⟨.string (s.extract b h), ?_, ?_⟩
 ·simp [Instr.sliceAt,Instr.slice,run_underlying ht,hb]
 ·have: (s.extract b h).data.toList=(s.data.toList.take h).drop b:=by
   simp [ByteArray.data_extract,List.drop_take]
  rw [←this]
  exact .str _
theorem getElem?_dt {α:Type} (l:List α) (h b j:Nat): ((l.take h).drop b)[j]? =if b+j<h then l[b+j]? else none:=by
 rw [List.getElem?_drop,List.getElem?_take]
theorem sliceTree_sound {t e:TypeId} {sz:Nat} (ht:P.underlying t=some (.slice e)) (hs:sizeT P e=some sz) {es:List D} {vx:Value} (hx:R ρ W (.slice es) vx)
 (hall: (es.all fun e=>e.cells.length==sz)=true) {lo hi:Option D} {b h:Nat} {vlo vhi:Option Value}
 (h1:bound es.length es.length hi=some h) (h2:bound h 0 lo=some b) (hlo:OptR ρ W lo vlo) (hhi:OptR ρ W hi vhi):
 ∃v,(Instr.sliceAt t vx vlo vhi none).run P W= .ok v W∧R ρ W (.slice ((es.take h).drop b)) v:=by
 cases hx with
 |slice0 a c=>
  obtain ⟨hb,hle,hle2⟩:=bounds_sound (P:=P) (cap:=c) h1 h2 hlo hhi (by simp) true W
  simp only [List.length_nil,Nat.le_zero_eq] at hle2
  subst hle2
  obtain rfl:b=0:=by omega
  simp only [List.length_nil] at hb
  exact ⟨.slice (if c=0 then a else a.map (·.add (0*sz))) 0 c,by simp [Instr.sliceAt,Instr.slice,run_underlying ht,hb,run_size hs],by simpa using R.slice0 _ _⟩
 |slice hf hn hcap hsz hc hr=>
  rename_i bk off n c sz' f
  subst hn
  obtain ⟨hb,hle,hle2⟩:=bounds_sound (P:=P) h1 h2 hlo hhi hcap true W
  refine ⟨.slice (if c=b then some ⟨bk,off,none⟩ else some ((⟨bk,off,none⟩:Addr).add (b*sz))) (h - b) (c - b),by simp [Instr.sliceAt,Instr.slice,run_underlying ht,hb,run_size hs], ?_⟩
  by_cases hem: (es.take h).drop b=[]
  ·rw [hem]
   have:h - b=0:=by
    have:=congrArg List.length hem
    simp at this;omega
   rw [this]
   exact .slice0 _ _
  ·have hlt:b<h:=by
    rcases Nat.lt_or_ge b h with h'|h'
    ·exact h'
    ·exact absurd (List.eq_nil_of_length_eq_zero (by simp;omega)) hem
   rw [if_neg (by omega),add_none]
   have hsz1: ∀ (i:Nat) (e:D),es[i]? =some e→e.cells.length=sz:=fun i e he=>by
    have:=List.all_eq_true.1 hall e (List.mem_of_getElem? he)
    simpa using this
   have hsz2:sz'=sz:=by
    have h0:b<es.length:=by omega
    rw [←hsz b _ (List.getElem?_eq_getElem h0),←hsz1 b _ (List.getElem?_eq_getElem h0)]
   subst hsz2
   refine .slice (sz:=sz') (f:=fun i j=>f (b+i) j) hf (by simp;omega) (by omega) (fun i e he=> ?_) (fun i j e d he hd=> ?_) (fun i j e d he hd=> ?_)
   ·rw [getElem?_dt] at he
    split at he
    ·exact hsz _ e he
    ·cases he
   ·rw [getElem?_dt] at he
    split at he
    ·have:=hc _ j e d he hd
     rw [show off+b*sz'+ (i*sz'+j)=off+ ((b+i) *sz'+j) by rw [Nat.add_mul];omega]
     exact this
    ·cases he
   ·rw [getElem?_dt] at he
    split at he
    ·exact hr _ j e d he hd
    ·cases he
theorem sliceArr_sound {t e:TypeId} {sz:Nat} (ht:P.underlying t=some (.slice e)) (hs:sizeT P e=some sz) {i ver off n:Nat} {vx:Value} (hx:R ρ W (.arr i ver off n) vx)
 (hsz: ∀p,ρ.loc i ver=some p→p.sz=sz) {lo hi:Option D} {b h:Nat} {vlo vhi:Option Value}
 (h1:bound n n hi=some h) (h2:bound h 0 lo=some b) (hlo:OptR ρ W lo vlo) (hhi:OptR ρ W hi vhi):
 ∃v,(Instr.sliceAt t vx vlo vhi none).run P W= .ok v W∧R ρ W (if b=h then .slice [] else .arr i ver (off+b) (h - b)) v:=by
 cases hx with
 |arr0=>
  obtain ⟨hb,hle,hle2⟩:=bounds_sound (P:=P) (cap:=0) h1 h2 hlo hhi (Nat.le_refl _) true W
  obtain rfl:h=0:=by omega
  obtain rfl:b=0:=by omega
  exact ⟨.slice none 0 0,by simp [Instr.sliceAt,Instr.slice,run_underlying ht,hb,run_size hs],by simpa using R.slice0 _ _⟩
 |arr hp hn hc=>
  rename_i c p
  obtain ⟨hb,hle,hle2⟩:=bounds_sound (P:=P) h1 h2 hlo hhi hn true W
  refine ⟨.slice (if c=b then some ⟨p.blk,off*p.sz,none⟩ else some ((⟨p.blk,off*p.sz,none⟩:Addr).add (b*sz))) (h - b) (c - b),by simp [Instr.sliceAt,Instr.slice,run_underlying ht,hb,run_size hs], ?_⟩
  by_cases hbh:b=h
  ·rw [if_pos hbh]
   subst hbh
   rw [Nat.sub_self]
   exact .slice0 _ _
  ·rw [if_neg hbh,if_neg (by omega),add_none,←hsz p hp,←Nat.add_mul]
   exact .arr hp (by omega) (by omega)
theorem RowR.sz {i sz:Nat} {es:List D} {since ver:Nat} {p:Pl} (h:RowR ρ W i sz es since) (h1:since≤ver) (h2:ver≤es.length) (hp:ρ.loc i ver=some p):p.sz=sz:=by
 obtain ⟨_,_,_,hv⟩:=h
 rcases hv ver h1 h2 with ⟨rfl,hn⟩ | ⟨q,c,ty,hq,hs,_⟩
 ·rw [hp] at hn;cases hn
 ·rw [hp] at hq;cases hq;exact hs
theorem asInt_run (k:IntKind) (n:Int) (w:World): (asIntOf (.int k n)).run P w= .ok (k,n) w:=rfl
theorem indexTree_sound {t e:TypeId} {sz:Nat} (ht:P.underlying t=some (.slice e)) (hs:sizeT P e=some sz) {es:List D} {vx:Value} (hx:R ρ W (.slice es) vx)
 {k:IntKind} {n:Int} (h0:0≤n) (h1:n<es.length) {e1:D} (he:es[n.toNat]? =some e1) (hsz:e1.cells.length=sz):
 ∃v,(Instr.indexAt t vx (.int k n)).run P W= .ok v W∧R ρ W (.tptr e1.cells) v:=by
 cases hx with
 |slice0 a c=>simp at h1;omega
 |slice hf hn hcap hsz' hc hr=>
  rename_i b off m c sz' f
  have e2:sz'=sz:=by rw [←hsz' _ _ he,hsz]
  subst e2
  subst hn
  refine ⟨.pointer (some ⟨b,off+n.toNat*sz',none⟩),by simp [Instr.indexAt,asInt_run,run_underlying ht,run_size hs,h0,h1,add_none], ?_⟩
  refine .tptr (f:=fun j=>f n.toNat j) hf (fun j hj=> ?_) fun j d hd=>hr _ j _ d he hd
  have:=hc n.toNat j e1 _ he (List.getElem?_eq_getElem hj)
  rw [Nat.add_assoc];exact this
theorem indexArr_sound {t e:TypeId} {sz:Nat} (ht:P.underlying t=some (.slice e)) (hs:sizeT P e=some sz) {i ver off m:Nat} {vx:Value} (hx:R ρ W (.arr i ver off m) vx)
 (hsz: ∀p,ρ.loc i ver=some p→p.sz=sz) {k:IntKind} {n:Int} (h0:0≤n) (h1:n<m):
 ∃v,(Instr.indexAt t vx (.int k n)).run P W= .ok v W∧R ρ W (.rptr i ver (off+n.toNat) 0) v:=by
 cases hx with
 |arr0=>omega
 |arr hp hn hc=>
  rename_i c p
  refine ⟨.pointer (some ⟨p.blk,(off+n.toNat) *p.sz+0,none⟩), ?_, .rptr hp⟩
  rw [hsz p hp,Nat.add_mul,Nat.add_zero]
  simp [Instr.indexAt,asInt_run,run_underlying ht,run_size hs,h0,h1,add_none]
theorem drop_tptr {cs:List D} {b off:Nat} {f:Nat→Value} (hf:ρ.fix b)
 (hc: ∀j,j<cs.length→W.cell? ⟨b,off+j,none⟩=some (f j)) (hr: ∀j d,cs[j]? =some d→R ρ W d (f j)) (m:Nat):
 R ρ W (.tptr (cs.drop m)) (.pointer (some ⟨b,off+m,none⟩)):=by
 refine .tptr (f:=fun j=>f (m+j)) hf (fun j hj=> ?_) fun j d hd=> ?_
 ·rw [Nat.add_assoc];exact hc _ (by simp at hj;omega)
 ·rw [List.getElem?_drop] at hd;exact hr _ d hd
theorem fieldAt_run {t:TypeId} {fs:Array Field} {i:Nat} {f:Field} {sz:Nat} (ht:P.underlying t=some (.struct fs)) (hf:fs[i]? =some f) (hs:sizeT P f.type=some sz) (hz:sz≠0)
 (b off:Nat): (Instr.fieldAt t (.pointer (some ⟨b,off,none⟩)) i).run P W= .ok (.pointer (some ⟨b,off+f.offset,none⟩)) W:=by
 simp [Instr.fieldAt,run_underlying ht,hf,Instr.sureAddr,fieldPlace,run_size hs,hz,add_none]
theorem indexAtA_run {t e:TypeId} {len sz:Nat} (ht:P.underlying t=some (.array len e)) (hs:sizeT P e=some sz) {k:IntKind} {n:Int} (h0:0≤n) (h1:n<len)
 (b off:Nat): (Instr.indexAt t (.pointer (some ⟨b,off,none⟩)) (.int k n)).run P W= .ok (.pointer (some ⟨b,off+n.toNat*sz,none⟩)) W:=by
 simp [Instr.indexAt,asInt_run,run_underlying ht,run_size hs,h0,h1,add_none,Instr.sureAddr]
theorem indexStr_sound {t:TypeId} (ht:P.underlying t=some .string) {s:ByteArray} {k:IntKind} {n:Int} (h0:0≤n) (h1:n<s.data.toList.length) {b:UInt8}
 (hb:s.data.toList[n.toNat]? =some b): (Instr.index t (.string s) (.int k n)).run P W= .ok (.int .u8 b.toNat) W:=by
 have:s[n.toNat]? =some b:=by
  have hlt:n.toNat<s.size:=by rw [size_data] at h1;omega
  rw [getElem?_pos s n.toNat hlt]
  have h2:n.toNat<s.data.toList.length:=by omega
  rw [List.getElem?_eq_getElem h2] at hb
  simp only [Option.some.injEq] at hb
  rw [←hb]
  rfl
 simp [Instr.index,asInt_run,run_underlying ht,h0,this]
theorem sameNow_kind {u:TypeDesc} {t:TypeId} {kc:Nat} (hu:P.underlying t=some u) (hk:scalarK P t=some kc) {x y:D} {vx vy:Value} (hx:R ρ W x vx) (hy:R ρ W y vy) {b:Bool}
 (h:D.kindEq kc x y=some b):Instr.sameNow u vx vy=some b:=by
 unfold scalarK at hk
 rw [hu] at hk
 cases u<;>simp only [Option.some.injEq,reduceCtorEq] at hk<;>subst hk<;>cases hx<;>simp only [D.kindEq] at h<;>try (cases h;done)
 all_goals (cases hy<;>simp only at h<;>try (cases h;done))
 ·cases h;rfl
 ·split at h
  ·rename_i hjk;subst hjk;cases h;simp [Instr.sameNow]
  ·cases h
 ·cases h
  simp [Instr.sameNow,bytes_beq]
def EntsR (ρ:Ren) (W:World):List (D × D)→List MapEntry→Prop
 | [],[]=>True
 | (k,v)::l,e::m=>R ρ W k e.key∧R ρ W v e.val∧EntsR ρ W l m
 |_,_=>False
theorem entsR_of: ∀ {l:List (D × D)} {m:List MapEntry},m.length=l.length→(∀ (j:Nat) (k v:D),l[j]? =some (k,v)→ ∃e:MapEntry,m[j]? =some e∧R ρ W k e.key∧R ρ W v e.val)→EntsR ρ W l m
 | [],[],_,_=>trivial
 | [],_::_,h,_=>by simp at h
 |_::_,[],h,_=>by simp at h
 | (k,v)::l,e::m,h,hr=>by
  obtain ⟨e',he,h1,h2⟩:=hr 0 k v rfl
  cases he
  exact ⟨h1,h2,entsR_of (by simpa using h) fun j k v hj=>hr (j+1) k v (by simpa using hj)⟩
theorem entsR_to: ∀ {l:List (D × D)} {m:List MapEntry},EntsR ρ W l m→m.length=l.length∧ ∀ (j:Nat) (k v:D),l[j]? =some (k,v)→ ∃e:MapEntry,m[j]? =some e∧R ρ W k e.key∧R ρ W v e.val
 | [],[],_=>⟨rfl,fun j k v h=>by simp at h⟩
 | [],_::_,h=>h.elim
 |_::_,[],h=>h.elim
 | (k,v)::l,e::m,⟨h1,h2,h3⟩=>by
  obtain ⟨a,b⟩:=entsR_to h3
  refine ⟨by simp [a],fun j k' v' hj=> ?_⟩
  cases j with
  |zero=>simp at hj;obtain ⟨rfl,rfl⟩:=hj;exact ⟨e,rfl,h1,h2⟩
  |succ j=>exact b j k' v' (by simpa using hj)
def FoundR (ρ:Ren) (W:World):Option D→Option (Nat × Value)→Prop
 |none,none=>True
 |some d,some (_,v)=>R ρ W d v
 |_,_=>False
theorem find_sound {u:TypeDesc} {t:TypeId} {kc:Nat} (hu:P.underlying t=some u) (hk:scalarK P t=some kc) {x:D} {vx:Value} (hx:R ρ W x vx):
 ∀ {l:List (D × D)} {m:List MapEntry} {r:Option D} (i:Nat),EntsR ρ W l m→mapFind kc x l=some r→
  ∃o,Instr.findNow u vx m i=some o∧FoundR ρ W r o
 | [],[],r,i,_,h=>by cases h;exact ⟨none,rfl,trivial⟩
 | [],_::_,_,_,h,_=>h.elim
 |_::_,[],_,_,h,_=>h.elim
 | (k,v)::l,e::m,r,i,⟨h1,h2,h3⟩,h=>by
  simp only [mapFind] at h
  split at h
  ·rename_i hk'
   cases h
   refine ⟨some (i,e.val), ?_,h2⟩
   simp [Instr.findNow,sameNow_kind hu hk hx h1 hk']
  ·rename_i hk'
   obtain ⟨o,ho,hr⟩:=find_sound hu hk hx (i+1) h3 h
   exact ⟨o,by simp [Instr.findNow,sameNow_kind hu hk hx h1 hk',ho],hr⟩
  ·cases h
theorem checkKey_run {t:TypeId} {kc:Nat} (hk:scalarK P t=some kc) (b:Bool) (v:Value) (w:World): (Instr.checkKey b 10000 t v).run P w= .ok () w:=by
 unfold scalarK at hk
 cases hd:P.underlying t with
 |none=>simp [hd] at hk
 |some u=>
  rw [hd] at hk
  show (Instr.checkKey b (9999+1) t v).run P w= .ok () w
  unfold Instr.checkKey
  rw [Sem.run_bind,run_underlying hd,Result.andThen_ok]
  cases u<;>first| (simp at hk;done) |rfl
end
section
variable {P:Program} {ρ:Ren} {W:World} {σ:St}
def RC (ρ:Ren) (W:World) (sz:Nat) (es:List D) (cs:Array Value):Prop:=
 cs.size=es.length*sz∧(∀ (k:Nat) (e:D),es[k]? =some e→e.cells.length=sz)∧
 ∀ (idx:Nat) (e:D) (j:Nat) (d:D),es[idx]? =some e→e.cells[j]? =some d→R ρ W d (cs.getD (idx*sz+j) undef)
theorem RC.later {ρ':Ren} {W':World} (L:Later ρ W ρ' W') {sz:Nat} {es:List D} {cs:Array Value} (h:RC ρ W sz es cs):RC ρ' W' sz es cs:=
 ⟨h.1,h.2.1,fun idx e j d he hd=>(h.2.2 idx e j d he hd).later L⟩
theorem R.undef_irrel {d:D} {a b:Value} (h:a=b) (r:R ρ W d a):R ρ W d b:=h ▸ r
theorem RC.zeros {z:D} {zv:Value} (hz:R ρ W z zv) (ho:z.cells.all D.one=true) {sz:Nat} (hs:z.cells.length=sz) (n:Nat):
 RC ρ W sz (List.replicate n z) ((Array.range (n*sz)).map (fun i=>zv.cells[i % zv.cells.size]!)):=by
 obtain ⟨h1,h2⟩:=hz.cells ho
 have hsz:zv.cells.size=sz:=by rw [h1,hs]
 refine ⟨by simp,fun k e he=> ?_,fun idx e j d he hd=> ?_⟩
 ·obtain rfl:=List.eq_of_mem_replicate (List.mem_of_getElem? he)
  exact hs
 ·obtain rfl:=List.eq_of_mem_replicate (List.mem_of_getElem? he)
  have hj:j<sz:=by rw [←hs];exact (List.getElem?_eq_some_iff.1 hd).1
  have hi:idx<n:=by have:=(List.getElem?_eq_some_iff.1 he).1;simpa using this
  have hlt:idx*sz+j<n*sz:=mul_lt hi hj
  have hmod: (idx*sz+j) % sz=j:=by rw [Nat.mul_comm,Nat.mul_add_mod];exact Nat.mod_eq_of_lt hj
  have hjz:j<zv.cells.size:=by omega
  refine R.undef_irrel ?_ (h2 j d hd).1
  simp [Array.getD_eq_getD_getElem?,hlt,hsz,hmod]
  rw [getElem!_pos zv.cells j hjz,Array.getElem?_eq_getElem hjz]
  rfl
theorem fillRow_sound (sz:Nat): ∀ (l:List (Nat × Value)) (m:List (Nat × D)) (es es':List D) (cs:Array Value),
 (l.length=m.length∧ ∀ (j:Nat) (i:Nat) (d:D),m[j]? =some (i,d)→ ∃v,l[j]? =some (i,v)∧R ρ W d v)→RC ρ W sz es cs→fillRow sz es m=some es'→
 ∃cs',Instr.fill (fun i=>some (i*sz,sz)) cs l=some cs'∧RC ρ W sz es' cs'∧es'.length=es.length
 | [],[],es,es',cs,_,hc,h=>by cases h;exact ⟨cs,rfl,hc,rfl⟩
 | [],_::_,_,_,_,hp,_,_=>by simp at hp
 |_::_,[],_,_,_,hp,_,_=>by simp at hp
 | (i,v)::l,(i',d)::m,es,es',cs,⟨hp1,hp2⟩,hc,h=>by
  obtain ⟨v',hv',hr⟩:=hp2 0 i' d rfl
  simp only [List.getElem?_cons_zero,Option.some.injEq,Prod.mk.injEq] at hv'
  obtain ⟨rfl,rfl⟩:=hv'
  simp only [fillRow] at h
  split at h
  ·rename_i hcond
   obtain ⟨hdl,hi,hone⟩:=hcond
   obtain ⟨hvs,hvr⟩:=hr.cells hone
   have hsz':v.cells.size=sz:=by rw [hvs,hdl]
   have hfit:i*sz+v.cells.size≤cs.size:=by
    rw [hc.1,hsz']
    have: (i+1) *sz≤es.length*sz:=Nat.mul_le_mul_right sz hi
    rwa [Nat.succ_mul] at this
   have hfold:=foldl_set (i*sz) v.cells.toList 0 cs (by simpa using hfit)
   have hz:v.cells.zipIdx.foldl (fun cs (c:Value × Nat)=>cs.setIfInBounds (i*sz+c.2) c.1) cs=(v.cells.toList.zipIdx 0).foldl (fun cs (c:Value × Nat)=>cs.setIfInBounds (i*sz+c.2) c.1) cs:=by
    rw [←Array.foldl_toList];simp
   rw [←hz] at hfold
   simp only [Nat.add_zero,Array.length_toList] at hfold
   generalize hg:v.cells.zipIdx.foldl (fun cs (c:Value × Nat)=>cs.setIfInBounds (i*sz+c.2) c.1) cs=cs1 at hfold
   have hc1:RC ρ W sz (es.set i d) cs1:=by
    refine ⟨by rw [hfold.1,hc.1,List.length_set],fun k e he=> ?_,fun idx e j x he hx=> ?_⟩
    ·rw [List.getElem?_set] at he
     by_cases hik:i=k
     ·rw [if_pos hik,if_pos hi] at he;cases he;exact hdl
     ·rw [if_neg hik] at he;exact hc.2.1 k e he
    ·rw [hfold.2]
     rw [List.getElem?_set] at he
     by_cases hik:i=idx
     ·subst hik
      rw [if_pos rfl,if_pos hi] at he
      cases he
      have hj:j<sz:=by rw [←hdl];exact (List.getElem?_eq_some_iff.1 hx).1
      rw [if_pos (by omega)]
      refine R.undef_irrel ?_ (hvr j x hx).1
      have:i*sz+j - i*sz=j:=by omega
      rw [this]
      simp [Array.getD_eq_getD_getElem?,List.getD_eq_getElem?_getD]
     ·rw [if_neg hik] at he
      have hj:j<sz:=by rw [←hc.2.1 idx e he];exact (List.getElem?_eq_some_iff.1 hx).1
      have hne:idx*sz+j<i*sz∨i*sz+sz≤idx*sz+j:=by
       rcases Nat.lt_or_gt_of_ne hik with hlt|hgt
       ·right
        have: (i+1) *sz≤idx*sz:=Nat.mul_le_mul_right sz hlt
        rw [Nat.succ_mul] at this;omega
       ·left
        have: (idx+1) *sz≤i*sz:=Nat.mul_le_mul_right sz hgt
        rw [Nat.succ_mul] at this;omega
      rw [if_neg (by omega)]
      exact hc.2.2 idx e j x he hx
   obtain ⟨cs',hcs',hr',hl'⟩:=fillRow_sound sz l m (es.set i d) es' cs1 ⟨by simpa using hp1,fun j k x hj=>hp2 (j+1) k x (by simpa using hj)⟩ hc1 h
   refine ⟨cs', ?_,hr',by rw [hl',List.length_set]⟩
   simp only [Instr.fill]
   rw [if_neg (by simp [hsz'];omega)]
   have hg':Array.foldl (fun cs (x:Value × Nat)=>match x with| (c,j)=>cs.setIfInBounds (i*sz+j) c) cs v.cells.zipIdx=cs1:=hg
   rw [hg']
   exact hcs'
  ·cases h
theorem newTree_sound (hR:Rel ρ W σ) (t:TypeId) {sz:Nat} {es:List D} {cs:Array Value} (hc:RC ρ W sz es cs) (w0:World) (hw:w0=W.alloc (.cells cs t)):
 ∃ρ',Later ρ W ρ' w0∧Rel ρ' w0 σ∧R ρ' w0 (.slice es) (.slice (some ⟨W.heap.size,0,none⟩) es.length es.length):=by
 subst hw
 obtain ⟨L,hR'⟩:=hR.tree (.cells cs t)
 refine ⟨_,L,hR', .slice (sz:=sz) (f:=fun i j=>cs.getD (i*sz+j) undef) (.inr rfl) rfl (Nat.le_refl _) hc.2.1 (fun i j e d he hd=> ?_) fun i j e d he hd=>((hc.later L).2.2 i e j d he hd)⟩
 have hj:j<sz:=by rw [←hc.2.1 i e he];exact (List.getElem?_eq_some_iff.1 hd).1
 have hi:i<es.length:=(List.getElem?_eq_some_iff.1 he).1
 have hlt:i*sz+j<cs.size:=by rw [hc.1];exact mul_lt hi hj
 rw [cell?_cells (heap_alloc_at W _),Nat.zero_add]
 simp [Array.getD_eq_getD_getElem?,hlt]
theorem newRow_sound (hR:Rel ρ W σ) (t:TypeId) {sz cap:Nat} {es:List D} {cs:Array Value} {since:Nat} (hcap:es.length≤cap) (hsize:cs.size=cap*sz) (hs:since≤es.length)
 (hlen: ∀ (k:Nat) (e:D),es[k]? =some e→e.cells.length=sz∧e.cells.all D.one=true)
 (hc: ∀ (idx:Nat) (e:D) (j:Nat) (d:D),es[idx]? =some e→e.cells[j]? =some d→R ρ W d (cs.getD (idx*sz+j) undef)) (w0:World) (hw:w0=W.alloc (.cells cs t)):
 ∃ρ',Later ρ W ρ' w0∧Rel ρ' w0 (σ++[.row sz es since])∧R ρ' w0 (.arr σ.length es.length 0 es.length) (.slice (some ⟨W.heap.size,0,none⟩) es.length cap):=by
 subst hw
 let p:Pl:=⟨W.heap.size,sz,cap⟩
 let ρ':Ren:= {ρ with loc:=fun i v=>if i=σ.length then (if v≤es.length then some p else none) else ρ.loc i v}
 have hp: ∀v,v≤es.length→ρ'.loc σ.length v=some p:=fun v hv=>by simp [ρ',hv]
 have:=hR.push (ρ':=ρ') (W':=W.alloc (.cells cs t)) (o':= .row sz es since) (by simp) rfl rfl rfl
  (fun b hb=>heap_alloc_old W _ hb) (fun j v hj=>by simp [ρ',hj]) (fun v q hq=>by
   simp only [ρ',if_true] at hq
   split at hq
   ·cases hq;simp [p]
   ·cases hq) (fun _=>Iff.rfl) rfl
  (fun L=>⟨hs,hlen,fun ver hv=>by simp [ρ',Nat.not_le.2 hv],fun ver _ hv=> .inr ⟨p,cs,t,hp ver hv,rfl,Nat.le_trans hv hcap,heap_alloc_at W _,hsize,fun idx e j d _ he hd=>(hc idx e j d he hd).later L⟩⟩)
 refine ⟨ρ',this.1,this.2, ?_⟩
 have:=R.arr (ρ:=ρ') (W:=W.alloc (.cells cs t)) (i:=σ.length) (ver:=es.length) (off:=0) (n:=es.length) (c:=cap) (hp _ (Nat.le_refl _)) hcap (by simp [p])
 simpa [p] using this
theorem rowOf_src (hR:Rel ρ W σ) {x:D} {vx:Value} (hx:R ρ W x vx) {xs:List D} (h:rowOf σ x=some xs) {sz:Nat} (h0:0<sz)
 (hall: (xs.all fun e=>e.cells.length==sz&&e.cells.all D.one)=true) {tx e':TypeId} (hk:P.underlying tx=some (.slice e')):
 ∃news:List Value,Src P sz tx vx xs.length news W∧RC ρ W sz xs news.toArray:=by
 have hlen: ∀ (k:Nat) (e:D),xs[k]? =some e→e.cells.length=sz:=fun k e he=>by
  have:=List.all_eq_true.1 hall e (List.mem_of_getElem? he)
  simp at this;exact this.1
 have hone: ∀ (k:Nat) (e:D),xs[k]? =some e→e.cells.all D.one=true:=fun k e he=>by
  have:=List.all_eq_true.1 hall e (List.mem_of_getElem? he)
  simp only [Bool.and_eq_true] at this;exact this.2
 have main: ∀ (b off c:Nat),(∀ (idx:Nat) (e:D) (j:Nat) (d:D),xs[idx]? =some e→e.cells[j]? =some d→ ∃v,W.cell? ⟨b,off+ (idx*sz+j),none⟩=some v∧R ρ W d v)→
  ∃news:List Value,Src P sz tx (.slice (some ⟨b,off,none⟩) xs.length c) xs.length news W∧RC ρ W sz xs news.toArray:=by
  intro b off c hcell
  let f:Nat→Value:=fun k=>(W.cell? ⟨b,off+k,none⟩).getD undef
  have key: ∀k,k<xs.length*sz→ ∃e d,xs[k / sz]? =some e∧e.cells[k % sz]? =some d∧W.cell? ⟨b,off+k,none⟩=some (f k)∧R ρ W d (f k)∧(f k).oneCell'=true:=by
   intro k hk'
   have hq:k / sz<xs.length:=Nat.div_lt_of_lt_mul (by rw [Nat.mul_comm];exact hk')
   have hm:k % sz<sz:=Nat.mod_lt _ h0
   have he:=List.getElem?_eq_getElem hq
   have hl:=hlen _ _ he
   have hd:=List.getElem?_eq_getElem (l:=xs[k / sz].cells) (i:=k % sz) (by rw [hl];exact hm)
   obtain ⟨v,hv,hr⟩:=hcell _ _ _ _ he hd
   have hkk:k / sz*sz+k % sz=k:=by rw [Nat.mul_comm];exact Nat.div_add_mod k sz
   rw [hkk] at hv
   refine ⟨_,_,he,hd,by simp [f,hv],by simpa [f,hv] using hr, ?_⟩
   have h1:=List.all_eq_true.1 (hone _ _ he) _ (List.mem_of_getElem? hd)
   simpa [f,hv] using (hr.one h1).1
  refine ⟨(List.range (xs.length*sz)).map f,Src.ofSlice W hk _ _ _ _ (by simp) (fun j u hj=> ?_) (fun u hu=> ?_),by simp,hlen,fun idx e j d he hd=> ?_⟩
  ·rw [List.getElem?_map] at hj
   obtain ⟨k,hk1,rfl⟩:=Option.map_eq_some_iff.1 hj
   have hlt:j<xs.length*sz:=by have:=(List.getElem?_eq_some_iff.1 hk1).1;simpa using this
   rw [List.getElem?_range hlt] at hk1
   cases hk1
   obtain ⟨_,_,_,_,hc,_⟩:=key j hlt
   rw [add_none];exact hc
  ·obtain ⟨k,hk1,rfl⟩:=List.mem_map.1 hu
   obtain ⟨_,_,_,_,_,_,h1⟩:=key k (by simpa using hk1)
   exact h1
  ·have hj:j<sz:=by rw [←hlen idx e he];exact (List.getElem?_eq_some_iff.1 hd).1
   have hi:idx<xs.length:=(List.getElem?_eq_some_iff.1 he).1
   have hlt:idx*sz+j<xs.length*sz:=mul_lt hi hj
   obtain ⟨v,hv,hr⟩:=hcell idx e j d he hd
   refine R.undef_irrel ?_ hr
   simp [Array.getD_eq_getD_getElem?,hlt,f,hv]
 have nothing: ∀ (a:Option Addr) (c:Nat),xs=[]→ ∃news:List Value,Src P sz tx (.slice a 0 c) xs.length news W∧RC ρ W sz xs news.toArray:=by
  intro a c he
  subst he
  refine ⟨[], ?_,by simp,fun k e h=>by simp at h,fun idx e j d h=>by simp at h⟩
  cases a with
  |none=>exact Src.ofNil W hk c
  |some a=>exact Src.ofSlice W hk a 0 c [] (by simp) (fun j u h=>by simp at h) (fun u h=>by cases h)
 cases hx<;>simp only [rowOf] at h<;>try (cases h;done)
 case empty a=>cases h;exact nothing a 0 rfl
 case slice0 a c=>cases h;exact nothing a c rfl
 case slice es b off n c sz' f hf hn hcap hsz hc hr=>
  cases h
  subst hn
  by_cases hem:xs=[]
  ·subst hem;exact nothing _ _ rfl
  ·have h1:0<xs.length:=by
    cases xs with
    |nil=>exact absurd rfl hem
    |cons=>simp
   have e1:sz'=sz:=by rw [←hsz 0 _ (List.getElem?_eq_getElem h1),←hlen 0 _ (List.getElem?_eq_getElem h1)]
   subst e1
   exact main b off c fun idx e j d he hd=>⟨f idx j,hc idx j e d he hd,hr idx j e d he hd⟩
 case arr i ver off n c p hp hn hc=>
  have key: ∀sz' es since,RowR ρ W i sz' es since→(if since≤ver∧off+n≤ver∧ver≤es.length then some ((es.drop off).take n) else none)=some xs→
   ∃news:List Value,Src P sz tx (.slice (some ⟨p.blk,off*p.sz,none⟩) n c) xs.length news W∧RC ρ W sz xs news.toArray:=by
   intro sz' es since hrow h
   split at h
   ·rename_i hcond
    cases h
    have hxl: ((es.drop off).take n).length=n:=by simp;omega
    have hget: ∀ (idx:Nat) (e:D),((es.drop off).take n)[idx]? =some e→idx<n∧es[off+idx]? =some e:=by
     intro idx e he
     have hi:idx<n:=by have:=(List.getElem?_eq_some_iff.1 he).1;omega
     rw [List.getElem?_take_of_lt hi,List.getElem?_drop] at he
     exact ⟨hi,he⟩
    have e1:p.sz=sz':=hrow.sz hcond.1 hcond.2.2 hp
    by_cases hn0:n=0
    ·subst hn0
     have hem: (es.drop off).take 0=[]:=by simp
     have:=nothing (some ⟨p.blk,off*p.sz,none⟩) c hem
     exact this
    ·have e2:sz'=sz:=by
      have h1:0< ((es.drop off).take n).length:=by omega
      have he:=List.getElem?_eq_getElem h1
      have:=(hrow.2.1 _ _ (hget 0 _ he).2).1
      rw [←this,←hlen 0 _ he]
     subst e2
     have:=main p.blk (off*p.sz) c fun idx e j d he hd=>by
      obtain ⟨hi,he'⟩:=hget idx e he
      obtain ⟨_,_,hel⟩:=hrow.elem hcond.1 hcond.2.2 hp (by omega:off+idx<ver) he'
      obtain ⟨v,hv,hr⟩:=hel j d hd
      refine ⟨v, ?_,hr⟩
      rw [e1,show off*sz'+ (idx*sz'+j)=(off+idx) *sz'+j by rw [Nat.add_mul];omega]
      exact hv
     rw [hxl] at this ⊢
     exact this
   ·cases h
  split at h
  ·rename_i sz' es since hes;exact key _ _ _ (hR.obj i _ hes) h
  ·rename_i sz' es since hes;exact key _ _ _ (hR.obj i _ hes).1 h
  ·cases h
 case arr0 i=>
  have key: ∀ (es:List D) (since:Nat),(if since≤0∧0+0≤0∧0≤es.length then some ((es.drop 0).take 0) else none)=some xs→xs=[]:=by
   intro es since h
   split at h
   ·cases h;simp
   ·cases h
  split at h
  ·exact nothing _ _ (key _ _ h)
  ·exact nothing _ _ (key _ _ h)
  ·cases h
end
section
variable {P:Program} {ρ:Ren} {W:World} {σ:St}
theorem le_grownCap (w:World) (need old:Nat) (e:TypeId):need≤grownCap w need old e:=by
 unfold grownCap Question.cut;simp only [];omega
theorem zeroCells_size (z:Array Value) (n:Nat): (Builtin.zeroCells z n).size=n*z.size:=by simp [Builtin.zeroCells]
theorem RC.append {sz:Nat} {es xs:List D} {olds news:List Value} (h1:RC ρ W sz es olds.toArray) (h2:RC ρ W sz xs news.toArray):RC ρ W sz (es++xs) (olds++news).toArray:=by
 obtain ⟨a1,a2,a3⟩:=h1
 obtain ⟨b1,b2,b3⟩:=h2
 simp only [List.size_toArray] at a1 b1
 refine ⟨by simp [a1,b1,Nat.add_mul],fun k e he=> ?_,fun idx e j d he hd=> ?_⟩
 ·by_cases hk:k<es.length
  ·rw [List.getElem?_append_left hk] at he;exact a2 k e he
  ·rw [List.getElem?_append_right (by omega)] at he;exact b2 _ e he
 ·by_cases hk:idx<es.length
  ·rw [List.getElem?_append_left hk] at he
   have hj:j<sz:=by rw [←a2 idx e he];exact (List.getElem?_eq_some_iff.1 hd).1
   have hlt:idx*sz+j<olds.length:=by rw [a1];exact mul_lt hk hj
   refine R.undef_irrel ?_ (a3 idx e j d he hd)
   simp [Array.getD_eq_getD_getElem?,List.getElem?_append_left hlt]
  ·rw [List.getElem?_append_right (by omega)] at he
   have hge:olds.length≤idx*sz+j:=by
    rw [a1]
    have:=Nat.mul_le_mul_right sz (Nat.le_of_not_lt hk);omega
   refine R.undef_irrel ?_ (b3 (idx - es.length) e j d he hd)
   have: (idx - es.length) *sz+j=idx*sz+j - olds.length:=by
    rw [a1,Nat.sub_mul]
    have:=Nat.mul_le_mul_right sz (Nat.le_of_not_lt hk);omega
   simp [Array.getD_eq_getD_getElem?,List.getElem?_append_right hge,this]
theorem getD_append_left {a b:Array Value} {k:Nat} (h:k<a.size): (a++b).getD k undef=a.getD k undef:=by
 simp [Array.getD_eq_getD_getElem?,Array.getElem?_append_left h]
theorem arr_inv {i ver off n:Nat} {v:Value} (h:R ρ W (.arr i ver off n) v):
 (v= .slice none 0 0∧ver=0∧off=0∧n=0)∨ ∃c p,v= .slice (some ⟨p.blk,off*p.sz,none⟩) n c∧ρ.loc i ver=some p∧n≤c∧off+c≤p.cap:=by
 cases h with
 |arr hp hn hc=>exact .inr ⟨_,_,rfl,hp,hn,hc⟩
 |arr0=>exact .inl ⟨rfl,rfl,rfl,rfl⟩
theorem arr0_dom {i ver off n:Nat} (h:R ρ W (.arr i ver off n) (.slice none 0 0)):ρ.dom i:=by
 cases h with
 |arr0 h=>exact h
theorem append_sound (hR:Rel ρ W σ) {t tx e e' ty:TypeId} {sz bytes:Nat} (ht:P.underlying t=some (.slice e)) (htx:P.underlying tx=some (.slice e')) (hs:sizeT P e=some sz)
 (hb:bytesT P e=some bytes) {z:D} (hz:zeroT P e=some z) (hzl:z.cells.length=sz) (hzo:z.cells.all D.one=true) {look:AOpd→D} {s x:AOpd} {vs vx:Value}
 (hvs:R ρ W (look s) vs) (hvx:R ρ W (look x) vx) {nx:Nx} {σ':St} (h:stepOp look σ (.append sz bytes s x)=some (nx,σ')):
 ∃ρ' W' v d,nx= .value d∧(Builtin.append_ #[t,tx] ty #[vs,vx]).run P W= .ok v W'∧Later ρ W ρ' W'∧Rel ρ' W' σ'∧R ρ' W' d v:=by
 obtain ⟨i,hi,hsz⟩:=Option.map_eq_some_iff.1 hs
 have hby:i.bytes=bytes:=by unfold bytesT at hb;rw [hi] at hb;simpa using hb
 obtain ⟨zv,hzv,hzr⟩: ∃zv,i.zero=some zv∧valD zv=some z:=by
  unfold zeroT at hz
  rw [hi] at hz
  simp only at hz
  cases hq:i.zero with
  |none=>rw [hq] at hz;cases hz
  |some zv=>rw [hq] at hz;exact ⟨zv,rfl,hz⟩
 have hzsize:zv.cells.size=sz:=by rw [((valD_sound (ρ:=ρ) (W:=W) hzr).cells hzo).1,hzl]
 simp only [stepOp] at h
 split at h
 ·rename_i xs hxs
  split at h
  ·rename_i hcond
   obtain ⟨hall,hsz0,hbytes0⟩:=hcond
   obtain ⟨news,hsrc,hnews⟩:=rowOf_src hR hvx hxs hsz0 hall htx
   subst hsz
   have hxone: ∀ (k:Nat) (e:D),xs[k]? =some e→e.cells.all D.one=true:=fun k e he=>by
    have:=List.all_eq_true.1 hall e (List.mem_of_getElem? he)
    simp only [Bool.and_eq_true] at this;exact this.2
   have grow: ∀ (es:List D) (base:Option Addr) (c:Nat) (olds:List Value),vs= .slice base es.length c→c<es.length+xs.length→(es.length+xs.length) *bytes≤140737488355328→
    (Builtin.firstCells i.size es.length (.slice base es.length c)).run P W.drew= .ok olds.toArray W.drew→RC ρ W i.size es olds.toArray→
    ∃ (cells:Array Value) (nc:Nat),(Builtin.append_ #[t,tx] ty #[vs,vx]).run P W= .ok (.slice (some ⟨W.heap.size,0,none⟩) (es.length+xs.length) nc) (W.drew.alloc (.cells cells e))∧
     es.length+xs.length≤nc∧cells.size=nc*i.size∧(∀ (k:Nat) (e:D),(es++xs)[k]? =some e→e.cells.length=i.size)∧
     ∀ (idx:Nat) (e:D) (j:Nat) (d:D),(es++xs)[idx]? =some e→e.cells[j]? =some d→R ρ W d (cells.getD (idx*i.size+j) undef):=by
    intro es base c olds hv hc hlim hold holdR
    subst hv
    have hlen:es.length+xs.length≤140737488355328:=Nat.le_trans (Nat.le_mul_of_pos_right _ hbytes0) hlim
    have hfit:=growslice_fits (bytes:=i.bytes) hc (by rw [hby];exact hlim)
    have hrun:=run_append_grow_src W t tx ty e i zv ht hi hzv base es.length c olds hold vx xs.length news hsrc hc (by omega) hfit
    have hRC:=holdR.append hnews
    have hsize0: (olds++news).toArray.size=(es.length+xs.length) *i.size:=by rw [hRC.1,List.length_append]
    refine ⟨_,_,hrun,le_grownCap .., ?_,hRC.2.1,fun idx e1 j d he hd=> ?_⟩
    ·rw [Array.size_append,hsize0,zeroCells_size,hzsize,←Nat.add_mul]
     congr 1
     have:=le_grownCap W (es.length+xs.length) c e
     omega
    ·have hj:j<i.size:=by rw [←hRC.2.1 idx e1 he];exact (List.getElem?_eq_some_iff.1 hd).1
     have hix:idx<es.length+xs.length:=by have:=(List.getElem?_eq_some_iff.1 he).1;simpa using this
     rw [getD_append_left (by rw [hsize0];exact mul_lt hix hj)]
     exact hRC.2.2 idx e1 j d he hd
   have nilRC:RC ρ W i.size [] ([]:List Value).toArray:=⟨by simp,fun k e h=>by simp at h,fun idx e j d h=>by simp at h⟩
   have hfirst0: ∀ (a:Option Addr) (c:Nat),(Builtin.firstCells i.size 0 (.slice a 0 c)).run P W.drew= .ok ([]:List Value).toArray W.drew:=by
    intro a c
    cases a with
    |none=>exact run_firstCells_none _ _ _ _ _
    |some a=>exact run_firstCells_some _ _ _ _ _ _ [] (by simp) (fun j v h=>by simp at h)
   split at h
   ·
    rename_i hls
    rw [hls] at hvs
    cases hvs with
    |empty a=>
     split at h
     ·rename_i hlim
      split at h
      ·rename_i hnil
       cases h
       subst hnil
       refine ⟨ρ,W, .slice a 0 0, .empty,rfl, ?_,Later.refl _ _,hR, .empty a⟩
       have hn0:news=[]:=List.eq_nil_of_length_eq_zero (by simpa using hsrc.newsLen)
       subst hn0
       have hl:=hsrc.len
       have hcl:=hsrc.cells
       simp only [List.length_nil] at hl hcl
       cases a<;>simp [Builtin.append_,run_underlying ht,run_underlying htx,sizeOf,typeInfo,hi,hl,hcl,storeCells]
      ·rename_i hnil
       cases h
       have hpos:0<xs.length:=by
        cases xs with
        |nil=>exact absurd rfl hnil
        |cons=>simp
       obtain ⟨cells,nc,hrun,hle,hcs,hcl,hcr⟩:=grow [] a 0 [] rfl (by simpa using hpos) (by simpa using hlim) (hfirst0 a 0) nilRC
       simp only [List.length_nil,Nat.zero_add,List.nil_append] at hrun hle hcl hcr
       obtain ⟨L0,hR0⟩:=hR.drew
       obtain ⟨ρ',L,hR',hr'⟩:=newRow_sound hR0 e hle hcs (Nat.le_refl _) (fun k e1 he=>⟨hcl k e1 he,hxone k e1 he⟩) (fun idx e1 j d he hd=>(hcr idx e1 j d he hd).later L0) _ rfl
       exact ⟨ρ',_,_,_,rfl,hrun,L0.trans L,hR',hr'⟩
     ·cases h
   ·
    rename_i i0 ver off n hls
    rw [hls] at hvs
    split at h
    ·rename_i sz' es since hes
     split at h
     ·rename_i hcond
      obtain ⟨rfl,rfl,rfl,rfl,hlim,hsince⟩:=hcond
      cases h
      have hrow:=hR.obj i0 _ hes
      obtain ⟨hrs,hrl,hrn,hrv⟩:=id hrow
      have place: ∀ (p:Pl) (c:Nat),ρ.loc i0 es.length=some p→vs= .slice (some ⟨p.blk,0*p.sz,none⟩) es.length c→0+c≤p.cap→es.length+xs.length≤c→
       ∃ρ' W' v d,Nx.value (.arr i0 (es.length+xs.length) 0 (es.length+xs.length))= .value d∧(Builtin.append_ #[t,tx] ty #[vs,vx]).run P W= .ok v W'∧Later ρ W ρ' W'∧
        Rel ρ' W' (σ.set i0 (.row i.size (es++xs) since))∧R ρ' W' d v:=by
       intro p c hp hv hc hroom
       subst hv
       rcases hrv es.length hrs (Nat.le_refl _) with ⟨hz0,hn⟩ | ⟨q,cur,cty,hq,hqs,hqc,hh,hcz,hr⟩
       ·rw [hz0,hn] at hp;cases hp
       rw [hp] at hq;cases hq
       have hnl:news.length=xs.length*i.size:=hsrc.newsLen
       have hfit:es.length*i.size+news.length≤cur.size:=by
        rw [hnl,hcz,←Nat.add_mul];exact Nat.mul_le_mul_right _ (by omega)
       have hst:=run_storeCells_at (P:=P) p.blk (es.length*i.size) cty news 0 cur W hh (by simpa using hfit) hsrc.one
       simp only [Nat.add_zero] at hst
       have hrun: (Builtin.append_ #[t,tx] ty #[.slice (some ⟨p.blk,0*p.sz,none⟩) es.length c,vx]).run P W=
        .ok (.slice (some ⟨p.blk,0*p.sz,none⟩) (es.length+xs.length) c) (W.setRow p.blk (cur.toList.take (es.length*i.size)++news++cur.toList.drop (es.length*i.size+news.length)).toArray):=by
        simp [Builtin.append_,run_underlying ht,run_underlying htx,sizeOf,typeInfo,hi,hsrc.len,hroom,hsrc.cells,add_none,hst]
       have hg:=getD_put hfit
       have hgz:=size_put hfit
       generalize (cur.toList.take (es.length*i.size)++news++cur.toList.drop (es.length*i.size+news.length)).toArray=cn at hrun hg hgz
       let ρ':Ren:= {ρ with loc:=fun k v=>if k=i0 then (if v≤es.length then ρ.loc i0 v else if v≤es.length+xs.length then some p else none) else ρ.loc k v}
       have hold: ∀v,v≤es.length→ρ'.loc i0 v=ρ.loc i0 v:=fun v hv=>by simp [ρ',hv]
       have hnewv: ∀v,es.length<v→v≤es.length+xs.length→ρ'.loc i0 v=some p:=fun v hv hv'=>by simp [ρ',Nat.not_le.2 hv,hv']
       have hch:=hR.change (ρ':=ρ') (W':=W.setRow p.blk cn) hes rfl (o':= .row i.size (es++xs) since) (by simp) rfl rfl rfl
        (fun b _ hne=>setRow_other W p.blk b cn (fun hbe=>hne _ p hp hbe.symm)) (fun j v hj=>by simp [ρ',hj])
        (fun v q hq=>by
          by_cases hv:v≤es.length
          ·rw [hold v hv];exact hq
          ·rw [hrn v (by omega)] at hq;cases hq)
        (fun v q hq=>by
          by_cases hv:v≤es.length
          ·rw [hold v hv] at hq;exact .inl ⟨v,q,hq,rfl⟩
          ·by_cases hv':v≤es.length+xs.length
           ·rw [hnewv v (by omega) hv'] at hq;cases hq;exact .inl ⟨_,p,hp,rfl⟩
           ·simp [ρ',hv,hv'] at hq)
        (fun _=>Iff.rfl) rfl
        (fun L=>by
          refine ⟨by simp;omega,fun k e1 he=> ?_,fun v hv=> ?_,fun v hv1 hv2=> ?_⟩
          ·by_cases hk:k<es.length
           ·rw [List.getElem?_append_left hk] at he;exact hrl k e1 he
           ·rw [List.getElem?_append_right (by omega)] at he;exact ⟨hnews.2.1 _ e1 he,hxone _ e1 he⟩
          ·simp only [List.length_append] at hv
           simp only [ρ',if_true]
           rw [if_neg (by omega),if_neg (by omega)]
          ·simp only [List.length_append] at hv2
           have keep: ∀ (idx:Nat) (e1:D) (j:Nat) (d:D),idx<es.length→es[idx]? =some e1→e1.cells[j]? =some d→cn.getD (idx*i.size+j) undef=cur.getD (idx*i.size+j) undef:=by
            intro idx e1 j d hidx he hd
            have hj:j<i.size:=by rw [←(hrl idx e1 he).1];exact (List.getElem?_eq_some_iff.1 hd).1
            rw [hg,if_pos (mul_lt hidx hj)]
           by_cases hv:v≤es.length
           ·rcases hrv v hv1 hv with ⟨hv0,hn⟩ | ⟨q,c1,ty1,hq1,hqs1,hqc1,hh1,hcz1,hr1⟩
            ·exact .inl ⟨hv0,by rw [hold 0 (by omega)];exact hn⟩
            ·right
             by_cases hqb:q.blk=p.blk
             ·rw [hqb,hh] at hh1
              cases hh1
              refine ⟨q,cn,cty,by rw [hold v hv];exact hq1,hqs1,hqc1,by rw [hqb];exact setRow_heap W p.blk cur _ cty _ hh,by rw [hgz,hcz1],fun idx e1 j d hidx he hd=> ?_⟩
              rw [List.getElem?_append_left (by omega)] at he
              rw [keep idx e1 j d (by omega) he hd]
              exact (hr1 idx e1 j d hidx he hd).later L
             ·refine ⟨q,c1,ty1,by rw [hold v hv];exact hq1,hqs1,hqc1,by rw [setRow_other W p.blk q.blk cn hqb];exact hh1,hcz1,fun idx e1 j d hidx he hd=> ?_⟩
              rw [List.getElem?_append_left (by omega)] at he
              exact (hr1 idx e1 j d hidx he hd).later L
           ·right
            refine ⟨p,cn,cty,hnewv v (by omega) hv2,hqs,by omega,setRow_heap W p.blk cur _ cty _ hh,by rw [hgz,hcz],fun idx e1 j d hidx he hd=> ?_⟩
            by_cases hk:idx<es.length
            ·rw [List.getElem?_append_left hk] at he
             rw [keep idx e1 j d hk he hd]
             exact (hr idx e1 j d hk he hd).later L
            ·rw [List.getElem?_append_right (by omega)] at he
             have hj:j<i.size:=by rw [←hnews.2.1 _ e1 he];exact (List.getElem?_eq_some_iff.1 hd).1
             have hix:idx - es.length<xs.length:=(List.getElem?_eq_some_iff.1 he).1
             have hge:es.length*i.size≤idx*i.size:=Nat.mul_le_mul_right _ (by omega)
             have hsub: (idx - es.length) *i.size+j=idx*i.size+j - es.length*i.size:=by rw [Nat.sub_mul];omega
             have hlt:=mul_lt hix hj
             rw [hg,if_neg (by omega),if_pos (by rw [hnl];omega)]
             have:=((hnews.later L).2.2 _ e1 j d he hd)
             rw [hsub] at this
             simpa [Array.getD_eq_getD_getElem?,List.getD_eq_getElem?_getD] using this)
       refine ⟨ρ',_,_,_,rfl,hrun,hch.1,hch.2, ?_⟩
       have hpl:ρ'.loc i0 (es.length+xs.length)=some p:=by
        by_cases hx0:xs.length=0
        ·rw [hx0,Nat.add_zero,hold _ (Nat.le_refl _)];exact hp
        ·exact hnewv _ (by omega) (Nat.le_refl _)
       exact .arr hpl hroom hc
      have fresh: ∀ (base:Option Addr) (c:Nat) (olds:List Value),vs= .slice base es.length c→c<es.length+xs.length→
       (Builtin.firstCells i.size es.length (.slice base es.length c)).run P W.drew= .ok olds.toArray W.drew→RC ρ W i.size es olds.toArray→
       ∃ρ' W' v d,Nx.value (.arr i0 (es.length+xs.length) 0 (es.length+xs.length))= .value d∧(Builtin.append_ #[t,tx] ty #[vs,vx]).run P W= .ok v W'∧Later ρ W ρ' W'∧
        Rel ρ' W' (σ.set i0 (.row i.size (es++xs) since))∧R ρ' W' d v:=by
       intro base c olds hv hc hold0 holdR
       obtain ⟨cells,nc,hrun,hle,hcs,hcl,hcr⟩:=grow es base c olds hv hc hlim hold0 holdR
       let p:Pl:=⟨W.heap.size,i.size,nc⟩
       let ρ':Ren:= {ρ with loc:=fun k v=>if k=i0 then (if v≤es.length then ρ.loc i0 v else if v≤es.length+xs.length then some p else none) else ρ.loc k v}
       have hpos:0<xs.length∨xs.length=0:=by omega
       have hold: ∀v,v≤es.length→ρ'.loc i0 v=ρ.loc i0 v:=fun v hv=>by simp [ρ',hv]
       have hnewv: ∀v,es.length<v→v≤es.length+xs.length→ρ'.loc i0 v=some p:=fun v hv hv'=>by simp [ρ',Nat.not_le.2 hv,hv']
       have hheap: ∀b,b<W.heap.size→(W.drew.alloc (.cells cells e)).heap[b]? =W.heap[b]? :=fun b hb=>heap_alloc_old W.drew _ hb
       have hat: (W.drew.alloc (.cells cells e)).heap[W.heap.size]? =some (.cells cells e):=heap_alloc_at W.drew _
       have hch:=hR.change (ρ':=ρ') (W':=W.drew.alloc (.cells cells e)) hes rfl (o':= .row i.size (es++xs) since) (by simp) rfl rfl rfl
        (fun b hb _=>hheap b hb) (fun j v hj=>by simp [ρ',hj])
        (fun v q hq=>by
          by_cases hv:v≤es.length
          ·rw [hold v hv];exact hq
          ·rw [hrn v (by omega)] at hq;cases hq)
        (fun v q hq=>by
          by_cases hv:v≤es.length
          ·rw [hold v hv] at hq;exact .inl ⟨v,q,hq,rfl⟩
          ·by_cases hv':v≤es.length+xs.length
           ·rw [hnewv v (by omega) hv'] at hq;cases hq;right;simp [p]
           ·simp [ρ',hv,hv'] at hq)
        (fun _=>Iff.rfl) rfl
        (fun L=>by
          refine ⟨by simp;omega,fun k e1 he=>⟨hcl k e1 he, ?_⟩,fun v hv=> ?_,fun v hv1 hv2=> ?_⟩
          ·by_cases hk:k<es.length
           ·rw [List.getElem?_append_left hk] at he;exact (hrl k e1 he).2
           ·rw [List.getElem?_append_right (by omega)] at he;exact hxone _ e1 he
          ·simp only [List.length_append] at hv
           simp only [ρ',if_true]
           rw [if_neg (by omega),if_neg (by omega)]
          ·simp only [List.length_append] at hv2
           by_cases hv:v≤es.length
           ·rcases hrv v hv1 hv with ⟨hv0,hn⟩ | ⟨q,c1,ty1,hq1,hqs1,hqc1,hh1,hcz1,hr1⟩
            ·exact .inl ⟨hv0,by rw [hold 0 (by omega)];exact hn⟩
            ·right
             refine ⟨q,c1,ty1,by rw [hold v hv];exact hq1,hqs1,hqc1,by rw [hheap q.blk (hR.blk i0 v q hq1).1];exact hh1,hcz1,fun idx e1 j d hidx he hd=> ?_⟩
             rw [List.getElem?_append_left (by omega)] at he
             exact (hr1 idx e1 j d hidx he hd).later L
           ·right
            exact ⟨p,cells,e,hnewv v (by omega) hv2,rfl,Nat.le_trans hv2 hle,hat,hcs,fun idx e1 j d _ he hd=>(hcr idx e1 j d he hd).later L⟩)
       refine ⟨ρ',_,_,_,rfl,hrun,hch.1,hch.2, ?_⟩
       have hx0:xs.length≠0∨xs.length=0:=by omega
       by_cases hx0:xs.length=0
       ·exfalso
        subst hv
        have hle':es.length≤c:=by
         rcases arr_inv hvs with ⟨h1,_,_,h2⟩ | ⟨c',p',h1,_,h2,_⟩
         ·omega
         ·cases h1;exact h2
        omega
       ·have:=R.arr (ρ:=ρ') (W:=W.drew.alloc (.cells cells e)) (off:=0) (hnewv (es.length+xs.length) (by omega) (Nat.le_refl _)) hle (by simp [p])
        simpa [p] using this
      have hself:rowOf σ (.arr i0 es.length 0 es.length)=some es:=by
       simp only [rowOf,hes]
       rw [if_pos ⟨hrs,by omega,Nat.le_refl _⟩]
       simp
      rcases arr_inv hvs with ⟨h1,h2,_,_⟩ | ⟨c,p,h1,hp,hn,hc⟩
      ·obtain rfl:es=[]:=List.eq_nil_of_length_eq_zero h2
       by_cases hx0:xs=[]
       ·subst hx0
        subst h1
        have hn0:news=[]:=List.eq_nil_of_length_eq_zero (by simpa using hsrc.newsLen)
        subst hn0
        have hl:=hsrc.len
        have hcl:=hsrc.cells
        simp only [List.length_nil] at hl hcl
        refine ⟨ρ,W, .slice none 0 0,_,rfl, ?_,Later.refl _ _, ?_, .arr0 (arr0_dom hvs)⟩
        ·simp [Builtin.append_,run_underlying ht,run_underlying htx,sizeOf,typeInfo,hi,hl,hcl]
        ·have:σ.set i0 (.row i.size ([]++[]) since)=σ:=by
          apply List.ext_getElem?
          intro k
          rw [List.getElem?_set]
          by_cases hk:i0=k
          ·subst hk
           rw [if_pos rfl,if_pos (List.getElem?_eq_some_iff.1 hes).1,hes]
           rfl
          ·rw [if_neg hk]
         rw [this];exact hR
       ·have hpos:0<xs.length:=by
         cases xs with
         |nil=>exact absurd rfl hx0
         |cons=>simp
        exact fresh none 0 [] h1 (by simpa using hpos) (hfirst0 none 0) nilRC
      ·by_cases hroom:es.length+xs.length≤c
       ·exact place p c hp h1 hc hroom
       ·have hall0: (es.all fun e=>e.cells.length==i.size&&e.cells.all D.one)=true:=by
         refine List.all_eq_true.2 fun x hx=> ?_
         obtain ⟨k,hk⟩:=List.mem_iff_getElem?.1 hx
         obtain ⟨a,b⟩:=hrl k x hk
         simp [a,b]
        obtain ⟨olds,osrc,oRC⟩:=rowOf_src hR hvs hself hsz0 hall0 ht
        refine fresh _ c olds h1 (by omega) ?_ oRC
        rw [←h1];exact osrc.cellsD
     ·cases h
    ·cases h
   ·cases h
  ·cases h
 ·cases h
end
section
variable {P:Program} {ρ:Ren} {W:World} {σ:St}
theorem copy_sound (hR:Rel ρ W σ) {t tx e e' ty:TypeId} {sz:Nat} (ht:P.underlying t=some (.slice e)) (htx:P.underlying tx=some (.slice e')) (hs:sizeT P e=some sz) {look:AOpd→D} {s x:AOpd} {vs vx:Value}
 (hvs:R ρ W (look s) vs) (hvx:R ρ W (look x) vx) {nx:Nx} {σ':St} (h:stepOp look σ (.copyAll sz s x)=some (nx,σ')):
 ∃ρ' W' v d,nx= .value d∧(Builtin.copy_ #[t,tx] ty #[vs,vx]).run P W= .ok v W'∧Later ρ W ρ' W'∧Rel ρ' W' σ'∧R ρ' W' d v:=by
 obtain ⟨i,hi,hsz⟩:=Option.map_eq_some_iff.1 hs
 simp only [stepOp] at h
 split at h
 ·rename_i xs hxs
  split at h
  ·rename_i hcond
   obtain ⟨hall,hsz0⟩:=hcond
   obtain ⟨news,hsrc,hnews⟩:=rowOf_src hR hvx hxs hsz0 hall htx
   subst hsz
   split at h
   ·rename_i i0 ver off n hls
    rw [hls] at hvs
    split at h
    ·rename_i h0
     obtain ⟨rfl,rfl⟩:=h0
     cases h
     have hl:=hsrc.len W
     have hcl:=hsrc.cells
     have hn0:news=[]:=List.eq_nil_of_length_eq_zero (by simpa using hsrc.newsLen)
     subst hn0
     simp only [List.length_nil] at hl hcl
     refine ⟨ρ,W, .int .i64 0, .int .i64 0,rfl, ?_,Later.refl _ _,hR, .int _ _⟩
     rcases arr_inv hvs with ⟨rfl,_,_,_⟩ | ⟨c,p,rfl,_,_,_⟩
     ·simp [Builtin.copy_,run_underlying ht,sizeOf,typeInfo,hi,hl,hcl,storeCells,goInt]
     ·simp [Builtin.copy_,run_underlying ht,sizeOf,typeInfo,hi,hl,hcl,storeCells,goInt]
    ·rename_i h0
     split at h
     ·rename_i sz' es since hes
      split at h
      ·rename_i hc
       obtain ⟨rfl,rfl,hn,rfl,hxl⟩:=hc
       cases h
       have hpos:0<es.length:=by
        rcases Nat.eq_zero_or_pos es.length with hz|hz
        ·exact absurd ⟨by omega,List.eq_nil_of_length_eq_zero (by omega)⟩ h0
        ·exact hz
       rcases arr_inv hvs with ⟨_,hv0,_,_⟩ | ⟨c,p,rfl,hp,hcn,hcap⟩
       ·omega
       obtain ⟨h1,h2,h4,h3⟩:=hR.obj i0 _ hes
       rcases h3 es.length h1 (Nat.le_refl _) with ⟨hz,_⟩ | ⟨q,cur,cty,hq,hqs,hqc,hh,hcz,hr⟩
       ·omega
       rw [hp] at hq;cases hq
       have hnl:news.length=n*i.size:=by rw [hsrc.newsLen,hxl]
       have hfit:0+news.length≤cur.size:=by
        rw [hnl,hcz,Nat.zero_add];exact Nat.mul_le_mul_right _ (by omega)
       have hst:=run_storeCells_at (P:=P) p.blk 0 cty news 0 cur W hh (by simpa using hfit) hsrc.one
       simp only [Nat.add_zero] at hst
       have hl:=hsrc.len W
       have hcl:=hsrc.cells
       rw [hxl] at hl hcl
       have hrun: (Builtin.copy_ #[t,tx] ty #[.slice (some ⟨p.blk,0*p.sz,none⟩) n c,vx]).run P W= .ok (.int .i64 n) (W.setRow p.blk (cur.toList.take 0++news++cur.toList.drop (0+news.length)).toArray):=by
        simp only [Nat.zero_mul]
        simp [Builtin.copy_,run_underlying ht,sizeOf,typeInfo,hi,hl,hcl,goInt] at hst ⊢
        simp [hst]
       have hg:=getD_put hfit
       have hgz:=size_put hfit
       generalize (cur.toList.take 0++news++cur.toList.drop (0+news.length)).toArray=cn at hrun hg hgz
       obtain ⟨L,hR'⟩:=setRow_change hR hes rfl hp cn (o':= .row i.size xs n) fun L=>by
        refine ⟨by omega,fun k e1 hk=> ?_,fun ver hv=>h4 ver (by omega),fun ver hv1 hv2=> ?_⟩
        ·have:=List.all_eq_true.1 hall e1 (List.mem_of_getElem? hk)
         simp only [Bool.and_eq_true,beq_iff_eq] at this
         exact this
        ·have hver:ver=es.length:=by omega
         subst hver
         refine .inr ⟨p,cn,cty,hp,hqs,by omega,setRow_heap W p.blk cur _ cty _ hh,by rw [hgz,hcz],fun k e1 j d hk he1 hd=> ?_⟩
         have hj:j<i.size:=by rw [←hnews.2.1 k e1 he1];exact (List.getElem?_eq_some_iff.1 hd).1
         have hlt:k*i.size+j<news.length:=by rw [hnl];exact mul_lt (by omega) hj
         rw [hg,if_neg (by omega),if_pos (by omega)]
         have:=(hnews.2.2 k e1 j d he1 hd).later L
         simpa [Array.getD_eq_getD_getElem?,List.getD_eq_getElem?_getD] using this
       exact ⟨ρ,_,_,_,rfl,hrun,L,hR', .int _ _⟩
      ·cases h
     ·cases h
   ·cases h
  ·cases h
 ·cases h
end
section
variable {P:Program} {ρ:Ren} {W:World} {σ:St}
theorem getObj_run {r:Nat} {o:Go.Obj} (h:W.heap[r]? =some o) (hn: ∀c t f,o≠ .cells c t f): (getObj r).run P W= .ok o W:=by
 simp only [getObj,Sem.run,h]
theorem setObj_run {r:Nat} {o o':Go.Obj} (h:W.heap[r]? =some o) (hn: ∀c t f,o≠ .cells c t f): (setObj r o').run P W= .ok () {W with heap:=W.heap.setIfInBounds r o'} :=by
 simp only [setObj,Sem.run,h]
theorem setObj_change (hR:Rel ρ W σ) {i:Nat} {o o':Obj} (ho:σ[i]? =some o) (hlive:o.live=true) {ver:Nat} {p:Pl} (hp:ρ.loc i ver=some p) (ob:Go.Obj)
 (hobj:Later ρ W ρ {W with heap:=W.heap.setIfInBounds p.blk ob} →ObjR ρ {W with heap:=W.heap.setIfInBounds p.blk ob} i o'):
 Later ρ W ρ {W with heap:=W.heap.setIfInBounds p.blk ob} ∧Rel ρ {W with heap:=W.heap.setIfInBounds p.blk ob} (σ.set i o'):=
 hR.change ho hlive (by simp) rfl rfl rfl (fun b _ hne=>by simp [hne ver p hp]) (fun _ _ _=>rfl) (fun _ _ h=>h)
  (fun v q hq=> .inl ⟨v,q,hq,rfl⟩) (fun _=>Iff.rfl) rfl hobj
theorem heap_set_at {r:Nat} {o ob:Go.Obj} (h:W.heap[r]? =some o): ({W with heap:=W.heap.setIfInBounds r ob} :World).heap[r]? =some ob:=by
 have:r<W.heap.size:=(Array.getElem?_eq_some_iff.1 h).1
 simp [this]
theorem newObj_sound (hR:Rel ρ W σ) (ob:Go.Obj) (o':Obj)
 (hobj: ∀ρ' p,ρ'.loc σ.length 0=some p→p.blk=W.heap.size→ObjR ρ' (W.alloc ob) σ.length o'):
 ∃ρ' p,(newObj ob).run P W= .ok W.heap.size (W.alloc ob)∧Later ρ W ρ' (W.alloc ob)∧Rel ρ' (W.alloc ob) (σ++[o'])∧ρ'.loc σ.length 0=some p∧p.blk=W.heap.size:=by
 let p:Pl:=⟨W.heap.size,1,0⟩
 let ρ':Ren:= {ρ with loc:=fun i v=>if i=σ.length then (if v=0 then some p else none) else ρ.loc i v}
 have hp:ρ'.loc σ.length 0=some p:=by simp [ρ']
 have:=hR.push (ρ':=ρ') (W':=W.alloc ob) (o':=o') (by simp) rfl rfl rfl
  (fun b hb=>heap_alloc_old W _ hb) (fun j v hj=>by simp [ρ',hj]) (fun v q hq=>by
   simp only [ρ',if_true] at hq
   split at hq
   ·cases hq;simp [p]
   ·cases hq) (fun _=>Iff.rfl) rfl (fun _=>hobj ρ' p hp rfl)
 exact ⟨ρ',p,rfl,this.1,this.2,hp,rfl⟩
theorem mkMap_sound (hR:Rel ρ W σ) (t:TypeId): ∃ρ' W' v,(Instr.makeMap t none).run P W= .ok v W'∧Later ρ W ρ' W'∧Rel ρ' W' (σ++[.map []])∧R ρ' W' (.map σ.length) v:=by
 obtain ⟨ρ',p,hrun,L,hR',hp,hb⟩:=newObj_sound (P:=P) hR (.map #[] 0) (.map []) (fun ρ' p hp hb=>⟨p, #[],0,hp,by rw [hb];exact heap_alloc_at W _,rfl,fun j k v h=>by simp at h⟩)
 refine ⟨ρ',_, .map (some p.blk), ?_,L,hR', .map hp⟩
 simp [Instr.makeMap,hb]
theorem rangeStr_sound (hR:Rel ρ W σ) {t:TypeId} (ht:P.underlying t=some .string) (s:ByteArray):
 ∃ρ' W' v,(Instr.range t (.string s)).run P W= .ok v W'∧Later ρ W ρ' W'∧Rel ρ' W' (σ++[.siter s.data.toList 0])∧R ρ' W' (.ptr σ.length 0) v:=by
 obtain ⟨ρ',p,hrun,L,hR',hp,hb⟩:=newObj_sound (P:=P) hR (.stringIter s 0) (.siter s.data.toList 0) (fun ρ' p hp hb=>⟨p,s,hp,by rw [hb];exact heap_alloc_at W _,rfl⟩)
 refine ⟨ρ',_, .pointer (some ⟨p.blk,0,none⟩), ?_,L,hR', .ptr hp⟩
 simp [Instr.range,run_underlying ht,hb]
theorem bytes_of (s:ByteArray): (⟨s.data.toList.toArray⟩:ByteArray)=s:=by cases s;simp
theorem nextStr_sound (hR:Rel ρ W σ) {i:Nat} {v:Value} (hv:R ρ W (.ptr i 0) v) {l:List UInt8} {pos:Nat} (hs:σ[i]? =some (.siter l pos)) (t:TypeId):
 (pos<l.length→ ∃W' u,(Instr.next v true t).run P W= .ok u W'∧Later ρ W ρ W'∧Rel ρ W' (σ.set i (.siter l (pos+ (Utf8.decode ⟨l.toArray⟩ pos).2)))∧
   R ρ W' (.tuple [.bool true, .int .i64 pos, .int .i32 (Utf8.decode ⟨l.toArray⟩ pos).1]) u)∧
 (¬pos<l.length→ ∃u,(Instr.next v true t).run P W= .ok u W∧R ρ W (.tuple [.bool false]) u):=by
 cases hv with
 |ptr hp=>
  rename_i p
  obtain ⟨q,s,hq,hh,rfl⟩:=hR.obj i _ hs
  rw [hp] at hq;cases hq
  have hg:=getObj_run (P:=P) hh (by intro c t f h;cases h)
  rw [size_data]
  constructor
  ·intro hlt
   rw [bytes_of]
   have hset:=setObj_run (P:=P) (o':= .stringIter s (pos+ (Utf8.decode s pos).2)) hh (by intro c t f h;cases h)
   obtain ⟨L,hR'⟩:=setObj_change hR hs rfl hp (.stringIter s (pos+ (Utf8.decode s pos).2)) (o':= .siter s.data.toList (pos+ (Utf8.decode s pos).2)) (fun L=>⟨p,s,hp,heap_set_at hh,rfl⟩)
   refine ⟨_, .tuple #[.bool true,goInt pos, .int .i32 (Utf8.decode s pos).1], ?_,L,hR', .tuple rfl fun j d hd=> ?_⟩
   ·simp [Instr.next,hg,hlt,hset]
   ·match j,hd with
    |0,hd=>cases hd;exact .bool _
    |1,hd=>cases hd;exact .int _ _
    |2,hd=>cases hd;exact .int _ _
    |j+3,hd=>simp at hd
  ·intro hlt
   refine ⟨.tuple #[.bool false],by simp [Instr.next,hg,hlt], .tuple rfl fun j d hd=> ?_⟩
   match j,hd with
   |0,hd=>cases hd;exact .bool _
   |j+1,hd=>simp at hd
theorem lookup_sound (hR:Rel ρ W σ) {t kt e:TypeId} (ht:P.underlying t=some (.map kt e)) {kc:Nat} (hk:scalarK P kt=some kc) {z:D} (hz:zeroT P e=some z) {x k:D} {vx vk:Value}
 (hx:R ρ W x vx) (hkv:R ρ W k vk) {r:Option D} (h: (match (generalizing:=false) x with
  | .nilmap=>some none
  | .map i=>match σ[i]? with
   |some (.map kvs)=>mapFind kc k kvs
   |_=>none
  |_=>none)=some r) (ok:Bool):
 ∃v,(Instr.lookup t vx vk ok).run P W= .ok v W∧R ρ W (if ok then .tuple [r.getD z, .bool r.isSome] else r.getD z) v:=by
 obtain ⟨u,hu⟩: ∃u,P.underlying kt=some u:=by
  cases hd:P.underlying kt with
  |none=>simp [scalarK,hd] at hk
  |some u=>exact ⟨u,rfl⟩
 obtain ⟨zv,hzv,hzr⟩: ∃zv,(∀w:World,(zeroValue e).run P w= .ok zv w)∧R ρ W z zv:=by
  unfold zeroT at hz
  cases hi:P.info? e with
  |none=>rw [hi] at hz;cases hz
  |some i=>
   rw [hi] at hz
   simp only at hz
   cases hq:i.zero with
   |none=>rw [hq] at hz;cases hz
   |some zv=>rw [hq] at hz;exact ⟨zv,fun w=>by simp [zeroValue,typeInfo,hi,hq],valD_sound hz⟩
 have fin: ∀ (o:Option (Nat × Value)) (es:Array MapEntry),Instr.findNow u vk es.toList 0=some o→FoundR ρ W r o→
  (∀f:Array MapEntry→Sem Value,(∀es',f es'=(do
    Instr.checkKey es'.isEmpty 10000 kt vk
    let (v,b) ←match ←Instr.findKey kt vk es'.toList with
     |some (_,v)=>pure (v,true)
     |none=>pure (←zeroValue e,false)
    pure (if ok then .tuple #[v, .bool b] else v)))→ ∃v,(f es).run P W= .ok v W∧R ρ W (if ok then .tuple [r.getD z, .bool r.isSome] else r.getD z) v):=by
  intro o es ho hr f hf
  rw [hf]
  have hfind: (Instr.findKey kt vk es.toList).run P W= .ok o W:=by simp [Instr.findKey,run_underlying hu,ho]
  rw [Sem.run_bind,checkKey_run hk,Result.andThen_ok,Sem.run_bind,hfind,Result.andThen_ok]
  have tup: ∀ (d:D) (v:Value) (b:Bool),R ρ W d v→R ρ W (if ok=true then .tuple [d, .bool b] else d) (if ok=true then .tuple #[v, .bool b] else v):=by
   intro d v b hd
   cases ok
   ·exact hd
   ·refine .tuple rfl fun j x hx=> ?_
    match j,hx with
    |0,hx=>cases hx;exact hd
    |1,hx=>cases hx;exact .bool _
    |j+2,hx=>simp at hx
  cases r with
  |none=>
   cases o with
   |none=>exact ⟨_,by simp [hzv],tup _ _ _ hzr⟩
   |some o=>exact hr.elim
  |some d=>
   cases o with
   |none=>exact hr.elim
   |some o=>exact ⟨_,by simp,tup _ _ _ hr⟩
 cases hx<;>simp only at h<;>try (cases h;done)
 case nilmap=>
  cases h
  obtain ⟨v,hv,hr⟩:=fin none #[] rfl trivial _ (fun _=>rfl)
  refine ⟨v, ?_,hr⟩
  simp only [Instr.lookup,Sem.run_bind,run_underlying ht,Result.andThen_ok,Sem.run_pure]
  simp only [Sem.run_bind] at hv
  exact hv
 case map i p hp=>
  split at h
  ·rename_i kvs hs
   obtain ⟨q,ents,clock,hq,hh,hl,hr⟩:=hR.obj i _ hs
   rw [hp] at hq;cases hq
   have hents:EntsR ρ W kvs ents.toList:=entsR_of (by simpa using hl) fun j k v hj=>by simpa using hr j k v hj
   obtain ⟨o,ho,hor⟩:=find_sound hu hk hkv 0 hents h
   obtain ⟨v,hv,hr⟩:=fin o ents ho hor _ (fun _=>rfl)
   refine ⟨v, ?_,hr⟩
   have hg:=getObj_run (P:=P) hh (by intro c t f h;cases h)
   simp only [Instr.lookup,Sem.run_bind,run_underlying ht,Result.andThen_ok,Sem.run_pure,hg]
   simp only [Sem.run_bind] at hv
   exact hv
  ·cases h
theorem set_sound {u:TypeDesc} {kt:TypeId} {kc:Nat} (hu:P.underlying kt=some u) (hk:scalarK P kt=some kc) {x:D} {vx:Value} (hx:R ρ W x vx) {y:D} {vy:Value} (hy:R ρ W y vy) (clock:Nat):
 ∀ {l l':List (D × D)} {m:List MapEntry} (i:Nat),EntsR ρ W l m→mapSet kc x y l=some l'→
  (Instr.findNow u vx m i=some none∧EntsR ρ W l' (m++[{key:=vx,val:=vy,born:=clock}]))∨
  (∃ (j:Nat) (old:MapEntry),Instr.findNow u vx m i=some (some (i+j,old.val))∧m[j]? =some old∧(∃k',R ρ W k' old.key∧D.kindEq kc x k'=some true)∧
    EntsR ρ W l' (m.modify j fun e=> {e with key:=vx,val:=vy}))
 | [],l',[],i,_,h=>by cases h;exact .inl ⟨rfl,hx,hy,trivial⟩
 | [],_,_::_,_,h,_=>h.elim
 |_::_,_,[],_,h,_=>h.elim
 | (k,v)::l,l',e::m,i,⟨h1,h2,h3⟩,h=>by
  simp only [mapSet] at h
  split at h
  ·rename_i hk'
   cases h
   refine .inr ⟨0,e,by simp [Instr.findNow,sameNow_kind hu hk hx h1 hk'],rfl,⟨k,h1,hk'⟩, ?_⟩
   exact ⟨hx,hy,h3⟩
  ·rename_i hk'
   obtain ⟨l1,hl1,rfl⟩:=Option.map_eq_some_iff.1 h
   rcases set_sound hu hk hx hy clock (i+1) h3 hl1 with ⟨a,b⟩ | ⟨j,old,a,b,c,d⟩
   ·exact .inl ⟨by simp [Instr.findNow,sameNow_kind hu hk hx h1 hk',a],h1,h2,b⟩
   ·exact .inr ⟨j+1,old,by simp [Instr.findNow,sameNow_kind hu hk hx h1 hk',a,Nat.add_assoc,Nat.add_comm 1 j],by simpa using b,c,h1,h2,d⟩
  ·cases h
theorem sameBits_kind {kc:Nat} {x y:D} {vx vy:Value} (hx:R ρ W x vx) (hy:R ρ W y vy) (h:D.kindEq kc x y=some true) (n:Nat):Instr.sameBits n vy vx=true:=by
 unfold D.kindEq at h
 split at h
 ·cases hx;cases hy;simp at h;subst h;cases n<;>simp [Instr.sameBits]
 ·split at h
  ·rename_i hjk
   cases hx;cases hy
   simp at h
   subst h;subst hjk
   cases n<;>simp [Instr.sameBits]
  ·cases h
 ·cases hx;cases hy
  rename_i s s'
  simp at h
  have:s'==s:=by rw [bytes_beq];simpa using h.symm
  cases n<;>simpa [Instr.sameBits] using this
 ·cases h
theorem mapUpdate_sound (hR:Rel ρ W σ) {t kt e:TypeId} (ht:P.underlying t=some (.map kt e)) {kc:Nat} (hk:scalarK P kt=some kc) {i:Nat} {k v:D} {vm vk vv:Value}
 (hm:R ρ W (.map i) vm) (hkv:R ρ W k vk) (hv:R ρ W v vv) {kvs kvs':List (D × D)} (hs:σ[i]? =some (.map kvs)) (h:mapSet kc k v kvs=some kvs'):
 ∃W',(Instr.mapUpdate t vm vk vv).run P W= .ok () W'∧Later ρ W ρ W'∧Rel ρ W' (σ.set i (.map kvs')):=by
 obtain ⟨u,hu⟩: ∃u,P.underlying kt=some u:=by
  cases hd:P.underlying kt with
  |none=>simp [scalarK,hd] at hk
  |some u=>exact ⟨u,rfl⟩
 cases hm with
 |map hp=>
  rename_i p
  obtain ⟨q,ents,clock,hq,hh,hl,hr⟩:=hR.obj i _ hs
  rw [hp] at hq;cases hq
  have hents:EntsR ρ W kvs ents.toList:=entsR_of (by simpa using hl) fun j k v hj=>by simpa using hr j k v hj
  have hg:=getObj_run (P:=P) hh (by intro c t f h;cases h)
  have fin: ∀ (es':Array MapEntry) (clock':Nat),EntsR ρ W kvs' es'.toList→
   Later ρ W ρ {W with heap:=W.heap.setIfInBounds p.blk (.map es' clock')} ∧Rel ρ {W with heap:=W.heap.setIfInBounds p.blk (.map es' clock')} (σ.set i (.map kvs')):=by
   intro es' clock' he
   refine setObj_change hR hs rfl hp _ fun L=> ?_
   obtain ⟨a,b⟩:=entsR_to he
   refine ⟨p,es',clock',hp,heap_set_at hh,by simpa using a,fun j k v hj=> ?_⟩
   obtain ⟨e,he,h1,h2⟩:=b j k v hj
   exact ⟨e,by simpa using he,h1.later L,h2.later L⟩
  rcases set_sound hu hk hkv hv clock 0 hents h with ⟨a,b⟩ | ⟨j,old,a,b,⟨k',c1,c2⟩,d⟩
  ·have hfind: (Instr.findKey kt vk ents.toList).run P W= .ok none W:=by simp [Instr.findKey,run_underlying hu,a]
   obtain ⟨L,hR'⟩:=fin (ents.push {key:=vk,val:=vv,born:=clock}) (clock+1) (by simpa using b)
   refine ⟨_, ?_,L,hR'⟩
   have hset:=setObj_run (P:=P) (o':= .map (ents.push {key:=vk,val:=vv,born:=clock}) (clock+1)) hh (by intro c t f h;cases h)
   simp [Instr.mapUpdate,run_underlying ht,hg,checkKey_run hk,hfind,hset]
  ·have hfind: (Instr.findKey kt vk ents.toList).run P W= .ok (some (j,old.val)) W:=by simp [Instr.findKey,run_underlying hu,a]
   obtain ⟨L,hR'⟩:=fin (ents.modify j fun e=> {e with key:=vk,val:=vv}) clock (by rw [Array.toList_modify];exact d)
   refine ⟨_, ?_,L,hR'⟩
   have hset:=setObj_run (P:=P) (o':= .map (ents.modify j fun e=> {e with key:=vk,val:=vv}) clock) hh (by intro c t f h;cases h)
   have hold:ents[j]? =some old:=by simpa using b
   have hkeep: (Instr.keyThatStays old.key vk).run P W= .ok vk W:=by
    unfold Instr.keyThatStays
    rw [sameBits_kind hkv c1 c2]
    rfl
   simp [Instr.mapUpdate,run_underlying ht,hg,checkKey_run hk,hfind,hold,hkeep,hset]
end
section
variable {P:Program} {ρ:Ren} {W:World} {σ:St}
theorem zeroT_some {t:TypeId} {z:D} (h:zeroT P t=some z): ∃i zv,P.info? t=some i∧i.zero=some zv∧valD zv=some z∧(∀w:World,(zeroValue t).run P w= .ok zv w):=by
 unfold zeroT at h
 cases hi:P.info? t with
 |none=>rw [hi] at h;cases h
 |some i=>
  rw [hi] at h
  simp only at h
  cases hq:i.zero with
  |none=>rw [hq] at h;cases h
  |some zv=>rw [hq] at h;exact ⟨i,zv,rfl,hq,h,fun w=>by simp [zeroValue,typeInfo,hi,hq]⟩
theorem sizeT_some {t:TypeId} {n:Nat} (h:sizeT P t=some n): ∃i,P.info? t=some i∧i.size=n:=by
 unfold sizeT at h
 cases hi:P.info? t with
 |none=>rw [hi] at h;cases h
 |some i=>rw [hi] at h;exact ⟨i,rfl,by simpa using h⟩
theorem emptyRow (hR:Rel ρ W σ) (sz:Nat): ∃ρ':Ren,Later ρ W ρ' W∧Rel ρ' W (σ++[.row sz [] 0])∧ρ'.dom σ.length:=by
 have none_at: ∀v,ρ.loc σ.length v=none:=fun v=>by
  cases h:ρ.loc σ.length v with
  |none=>rfl
  |some p=>exact absurd (hR.blk _ _ _ h).2 (Nat.lt_irrefl _)
 let ρ':Ren:= {ρ with dom:=fun j=>ρ.dom j∨j=σ.length}
 have hl: ∀v,ρ'.loc σ.length v=none:=none_at
 obtain ⟨h1,h2⟩:=hR.push (ρ':=ρ') (W':=W) (o':= .row sz [] 0) (Nat.le_refl _) rfl rfl rfl (fun _ _=>rfl) (fun _ _ _=>rfl) (fun v p h=>by rw [hl] at h;cases h) (fun _=>Iff.rfl) rfl
  (fun _=>⟨Nat.le_refl _,fun k e h=>by simp at h,fun ver _=>hl ver,fun ver _ hv=> .inl ⟨by simpa using hv,hl 0⟩⟩) (fun _ h=>h) (fun _ h=> .inl h)
 exact ⟨ρ',h1,h2, .inr rfl⟩
theorem allocRow_sound (hR:Rel ρ W σ) {elem:TypeId} (hz:zeroT P elem=some .empty) (sz:Nat):
 ∃ρ' W' v,(Instr.alloc elem true (.tuple #[])).run P W= .ok v W'∧Later ρ W ρ' W'∧Rel ρ' W' (σ++[.row sz [] 0, .box [.arr σ.length 0 0 0]])∧R ρ' W' (.ptr (σ.length+1) 0) v:=by
 obtain ⟨i,zv,_,_,hv,hrun⟩:=zeroT_some hz
 have hzv:zv= .slice none 0 0:=by
  unfold valD at hv
  split at hv
  ·simp at hv
  ·split at hv<;>cases hv
  ·unfold valD1 at hv
   split at hv<;>first|rfl|cases hv
 subst hzv
 obtain ⟨ρ1,L1,hR1,hd1⟩:=emptyRow hR sz
 obtain ⟨ρ',W',h1,L,hR',p,hp,hb⟩:=newVar_sound (P:=P) hR1 elem (d:= .arr σ.length 0 0 0) (v:= .slice none 0 0) (.arr0 hd1) rfl
 have hl: (σ++[Obj.row sz [] 0]).length=σ.length+1:=by simp
 rw [hl] at hp
 refine ⟨ρ',W', .pointer (some ⟨p.blk,0,none⟩), ?_,L1.trans L,by simpa [D.cells] using hR', .ptr hp⟩
 simp [Instr.alloc,hrun,h1,hb]
theorem alloc_sound (hR:Rel ρ W σ) {elem:TypeId} {z:D} (hz:zeroT P elem=some z) (ho:z.cells.all D.one=true):
 ∃ρ' W' v,(Instr.alloc elem true (.tuple #[])).run P W= .ok v W'∧Later ρ W ρ' W'∧Rel ρ' W' (σ++[.box z.cells])∧R ρ' W' (.ptr σ.length 0) v:=by
 obtain ⟨i,zv,_,_,hv,hrun⟩:=zeroT_some hz
 obtain ⟨ρ',W',h1,L,hR',p,hp,hb⟩:=newVar_sound (P:=P) hR elem (valD_sound (ρ:=ρ) (W:=W) hv) ho
 refine ⟨ρ',W', .pointer (some ⟨p.blk,0,none⟩), ?_,L,hR', .ptr hp⟩
 simp [Instr.alloc,hrun,h1,hb]
theorem box_sound (hR:Rel ρ W σ) {elem:TypeId} {d:D} {v:Value} (hv:R ρ W d v) (ho:d.cells.all D.one=true):
 ∃ρ' W' u,(Instr.box elem v).run P W= .ok u W'∧Later ρ W ρ' W'∧Rel ρ' W' (σ++[.box d.cells])∧R ρ' W' (.ptr σ.length 0) u:=by
 obtain ⟨ρ',W',h1,L,hR',p,hp,hb⟩:=newVar_sound (P:=P) hR elem hv ho
 refine ⟨ρ',W', .pointer (some ⟨p.blk,0,none⟩), ?_,L,hR', .ptr hp⟩
 simp [Instr.box,h1,hb]
theorem RC.congr {sz n:Nat} {a b:D} (h:a.cells=b.cells) {cs:Array Value} (r:RC ρ W sz (List.replicate n a) cs):RC ρ W sz (List.replicate n b) cs:=by
 obtain ⟨h1,h2,h3⟩:=r
 refine ⟨by simpa using h1,fun k e he=> ?_,fun idx e j d he hd=> ?_⟩
 ·have hk:k<n:=by have:=(List.getElem?_eq_some_iff.1 he).1;simpa using this
  obtain rfl:=List.eq_of_mem_replicate (List.mem_of_getElem? he)
  rw [←h];exact h2 k a (by simp [hk])
 ·have hk:idx<n:=by have:=(List.getElem?_eq_some_iff.1 he).1;simpa using this
  obtain rfl:=List.eq_of_mem_replicate (List.mem_of_getElem? he)
  exact h3 idx a j d (by simp [hk]) (by rw [h];exact hd)
theorem zeroElem_cells {sz:Nat} {z:D} (hz:z.cells.length=sz): (if sz=1 then z.cells.headD .any else D.agg z.cells).cells=z.cells∨(sz=1∧z.cells.all D.one=false):=by
 by_cases h:sz=1
 ·subst h
  rw [if_pos rfl]
  match hc:z.cells,hz with
  | [x],_=>
   by_cases hx:x.one=true
   ·left
    cases x<;>first|rfl| (simp [D.one] at hx)
   ·right;simpa using hx
 ·rw [if_neg h];exact .inl rfl
theorem fillRow_ones {sz:Nat} : ∀ (m:List (Nat × D)) (es es':List D),(∀e ∈ es,e.cells.all D.one=true)→fillRow sz es m=some es'→ ∀e ∈ es',e.cells.all D.one=true
 | [],es,es',h,hf=>by cases hf;exact h
 | (i,v)::m,es,es',h,hf=>by
  simp only [fillRow] at hf
  split at hf
  ·rename_i hc
   refine fillRow_ones m (es.set i v) es' (fun e he=> ?_) hf
   rcases List.mem_or_eq_of_mem_set he with h1|h1
   ·exact h e h1
   ·subst h1;exact hc.2.2
  ·cases hf
theorem buildSlice_run {t e:TypeId} (ht:P.underlying t=some (.slice e)) {sz len:Nat} (hs:sizeT P e=some sz) {z:D} (hz:zeroT P e=some z) (hzl:z.cells.length=sz)
 (h0:0<sz) (hone:z.cells.all D.one=true) (hlen: ¬len*sz>2 ^ 24) {ps:Array (Nat × Value)} {m:List (Nat × D)} {es:List D}
 (hp:ps.toList.length=m.length∧ ∀ (j:Nat) (i:Nat) (d:D),m[j]? =some (i,d)→ ∃v,ps.toList[j]? =some (i,v)∧R ρ W d v)
 (h:fillRow sz (List.replicate len (if sz=1 then z.cells.headD .any else .agg z.cells)) m=some es):
 ∃cs,(Instr.buildSlice t len ps).run P W= .ok (.slice (some ⟨W.heap.size,0,none⟩) len len) (W.alloc (.cells cs e))∧RC ρ W sz es cs∧es.length=len∧ ∀e ∈ es,e.cells.all D.one=true:=by
 obtain ⟨i,zv,_,_,hv,hrun⟩:=zeroT_some hz
 have hcell: (if sz=1 then z.cells.headD .any else D.agg z.cells).cells=z.cells:=by
  rcases zeroElem_cells hzl with h| ⟨_,h⟩
  ·exact h
  ·rw [h] at hone;cases hone
 have hrc:=RC.congr hcell.symm (RC.zeros (valD_sound (ρ:=ρ) (W:=W) hv) hone hzl len)
 obtain ⟨cs,hcs,hr,hl⟩:=fillRow_sound sz ps.toList m _ es _ hp hrc h
 refine ⟨cs, ?_,hr,by simpa using hl,fillRow_ones m _ es (fun e he=> ?_) h⟩
 ·unfold Instr.buildSlice
  simp only [Sem.run_bind,run_underlying ht,Result.andThen_ok,run_size hs,if_neg hlen]
  by_cases hn:len*sz=0
  ·have hl0:len=0:=by rcases Nat.mul_eq_zero.1 hn with h|h<;>omega
   subst hl0
   have: (Array.range (0*sz)).map (fun i=>zv.cells[i % zv.cells.size]!)=(Array.range 0).map (fun i=>(#[]:Array Value)[i % (#[]:Array Value).size]!):=by simp
   rw [this] at hcs
   simp [hn,newRow]
   simp at hcs
   simp [hcs]
  ·simp [hn,hrun,newRow,hcs]
 ·obtain rfl:=List.eq_of_mem_replicate he
  rw [hcell];exact hone
theorem makeSlice_sound (hR:Rel ρ W σ) {t e:TypeId} (ht:P.underlying t=some (.slice e)) {sz bytes:Nat} (hs:sizeT P e=some sz) (hb:bytesT P e=some bytes) {z:D} (hz:zeroT P e=some z)
 {n c:Int} (h0:0≤n) (hnc:n≤c) (hroom:c.toNat*bytes≤140737488355328) (hc:c.toNat≤140737488355328) (hzl:z.cells.length=sz) (hone:z.cells.all D.one=true) (kl kc:IntKind):
 ∃ρ' W' v,(Instr.makeSlice t (.int kl n) (.int kc c)).run P W= .ok v W'∧Later ρ W ρ' W'∧Rel ρ' W' (σ++[.row sz (List.replicate n.toNat z) 0])∧R ρ' W' (.arr σ.length n.toNat 0 n.toNat) v:=by
 obtain ⟨i,zv,hi,hq,hv,hrun⟩:=zeroT_some hz
 obtain ⟨i',hi',hsz⟩:=sizeT_some hs
 rw [hi] at hi';cases hi'
 have hbi:i.bytes=bytes:=by simpa [bytesT,hi] using hb
 have hbb: (i.bytes:Int) *c≤281474976710656:=by
  have h1: ((c.toNat*bytes:Nat):Int)≤140737488355328:=by omega
  rw [Int.natCast_mul,Int.toNat_of_nonneg (by omega),Int.mul_comm] at h1
  rw [hbi];omega
 have hmake:=run_make (P:=P) W t e i zv ht hi hq kl kc n c h0 hnc hbb (by omega)
 have hrc:=RC.zeros (valD_sound (ρ:=ρ) (W:=W) hv) hone hzl c.toNat
 obtain ⟨ρ',L,hR',hr⟩:=newRow_sound hR e (sz:=sz) (cap:=c.toNat) (es:=List.replicate n.toNat z) (cs:=madeCells zv.cells (c.toNat*i.size)) (since:=0) (by simp;omega) (by simp [madeCells,hsz]) (Nat.zero_le _)
  (fun k x hk=>by obtain rfl:=List.eq_of_mem_replicate (List.mem_of_getElem? hk);exact ⟨hzl,hone⟩)
  (fun idx x j d hx hd=>by
    have hk:idx<n.toNat:=by have:=(List.getElem?_eq_some_iff.1 hx).1;simpa using this
    have hx': (List.replicate c.toNat z)[idx]? =some x:=by
     obtain rfl:=List.eq_of_mem_replicate (List.mem_of_getElem? hx)
     rw [List.getElem?_replicate,if_pos (by omega)]
    rw [hsz]
    exact hrc.2.2 idx x j d hx' hd) _ rfl
 simp only [List.length_replicate] at hr
 exact ⟨ρ',_,_,hmake,L,hR',hr⟩
theorem parts_sound {glob:Gl} {e:Env} {a:Act} (hE:RE ρ W e a.tmps) (hG:GlobR ρ W glob) (place:Nat→Option (Nat × Nat)):
 ∀ {l:List (Nat × Operand)} {ps:List (Nat × Nat × AOpd)},(l.mapM fun (x:Nat × Operand)=>(place x.1).bind fun q=>(opd x.2).map fun y=>(q.1,q.2,y))=some ps→
  PartsR ρ W place (l.map fun x=>(x.1,a.eval x.2)) (ps.map fun x=>(x.1,x.2.1,lookA glob e x.2.2))
 | [],ps,h=>by simp at h;subst h;trivial
 | (i,x)::l,ps,h=>by
  simp only [List.mapM_cons,Option.bind_eq_bind,Option.pure_def,Option.bind_eq_some_iff,Option.some.injEq] at h
  obtain ⟨y,⟨q,hq,hy⟩,r,hr,rfl⟩:=h
  obtain ⟨u,hu,rfl⟩:=Option.map_eq_some_iff.1 hy
  exact ⟨hq,opd_sound hE hG hu,parts_sound hE hG place hr⟩
theorem elems_sound {glob:Gl} {e:Env} {a:Act} (hE:RE ρ W e a.tmps) (hG:GlobR ρ W glob):
 ∀ {l:List (Nat × Operand)} {ps:List (Nat × AOpd)},(l.mapM fun (x:Nat × Operand)=>(opd x.2).map fun y=>(x.1,y))=some ps→
  (l.map fun x=>(x.1,a.eval x.2)).length=(ps.map fun x=>(x.1,lookA glob e x.2)).length∧
  ∀ (j i:Nat) (d:D),(ps.map fun x=>(x.1,lookA glob e x.2))[j]? =some (i,d)→ ∃v,(l.map fun x=>(x.1,a.eval x.2))[j]? =some (i,v)∧R ρ W d v
 | [],ps,h=>by simp at h;subst h;exact ⟨rfl,fun j i d h=>by simp at h⟩
 | (i,x)::l,ps,h=>by
  simp only [List.mapM_cons,Option.bind_eq_bind,Option.pure_def,Option.bind_eq_some_iff,Option.some.injEq] at h
  obtain ⟨y,hy,r,hr,rfl⟩:=h
  obtain ⟨u,hu,rfl⟩:=Option.map_eq_some_iff.1 hy
  obtain ⟨a1,a2⟩:=elems_sound hE hG hr
  refine ⟨by simpa using a1,fun j k d hd=> ?_⟩
  cases j with
  |zero=>simp at hd;obtain ⟨rfl,rfl⟩:=hd;exact ⟨_,rfl,opd_sound hE hG hu⟩
  |succ j=>exact a2 j k d (by simpa using hd)
theorem weakL_get: ∀ (l:List D) (j:Nat),(weakL l)[j]? =(l[j]?).map D.weak
 | [],j=>by simp [weakL]
 |d::r,0=>by simp [weakL]
 |d::r,j+1=>by simp only [weakL,List.getElem?_cons_succ];exact weakL_get r j
theorem weakL_length: ∀ (l:List D),(weakL l).length=l.length
 | []=>rfl
 |d::r=>by simp only [weakL,List.length_cons,weakL_length r]
theorem weak_cells (d:D):d.weak.cells=weakL d.cells:=by
 cases d<;>simp [D.weak,D.cells,weakL]
theorem weak_get {l:List D} {j:Nat} {d:D} (h: (weakL l)[j]? =some d): ∃e,l[j]? =some e∧d=e.weak:=by
 rw [weakL_get] at h
 obtain ⟨e,he,hd⟩:=Option.map_eq_some_iff.1 h
 exact ⟨e,he,hd.symm⟩
theorem R.weak {ρ:Ren} {W:World} {d:D} {v:Value} (r:R ρ W d v):R ρ W d.weak v:=by
 induction r with
 |bool b=>exact .bool b
 |int k n=>exact .int k n
 |str s=>exact .str s
 |ptr hp=>exact .ptr hp
 |rptr hp=>exact .rptr hp
 |tptr h hc hr ih=>exact .tptr h hc hr
 |nilptr=>exact .nilptr
 |empty a=>exact .slice0 a 0
 |slice0 a c=>exact .slice0 a c
 | @slice es b off n c sz f h hn hcap hsz hc hr ih=>
  simp only [D.weak]
  refine .slice h (by rw [weakL_length];exact hn) hcap (sz:=sz) (f:=f) ?_ ?_ ?_
  ·intro i e he
   obtain ⟨e',he',rfl⟩:=weak_get he
   rw [weak_cells,weakL_length];exact hsz i e' he'
  ·intro i j e d he hd
   obtain ⟨e',he',rfl⟩:=weak_get he
   rw [weak_cells] at hd
   obtain ⟨d',hd',rfl⟩:=weak_get hd
   exact hc i j e' d' he' hd'
  ·intro i j e d he hd
   obtain ⟨e',he',rfl⟩:=weak_get he
   rw [weak_cells] at hd
   obtain ⟨d',hd',rfl⟩:=weak_get hd
   exact ih i j e' d' he' hd'
 |arr h hn hc=>exact .arr h hn hc
 |arr0 hi=>exact .arr0 hi
 |map h=>exact .map h
 |nilmap=>exact .nilmap
 |func h1 h2 hf hc ihf ihc=>exact .func h1 h2 hf hc
 |nilfunc=>exact .nilfunc
 |yield h=>exact .yield h
 |iface h ih=>exact .iface ih
 |niliface=>exact .niliface
 |agg h hr ih=>
  simp only [D.weak]
  refine .agg (by rw [weakL_length];exact h) fun j d hd=> ?_
  obtain ⟨e,he,rfl⟩:=weak_get hd
  exact ih j e he
 |tuple h hr ih=>
  simp only [D.weak]
  refine .tuple (by rw [weakL_length];exact h) fun j d hd=> ?_
  obtain ⟨e,he,rfl⟩:=weak_get hd
  exact ih j e he
 |undef=>exact .undef
 |any v=>exact .any v
theorem build_sound {t:TypeId} {wk:Bool} {z:D} (hz:zeroW P wk t=some z) (hone:z.cells.all D.one=true) {place:Nat→Option (Nat × Nat)} {parts:Array (Nat × Value)} {m:List (Nat × Nat × D)} {ds:List D}
 (hplace: ∀zv i,P.info? t=some i→i.zero=some zv→P.built t parts.toList=Instr.fill place zv.cells parts.toList)
 (hp:PartsR ρ W place parts.toList m) (h:fillD z.cells m=some ds): ∃v,(Instr.build t parts).run P W= .ok v W∧R ρ W (.agg ds) v:=by
 obtain ⟨z0,hz0,hzz⟩: ∃z0,zeroT P t=some z0∧z=(if wk then z0.weak else z0):=by
  unfold zeroW at hz
  obtain ⟨z0,h0,h1⟩:=Option.map_eq_some_iff.1 hz
  exact ⟨z0,h0,h1.symm⟩
 obtain ⟨i,zv,hi,hq,hv,hrun⟩:=zeroT_some hz0
 have hzr:R ρ W z zv:=by
  have:=valD_sound (ρ:=ρ) (W:=W) hv
  rw [hzz]
  split
  ·exact this.weak
  ·exact this
 have hc:CellsR ρ W z.cells zv.cells:=by
  obtain ⟨a,b⟩:=hzr.cells hone
  exact ⟨a,fun j d hd=>(b j d hd).1⟩
 obtain ⟨cs,hcs,hr⟩:=fill_sound place parts.toList m z.cells ds zv.cells hp hc h
 exact ⟨_,run_build W t parts cs (by rw [hplace zv i hi hq,hcs]), .agg hr.1 hr.2⟩
end
section
variable {P:Program} {ρ:Ren} {W:World} {σ:St}
def NxR (P:Program) (s:Sem Next) (W:World) (ρ':Ren) (W':World):Nx→Prop
 | .value d=> ∃v,s.run P W= .ok (.value v) W'∧R ρ' W' d v
 | .skip=>s.run P W= .ok .skip W'
 | .enter f args=> ∃vs,s.run P W=(callFunc f vs).run P W∧W'=W∧Rs ρ' W' args vs
 | .yield i args=> ∃ (p:Pl) (vs:Array Value),ρ'.loc i 0=some p∧s.run P W=(Instr.yield p.blk vs).run P W∧W'=W∧Rs ρ' W' args vs
 | .panic d=> ∃v,s.run P W= .halt (.panic v) W'∧R ρ' W' d v
def Steps (P:Program) (s:Sem Next) (ρ:Ren) (W:World) (nx:Nx) (σ':St):Prop:=
 ∃ρ' W',Later ρ W ρ' W'∧Rel ρ' W' σ'∧NxR P s W ρ' W' nx
theorem val_some {d:Option D} {σ σ':St} {nx:Nx} (h:val d σ=some (nx,σ')): ∃x,d=some x∧nx= .value x∧σ'=σ:=by
 unfold val at h
 cases d with
 |none=>cases h
 |some d=>cases h;exact ⟨d,rfl,rfl,rfl⟩
theorem pureN (hR:Rel ρ W σ) {s:Sem Next} {v:Value} {d:D} (hs:s=pure (.value v)) (hv:R ρ W d v):Steps P s ρ W (.value d) σ:=
 ⟨ρ,W, .refl _ _,hR,v,by rw [hs];rfl,hv⟩
theorem pureV (hR:Rel ρ W σ) {s:Sem Next} {t:Sem Value} {d:D} (hs:s=(do pure (.value (←t)))) (ht: ∃v,t.run P W= .ok v W∧R ρ W d v):Steps P s ρ W (.value d) σ:=by
 obtain ⟨v,h1,h2⟩:=ht
 exact ⟨ρ,W, .refl _ _,hR,v,by rw [hs,Sem.run_bind,h1];rfl,h2⟩
theorem newV {s:Sem Next} {t:Sem Value} {d:D} {σ':St} (hs:s=(do pure (.value (←t)))) (ht: ∃ρ' W' v,t.run P W= .ok v W'∧Later ρ W ρ' W'∧Rel ρ' W' σ'∧R ρ' W' d v):
 Steps P s ρ W (.value d) σ':=by
 obtain ⟨ρ',W',v,h1,L,hR',h2⟩:=ht
 exact ⟨ρ',W',L,hR',v,by rw [hs,Sem.run_bind,h1];rfl,h2⟩
theorem unitV {s:Sem Next} {t:Sem Unit} {σ':St} (hs:s=(do t;pure .skip)) (ht: ∃W',t.run P W= .ok () W'∧Later ρ W ρ W'∧Rel ρ W' σ'):Steps P s ρ W .skip σ':=by
 obtain ⟨W',h1,L,hR'⟩:=ht
 exact ⟨ρ,W',L,hR',by show s.run P W=_;rw [hs,Sem.run_bind,h1];rfl⟩
theorem opdO_sound {glob:Gl} {e:Env} {a:Act} (hE:RE ρ W e a.tmps) (hG:GlobR ρ W glob) {x:Option Operand} {ax:Option AOpd} (h:opdO x=some ax):
 OptR ρ W (ax.map (lookA glob e)) (x.map a.eval):=by
 cases x with
 |none=>cases h;trivial
 |some x=>
  obtain ⟨y,hy,rfl⟩:=Option.map_eq_some_iff.1 h
  exact opd_sound hE hG hy
theorem R.bool_inv {b:Bool} {v:Value} (h:R ρ W (.bool b) v):v= .bool b:=by cases h;rfl
theorem R.int_inv {k:IntKind} {n:Int} {v:Value} (h:R ρ W (.int k n) v):v= .int k n:=by cases h;rfl
theorem R.str_inv {l:List UInt8} {v:Value} (h:R ρ W (.str l) v): ∃s:ByteArray,v= .string s∧l=s.data.toList:=by cases h;exact ⟨_,rfl,rfl⟩
theorem encode_ascii {n:Int} (h0:0≤n) (h1:n<128): (Utf8.encode n).data.toList=[UInt8.ofNat n.toNat]:=by
 have hv:Utf8.valid n=true:=by unfold Utf8.valid;simp;omega
 have hlt:n.toNat<128:=by omega
 unfold Utf8.encode
 simp [hv,hlt]
theorem slice00 {t e:TypeId} {sz:Nat} (ht:P.underlying t=some (.slice e)) (hs:sizeT P e=some sz) {a:Option Addr} {n c:Nat} {lo:Option Value}
 (hlo:lo=none∨ ∃k,lo=some (.int k 0)) {kh km:IntKind} : ∃v,(Instr.sliceAt t (.slice a n c) lo (some (.int kh 0)) (some (.int km 0))).run P W= .ok v W∧R ρ W .empty v:=by
 have hb: ∀code N w,(Instr.sliceBound (.int kh 0) N code).run P w= .ok 0 w:=fun code N w=>by
  simp [Instr.sliceBound,asIntOf]
 have hb': ∀kk code N w,(Instr.sliceBound (.int kk 0) N code).run P w= .ok 0 w:=fun kk code N w=>by
  simp [Instr.sliceBound,asIntOf]
 rcases hlo with rfl| ⟨k,rfl⟩
 ·exact ⟨_,by simp [Instr.sliceAt,Instr.slice,run_underlying ht,Instr.sliceBounds,hb',run_size hs];rfl, .empty _⟩
 ·exact ⟨_,by simp [Instr.sliceAt,Instr.slice,run_underlying ht,Instr.sliceBounds,hb',run_size hs];rfl, .empty _⟩
end
section
variable {P:Program} {ρ:Ren} {W:World} {σ:St} {glob:Gl} {e:Env} {a:Act}
theorem isEmptyLit_eq {x:Operand} (h:isEmptyLit x=true):x= .const (.slice none 0 0):=by
 unfold isEmptyLit at h
 split at h
 ·rfl
 ·cases h
theorem mv_sound (hR:Rel ρ W σ) (hE:RE ρ W e a.tmps) (hG:GlobR ρ W glob) {s:Sem Next} (x:Operand) (hs:s=pure (.value (a.eval x))) {c:Bool} {t:TypeId} {ao:AOp}
 (hc: (if c&&isEmptyLit x then
   match P.underlying t with
   |some (.slice e)=>do pure (.newrow (←sizeT P e))
   |_=>none
 else do pure (.mv (←opd x)))=some ao) {nx:Nx} {σ':St} (h:stepOp (lookA glob e) σ ao=some (nx,σ')):Steps P s ρ W nx σ':=by
 by_cases hcond: (c&&isEmptyLit x)=true
 ·rw [if_pos hcond] at hc
  split at hc
  ·rename_i el _
   cases hs':sizeT P el with
   |none=>rw [hs'] at hc;cases hc
   |some sz=>
    rw [hs'] at hc
    cases hc
    simp only [stepOp,Option.some.injEq,Prod.mk.injEq] at h
    obtain ⟨rfl,rfl⟩:=h
    simp only [Bool.and_eq_true] at hcond
    obtain rfl:=isEmptyLit_eq hcond.2
    obtain ⟨ρ1,L1,hR1,hd1⟩:=emptyRow hR sz
    exact ⟨ρ1,W,L1,hR1, .slice none 0 0,by rw [hs];rfl, .arr0 hd1⟩
  ·cases hc
 ·rw [if_neg hcond] at hc
  cases hx:opd x with
  |none=>rw [hx] at hc;cases hc
  |some ax=>
   rw [hx] at hc
   cases hc
   simp only [stepOp,Option.some.injEq,Prod.mk.injEq] at h
   obtain ⟨rfl,rfl⟩:=h
   exact pureN hR hs (opd_sound hE hG hx)
theorem addOff_sound (hR:Rel ρ W σ) {x:AOpd} {vx:Value} (hx:R ρ W (lookA glob e x) vx) {off:Nat} {s:Sem Next} {f:Value→Sem Value}
 (hs:s=(do pure (.value (←f vx)))) (hf: ∀b o,(f (.pointer (some ⟨b,o,none⟩))).run P W= .ok (.pointer (some ⟨b,o+off,none⟩)) W)
 {nx:Nx} {σ':St} (h:stepOp (lookA glob e) σ (.addOff off x)=some (nx,σ')):Steps P s ρ W nx σ':=by
 simp only [stepOp] at h
 split at h
 ·rename_i i o hl
  cases h
  rw [hl] at hx
  cases hx with
  |ptr hp=>exact pureV hR hs ⟨_,hf _ _, .ptr hp⟩
 ·rename_i i v idx r hl
  cases h
  rw [hl] at hx
  cases hx with
  |rptr hp=>exact pureV hR hs ⟨_,hf _ _,by rw [Nat.add_assoc];exact .rptr hp⟩
 ·rename_i cs hl
  cases h
  rw [hl] at hx
  cases hx with
  |tptr hf' hc hr=>exact pureV hR hs ⟨_,hf _ _,drop_tptr hf' hc hr off⟩
 ·cases h
theorem call_args {args:Array Operand} (hE:RE ρ W e a.tmps) (hG:GlobR ρ W glob) {as:List AOpd} (h:args.toList.mapM opd=some as):Rs ρ W (as.map (lookA glob e)) (args.map a.eval):=
 opds_sound hE hG h
theorem Rs.append {xs ys:List D} {vs us:Array Value} (h:Rs ρ W xs vs) (k:Rs ρ W ys us):Rs ρ W (xs++ys) (vs++us):=by
 refine ⟨by simp [h.1,k.1],fun j d hd=> ?_⟩
 by_cases hj:j<xs.length
 ·rw [List.getElem?_append_left hj] at hd
  refine R.undef_irrel ?_ (h.2 j d hd)
  have:j<vs.size:=by rw [h.1];exact hj
  simp [Array.getD_eq_getD_getElem?,Array.getElem?_append_left this]
 ·rw [List.getElem?_append_right (by omega)] at hd
  refine R.undef_irrel ?_ (k.2 _ d hd)
  have:vs.size≤j:=by rw [h.1];omega
  simp [Array.getD_eq_getD_getElem?,Array.getElem?_append_right this,h.1]
theorem rs_two {x y:D} {vs:Array Value} (h:Rs ρ W [x,y] vs): ∃v u,vs= #[v,u]∧R ρ W x v∧R ρ W y u:=by
 obtain ⟨h1,h2⟩:=h
 match vs,h1 with
 | ⟨[v,u]⟩,_=>exact ⟨v,u,rfl,h2 0 x rfl,h2 1 y rfl⟩
theorem mapUp_sound (hR:Rel ρ W σ) {t kt el:TypeId} (hu:P.underlying t=some (.map kt el)) {kc:Nat} (hk:scalarK P kt=some kc) {m k v:AOpd} {vm vk vv:Value}
 (hm:R ρ W (lookA glob e m) vm) (hkv:R ρ W (lookA glob e k) vk) (hv:R ρ W (lookA glob e v) vv) {s:Sem Next} (hs:s=(do Instr.mapUpdate t vm vk vv;pure .skip))
 {nx:Nx} {σ':St} (h:stepOp (lookA glob e) σ (.mapUpdate kc m k v)=some (nx,σ')):Steps P s ρ W nx σ':=by
 simp only [stepOp] at h
 split at h
 ·rename_i i hl
  rw [hl] at hm
  split at h
  ·rename_i kvs hkvs
   split at h
   ·cases h
   ·obtain ⟨kvs',h1,h2⟩:=Option.map_eq_some_iff.1 h
    cases h2
    exact unitV hs (mapUpdate_sound hR hu hk hm hkv hv hkvs h1)
  ·cases h
 ·cases h
theorem call_sound (hR:Rel ρ W σ) (hE:RE ρ W e a.tmps) (hG:GlobR ρ W glob) {o:Oper} {c:Call} (ho:o.op= .call c) {ao:AOp}
 (hc: (match c.callee with
 | .builtin .len=>match c.args.toList,c.argTypes.toList with
  | [x],[t]=>match P.underlying t with
   |some .string=>do pure (.len true (←opd x))
   |some (.slice _)=>do pure (.len false (←opd x))
   |_=>none
  |_,_=>none
 | .builtin .append=>match c.args.toList,c.argTypes.toList with
  | [s,x],[t,u]=>match P.underlying t,P.underlying u with
   |some (.slice e),some (.slice _)=>do
    let sz ←sizeT P e
    let z ←zeroT P e
    if z.cells.length=sz&&z.cells.all D.one then pure (.append sz (←bytesT P e) (←opd s) (←opd x)) else none
   |_,_=>none
  |_,_=>none
 | .builtin .copy=>match c.args.toList,c.argTypes.toList with
  | [d,x],[t,u]=>match P.underlying t,P.underlying u with
   |some (.slice e),some (.slice _)=>do pure (.copyAll (←sizeT P e) (←opd d) (←opd x))
   |_,_=>none
  |_,_=>none
 | .builtin .max=>do pure (.max2 (←c.args.toList.mapM opd))
 | .builtin .min=>do pure (.min2 (←c.args.toList.mapM opd))
 | .builtin .panic=>match c.args.toList with
  | [x]=>do pure (.panic (←opd x))
  |_=>none
 | .builtin _=>none
 | .invoke _ _=>none
 | .value (.func f)=>do pure (.call (.fn f) (←c.args.toList.mapM opd))
 | .value x=>do pure (.call (.val (←opd x)) (←c.args.toList.mapM opd)))=some ao)
 {nx:Nx} {σ':St} (h:stepOp (lookA glob e) σ ao=some (nx,σ')):Steps P (execOp a.eval o) ρ W nx σ':=by
 have look: ∀ {x:Operand} {ax:AOpd},opd x=some ax→R ρ W (lookA glob e ax) (a.eval x):=fun h=>opd_sound hE hG h
 obtain ⟨callee,args,argTypes⟩:=c
 simp only at hc
 split at hc
 ·
  have eqx:execOp a.eval o=(do pure (.value (←Builtin.len_ argTypes o.type (args.map a.eval)))):=by
   simp only [execOp,ho,resolve,invoke,builtin,pure_bind]
  split at hc
  ·rename_i x t hargs htys
   obtain ⟨args⟩:=args
   obtain ⟨argTypes⟩:=argTypes
   cases hargs
   cases htys
   split at hc
   ·rename_i hu
    simp only [Option.bind_eq_bind,Option.pure_def,Option.bind_eq_some_iff,Option.some.injEq] at hc
    obtain ⟨ax,h1,rfl⟩:=hc
    have hx:=look h1
    simp only [stepOp] at h
    split at h
    ·rename_i l _ hl
     cases h
     rw [hl] at hx
     obtain ⟨s,hv,rfl⟩:=hx.str_inv
     refine pureV hR eqx ⟨.int .i64 s.data.toList.length, ?_, .int _ _⟩
     simp [Builtin.len_,hv,run_underlying hu,goInt]
    ·rename_i hb _;cases hb
    ·rename_i hb _;cases hb
    ·rename_i hb _;cases hb
    ·cases h
   ·rename_i el hu
    simp only [Option.bind_eq_bind,Option.pure_def,Option.bind_eq_some_iff,Option.some.injEq] at hc
    obtain ⟨ax,h1,rfl⟩:=hc
    have hx:=look h1
    have sl: ∀an n c,a.eval x= .slice an n c→ ∃v,(Builtin.len_ #[t] o.type (#[x].map a.eval)).run P W= .ok v W∧R ρ W (.int .i64 n) v:=by
     intro an n c hv
     exact ⟨.int .i64 n,by simp [Builtin.len_,hv,run_underlying hu,goInt], .int _ _⟩
    generalize hv:a.eval x=v at hx
    simp only [stepOp] at h
    split at h
    ·rename_i hb _;cases hb
    ·rename_i l _ hl
     cases h
     rw [hl] at hx
     cases hx with
     |slice0 an c=>exact pureV hR eqx (sl _ _ _ hv)
     |slice hf hn=>subst hn;exact pureV hR eqx (sl _ _ _ hv)
    ·rename_i _ hl
     cases h
     rw [hl] at hx
     cases hx
     exact pureV hR eqx (sl _ _ _ hv)
    ·rename_i _ hl
     cases h
     rw [hl] at hx
     cases hx with
     |arr=>exact pureV hR eqx (sl _ _ _ hv)
     |arr0=>exact pureV hR eqx (sl _ _ _ hv)
    ·cases h
   ·cases hc
  ·cases hc
 ·
  have eqx:execOp a.eval o=(do pure (.value (←Builtin.append_ argTypes o.type (args.map a.eval)))):=by
   simp only [execOp,ho,resolve,invoke,builtin,pure_bind]
  split at hc
  ·rename_i s x t u hargs htys
   obtain ⟨args⟩:=args
   obtain ⟨argTypes⟩:=argTypes
   cases hargs
   cases htys
   split at hc
   ·rename_i el el' hu1 hu2
    simp only [Option.bind_eq_bind,Option.bind_eq_some_iff] at hc
    obtain ⟨sz,hs,z,hz,hc⟩:=hc
    split at hc
    ·rename_i hcond
     simp only [Bool.and_eq_true,decide_eq_true_eq] at hcond
     simp only [Option.pure_def,Option.bind_eq_some_iff,Option.some.injEq] at hc
     obtain ⟨bytes,hb,as,h1,ax,h2,rfl⟩:=hc
     obtain ⟨ρ',W',v,d,rfl,hrun,L,hR',hr⟩:=append_sound (ty:=o.type) hR hu1 hu2 hs hb hz hcond.1 hcond.2 (look h1) (look h2) h
     exact newV eqx ⟨ρ',W',v,by simpa using hrun,L,hR',hr⟩
    ·cases hc
   ·cases hc
  ·cases hc
 ·
  have eqx:execOp a.eval o=(do pure (.value (←Builtin.copy_ argTypes o.type (args.map a.eval)))):=by
   simp only [execOp,ho,resolve,invoke,builtin,pure_bind]
  split at hc
  ·rename_i s x t u hargs htys
   obtain ⟨args⟩:=args
   obtain ⟨argTypes⟩:=argTypes
   cases hargs
   cases htys
   split at hc
   ·rename_i el el' hu1 hu2
    simp only [Option.bind_eq_bind,Option.pure_def,Option.bind_eq_some_iff,Option.some.injEq] at hc
    obtain ⟨sz,hs,as,h1,ax,h2,rfl⟩:=hc
    obtain ⟨ρ',W',v,d,rfl,hrun,L,hR',hr⟩:=copy_sound (ty:=o.type) hR hu1 hu2 hs (look h1) (look h2) h
    exact newV eqx ⟨ρ',W',v,by simpa using hrun,L,hR',hr⟩
   ·cases hc
  ·cases hc
 ·
  have eqx:execOp a.eval o=(do pure (.value (←Builtin.max_ argTypes o.type (args.map a.eval)))):=by
   simp only [execOp,ho,resolve,invoke,builtin,pure_bind]
  simp only [Option.bind_eq_bind,Option.pure_def,Option.bind_eq_some_iff,Option.some.injEq] at hc
  obtain ⟨as,h1,rfl⟩:=hc
  have ha:=call_args hE hG h1
  simp only [stepOp] at h
  split at h
  ·rename_i k x k' y hl
   split at h
   ·rename_i hk
    subst hk
    cases h
    rw [hl] at ha
    obtain ⟨v,u,hv,hx,hy⟩:=rs_two ha
    refine pureV hR eqx ⟨_, ?_, .int k (if y>x then y else x)⟩
    rw [hv,hx.int_inv,hy.int_inv]
    simp [Builtin.max_,Builtin.max2]
   ·cases h
  ·cases h
 ·
  have eqx:execOp a.eval o=(do pure (.value (←Builtin.min_ argTypes o.type (args.map a.eval)))):=by
   simp only [execOp,ho,resolve,invoke,builtin,pure_bind]
  simp only [Option.bind_eq_bind,Option.pure_def,Option.bind_eq_some_iff,Option.some.injEq] at hc
  obtain ⟨as,h1,rfl⟩:=hc
  have ha:=call_args hE hG h1
  simp only [stepOp] at h
  split at h
  ·rename_i k x k' y hl
   split at h
   ·rename_i hk
    subst hk
    cases h
    rw [hl] at ha
    obtain ⟨v,u,hv,hx,hy⟩:=rs_two ha
    refine pureV hR eqx ⟨_, ?_, .int k (if y<x then y else x)⟩
    rw [hv,hx.int_inv,hy.int_inv]
    simp [Builtin.min_,Builtin.min2]
   ·cases h
  ·cases h
 ·
  split at hc
  ·rename_i x hargs
   obtain ⟨args⟩:=args
   cases hargs
   simp only [Option.bind_eq_bind,Option.pure_def,Option.bind_eq_some_iff,Option.some.injEq] at hc
   obtain ⟨ax,h1,rfl⟩:=hc
   simp only [stepOp] at h
   split at h
   ·rename_i t v hl
    cases h
    have hx:=look h1
    rw [hl] at hx
    refine ⟨ρ,W, .refl _ _,hR,a.eval x, ?_,hx⟩
    generalize hv:a.eval x=w at hx
    cases hx
    simp [execOp,ho,resolve,invoke,builtin,hv,Instr.panic,goPanic,Sem.run]
   ·cases h
  ·cases hc
 ·cases hc
 ·cases hc
 ·
  rename_i f
  simp only [Option.bind_eq_bind,Option.pure_def,Option.bind_eq_some_iff,Option.some.injEq] at hc
  obtain ⟨as,h1,rfl⟩:=hc
  cases h
  have ha:=call_args hE hG h1
  refine ⟨ρ,W, .refl _ _,hR,args.map a.eval, ?_,rfl,ha⟩
  simp [execOp,ho,resolve,invoke,Deferred.ofValue,Act.eval]
 ·rename_i x hx
  simp only [Option.bind_eq_bind,Option.pure_def,Option.bind_eq_some_iff,Option.some.injEq] at hc
  obtain ⟨ax,h1,as,h2,rfl⟩:=hc
  have ha:=call_args hE hG h2
  have hx:=look h1
  simp only [stepOp] at h
  split at h
  ·rename_i f first captured hl
   cases h
   rw [hl] at hx
   generalize hv:a.eval x=v at hx
   cases hx with
   |func h1 h2 hf hcap=>
    rename_i fa ca
    refine ⟨ρ,W, .refl _ _,hR,fa++args.map a.eval++ca, ?_,rfl,Rs.append (Rs.append ⟨h1,hf⟩ ha) ⟨h2,hcap⟩⟩
    simp [execOp,ho,resolve,invoke,Deferred.ofValue,hv]
  ·rename_i i hl
   cases h
   rw [hl] at hx
   generalize hv:a.eval x=v at hx
   cases hx with
   |yield hp=>
    rename_i p
    refine ⟨ρ,W, .refl _ _,hR,p,args.map a.eval,hp, ?_,rfl,ha⟩
    simp [execOp,ho,resolve,invoke,Deferred.ofValue,hv]
  ·cases h
theorem stepOp_sound (hR:Rel ρ W σ) (hE:RE ρ W e a.tmps) (hG:GlobR ρ W glob) {acc:Nat→Bool} {o:Oper} {ao:AOp} (hc:cOp P acc o=some ao) {nx:Nx} {σ':St}
 (h:stepOp (lookA glob e) σ ao=some (nx,σ')):Steps P (execOp a.eval o) ρ W nx σ':=by
 have look: ∀ {x:Operand} {ax:AOpd},opd x=some ax→R ρ W (lookA glob e ax) (a.eval x):=fun h=>opd_sound hE hG h
 cases ho:o.op with
 |move x=>simp only [cOp,ho] at hc;exact mv_sound hR hE hG x (by simp only [execOp,ho]) hc h
 |assign x=>simp only [cOp,ho] at hc;exact mv_sound hR hE hG x (by simp only [execOp,ho]) hc h
 |pick c x y=>
  simp only [cOp,ho,Option.bind_eq_bind,Option.pure_def,Option.bind_eq_some_iff,Option.some.injEq] at hc
  obtain ⟨ac,h1,ax,h2,ay,h3,rfl⟩:=hc
  simp only [stepOp] at h
  split at h
  ·rename_i t ht
   cases h
   have:=look h1
   rw [ht] at this
   have hb:=this.bool_inv
   refine ⟨ρ,W, .refl _ _,hR,if t then a.eval x else a.eval y,by simp only [execOp,ho,hb];simp [asBool], ?_⟩
   cases t
   ·exact look h3
   ·exact look h2
  ·cases h
 |alloc elem=>
  simp only [cOp,ho] at hc
  split at hc
  ·split at hc
   ·rename_i hu hz
    simp only [Option.bind_eq_bind,Option.pure_def,Option.bind_eq_some_iff,Option.some.injEq] at hc
    obtain ⟨sz,hs,rfl⟩:=hc
    cases h
    exact newV (t:=Instr.alloc elem true (.tuple #[])) (by simp only [execOp,ho]) (allocRow_sound hR hz sz)
   ·cases hc
  ·simp only [Option.bind_eq_bind,Option.bind_eq_some_iff] at hc
   obtain ⟨z,hz,hc⟩:=hc
   split at hc
   ·rename_i hone
    cases hc
    cases h
    exact newV (t:=Instr.alloc elem true (.tuple #[])) (by simp only [execOp,ho]) (alloc_sound hR hz hone)
   ·cases hc
 |box t x=>
  simp only [cOp,ho,Option.bind_eq_bind,Option.pure_def,Option.bind_eq_some_iff,Option.some.injEq] at hc
  obtain ⟨ax,h1,rfl⟩:=hc
  simp only [stepOp] at h
  split at h
  ·rename_i hone
   cases h
   exact newV (t:=Instr.box t (a.eval x)) (by simp only [execOp,ho]) (box_sound hR (look h1) hone)
  ·cases h
 |build t parts=>
  simp only [cOp,ho] at hc
  split at hc
  ·rename_i fs hu
   simp only [Option.bind_eq_bind,Option.bind_eq_some_iff] at hc
   obtain ⟨places,h1,ps,h2,z,hz,hc⟩:=hc
   split at hc
   ·rename_i hone
    cases hc
    simp only [stepOp] at h
    obtain ⟨d,hd,rfl,rfl⟩:=val_some h
    obtain ⟨ds,hf,rfl⟩:=Option.map_eq_some_iff.1 hd
    have hp:=parts_sound hE hG (fun i=>places[i]?) h2
    refine pureV hR (t:=Instr.build t (parts.map fun (i,x)=>(i,a.eval x))) (by simp only [execOp,ho]) ?_
    refine build_sound hz hone (place:=fun i=>places[i]?) (fun zv i hi hq=> ?_) (m:=ps.map fun x=>(x.1,x.2.1,lookA glob e x.2.2)) (by simpa using hp) hf
    simp [Program.built,hi,hu,hq,h1]
   ·cases hc
  ·rename_i n el hu
   simp only [Option.bind_eq_bind,Option.bind_eq_some_iff] at hc
   obtain ⟨sz,hs,ps,h2,z,hz,hc⟩:=hc
   obtain ⟨ie,hie,hsz⟩:=sizeT_some hs
   split at hc
   ·rename_i hone
    cases hc
    simp only [stepOp] at h
    obtain ⟨d,hd,rfl,rfl⟩:=val_some h
    obtain ⟨ds,hf,rfl⟩:=Option.map_eq_some_iff.1 hd
    have hp:=parts_sound (l:=parts.toList) (ps:=ps) hE hG (fun i=>some (i*sz,sz)) (by simpa using h2)
    refine pureV hR (t:=Instr.build t (parts.map fun (i,x)=>(i,a.eval x))) (by simp only [execOp,ho]) ?_
    refine build_sound hz hone (place:=fun i=>some (i*sz,sz)) (fun zv i hi hq=> ?_) (m:=ps.map fun x=>(x.1,x.2.1,lookA glob e x.2.2)) (by simpa using hp) hf
    simp [Program.built,hi,hu,hq,hie,hsz]
   ·cases hc
  ·cases hc
 |buildSlice t len parts=>
  simp only [cOp,ho] at hc
  split at hc
  ·rename_i el hu
   simp only [Option.bind_eq_bind,Option.bind_eq_some_iff] at hc
   obtain ⟨sz,hs,hc⟩:=hc
   split at hc
   ·cases hc
   ·rename_i hlen
    simp only [Option.bind_eq_some_iff] at hc
    obtain ⟨ps,h2,z,hz,hc⟩:=hc
    have hp:=elems_sound hE hG h2
    split at hc
    ·rename_i hzl
     have eqx:execOp a.eval o=(do pure (.value (←Instr.buildSlice t len (parts.map fun (i,x)=>(i,a.eval x))))):=by simp only [execOp,ho]
     have hpl: (parts.map fun (i,x)=>(i,a.eval x)).toList=parts.toList.map fun x=>(x.1,a.eval x.2):=by simp
     split at hc
     ·cases hc
      simp only [stepOp] at h
      split at h
      ·rename_i hcond
       obtain ⟨es,hf,hx⟩:=Option.map_eq_some_iff.1 h
       cases hx
       obtain ⟨cs,hrun,hrc,hl,hones⟩:=buildSlice_run (P:=P) hu hs hz hzl hcond.2.1 hcond.2.2 hlen (ps:=parts.map fun (i,x)=>(i,a.eval x)) (by rw [hpl];exact hp) hf
       obtain ⟨ρ',L,hR',hr⟩:=newRow_sound hR el (sz:=sz) (cap:=len) (es:=es) (cs:=cs) (since:=0) (by omega) (by rw [hrc.1,hl]) (Nat.zero_le _)
        (fun k x hk=>⟨hrc.2.1 k x hk,hones x (List.mem_of_getElem? hk)⟩) hrc.2.2 _ rfl
       exact newV eqx ⟨ρ',_,_,hrun,L,hR',by rw [hl] at hr ⊢;exact hr⟩
      ·cases h
     ·cases hc
      simp only [stepOp] at h
      split at h
      ·rename_i hcond
       obtain ⟨d,hd,rfl,rfl⟩:=val_some h
       obtain ⟨es,hf,rfl⟩:=Option.map_eq_some_iff.1 hd
       obtain ⟨cs,hrun,hrc,hl,hones⟩:=buildSlice_run (P:=P) hu hs hz hzl hcond.2.1 hcond.2.2 hlen (ps:=parts.map fun (i,x)=>(i,a.eval x)) (by rw [hpl];exact hp) hf
       obtain ⟨ρ',L,hR',hr⟩:=newTree_sound hR el hrc _ rfl
       refine newV eqx ⟨ρ',_,_,hrun,L,hR', ?_⟩
       by_cases hl0:len=0
       ·subst hl0;rw [if_pos rfl];exact .empty _
       ·rw [if_neg hl0];rw [hl] at hr;exact hr
      ·cases h
    ·cases hc
  ·cases hc
 |load t x=>
  simp only [cOp,ho,Option.bind_eq_bind,Option.pure_def,Option.bind_eq_some_iff,Option.some.injEq] at hc
  obtain ⟨ag,h1,sz,h2,ax,h3,rfl⟩:=hc
  simp only [stepOp] at h
  obtain ⟨d,hd,rfl,rfl⟩:=val_some h
  exact pureV hR (t:=Instr.loadAt t (a.eval x)) (by simp only [execOp,ho]) (load_sound hR h1 h2 (look h3) hd)
 |store t x y=>
  simp only [cOp,ho,Option.bind_eq_bind,Option.pure_def,Option.bind_eq_some_iff,Option.some.injEq] at hc
  obtain ⟨sz,h1,ax,h2,ay,h3,rfl⟩:=hc
  simp only [stepOp] at h
  obtain ⟨σ1,hd,hx⟩:=Option.map_eq_some_iff.1 h
  cases hx
  exact unitV (t:=Instr.storeAt t (a.eval x) (a.eval y)) (by simp only [execOp,ho]) (store_sound hR h1 (look h2) (look h3) hd)
 |nilCheck x=>
  simp only [cOp,ho,Option.bind_eq_bind,Option.pure_def,Option.bind_eq_some_iff,Option.some.injEq] at hc
  obtain ⟨ax,h1,rfl⟩:=hc
  have hx:=look h1
  simp only [stepOp] at h
  split at h<;>first| (cases h;done) |skip
  all_goals
   rename_i hl
   cases h
   rw [hl] at hx
   generalize hv:a.eval x=v at hx
   have hx':=hx
   cases hx
   exact pureN hR (by simp only [execOp,ho,hv]) hx'
 |binOp op t x y r=>
  simp only [cOp,ho,Option.bind_eq_bind,Option.pure_def,Option.bind_eq_some_iff,Option.some.injEq] at hc
  obtain ⟨ax,h1,ay,h2,rfl⟩:=hc
  simp only [stepOp] at h
  obtain ⟨d,hd,rfl,rfl⟩:=val_some h
  exact pureV hR (t:=(do eqGuard op t x y (a.eval x) (a.eval y);binOp op t (a.eval x) (a.eval y))) (by simp only [execOp,ho]) (arithD_sound (look h1) (look h2) hd x y)
 |unOp op t x=>
  cases op with
  |neg=>
   simp only [cOp,ho,Option.bind_eq_bind,Option.pure_def,Option.bind_eq_some_iff,Option.some.injEq] at hc
   obtain ⟨ax,h1,rfl⟩:=hc
   simp only [stepOp] at h
   split at h
   ·rename_i k n hl
    cases h
    have:=look h1
    rw [hl] at this
    have hv:=this.int_inv
    refine pureV hR (t:=Op.unary .neg (a.eval x)) (by simp only [execOp,ho]) ⟨_, ?_, .int k (k.wrap (0 - n))⟩
    rw [hv];rfl
   ·cases h
  |not=>
   simp only [cOp,ho,Option.bind_eq_bind,Option.pure_def,Option.bind_eq_some_iff,Option.some.injEq] at hc
   obtain ⟨ax,h1,rfl⟩:=hc
   simp only [stepOp] at h
   split at h
   ·rename_i b hl
    cases h
    have:=look h1
    rw [hl] at this
    have hv:=this.bool_inv
    refine pureV hR (t:=Op.unary .not (a.eval x)) (by simp only [execOp,ho]) ⟨_, ?_, .bool (!b)⟩
    rw [hv];rfl
   ·cases h
  |_=>simp [cOp,ho] at hc
 |convert s d x=>
  simp only [cOp,ho] at hc
  have eqx:execOp a.eval o=(do pure (.value (←convert s d (a.eval x)))):=by simp only [execOp,ho]
  split at hc
  ·rename_i k1 k2 hs hd
   simp only [Option.bind_eq_bind,Option.pure_def,Option.bind_eq_some_iff,Option.some.injEq] at hc
   obtain ⟨ax,h1,rfl⟩:=hc
   simp only [stepOp] at h
   split at h
   ·rename_i k n hl
    cases h
    have:=look h1
    rw [hl] at this
    have hv:=this.int_inv
    refine pureV hR eqx ⟨_, ?_, .int k2 (k2.wrap n)⟩
    rw [hv];simp [convert,run_underlying hs,run_underlying hd,Conv.intToInt]
   ·cases h
  ·rename_i k1 hs hd
   simp only [Option.bind_eq_bind,Option.pure_def,Option.bind_eq_some_iff,Option.some.injEq] at hc
   obtain ⟨ax,h1,rfl⟩:=hc
   have hx:=look h1
   simp only [stepOp] at h
   split at h
   ·rename_i k n hl
    split at h
    ·rename_i hn
     cases h
     rw [hl] at hx
     have hv:=hx.int_inv
     refine pureV hR eqx ⟨.string (Utf8.encode n), ?_, ?_⟩
     ·rw [hv];simp [convert,run_underlying hs,run_underlying hd,Conv.intToString]
     ·rw [←encode_ascii hn.1 hn.2];exact .str _
    ·cases h
   ·rename_i l hl
    cases h
    rw [hl] at hx
    obtain ⟨t,hv,rfl⟩:=hx.str_inv
    refine pureV hR eqx ⟨.string t, ?_, .str t⟩
    rw [hv];simp [convert,run_underlying hs,run_underlying hd]
   ·cases h
  ·rename_i hs hd
   simp only [Option.bind_eq_bind,Option.pure_def,Option.bind_eq_some_iff,Option.some.injEq] at hc
   obtain ⟨ax,h1,rfl⟩:=hc
   have hx:=look h1
   simp only [stepOp] at h
   split at h
   ·rename_i k n hl
    split at h
    ·rename_i hn
     cases h
     rw [hl] at hx
     have hv:=hx.int_inv
     refine pureV hR eqx ⟨.string (Utf8.encode n), ?_, ?_⟩
     ·rw [hv];simp [convert,run_underlying hs,run_underlying hd,Conv.intToString]
     ·rw [←encode_ascii hn.1 hn.2];exact .str _
    ·cases h
   ·rename_i l hl
    cases h
    rw [hl] at hx
    obtain ⟨t,hv,rfl⟩:=hx.str_inv
    refine pureV hR eqx ⟨.string t, ?_, .str t⟩
    rw [hv];simp [convert,run_underlying hs,run_underlying hd]
   ·cases h
  ·cases hc
 |makeInterface t x=>
  simp only [cOp,ho] at hc
  split at hc
  ·cases hc
  ·cases hc
  ·rename_i hn1 hn2
   simp only [Option.bind_eq_bind,Option.pure_def,Option.bind_eq_some_iff,Option.some.injEq] at hc
   obtain ⟨ax,h1,rfl⟩:=hc
   cases h
   refine pureV hR (t:=Instr.makeInterface t (a.eval x)) (by simp only [execOp,ho]) ⟨.iface t (a.eval x), ?_, .iface (look h1)⟩
   cases hu:P.underlying t with
   |none=>exact absurd hu hn2
   |some u=>
    simp only [Instr.makeInterface,Sem.run_bind,run_underlying hu,Result.andThen_ok]
    cases u<;>first|rfl|exact absurd hu (hn1 _)
 |makeFunc f first captured=>
  cases f with
  |func g=>
   simp only [cOp,ho,Option.bind_eq_bind,Option.pure_def,Option.bind_eq_some_iff,Option.some.injEq] at hc
   obtain ⟨fs,h1,cs,h2,rfl⟩:=hc
   cases h
   have a1:=call_args hE hG h1
   have a2:=call_args hE hG h2
   exact pureV hR (t:=Instr.makeFunc (.func g) (first.map a.eval) (captured.map a.eval)) (by simp only [execOp,ho]) ⟨_,rfl, .func a1.1 a2.1 a1.2 a2.2⟩
  |_=>simp [cOp,ho] at hc
 |makeMap t r=>
  cases r with
  |some r=>simp [cOp,ho] at hc
  |none=>
   simp only [cOp,ho,Option.pure_def,Option.some.injEq] at hc
   subst hc
   cases h
   exact newV (t:=Instr.makeMap t none) (by simp only [execOp,ho];rfl) (mkMap_sound hR t)
 |makeSlice t l c=>
  simp only [cOp,ho] at hc
  split at hc
  ·rename_i el hu
   simp only [Option.bind_eq_bind,Option.pure_def,Option.bind_eq_some_iff,Option.some.injEq] at hc
   obtain ⟨sz,h1,bytes,h2,z,h3,al,h4,ac,h5,rfl⟩:=hc
   simp only [stepOp] at h
   split at h
   ·rename_i n m hl hm
    split at h
    ·rename_i hcond
     cases h
     have e1:=look h4
     have e2:=look h5
     rw [hl] at e1
     rw [hm] at e2
     refine newV (t:=Instr.makeSlice t (a.eval l) (a.eval c)) (by simp only [execOp,ho]) ?_
     rw [e1.int_inv,e2.int_inv]
     exact makeSlice_sound hR hu h1 h2 h3 hcond.1 hcond.2.1 hcond.2.2.1 hcond.2.2.2.1 hcond.2.2.2.2.1 hcond.2.2.2.2.2.2 _ _
    ·cases h
   ·cases h
  ·cases hc
 |fieldAddr s x f=>
  simp only [cOp,ho] at hc
  split at hc
  ·rename_i fs hu
   simp only [Option.bind_eq_bind,Option.bind_eq_some_iff] at hc
   obtain ⟨fl,hf,sz,hs,hc⟩:=hc
   split at hc
   ·cases hc
   ·rename_i hz
    simp only [Option.pure_def,Option.bind_eq_some_iff,Option.some.injEq] at hc
    obtain ⟨ax,h1,rfl⟩:=hc
    exact addOff_sound hR (look h1) (f:=fun v=>Instr.fieldAt s v f) (by simp only [execOp,ho]) (fun b o=>fieldAt_run hu hf hs hz b o) h
  ·cases hc
 |field t x f=>
  simp only [cOp,ho] at hc
  split at hc
  ·rename_i fs hu
   simp only [Option.bind_eq_bind,Option.pure_def,Option.bind_eq_some_iff,Option.some.injEq] at hc
   obtain ⟨fl,hf,ag,hag,sz,hs,ax,h1,rfl⟩:=hc
   simp only [stepOp] at h
   split at h
   ·rename_i cs hl
    split at h
    ·rename_i hle
     obtain ⟨d,hd,rfl,rfl⟩:=val_some h
     have hx:=look h1
     rw [hl] at hx
     obtain ⟨vs,hv,hcells⟩:=agg_cells hx
     obtain ⟨v,hrun,hr⟩:=part_sound (P:=P) hag hs hcells hle hd
     refine pureV hR (t:=Instr.field t (a.eval x) f) (by simp only [execOp,ho]) ⟨v, ?_,hr⟩
     rw [hv]
     simp [Instr.field,run_underlying hu,hf,asAgg,hrun]
    ·cases h
   ·cases h
  ·cases hc
 |extract x i=>
  simp only [cOp,ho,Option.bind_eq_bind,Option.pure_def,Option.bind_eq_some_iff,Option.some.injEq] at hc
  obtain ⟨ax,h1,rfl⟩:=hc
  simp only [stepOp] at h
  split at h
  ·rename_i vs hl
   obtain ⟨d,hd,rfl,rfl⟩:=val_some h
   have hx:=look h1
   rw [hl] at hx
   generalize hv:a.eval x=v at hx
   cases hx with
   |tuple hs hr=>
    rename_i ws
    have hi:i<ws.size:=by rw [hs];exact (List.getElem?_eq_some_iff.1 hd).1
    refine pureV hR (t:=Instr.extract (a.eval x) i) (by simp only [execOp,ho]) ⟨ws.getD i undef, ?_,hr i d hd⟩
    rw [hv]
    simp [Instr.extract,hi]
  ·cases h
 |panic x=>
  simp only [cOp,ho,Option.bind_eq_bind,Option.pure_def,Option.bind_eq_some_iff,Option.some.injEq] at hc
  obtain ⟨ax,h1,rfl⟩:=hc
  simp only [stepOp] at h
  split at h
  ·rename_i t v hl
   cases h
   have hx:=look h1
   rw [hl] at hx
   refine ⟨ρ,W, .refl _ _,hR,a.eval x, ?_,hx⟩
   generalize hv:a.eval x=w at hx
   cases hx
   simp only [execOp,ho,hv]
   rfl
  ·cases h
 |slice t x lo hi mx=>
  have eqx:execOp a.eval o=(do pure (.value (←Instr.sliceAt t (a.eval x) (lo.map a.eval) (hi.map a.eval) (mx.map a.eval)))):=by simp only [execOp,ho]
  simp only [cOp,ho] at hc
  split at hc
  ·rename_i hu
   split at hc
   ·cases hc
   ·rename_i hm
    have hmx:mx=none:=by cases mx with|none=>rfl|some _=>simp at hm
    subst hmx
    simp only [Option.bind_eq_bind,Option.pure_def,Option.bind_eq_some_iff,Option.some.injEq] at hc
    obtain ⟨ax,h1,alo,h2,ahi,h3,rfl⟩:=hc
    simp only [stepOp] at h
    split at h
    ·rename_i l hl
     split at h
     ·rename_i hh hb1
      split at h
      ·rename_i bb hb2
       cases h
       have hx:=look h1
       rw [hl] at hx
       obtain ⟨s,hv,rfl⟩:=hx.str_inv
       refine pureV hR eqx ?_
       rw [hv]
       exact sliceStr_sound hu hb1 hb2 (opdO_sound hE hG h2) (opdO_sound hE hG h3)
      ·cases h
     ·cases h
    ·cases h
  ·rename_i el hu
   simp only [Option.bind_eq_bind,Option.pure_def,Option.bind_eq_some_iff,Option.some.injEq] at hc
   obtain ⟨ax,h1,alo,h2,ahi,h3,amx,h4,sz,hs,rfl⟩:=hc
   have hx:=look h1
   have olo:=opdO_sound hE hG h2
   have ohi:=opdO_sound hE hG h3
   have omx:=opdO_sound hE hG h4
   have full: ∀ (an:Option Addr) (n c:Nat),a.eval x= .slice an n c→ ∀m,amx=some m→
    (match alo.map (lookA glob e),ahi.map (lookA glob e),lookA glob e m with
      |none,some (.int _ 0), .int _ 0=>some (Nx.value .empty,σ)
      |some (.int _ 0),some (.int _ 0), .int _ 0=>some (.value .empty,σ)
      |_,_,_=>none)=some (nx,σ')→Steps P (execOp a.eval o) ρ W nx σ':=by
    clear h
    intro an n c hv m hm h
    subst hm
    have hmv: ∃v,mx.map a.eval=some v∧R ρ W (lookA glob e m) v:=by
     cases hq:mx.map a.eval with
     |none=>rw [hq] at omx;exact omx.elim
     |some v=>rw [hq] at omx;exact ⟨v,rfl,omx⟩
    obtain ⟨vm,hvm,rm⟩:=hmv
    have hhv: ∀k,ahi.map (lookA glob e)=some (.int k 0)→hi.map a.eval=some (.int k 0):=fun k hk=>by
     rw [hk] at ohi
     cases hq:hi.map a.eval with
     |none=>rw [hq] at ohi;exact ohi.elim
     |some v=>rw [hq] at ohi;rw [R.int_inv ohi]
    split at h
    ·rename_i k1 k2 e1 e2 e3
     cases h
     rw [e3] at rm
     refine pureV hR eqx ?_
     rw [hv,hvm,rm.int_inv,hhv _ e2]
     refine slice00 hu hs (.inl ?_)
     rw [e1] at olo
     cases hq:lo.map a.eval with
     |none=>rfl
     |some v=>rw [hq] at olo;exact olo.elim
    ·rename_i k0 k1 k2 e1 e2 e3
     cases h
     rw [e3] at rm
     refine pureV hR eqx ?_
     rw [hv,hvm,rm.int_inv,hhv _ e2]
     refine slice00 hu hs (.inr ⟨k0, ?_⟩)
     rw [e1] at olo
     cases hq:lo.map a.eval with
     |none=>rw [hq] at olo;exact olo.elim
     |some v=>rw [hq] at olo;rw [R.int_inv olo]
    ·cases h
   have nomax:amx=none→mx.map a.eval=none:=fun hm=>by
    subst hm
    cases hq:mx.map a.eval with
    |none=>rfl
    |some v=>rw [hq] at omx;exact omx.elim
   simp only [stepOp] at h
   split at h
   ·rename_i es hl
    rw [hl] at hx
    rw [nomax rfl] at eqx
    split at h
    ·rename_i hh hb1
     split at h
     ·rename_i bb hb2
      split at h
      ·rename_i hall
       cases h
       exact pureV hR eqx (sliceTree_sound hu hs hx hall hb1 hb2 olo ohi)
      ·cases h
     ·cases h
    ·cases h
   ·rename_i i ver off n hl
    rw [hl] at hx
    rw [nomax rfl] at eqx
    have key: ∀sz' es since,RowR ρ W i sz' es since→(if sz'=sz∧since≤ver∧ver≤es.length then
     match bound n n (ahi.map (lookA glob e)) with
     |some h=>match bound h 0 (alo.map (lookA glob e)) with
      |some b=>some (Nx.value (if b=h then .slice [] else .arr i ver (off+b) (h - b)),σ)
      |none=>none
     |none=>none
    else none)=some (nx,σ')→Steps P (execOp a.eval o) ρ W nx σ':=by
     intro sz' es since hrow h
     split at h
     ·rename_i hcond
      split at h
      ·rename_i hh hb1
       split at h
       ·rename_i bb hb2
        cases h
        exact pureV hR eqx (sliceArr_sound hu hs hx (fun p hp=>by rw [hrow.sz hcond.2.1 hcond.2.2 hp,hcond.1]) hb1 hb2 olo ohi)
       ·cases h
      ·cases h
     ·cases h
    split at h
    ·rename_i sz' es since hes;exact key _ _ _ (hR.obj i _ hes) h
    ·rename_i sz' es since hes;exact key _ _ _ (hR.obj i _ hes).1 h
    ·cases h
   ·rename_i es m hl
    rw [hl] at hx
    generalize hv:a.eval x=v at hx
    cases hx with
    |slice0 an c=>exact full _ _ _ hv m rfl h
    |slice=>exact full _ _ _ hv m rfl h
   ·rename_i i ver off n m hl
    rw [hl] at hx
    generalize hv:a.eval x=v at hx
    cases hx with
    |arr=>exact full _ _ _ hv m rfl h
    |arr0=>exact full _ _ _ hv m rfl h
   ·rename_i m hl
    rw [hl] at hx
    generalize hv:a.eval x=v at hx
    cases hx with
    |empty an=>exact full _ _ _ hv m rfl h
   ·rename_i hl
    rw [hl] at hx
    rw [nomax rfl] at eqx
    split at h
    ·rename_i hh hb1
     split at h
     ·rename_i bb hb2
      cases h
      generalize hv:a.eval x=v at hx
      cases hx with
      |empty an=>
       obtain ⟨hb,hle,hle2⟩:=bounds_sound (P:=P) (cap:=0) hb1 hb2 olo ohi (Nat.le_refl _) true W
       obtain rfl:hh=0:=by omega
       obtain rfl:bb=0:=by omega
       refine pureV hR eqx ⟨.slice an 0 0, ?_, .empty _⟩
       rw [hv]
       simp [Instr.sliceAt,Instr.slice,run_underlying hu,hb,run_size hs]
     ·cases h
    ·cases h
   ·cases h
  ·cases hc
 |indexAddr t x i=>
  have eqx:execOp a.eval o=(do pure (.value (←Instr.indexAt t (a.eval x) (a.eval i)))):=by simp only [execOp,ho]
  simp only [cOp,ho] at hc
  split at hc
  ·rename_i el hu
   simp only [Option.bind_eq_bind,Option.pure_def,Option.bind_eq_some_iff,Option.some.injEq] at hc
   obtain ⟨sz,hs,ax,h1,ai,h2,rfl⟩:=hc
   have hx:=look h1
   have hi:=look h2
   simp only [stepOp] at h
   split at h
   ·rename_i es k n hl hn
    split at h
    ·rename_i hcond
     split at h
     ·rename_i e1 he1
      split at h
      ·rename_i hsz
       cases h
       rw [hl] at hx
       rw [hn] at hi
       rw [hi.int_inv] at eqx
       exact pureV hR eqx (indexTree_sound hu hs hx hcond.1 hcond.2 he1 hsz)
      ·cases h
     ·cases h
    ·cases h
   ·rename_i j ver off m k n hl hn
    rw [hl] at hx
    rw [hn] at hi
    rw [hi.int_inv] at eqx
    split at h
    ·rename_i hcond
     have key: ∀sz' es since,RowR ρ W j sz' es since→(if sz'=sz∧since≤ver∧ver≤es.length then some (Nx.value (.rptr j ver (off+n.toNat) 0),σ) else none)=some (nx,σ')→
      Steps P (execOp a.eval o) ρ W nx σ':=by
      intro sz' es since hrow h
      split at h
      ·rename_i hc2
       cases h
       exact pureV hR eqx (indexArr_sound hu hs hx (fun p hp=>by rw [hrow.sz hc2.2.1 hc2.2.2 hp,hc2.1]) hcond.1 hcond.2)
      ·cases h
     split at h
     ·rename_i sz' es since hes;exact key _ _ _ (hR.obj j _ hes) h
     ·rename_i sz' es since hes;exact key _ _ _ (hR.obj j _ hes).1 h
     ·cases h
    ·cases h
   ·cases h
  ·rename_i len el hu
   simp only [Option.bind_eq_bind,Option.pure_def,Option.bind_eq_some_iff,Option.some.injEq] at hc
   obtain ⟨sz,hs,ax,h1,ai,h2,rfl⟩:=hc
   have hx:=look h1
   have hi:=look h2
   simp only [stepOp] at h
   split at h
   ·rename_i k n hn
    rw [hn] at hi
    rw [hi.int_inv] at eqx
    split at h
    ·rename_i hcond
     refine addOff_sound (x:=ax) (off:=n.toNat*sz) hR hx (f:=fun v=>Instr.indexAt t v (.int k n)) eqx (fun b o=>indexAtA_run hu hs hcond.1 hcond.2 b o) ?_
     simp only [stepOp]
     exact h
    ·cases h
   ·cases h
  ·cases hc
 |index t x i=>
  have eqx:execOp a.eval o=(do pure (.value (←Instr.index t (a.eval x) (a.eval i)))):=by simp only [execOp,ho]
  simp only [cOp,ho] at hc
  split at hc
  ·rename_i len el hu
   simp only [Option.bind_eq_bind,Option.pure_def,Option.bind_eq_some_iff,Option.some.injEq] at hc
   obtain ⟨ag,hag,sz,hs,ax,h1,ai,h2,rfl⟩:=hc
   have hx:=look h1
   have hi:=look h2
   simp only [stepOp] at h
   split at h
   ·rename_i cs k n hl hn
    rw [hl] at hx
    rw [hn] at hi
    rw [hi.int_inv] at eqx
    split at h
    ·rename_i hcond
     obtain ⟨d,hd,rfl,rfl⟩:=val_some h
     obtain ⟨vs,hv,hcells⟩:=agg_cells hx
     obtain ⟨v,hrun,hr⟩:=part_sound (P:=P) hag hs hcells (by rw [Nat.succ_mul] at hcond;omega) hd
     refine pureV hR eqx ⟨v, ?_,hr⟩
     rw [hv]
     simp [Instr.index,asIntOf,run_underlying hu,run_size hs,hcond.1,hcond.2.1,hrun]
    ·cases h
   ·cases h
  ·rename_i hu
   simp only [Option.bind_eq_bind,Option.pure_def,Option.bind_eq_some_iff,Option.some.injEq] at hc
   obtain ⟨ax,h1,ai,h2,rfl⟩:=hc
   have hx:=look h1
   have hi:=look h2
   simp only [stepOp] at h
   split at h
   ·rename_i l k n hl hn
    rw [hl] at hx
    rw [hn] at hi
    rw [hi.int_inv] at eqx
    split at h
    ·rename_i hcond
     split at h
     ·rename_i b hb
      cases h
      obtain ⟨s,hv,rfl⟩:=hx.str_inv
      refine pureV hR eqx ⟨_, ?_, .int .u8 b.toNat⟩
      rw [hv]
      exact indexStr_sound hu hcond.1 hcond.2 hb
     ·cases h
    ·cases h
   ·cases h
  ·cases hc
 |lookup t x k ok=>
  have eqx:execOp a.eval o=(do pure (.value (←Instr.lookup t (a.eval x) (a.eval k) ok))):=by simp only [execOp,ho]
  simp only [cOp,ho] at hc
  split at hc
  ·rename_i kt el hu
   simp only [Option.bind_eq_bind,Option.pure_def,Option.bind_eq_some_iff,Option.some.injEq] at hc
   obtain ⟨kc,hk,z,hz,ax,h1,ak,h2,rfl⟩:=hc
   simp only [stepOp] at h
   split at h
   ·cases h
   ·split at h
    ·rename_i r hr
     cases h
     exact pureV hR eqx (lookup_sound hR hu hk hz (look h1) (look h2) hr ok)
    ·cases h
  ·cases hc
 |mapUpdate t m k v=>
  have eqx:execOp a.eval o=(do Instr.mapUpdate t (a.eval m) (a.eval k) (a.eval v);pure .skip):=by simp only [execOp,ho]
  simp only [cOp,ho] at hc
  split at hc
  ·rename_i kt el hu
   simp only [Option.bind_eq_bind,Option.pure_def,Option.bind_eq_some_iff,Option.some.injEq] at hc
   obtain ⟨kc,hk,am,h1,ak,h2,av,h3,rfl⟩:=hc
   exact mapUp_sound hR hu hk (look h1) (look h2) (look h3) eqx h
  ·cases hc
 |insert t m k v=>
  have eqx:execOp a.eval o=(do Instr.mapUpdate t (a.eval m) (a.eval k) (a.eval v);pure .skip):=by simp only [execOp,ho]
  simp only [cOp,ho] at hc
  split at hc
  ·rename_i kt el hu
   simp only [Option.bind_eq_bind,Option.pure_def,Option.bind_eq_some_iff,Option.some.injEq] at hc
   obtain ⟨kc,hk,am,h1,ak,h2,av,h3,rfl⟩:=hc
   exact mapUp_sound hR hu hk (look h1) (look h2) (look h3) eqx h
  ·cases hc
 |range t x=>
  simp only [cOp,ho] at hc
  split at hc
  ·rename_i hu
   simp only [Option.bind_eq_bind,Option.pure_def,Option.bind_eq_some_iff,Option.some.injEq] at hc
   obtain ⟨ax,h1,rfl⟩:=hc
   simp only [stepOp] at h
   split at h
   ·rename_i l hl
    cases h
    have hx:=look h1
    rw [hl] at hx
    obtain ⟨s,hv,rfl⟩:=hx.str_inv
    refine newV (t:=Instr.range t (a.eval x)) (by simp only [execOp,ho]) ?_
    rw [hv]
    exact rangeStr_sound hR hu s
   ·cases h
  ·cases hc
 |next it str=>
  cases str with
  |false=>simp [cOp,ho] at hc
  |true=>
   simp only [cOp,ho,Option.bind_eq_bind,Option.pure_def,Option.bind_eq_some_iff,Option.some.injEq] at hc
   obtain ⟨ax,h1,rfl⟩:=hc
   have eqx:execOp a.eval o=(do pure (.value (←Instr.next (a.eval it) true o.type))):=by simp only [execOp,ho]
   have hx:=look h1
   simp only [stepOp] at h
   split at h
   ·rename_i i hl
    rw [hl] at hx
    split at h
    ·rename_i l pos hs
     obtain ⟨n1,n2⟩:=nextStr_sound (P:=P) hR hx hs o.type
     split at h
     ·rename_i hlt
      cases h
      obtain ⟨W',u,hrun,L,hR',hr⟩:=n1 hlt
      exact newV eqx ⟨ρ,W',u,hrun,L,hR',hr⟩
     ·rename_i hlt
      cases h
      exact pureV hR eqx (n2 hlt)
    ·cases h
   ·cases h
 |typeAssert x xt t ok=>
  have eqx:execOp a.eval o=(do pure (.value (←Instr.typeAssert (a.eval x) xt t ok))):=by simp only [execOp,ho]
  simp only [cOp,ho] at hc
  split at hc
  ·cases hc
  ·cases hc
  ·rename_i hn1 hn2
   simp only [Option.bind_eq_bind,Option.pure_def,Option.bind_eq_some_iff,Option.some.injEq] at hc
   obtain ⟨z,hz,ax,h1,rfl⟩:=hc
   obtain ⟨iz,zv,_,_,hzv,hzrun⟩:=zeroT_some hz
   obtain ⟨u,hu⟩: ∃u,P.underlying t=some u:=by
    cases hu:P.underlying t with
    |none=>exact absurd hu hn2
    |some u=>exact ⟨u,rfl⟩
   have hnot: ∀w,u≠ .interface w:=fun w hw=>hn1 w (by rw [hu,hw])
   have hx:=look h1
   simp only [stepOp] at h
   split at h
   ·rename_i t' v hl
    rw [hl] at hx
    generalize hv:a.eval x=w at hx
    rw [hv] at eqx
    cases hx with
    |iface hi=>
     rename_i w
     split at h
     ·rename_i htt
      subst htt
      cases h
      refine pureV hR eqx ⟨if ok then .tuple #[w, .bool true] else w, ?_, ?_⟩
      ·simp only [Instr.typeAssert,Sem.run_bind,run_underlying hu,Result.andThen_ok]
       cases u<;>first| (simp;done) |exact absurd rfl (hnot _)
      ·cases ok
       ·exact hi
       ·refine .tuple rfl fun j d hd=> ?_
        match j,hd with
        |0,hd=>cases hd;exact hi
        |1,hd=>cases hd;exact .bool _
        |j+2,hd=>simp at hd
     ·rename_i htt
      split at h
      ·rename_i hok
       subst hok
       cases h
       refine pureV hR eqx ⟨.tuple #[zv, .bool false], ?_, ?_⟩
       ·simp only [Instr.typeAssert,Sem.run_bind,run_underlying hu,Result.andThen_ok]
        cases u<;>first| (simp [htt,hzrun];done) |exact absurd rfl (hnot _)
       ·refine .tuple rfl fun j d hd=> ?_
        match j,hd with
        |0,hd=>cases hd;exact valD_sound hzv
        |1,hd=>cases hd;exact .bool _
        |j+2,hd=>simp at hd
      ·cases h
   ·cases h
 |call c=>
  simp only [cOp,ho] at hc
  exact call_sound hR hE hG ho hc h
 |_=>simp [cOp,ho] at hc
end
section
variable {P:Program} {ρ:Ren} {W:World} {σ:St} {glob:Gl} {e:Env} {a:Act}
def EndR (ρ:Ren) (W:World) (σ':St) (r:FRes) (en:Ending) (W':World):Prop:=
 ∃ρ',Later ρ W ρ' W'∧Rel ρ' W' σ'∧match r,en with
  | .ret d, .returned v=>R ρ' W' d v
  | .panic d, .panicked ch=> ∃v,ch=[{v,recovered:=false}]∧R ρ' W' d v
  |_,_=>False
def codeP (P:Program):ACode→Code→FuncId→Prop:=fun ac c f=>(∃ (acc:Nat→Bool) (keep:Nat→Option (List Nat)),cCode P acc keep c=some ac)∧(P.funcs[f]?).isSome=true
abbrev FR (r:Option Nat):Fence:= {Fence.wide with round:=r}
theorem callsIn_FR {r:Option Nat} {n:Nat} {P:Program} {f:FuncId} {args:Array Value} {w:World} {R:Ending→World→Prop} :CallsIn (FR r) n P f args w R↔Calls P f args w R:=callsIn_wide (n:=n)
def Real (P:Program) (f:FuncId):Prop:= ∃fn,P.funcs[f]? =some fn∧fn.body.isNone=false∧(fn.name== "runtime.NumGoroutine")=false
def NatR0 (P:Program) (glob:Gl):Prop:=
 ∀f h,glob.nat f=some h→ ∀args r,h args=some r→ ∀ρ W vs,Rs ρ W args vs→ ∃v,(callFunc f vs).run P W= .ok (.value v) W∧R ρ W r v
structure Grown (w w':World):Prop where
 size:w.heap.size≤w'.heap.size
 os:w'.os=w.os
 tape:w'.tape=w.tape
 output:w'.output=w.output
 heap: ∀b,b<w.heap.size→w'.heap[b]? =w.heap[b]?
def CatchR (P:Program) (glob:Gl):Prop:=
 ∀f ty,glob.catches f=some ty→Real P f∧ ∃te:TypeId,∀ (g:FuncId) (fa ca:Array Value) (W:World) (Q:Ending→World→Prop),Real P g→
  Calls P g (fa++ca) (W.alloc (.cells #[.int .i64 0] te)) Q→
  (∀en w,Q en w→(∃y t,w.heap[W.heap.size]? =some (.cells #[y] t))∧((∃v,en= .returned v)∨ ∃n,en= .panicked [{v:= .iface ty (.agg #[.int .i64 n]),recovered:=false}]))→
  Calls P f #[.func (.func g) fa ca] W (fun en w=> ∃en' w' w'' n,Q en' w'∧en= .returned (.int .i64 n)∧Grown w' w''∧w=w''.setRow W.heap.size #[.int .i64 n]∧
   (((∃v,en'= .returned v)∧n=0)∨en'= .panicked [{v:= .iface ty (.agg #[.int .i64 n]),recovered:=false}]))
def NatR (P:Program) (glob:Gl):Prop:=NatR0 P glob∧CatchR P glob
def CallOK (P:Program) (glob:Gl) (callf:CallF):Prop:=
 NatR P glob∧ ∀t args σ r σ',callf t args σ=some (r,σ')→match t with
  | .fn f=>Real P f∧ ∀ρ W vs,Rel ρ W σ→GlobR ρ W glob→ρ.code=codeP P→Rs ρ W args vs→Calls P f vs W (EndR ρ W σ' r)
  | .round i=> ∀ρ W vs p,Rel ρ W σ→GlobR ρ W glob→ρ.code=codeP P→Rs ρ W args vs→ρ.loc i 0=some p→
   ∃l f tmps assign body,(Instr.yield p.blk vs).run P W= .ok (.round l f tmps assign body) W∧RoundIn (FR none) 0 P l f tmps assign body W (EndR ρ W σ' r)
theorem callFunc_run {f:FuncId} {fn:Func} (hf:P.funcs[f]? =some fn) (hb:fn.body.isNone=false) (hn: (fn.name== "runtime.NumGoroutine")=false) (vs:Array Value) (W:World):
 (callFunc f vs).run P W= .ok (.enter f vs) W:=by
 have h1:program.run P W= .ok P W:=rfl
 unfold callFunc
 rw [Sem.run_bind,h1]
 simp only [Result.andThen_ok,hf]
 rw [if_neg (by rw [hn];simp),if_neg (by rw [hb];simp)]
 rfl
theorem go_sound {callf:CallF} (hcall:CallOK P glob callf) (hR:Rel ρ W σ) (hE:RE ρ W e a.tmps) (hG:GlobR ρ W glob) (hcd:ρ.code=codeP P) {ro:Option Nat} {acc:Nat→Bool} {o:Oper} {ao:AOp} (hc:cOp P acc o=some ao)
 {sv:SV} {σ':St} (h:stepGo callf glob ao e σ=some (sv,σ')) {K:Act→World→Prop} {Q:Exit→Act→World→Prop}
 (hK: ∀ρ' W' v d,sv= .val d→Later ρ W ρ' W'→Rel ρ' W' σ'→R ρ' W' d v→K (a.put o.dst v) W')
 (hQ: ∀ρ' W' v d,sv= .panic d→Later ρ W ρ' W'→Rel ρ' W' σ'→R ρ' W' d v→Q (.panic [{v,recovered:=false}]) a W'):o.wpIn (FR ro) 0 P a W K Q:=by
 have hnd: ∀c,o.op≠ .defer c:=fun c hd=>by simp [cOp,hd] at hc
 refine ⟨fun _ _=>trivial, ?_⟩
 rw [Oper.semAt_eq _ _ _ hnd]
 unfold stepGo at h
 split at h
 ·rename_i d σ1 hs
  cases h
  obtain ⟨ρ',W',L,hR',v,hrun,hr⟩:=stepOp_sound hR hE hG hc hs
  rw [hrun]
  exact hK ρ' W' v d rfl L hR' hr
 ·rename_i σ1 hs
  cases h
  obtain ⟨ρ',W',L,hR',hrun⟩:=stepOp_sound hR hE hG hc hs
  rw [show (execOp a.eval o).run P W= .ok .skip W' from hrun]
  exact hK ρ' W' _ .undef rfl L hR' .undef
 ·rename_i f args σ1 hs
  obtain ⟨ρ',W',L,hR',vs,hrun,rfl,hvs⟩:=stepOp_sound hR hE hG hc hs
  rw [hrun]
  have fin: ∀r σ2,callf (.fn f) args σ1=some (r,σ2)→(∀d,r= .ret d→sv= .val d∧σ'=σ2)→(∀d,r= .panic d→sv= .panic d∧σ'=σ2)→
   o.uponIn (FR ro) 0 P a K Q ((callFunc f vs).run P W'):=by
   intro r σ2 hcf h1 h2
   obtain ⟨⟨fn,hf,hb,hn⟩,hcalls⟩:=hcall.2 (.fn f) args σ1 r σ2 hcf
   rw [callFunc_run hf hb hn]
   refine ⟨fun h=>(by cases h),callsIn_FR.2 (Calls.mono (hcalls ρ' W' vs hR' (hG.later L) (L.code.trans hcd) hvs) fun en w he=> ?_)⟩
   obtain ⟨ρ2,L2,hR2,hr⟩:=he
   cases r with
   |ret d=>
    obtain ⟨rfl,rfl⟩:=h1 d rfl
    cases en with
    |returned v=>exact hK ρ2 w v d rfl (L.trans L2) hR2 hr
    |_=>exact hr.elim
   |panic d=>
    obtain ⟨rfl,rfl⟩:=h2 d rfl
    cases en with
    |panicked ch=>
     obtain ⟨v,rfl,hv⟩:=hr
     exact hQ ρ2 w v d rfl (L.trans L2) hR2 hv
    |_=>exact hr.elim
  split at h
  ·rename_i h0 hnat
   obtain ⟨d,hd,hx⟩:=Option.map_eq_some_iff.1 h
   cases hx
   obtain ⟨v,hv,hr⟩:=hcall.1.1 f h0 hnat args d hd ρ' W' vs hvs
   rw [hv]
   exact hK ρ' W' v d rfl L hR' hr
  split at h
  ·rename_i d σ2 hcf;cases h;exact fin _ _ hcf (fun d h=>by cases h;exact ⟨rfl,rfl⟩) (fun d h=>by cases h)
  ·rename_i d σ2 hcf;cases h;exact fin _ _ hcf (fun d h=>by cases h) (fun d h=>by cases h;exact ⟨rfl,rfl⟩)
  ·cases h
 ·rename_i i args σ1 hs
  obtain ⟨ρ',W',L,hR',p,vs,hp,hrun,rfl,hvs⟩:=stepOp_sound hR hE hG hc hs
  rw [hrun]
  split at h
  ·rename_i d σ2 hcf
   cases h
   obtain ⟨l,f,tmps,assign,body,hy,hround⟩:=hcall.2 (.round i) args σ1 (.ret d) _ hcf ρ' W' vs p hR' (hG.later L) (L.code.trans hcd) hvs hp
   rw [hy]
   refine ⟨fun h=>(by cases h),hround.1,fun c cs hroom=> ?_⟩
   obtain ⟨en,w,he,hc⟩:=hround.2 c cs hroom
   refine ⟨en,w, ?_,hc⟩
   obtain ⟨ρ2,L2,hR2,hr⟩:=he
   cases en with
   |returned v=>exact hK ρ2 w v d rfl (L.trans L2) hR2 hr
   |_=>exact hr.elim
  ·rename_i d σ2 hcf
   cases h
   obtain ⟨l,f,tmps,assign,body,hy,hround⟩:=hcall.2 (.round i) args σ1 (.panic d) _ hcf ρ' W' vs p hR' (hG.later L) (L.code.trans hcd) hvs hp
   rw [hy]
   refine ⟨fun h=>(by cases h),hround.1,fun c cs hroom=> ?_⟩
   obtain ⟨en,w,he,hc⟩:=hround.2 c cs hroom
   refine ⟨en,w, ?_,hc⟩
   obtain ⟨ρ2,L2,hR2,hr⟩:=he
   cases en with
   |panicked ch=>
    obtain ⟨v,rfl,hv⟩:=hr
    exact hQ ρ2 w v d rfl (L.trans L2) hR2 hv
   |_=>exact hr.elim
  ·cases h
 ·rename_i d σ1 hs
  cases h
  obtain ⟨ρ',W',L,hR',v,hrun,hr⟩:=stepOp_sound hR hE hG hc hs
  rw [hrun]
  exact hQ ρ' W' v d rfl L hR' hr
 ·cases h
theorem cOper_some {acc:Nat→Bool} {dr:Bool} {ops:Array Oper} {o:Oper} {ao:AOper} (h:cOper P acc dr ops o=some ao):
 cOp P acc o=some ao.op∧ao.dst=o.dst∧ao.reads=(if dr then o.looksAt ops else [])∧
 (match o.guard with|none=>ao.guard=none|some (j,want)=> ∃t,(ops[j]?).bind (·.dst)=some t∧ao.guard=some (t,want)):=by
 unfold cOper at h
 cases hop:cOp P acc o with
 |none=>rw [hop] at h;cases h
 |some op=>
  rw [hop] at h
  simp only [Option.bind_eq_bind,Option.bind_some] at h
  split at h
  ·rename_i hg
   cases h
   exact ⟨rfl,rfl,rfl,by rw [hg]⟩
  ·rename_i j want hg
   cases ht: (ops[j]?).bind (·.dst) with
   |none=>rw [ht] at h;cases h
   |some t=>
    rw [ht] at h
    cases h
    exact ⟨rfl,rfl,rfl,by rw [hg];exact ⟨t,ht,rfl⟩⟩
theorem oper_sound {callf:CallF} (hcall:CallOK P glob callf) (hR:Rel ρ W σ) (hE:RE ρ W e a.tmps) (hG:GlobR ρ W glob) (hcd:ρ.code=codeP P) {ro:Option Nat} {acc:Nat→Bool} {dr:Bool} {ops:Array Oper} {o:Oper} {ao:AOper}
 (hc:cOper P acc dr ops o=some ao) {j:Nat} (hj:ops[j]? =some o)
 {sv:SV} {σ':St} (h:stepVal callf glob ao e σ=some (sv,σ')) {K:Act→World→Prop} {Q:Exit→Act→World→Prop}
 (hK: ∀ρ' W' v d,sv= .val d→Later ρ W ρ' W'→Rel ρ' W' σ'→R ρ' W' d v→K (a.put o.dst v) W')
 (hQ: ∀ρ' W' v d,sv= .panic d→Later ρ W ρ' W'→Rel ρ' W' σ'→R ρ' W' d v→Q (.panic [{v,recovered:=false}]) a W'):wpOpIn (FR ro) 0 P ops Q j K a W:=by
 obtain ⟨h1,h2,h3,h4⟩:=cOper_some hc
 unfold wpOpIn
 rw [hj]
 simp only
 unfold stepVal at h
 cases hg:o.guard with
 |none=>
  rw [hg] at h4
  simp only at h4
  rw [h4] at h
  rw [if_pos (by simp [Region.wanted,hg])]
  exact go_sound hcall hR hE hG hcd h1 h hK hQ
 |some gw=>
  obtain ⟨i,want⟩:=gw
  rw [hg] at h4
  obtain ⟨t,ht,hgu⟩:=h4
  rw [hgu] at h
  simp only at h
  have hv:=hE t
  have hy: ∀b,getE e t= .bool b→yielded ops a.tmps i=some b:=fun b hb=>by
   rw [hb] at hv
   have:=hv.bool_inv
   unfold yielded
   rw [ht]
   simp only [Option.bind_some]
   cases hq:a.tmps[t]? with
   |none=>simp [Array.getD_eq_getD_getElem?,hq,undef] at this
   |some x=>simp [Array.getD_eq_getD_getElem?,hq] at this;rw [this]
  have hn:getE e t= .undef→yielded ops a.tmps i=none:=fun hb=>by
   rw [hb] at hv
   have hx:a.tmps.getD t undef= .tuple #[]:=by
    generalize a.tmps.getD t undef=x at hv
    cases hv;rfl
   unfold yielded
   rw [ht]
   simp only [Option.bind_some]
   cases hq:a.tmps[t]? with
   |none=>rfl
   |some x=>simp [Array.getD_eq_getD_getElem?,hq] at hx;rw [hx]
  split at h
  ·rename_i b hb
   split at h
   ·rename_i hbw
    subst hbw
    rw [if_pos (by simp [Region.wanted,hg,hy b hb])]
    exact go_sound hcall hR hE hG hcd h1 h hK hQ
   ·rename_i hbw
    cases h
    rw [if_neg (by simp [Region.wanted,hg,hy b hb,hbw])]
    exact ⟨fun _ _=>trivial,hK ρ W _ .undef rfl (.refl _ _) hR .undef⟩
  ·rename_i hb
   cases h
   rw [if_neg (by simp [Region.wanted,hg,hn hb])]
   exact ⟨fun _ _=>trivial,hK ρ W _ .undef rfl (.refl _ _) hR .undef⟩
  ·cases h
end
end Go.AI
