/- Texts of the proof: an interpreter over trees, proved to follow the model. No conditions of its own. -/
import Derived.Test.YtgenoggafhhgfaaGreatDoorK3
import Derived.ScopeJumps
import Derived.RangeFuncRecord
import Derived.RangeFuncLeaves
import Derived.RangeFuncIn
set_option linter.unusedVariables false
set_option linter.unusedSimpArgs false
namespace Go.AI
open Go
def wpX (P:Program) (ro:Option Nat) (c:Code) (Q:Exit→Act→World→Prop) (a:Act) (w:World):Prop:=
 ∀ (b:Frame) (k:List Item) (cs:List Frame),b.roundOf=ro→(P.funcs[b.fn]?).isSome=true→
  ∃e a' w',Q e a' w'∧ArrivesIn (Machine.fenced P (FR none)) P (lone (b.atR a (.code c::k)) cs w) b k cs e a' w'
theorem roomR {r:Option Nat} (m:Nat): (FR r).room m:=fun d h=>by cases h
theorem calm {P:Program} {b:Frame} {a:Act} {k:List Item} {cs:List Frame} {w:World} (h: ∀f,(b.atR a k).about P w≠some f): (lone (b.atR a k) cs w).fenced P (FR none):=
 fenced_lone (.inl trivial) (fun f hf=>absurd hf (h f)) (roomR _)
section
variable {P:Program} {ro:Option Nat} {Q:Exit→Act→World→Prop} {a:Act} {w:World}
theorem wpX_of {n:Nat} {c:Code} (h:c.wpIn (FR ro) n P Q a w):wpX P ro c Q a w:=fun b k cs hro _=>h b k cs hro trivial (roomR _)
theorem wpX_mono {c:Code} {Q':Exit→Act→World→Prop} (h:wpX P ro c Q a w) (hq: ∀e a w,Q e a w→Q' e a w):wpX P ro c Q' a w:=
 fun b k cs hro hb=>let ⟨e,a',w',q,r⟩:=h b k cs hro hb;⟨e,a',w',hq _ _ _ q,r⟩
theorem oneR {b:Frame} {a:Act} {k:List Item} {cs:List Frame} {w:World} {m:Machine} (h:step P (lone (b.atR a k) cs w)= .next m) (hc: (b.atR a k).about P w=none:=by rfl):StepsIn (Machine.fenced P (FR none)) P (lone (b.atR a k) cs w) m:=
 .one (calm fun f=>by rw [hc];simp) h
theorem leave_item {x:Item} {b:Frame} {k:List Item} {cs:List Frame} {m:Machine} {e:Exit} {a:Act} {w:World} (hx: ∀id,exitTo id (x::k)=exitTo id k) (hg: ∀l,gotoIn l (x::k)=gotoIn l k) (he:e≠ .normal)
 (h:ArrivesIn (Machine.fenced P (FR none)) P m b (x::k) cs e a w):ArrivesIn (Machine.fenced P (FR none)) P m b k cs e a w:=by
 cases e with
 |normal=>exact absurd rfl he
 |exit id=>exact ⟨fun k' hk=>h.1 k' (by rw [hx];exact hk),fun hr hk=>h.2 hr (by rw [hx];exact hk)⟩
 |goto l=>exact ⟨fun k' hk=>h.1 k' (by rw [hg];exact hk),fun hr hk=>h.2 hr (by rw [hg];exact hk)⟩
 |ret=>exact h
 |panic ch=>exact h
 |outgrown=>exact h
theorem wpX_seq {x y:Code} (h:wpX P ro x (Exit.then (wpX P ro y Q) Q) a w):wpX P ro (.seq x y) Q a w:=by
 intro b k cs hro hb
 obtain ⟨e,a₁,w₁,hq,harr⟩:=h b (.code y::k) cs hro hb
 have s:=oneR (P:=P) (stepR_seq (b:=b) (a:=a) (k:=k) (cs:=cs) (w:=w) (x:=x) (y:=y))
 by_cases he:e= .normal
 ·subst he
  obtain ⟨e₂,a₂,w₂,hq₂,harr₂⟩:=hq b k cs hro hb
  exact ⟨e₂,a₂,w₂,hq₂, .of_steps (StepsIn.trans s harr) harr₂⟩
 ·refine ⟨e,a₁,w₁, ?_, .of_steps s (leave_item (fun id=>by simp [exitTo]) (fun l=>by simp [gotoIn]) he harr)⟩
  cases e<;>first|exact hq|exact absurd rfl he
theorem wpX_cond {c:Operand} {x y:Code} {t:Bool} (hc:a.eval c= .bool t) (h:wpX P ro (if t then x else y) Q a w):wpX P ro (.cond c x y) Q a w:=by
 intro b k cs hro hb
 obtain ⟨e,a',w',q,r⟩:=h b k cs hro hb
 exact ⟨e,a',w',q, .of_steps (oneR (stepR_cond hc)) r⟩
theorem wpX_block {id:Nat} {c:Code} (h:wpX P ro c (Exit.inBlock id Q) a w):wpX P ro (.block id c) Q a w:=by
 intro b k cs hro hb
 obtain ⟨e,a₁,w₁,hq,harr⟩:=h b (.inBlock id::k) cs hro hb
 have s:=oneR (P:=P) (stepR_block (b:=b) (a:=a) (k:=k) (cs:=cs) (w:=w) (id:=id) (c:=c))
 by_cases he:e= .normal
 ·subst he
  exact ⟨.normal,a₁,w₁,hq,StepsIn.trans s (StepsIn.trans harr (oneR stepR_inBlock))⟩
 ·by_cases hx:e= .exit id
  ·subst hx
   simp only [Exit.inBlock,if_true] at hq
   exact ⟨.normal,a₁,w₁,hq,StepsIn.trans s (harr.1 k (by simp [exitTo]))⟩
  ·refine ⟨e,a₁,w₁, ?_, .of_steps s ?_⟩
   ·cases e<;>first|exact hq|exact absurd rfl he|skip
    rename_i i
    simpa only [Exit.inBlock,show i≠id from fun h=>hx (by rw [h]),if_false] using hq
   ·cases e with
    |normal=>exact absurd rfl he
    |exit i=>
     have hi: (id==i)=false:=by simpa using fun h=>hx (by rw [h])
     have hxx:exitTo i (.inBlock id::k)=exitTo i k:=by simp [exitTo,hi]
     exact ⟨fun k' hk=>harr.1 k' (by rw [hxx];exact hk),fun hr hk=>harr.2 hr (by rw [hxx];exact hk)⟩
    |goto l=>
     have hxx:gotoIn l (.inBlock id::k)=gotoIn l k:=by simp [gotoIn]
     exact ⟨fun k' hk=>harr.1 k' (by rw [hxx];exact hk),fun hr hk=>harr.2 hr (by rw [hxx];exact hk)⟩
    |ret=>exact harr
    |panic ch=>exact harr
    |outgrown=>exact harr
theorem wpX_loop {c:Code} (I:Nat→Act→World→Prop) {k0:Nat} {a:Act} {w:World} (h₀:I k0 a w)
 (round: ∀j a w,I j a w→wpX P ro c (Exit.then (fun a' w'=> ∃j',j'<j∧I j' a' w') Q) a w):wpX P ro (.loop c) Q a w:=by
 intro b k cs hro hb
 have key: ∀j a w,I j a w→ ∃e a' w',Q e a' w'∧ArrivesIn (Machine.fenced P (FR none)) P (lone (b.atR a (.code c:: .inLoop c::k)) cs w) b k cs e a' w':=by
  intro j
  induction j using Nat.strongRecOn with
  |_ j ih=>
   intro a w hI
   obtain ⟨e,a₁,w₁,hq,harr⟩:=round j a w hI b (.inLoop c::k) cs hro hb
   by_cases he:e= .normal
   ·subst he
    obtain ⟨j',hlt,hI₁⟩:=hq
    obtain ⟨e₂,a₂,w₂,hq₂,harr₂⟩:=ih j' hlt a₁ w₁ hI₁
    exact ⟨e₂,a₂,w₂,hq₂, .of_steps (StepsIn.trans harr (oneR stepR_inLoop)) harr₂⟩
   ·refine ⟨e,a₁,w₁, ?_,leave_item (fun id=>by simp [exitTo]) (fun l=>by simp [gotoIn]) he harr⟩
    cases e<;>first|exact hq|exact absurd rfl he
 obtain ⟨e,a',w',hq,harr⟩:=key k0 a w h₀
 exact ⟨e,a',w',hq, .of_steps (oneR stepR_loop) harr⟩
theorem stepR_scope {b:Frame} {a:Act} {k:List Item} {cs:List Frame} {w:World} {c:Code} :step P (lone (b.atR a (.code (.scope c)::k)) cs w)= .next (lone (b.atR a (.code c:: .inScope c::k)) cs w):=
 step_lone_go (by simp [stepG,stepG.exec,Frame.atR])
theorem stepR_inScope {b:Frame} {a:Act} {k:List Item} {cs:List Frame} {w:World} {c:Code} :step P (lone (b.atR a (.inScope c::k)) cs w)= .next (lone (b.atR a k) cs w):=
 step_lone_go (by simp [stepG,stepG.exec,Frame.atR])
theorem leave_scope {c:Code} {b:Frame} {k:List Item} {cs:List Frame} {m:Machine} {e:Exit} {a:Act} {w:World} (he: ∀l,e≠ .goto l)
 (h:ArrivesIn (Machine.fenced P (FR none)) P m b (.inScope c::k) cs e a w):ArrivesIn (Machine.fenced P (FR none)) P m b k cs e a w:=by
 cases e with
 |normal=>exact StepsIn.trans h (oneR stepR_inScope)
 |exit id=>
  have hx:exitTo id (.inScope c::k)=exitTo id k:=by simp [exitTo]
  exact ⟨fun k' hk=>h.1 k' (by rw [hx];exact hk),fun hr' hk=>h.2 hr' (by rw [hx];exact hk)⟩
 |goto l=>exact absurd rfl (he l)
 |ret=>exact h
 |panic ch=>exact h
 |outgrown=>exact h
theorem wpX_scope_straight {c:Code} {a:Act} {w:World} (h:wpX P ro c (Exit.noGoto Q) a w):wpX P ro (.scope c) Q a w:=by
 intro b k cs hro hb
 obtain ⟨e,a₁,w₁,hq,harr⟩:=h b (.inScope c::k) cs hro hb
 have h1: ∀l,e≠ .goto l:=fun l hl=>by subst hl;exact hq
 refine ⟨e,a₁,w₁, ?_, .of_steps (oneR stepR_scope) (leave_scope h1 harr)⟩
 cases e<;>first|exact hq|exact absurd rfl (h1 _)
theorem wpX_scope_passes {c rest:Code} (l:Nat) (J:Nat→Act→World→Prop) {a:Act} {w:World} (hf:findLabel c l=some rest)
 (first:wpX P ro c (Exit.jump l (fun a' w'=> ∃j,J j a' w') Q) a w)
 (pass: ∀j a w,J j a w→wpX P ro rest (Exit.jump l (fun a' w'=> ∃j',j'<j∧J j' a' w') Q) a w):wpX P ro (.scope c) Q a w:=by
 intro b k cs hro hb
 have hg:gotoIn l (.inScope c::k)=some (.code rest:: .inScope c::k):=by simp [gotoIn,hf]
 have key: ∀j a w,J j a w→ ∃e a' w',Q e a' w'∧ArrivesIn (Machine.fenced P (FR none)) P (lone (b.atR a (.code rest:: .inScope c::k)) cs w) b k cs e a' w':=by
  intro j
  induction j using Nat.strongRecOn with
  |_ j ih=>
   intro a w hJ
   obtain ⟨e,a₁,w₁,hq,harr⟩:=pass j a w hJ b (.inScope c::k) cs hro hb
   by_cases hgo: ∃l',e= .goto l'
   ·obtain ⟨l',rfl⟩:=hgo
    obtain ⟨rfl,j',hlt,hJ'⟩:=hq
    obtain ⟨e₂,a₂,w₂,hq₂,harr₂⟩:=ih j' hlt a₁ w₁ hJ'
    exact ⟨e₂,a₂,w₂,hq₂, .of_steps (harr.1 _ hg) harr₂⟩
   ·have h1: ∀l,e≠ .goto l:=fun l hl=>hgo ⟨l,hl⟩
    refine ⟨e,a₁,w₁, ?_,leave_scope h1 harr⟩
    cases e<;>first|exact hq|exact absurd rfl (h1 _)
 obtain ⟨e,a₁,w₁,hq,harr⟩:=first b (.inScope c::k) cs hro hb
 by_cases hgo: ∃l',e= .goto l'
 ·obtain ⟨l',rfl⟩:=hgo
  obtain ⟨rfl,j,hJ'⟩:=hq
  obtain ⟨e₂,a₂,w₂,hq₂,harr₂⟩:=key j a₁ w₁ hJ'
  exact ⟨e₂,a₂,w₂,hq₂, .of_steps (StepsIn.trans (oneR stepR_scope) (harr.1 _ hg)) harr₂⟩
 ·have h1: ∀l,e≠ .goto l:=fun l hl=>hgo ⟨l,hl⟩
  refine ⟨e,a₁,w₁, ?_, .of_steps (oneR stepR_scope) (leave_scope h1 harr)⟩
  cases e<;>first|exact hq|exact absurd rfl (h1 _)
def rangeX (P:Program) (ro:Option Nat) (l:Nat) (Q:Exit→Act→World→Prop) (a':Act):Ending→World→Prop
 | .returned _,w₃=> ∃jump w₄,(Instr.endLoop l).run P w₃= .ok jump w₄∧
  (match jump with
   |none=>Q .normal a' w₄
   |some c=>wpX P ro c Q a' w₄)
 | .panicked chain,w₃=>Q (.panic chain) a' w₃
 | .outgrown,_=>False
theorem wpX_rangeFunc {g:Operand} {ps:Array Tmp} {assign body:Code}
 (h: ∀fn,(P.funcs[fn]?).isSome=true→ ∃ (l:Nat) (mark:List Deferred) (w₁:World) (d:Deferred) (w₁':World) (f:FuncId) (args:Array Value) (w₂:World),
   (Instr.enterLoop fn a.tmps ps assign body ro).run P w= .ok (l,mark) w₁∧(resolve a.eval (rangeCall g l) 0).run P w₁= .ok d w₁'∧(invoke d.target d.args).run P w₁'= .ok (.enter f args) w₂∧
   Calls P f args w₂ (rangeX P ro l Q {a with defers:=mark++a.defers})):wpX P ro (.rangeFunc g ps assign body) Q a w:=by
 intro b k cs hro hb
 obtain ⟨l,mark,w₁,d,w₁',f,args,w₂,he,hres,hinv,hcall⟩:=h b.fn hb
 rw [←hro] at he
 have h0: ∀m:Machine,step P (lone (b.atR a (.code (.rangeFunc g ps assign body)::k)) cs w)= .next m→StepsIn (Machine.fenced P (FR none)) P (lone (b.atR a (.code (.rangeFunc g ps assign body)::k)) cs w) m:=
  fun m hm=> .one (fenced_lone (.inl trivial) (fun _ _=>trivial) (roomR _)) hm
 have henter:=h0 _ (stepR_rangeFunc (P:=P) (b:=b) (a:=a) (k:=k) (cs:=cs) (w:=w) he hres hinv)
 obtain ⟨e,w₃,fr,hR,hsteps,hfn,hleave⟩:=(callsIn_FR (r:=none) (n:=0) |>.2 hcall).2 (b.atR {a with defers:=mark++a.defers} (.inRangeFunc l::k)::cs) (roomR _)
 have hl: ∀m:Machine,step P (lone fr (b.atR {a with defers:=mark++a.defers} (.inRangeFunc l::k)::cs) w₃)= .next m→StepsIn (Machine.fenced P (FR none)) P (lone fr (b.atR {a with defers:=mark++a.defers} (.inRangeFunc l::k)::cs) w₃) m:=
  fun m hm=> .one (fenced_lone (.inl trivial) (fun _ _=>trivial) (roomR _)) hm
 cases e with
 |outgrown=>exact hR.elim
 |returned v=>
  obtain ⟨jump,w₄,hend,hj⟩:=hR
  have sback:StepsIn (Machine.fenced P (FR none)) P (lone (b.atR a (.code (.rangeFunc g ps assign body)::k)) cs w) (lone (b.atR {a with defers:=mark++a.defers} ((jump.map Item.code).toList++k)) cs w₄):=by
   refine StepsIn.trans henter (StepsIn.trans hsteps (StepsIn.trans (hl _ ?_) (oneR (stepR_endRangeFunc hend))))
   rw [←finish_atR_inRangeFunc l v];exact step_leave_returned hleave
  cases jump with
  |none=>exact ⟨.normal,_,w₄,hj,sback⟩
  |some c=>
   obtain ⟨e',a'',w₅,hq,harr⟩:=hj b k cs hro hb
   exact ⟨e',a'',w₅,hq, .of_steps sback harr⟩
 |panicked chain=>
  refine ⟨.panic chain,_,w₃,hR, .inRangeFunc l::k,StepsIn.trans henter (StepsIn.trans hsteps (hl _ ?_))⟩
  rw [←Frame.raise_atR];exact step_leave_panicked hleave
theorem calls_of_wpX {f:FuncId} {fn:Func} {c:Code} {args:Array Value} {w:World} {R:Ending→World→Prop} (hf:P.funcs[f]? =some fn) (hb:fn.body=some c)
 (h:wpX P none c (bodyPostM (FR none) 0 P fn R) {tmps:=args++Array.replicate (fn.ntmps - args.size) undef,defers:=[]} w):Calls P f args w R:=by
 refine callsIn_FR (r:=none) (n:=0) |>.1 ⟨trivial,fun cs hr=> ?_⟩
 let b:Frame:= {(default:Frame) with fn:=f,kind:= .normal,roundOf:=none}
 have henter:Frame.enter P f args .normal=b.atR {tmps:=args++Array.replicate (fn.ntmps - args.size) undef,defers:=[]} [.code c]:=by simp [Frame.enter,Frame.atR,hf,hb,b]
 obtain ⟨e,a',w',hq,harr⟩:=h b [] cs rfl (by show (P.funcs[f]?).isSome=true;rw [hf];rfl)
 rw [←henter] at harr
 have out: ∀ (u:FrameMode) (todo:List Item),StepsIn (Machine.fenced P (FR none)) P (lone (Frame.enter P f args .normal) cs w) (lone {b.atR a' todo with mode:=u} cs w')→LeavesInM (FR none) 0 P fn a'.tmps R a'.defers u w'→
  ∃e w'' fr',R e w''∧ComesIn (Machine.fenced P (FR none)) P (lone (Frame.enter P f args .normal) cs w) (lone fr' cs w'') e∧fr'.fn=f∧fr'.leaving P w'' e:=by
  intro u todo hs₀ hq
  obtain ⟨e',w'',fr',hR,hs,hfn,hl⟩:=leaves_stepsInM a'.defers u w' {b.atR a' todo with mode:=u} cs rfl rfl rfl hf rfl trivial (roomR _) hq
  exact ⟨e',w'',fr',hR,ComesIn.of_steps hs₀ hs,hfn,hl⟩
 cases e with
 |normal=>exact out .returning [] (StepsIn.trans harr (oneR (stepR_end rfl))) hq
 |ret=>
  obtain ⟨todo,hs₀⟩:=harr.1 rfl
  exact out .returning todo hs₀ hq
 |panic chain=>
  obtain ⟨todo,hs₀⟩:=harr
  exact out (.panicking chain) todo hs₀ hq
 |exit id=>exact hq.elim
 |goto l=>exact hq.elim
 |outgrown=>exact ⟨.outgrown,w',b,hq,harr.resolve_left (by simp [b]),rfl,trivial⟩
end
def DefR (ρ:Ren) (W:World) (base:Nat) (ds:List Deferred):Prop:=
 ∃Ds:List Nat,Ds.Nodup∧ds=Ds.map (fun D=> {target:= .collected D,args:= #[]})∧
  ∀D ∈ Ds,base≤D∧D<W.heap.size∧W.heap[D]? =some (.deferred (some []))∧(∀i v p,ρ.loc i v=some p→p.blk≠D)∧ ¬ρ.fix D
theorem DefR.nil (ρ:Ren) (W:World) (base:Nat):DefR ρ W base []:=⟨[],List.nodup_nil,rfl,fun D h=>by cases h⟩
theorem DefR.later {ρ ρ':Ren} {W W':World} {base:Nat} {ds:List Deferred} (L:Later ρ W ρ' W') (h:DefR ρ W base ds):DefR ρ' W' base ds:=by
 obtain ⟨Ds,h1,h2,h3⟩:=h
 refine ⟨Ds,h1,h2,fun D hD=> ?_⟩
 obtain ⟨a,b,c,d,e⟩:=h3 D hD
 refine ⟨a,Nat.lt_of_lt_of_le b L.size,(L.own D b d).trans c,fun i v p hp he=> ?_,fun hf=> ?_⟩
 ·rcases L.new i v p hp with ⟨j,u,q,hq,he'⟩ |hge
  ·exact d j u q hq (he'.trans he)
  ·omega
 ·rcases L.fixnew D hf with hf| ⟨j,u,q,hq,he'⟩ |hge
  ·exact e hf
  ·exact d j u q hq he'
  ·omega
def PostR (n base:Nat) (ρ:Ren) (W:World) (x:AExit) (e:Env) (σ:St):Exit→Act→World→Prop:=fun ex a w=>
 ∃ρ',Later ρ W ρ' w∧Rel ρ' w σ∧a.tmps.size=n∧DefR ρ' w base a.defers∧match x,ex with
  | .normal, .normal=>RE ρ' w e a.tmps
  | .exit i, .exit j=>j=i∧RE ρ' w e a.tmps
  | .goto i, .goto j=>j=i∧RE ρ' w e a.tmps
  | .ret, .ret=>RE ρ' w e a.tmps
  | .panic d, .panic ch=> ∃v,ch=[{v,recovered:=false}]∧R ρ' w d v
  |_,_=>False
theorem PostR.later {n base:Nat} {ρ ρ':Ren} {W W':World} {x:AExit} {e:Env} {σ:St} {ex:Exit} {a:Act} {w:World} (L:Later ρ W ρ' W') (h:PostR n base ρ' W' x e σ ex a w):PostR n base ρ W x e σ ex a w:=by
 obtain ⟨ρ2,L2,h⟩:=h
 exact ⟨ρ2,L.trans L2,h⟩
theorem aFind_none {P:Program} {acc:Nat→Bool} {keep:Nat→Option (List Nat)} : ∀ (c:Code) (ac:ACode) (l:Nat) (rest:Code),cCode P acc keep c=some ac→findLabel c l=some rest→ ∃ar,aFind ac l=some ar
 | .seq a b,ac,l,rest,hc,hf=>by
  simp only [cCode,Option.bind_eq_bind,Option.pure_def,Option.bind_eq_some_iff,Option.some.injEq] at hc
  obtain ⟨aa,ha,ab,hb,rfl⟩:=hc
  simp only [findLabel] at hf
  simp only [aFind]
  split at hf
  ·rename_i r hr
   obtain ⟨ar,h⟩:=aFind_none a aa l r ha hr
   rw [h];exact ⟨_,rfl⟩
  ·obtain ⟨ar,h⟩:=aFind_none b ab l rest hb hf
   rw [h]
   cases aFind aa l with
   |none=>exact ⟨_,rfl⟩
   |some r=>exact ⟨_,rfl⟩
 | .label l',ac,l,rest,hc,hf=>by
  simp only [cCode,Option.some.injEq] at hc
  subst hc
  simp only [findLabel] at hf
  split at hf
  ·rename_i h
   exact ⟨.skip,by simp [aFind,h]⟩
  ·cases hf
 | .skip,_,_,_,_,hf| .region ..,_,_,_,_,hf| .cond ..,_,_,_,_,hf| .block ..,_,_,_,_,hf| .loop ..,_,_,_,_,hf| .exit ..,_,_,_,_,hf
 | .goto ..,_,_,_,_,hf| .ret,_,_,_,_,hf| .scope ..,_,_,_,_,hf| .rangeFunc ..,_,_,_,_,hf| .refuse ..,_,_,_,_,hf=>by simp [findLabel] at hf
theorem aFind_sound {P:Program} {acc:Nat→Bool} {keep:Nat→Option (List Nat)} : ∀ (c:Code) (ac:ACode) (l:Nat) (ar:ACode),cCode P acc keep c=some ac→aFind ac l=some ar→
 ∃rest,findLabel c l=some rest∧cCode P acc keep rest=some ar∧SizeOf.sizeOf rest≤SizeOf.sizeOf c
 | .seq a b,ac,l,ar,hc,hf=>by
  simp only [cCode,Option.bind_eq_bind,Option.pure_def,Option.bind_eq_some_iff,Option.some.injEq] at hc
  obtain ⟨aa,ha,ab,hb,rfl⟩:=hc
  simp only [aFind] at hf
  split at hf
  ·rename_i r hr
   cases hf
   obtain ⟨rest,h1,h2,h3⟩:=aFind_sound a aa l r ha hr
   exact ⟨.seq rest b,by simp [findLabel,h1],by simp [cCode,h2,hb],by simp;omega⟩
  ·rename_i hr
   obtain ⟨rest,h1,h2,h3⟩:=aFind_sound b ab l ar hb hf
   have hn:findLabel a l=none:=by
    cases hq:findLabel a l with
    |none=>rfl
    |some x=>
     obtain ⟨_,h⟩:=aFind_none a aa l x ha hq
     rw [hr] at h;cases h
   exact ⟨rest,by simp [findLabel,hn,h1],h2,by simp;omega⟩
 | .label l',ac,l,ar,hc,hf=>by
  simp only [cCode,Option.some.injEq] at hc
  subst hc
  simp only [aFind] at hf
  split at hf
  ·rename_i h
   cases hf
   exact ⟨.skip,by simp [findLabel,h],rfl,by simp⟩
  ·cases hf
 | .skip,ac,l,ar,hc,hf=>by simp only [cCode,Option.some.injEq] at hc;subst hc;cases hf
 | .region id ops draw,ac,l,ar,hc,hf=>by
  simp only [cCode,Option.bind_eq_bind,Option.bind_eq_some_iff] at hc
  obtain ⟨os,_,hc⟩:=hc
  split at hc
  ·split at hc
   ·cases hc;cases hf
   ·cases hc
  ·cases hc;cases hf
 | .cond c a b,ac,l,ar,hc,hf=>by
  simp only [cCode,Option.bind_eq_bind,Option.pure_def,Option.bind_eq_some_iff,Option.some.injEq] at hc
  obtain ⟨_,_,_,_,_,_,rfl⟩:=hc
  cases hf
 | .block id b,ac,l,ar,hc,hf=>by
  simp only [cCode,Option.bind_eq_bind,Option.pure_def,Option.bind_eq_some_iff,Option.some.injEq] at hc
  obtain ⟨_,_,rfl⟩:=hc
  cases hf
 | .loop b,ac,l,ar,hc,hf=>by
  simp only [cCode,Option.bind_eq_bind,Option.pure_def,Option.bind_eq_some_iff,Option.some.injEq] at hc
  obtain ⟨_,_,rfl⟩:=hc
  cases hf
 | .exit id,ac,l,ar,hc,hf=>by simp only [cCode,Option.some.injEq] at hc;subst hc;cases hf
 | .goto id,ac,l,ar,hc,hf=>by simp only [cCode,Option.some.injEq] at hc;subst hc;cases hf
 | .ret,ac,l,ar,hc,hf=>by simp only [cCode,Option.some.injEq] at hc;subst hc;cases hf
 | .scope b,ac,l,ar,hc,hf=>by
  simp only [cCode,Option.bind_eq_bind,Option.pure_def,Option.bind_eq_some_iff,Option.some.injEq] at hc
  obtain ⟨_,_,rfl⟩:=hc
  cases hf
 | .rangeFunc ..,ac,l,ar,hc,hf=>by
  simp only [cCode,Option.bind_eq_bind,Option.pure_def,Option.bind_eq_some_iff,Option.some.injEq] at hc
  obtain ⟨_,_,_,_,_,_,rfl⟩:=hc
  cases hf
 | .refuse _,ac,l,ar,hc,hf=>by simp [cCode] at hc
section
variable {P:Program} {callf:CallF} {ext:FuncId→Bool} {glob:Gl} {n k base:Nat} {inR:Bool} {ro:Option Nat} {acc:Nat→Bool} {keep:Nat→Option (List Nat)}
theorem openLoop {ρ:Ren} {W:World} {σ:St} (hR:Rel ρ W σ) {n:Nat} {e:Env} {tmps:Array Value} (hE:RE ρ W e tmps) (hn:tmps.size=n) {ps:Array Tmp} {as bd:Code} {aas abd:ACode} {fn:FuncId} (h1:ρ.code aas as fn) (h2:ρ.code abd bd fn):
 ∃ (ρ':Ren) (p:Pl),p.blk=W.heap.size+1∧ρ'.loc σ.length 0=some p∧
  Later ρ W ρ' ((W.alloc (.deferred (some []))).alloc (.loop {state:= .ready,pending:=none,fn,tmps,params:=ps,assign:=as,body:=bd,defers:=W.heap.size}))∧
  Rel ρ' ((W.alloc (.deferred (some []))).alloc (.loop {state:= .ready,pending:=none,fn,tmps,params:=ps,assign:=as,body:=bd,defers:=W.heap.size})) (σ++[.loop n e ps.toList aas abd .ready none])∧
  ∀ (base:Nat) (ds:List Deferred),base≤W.heap.size→DefR ρ W base ds→
   DefR ρ' ((W.alloc (.deferred (some []))).alloc (.loop {state:= .ready,pending:=none,fn,tmps,params:=ps,assign:=as,body:=bd,defers:=W.heap.size})) base ({target:= .collected W.heap.size,args:= #[]} ::ds):=by
 obtain ⟨L1,hR1⟩:=hR.grow (ρ':=ρ) (W':=W.alloc (.deferred (some []))) (by simp) rfl rfl rfl (fun b hb=>heap_alloc_old W _ hb) rfl rfl (fun b h=> .inl h) (fun b h=>h)
 let p:Pl:=⟨W.heap.size+1,1,0⟩
 let ρ':Ren:= {ρ with loc:=fun i v=>if i=σ.length then (if v=0 then some p else none) else ρ.loc i v}
 have hp:ρ'.loc σ.length 0=some p:=by simp [ρ']
 have hpush:=hR1.push (ρ':=ρ') (W':=(W.alloc (.deferred (some []))).alloc (.loop {state:= .ready,pending:=none,fn,tmps,params:=ps,assign:=as,body:=bd,defers:=W.heap.size}))
  (o':= .loop n e ps.toList aas abd .ready none) (by simp) rfl rfl rfl
  (fun b hb=>heap_alloc_old _ _ hb) (fun j v hj=>by simp [ρ',hj]) (fun v q hq=>by
   simp only [ρ',if_true] at hq
   split at hq
   ·cases hq;simp [p]
   ·cases hq) (fun _=>Iff.rfl) rfl
  (fun L=>⟨p,_,hp,by have:=heap_alloc_at (W.alloc (.deferred (some []))) (.loop {state:= .ready,pending:=none,fn,tmps,params:=ps,assign:=as,body:=bd,defers:=W.heap.size});simpa [p] using this,
    rfl,rfl,rfl,h1,h2,hn,fun t=>((hE t).later L1).later L⟩)
 refine ⟨ρ',p,rfl,hp,L1.trans hpush.1,hpush.2,fun base ds hb hd=> ?_⟩
 obtain ⟨Ds,d1,d2,d3⟩:=hd
 have hsz: ((W.alloc (.deferred (some []))).alloc (.loop {state:= .ready,pending:=none,fn,tmps,params:=ps,assign:=as,body:=bd,defers:=W.heap.size})).heap.size=W.heap.size+2:=by simp
 have hnd:W.heap.size ∉ Ds:=fun h=>by have:=(d3 _ h).2.1;omega
 obtain ⟨Ds',e1,e2,e3⟩:=(DefR.later (L1.trans hpush.1) ⟨Ds,d1,d2,d3⟩:DefR ρ' _ base ds)
 refine ⟨W.heap.size::Ds,List.nodup_cons.2 ⟨hnd,d1⟩,by simp [d2],fun D hD=> ?_⟩
 rcases List.mem_cons.1 hD with rfl|hD
 ·refine ⟨hb,by rw [hsz];omega, ?_,fun i v q hq he=> ?_,fun hf=> ?_⟩
  ·rw [heap_alloc_old _ _ (by simp)]
   exact heap_alloc_at W _
  ·simp only [ρ'] at hq
   split at hq
   ·split at hq
    ·cases hq;simp [p] at he
    ·cases hq
   ·have:=(hR.blk i v q hq).1;omega
  ·have:=hR.fixlt _ hf;omega
 ·obtain ⟨a1,a2,a3,a4,a5⟩:=d3 D hD
  have L:=L1.trans hpush.1
  refine ⟨a1,Nat.lt_of_lt_of_le a2 L.size,(L.own D a2 a4).trans a3,fun i v q hq he=> ?_,fun hf=>a5 hf⟩
  rcases L.new i v q hq with ⟨j,u,q',hq',he'⟩ |hge
  ·exact a4 j u q' hq' (he'.trans he)
  ·omega
theorem runOps_sound (hcall:CallOK P glob callf) {ops:Array Oper} {os:List AOper} (hos:ops.toList.mapM (cOper P acc false ops)=some os) {ρ0:Ren} {W0:World} {ds:List Deferred} (hcd0:ρ0.code=codeP P) {r:Option D} {e':Env} {σ':St} {Q:Exit→Act→World→Prop}
 (hK:r=none→ ∀ρ' W' a',Later ρ0 W0 ρ' W'→Rel ρ' W' σ'→RE ρ' W' e' a'.tmps→a'.tmps.size=n→a'.defers=ds→Q .normal a' W')
 (hQ: ∀d,r=some d→ ∀ρ' W' a' v,Later ρ0 W0 ρ' W'→Rel ρ' W' σ'→R ρ' W' d v→a'.tmps.size=n→a'.defers=ds→Q (.panic [{v,recovered:=false}]) a' W'):
 ∀ (l:List AOper) (j:Nat),l=os.drop j→j≤os.length→ ∀ (e:Env) (σ:St) (ρ:Ren) (W:World) (a:Act),runOps callf glob n l e σ=some (r,e',σ')→Later ρ0 W0 ρ W→Rel ρ W σ→GlobR ρ W glob→RE ρ W e a.tmps→a.tmps.size=n→a.defers=ds→
  wpOpsIn (FR ro) 0 P ops Q ((List.range ops.size).drop j) a W
 | [],j,hl,hj,e,σ,ρ,W,a,h,L,hR,hG,hE,hn,hd=>by
  have hsz:os.length=ops.size:=by rw [(mapM_some hos).1];simp
  have hle:os.length≤j:=by
   have:=congrArg List.length hl
   simp at this;omega
  simp only [runOps,Option.some.injEq,Prod.mk.injEq] at h
  obtain ⟨rfl,rfl,rfl⟩:=h
  rw [List.drop_eq_nil_of_le (by simp;omega)]
  exact hK rfl ρ W a L hR hE hn hd
 |ao::l,j,hl,hj,e,σ,ρ,W,a,h,L,hR,hG,hE,hn,hd=>by
  have hsz:os.length=ops.size:=by rw [(mapM_some hos).1];simp
  have hlt:j<os.length:=by
   have:=congrArg List.length hl
   simp at this;omega
  have hoj:os[j]? =some ao:=by
   have: (os.drop j)[0]? =some ao:=by rw [←hl];rfl
   simpa using this
  have hl':l=os.drop (j+1):=by
   have: (os.drop j).tail=l:=by rw [←hl];rfl
   rw [←this,List.tail_drop]
  have hrange: (List.range ops.size).drop j=j::(List.range ops.size).drop (j+1):=by
   have hlt':j< (List.range ops.size).length:=by simp;omega
   rw [List.drop_eq_getElem_cons hlt']
   simp
  obtain ⟨o,hoj',hc⟩: ∃o,ops[j]? =some o∧cOper P acc false ops o=some ao:=by
   obtain ⟨y,hy,hy'⟩:=(mapM_some hos).2 j ops[j] (by simp)
   rw [hoj] at hy';cases hy'
   exact ⟨ops[j],Array.getElem?_eq_getElem (by omega),hy⟩
  rw [hrange,wpOpsIn_cons]
  have hdst:=(cOper_some hc).2.1
  simp only [runOps] at h
  cases hsv:stepVal callf glob ao e σ with
  |none=>simp [stepOper,hsv] at h
  |some x=>
   obtain ⟨sv,σ1⟩:=x
   refine oper_sound hcall hR hE hG (L.code.trans hcd0) hc hoj' hsv (fun ρ' W' v d hsd L' hR' hr'=> ?_) (fun ρ' W' v d hsd L' hR' hr'=> ?_)
   ·subst hsd
    cases hput:putE n e ao.dst d with
    |none=>simp [stepOper,hsv,hput] at h
    |some e1=>
     simp only [stepOper,hsv,hput,Option.map_some] at h
     rw [hdst] at hput
     obtain ⟨hE1,hn1⟩:=(hE.later L').put hn hput hr'
     exact runOps_sound hcall hos hcd0 hK hQ l (j+1) hl' (by omega) e1 σ1 ρ' W' _ h (L.trans L') hR' (hG.later L') hE1 hn1 (by cases o.dst<;>simp [Act.put,hd])
   ·subst hsd
    simp only [stepOper,hsv,Option.some.injEq,Prod.mk.injEq] at h
    obtain ⟨rfl,rfl,rfl⟩:=h
    exact hQ d rfl ρ' W' a v (L.trans L') hR' hr' hn hd
theorem code_sound (hcall:CallOK P glob callf) (hext:ExtOK ext glob callf) (hord:P.follows .mixedOrders=true) (hro:inR=false→ro=none): ∀ (N:Nat) (c:Code),SizeOf.sizeOf c≤N→ ∀ (ac:ACode) (e:Env) (σ:St) (x:AExit) (e':Env) (σ':St) (ρ:Ren) (W:World) (a:Act),
 cCode P acc keep c=some ac→evalCode callf ext glob n k inR ac e σ=some (x,e',σ')→Rel ρ W σ→GlobR ρ W glob→ρ.code=codeP P→base≤W.heap.size→RE ρ W e a.tmps→a.tmps.size=n→DefR ρ W base a.defers→wpX P ro c (PostR n base ρ W x e' σ') a W:=by
 intro N
 induction N with
 |zero=>intro c hs;cases c<;>simp at hs
 |succ N ih=>
  intro c hs ac e σ x e' σ' ρ W a hc h hR hG hcd hba hE hn hd
  cases c with
  |skip=>
   simp only [cCode,Option.some.injEq] at hc;subst hc
   simp only [evalCode,Option.some.injEq,Prod.mk.injEq] at h
   obtain ⟨rfl,rfl,rfl⟩:=h
   exact wpX_of (n:=0) (wpIn_skip ⟨ρ, .refl _ _,hR,hn,hd,hE⟩)
  |label l=>
   simp only [cCode,Option.some.injEq] at hc;subst hc
   simp only [evalCode,Option.some.injEq,Prod.mk.injEq] at h
   obtain ⟨rfl,rfl,rfl⟩:=h
   exact wpX_of (n:=0) (wpIn_label ⟨ρ, .refl _ _,hR,hn,hd,hE⟩)
  |exit id=>
   simp only [cCode,Option.some.injEq] at hc;subst hc
   simp only [evalCode,Option.some.injEq,Prod.mk.injEq] at h
   obtain ⟨rfl,rfl,rfl⟩:=h
   exact wpX_of (n:=0) (wpIn_exit ⟨ρ, .refl _ _,hR,hn,hd,rfl,hE⟩)
  |goto id=>
   simp only [cCode,Option.some.injEq] at hc;subst hc
   simp only [evalCode,Option.some.injEq,Prod.mk.injEq] at h
   obtain ⟨rfl,rfl,rfl⟩:=h
   exact wpX_of (n:=0) (wpIn_goto ⟨ρ, .refl _ _,hR,hn,hd,rfl,hE⟩)
  |ret=>
   simp only [cCode,Option.some.injEq] at hc;subst hc
   simp only [evalCode,Option.some.injEq,Prod.mk.injEq] at h
   obtain ⟨rfl,rfl,rfl⟩:=h
   exact wpX_of (n:=0) (wpIn_ret ⟨ρ, .refl _ _,hR,hn,hd,hE⟩)
  |refuse=>simp [cCode] at hc
  |seq c1 c2=>
   simp only [cCode,Option.bind_eq_bind,Option.pure_def,Option.bind_eq_some_iff,Option.some.injEq] at hc
   obtain ⟨a1,h1,a2,h2,rfl⟩:=hc
   have s1:SizeOf.sizeOf c1≤N:=by simp at hs;omega
   have s2:SizeOf.sizeOf c2≤N:=by simp at hs;omega
   simp only [evalCode] at h
   refine wpX_seq ?_
   split at h
   ·rename_i e1 σ1 hev
    refine wpX_mono (ih c1 s1 a1 e σ _ e1 σ1 ρ W a h1 hev hR hG hcd hba hE hn hd) fun ex a' w' hp=> ?_
    obtain ⟨ρ',L,hR',hn',hd',hx⟩:=hp
    cases ex<;>first|exact hx.elim|skip
    exact wpX_mono (ih c2 s2 a2 e1 σ1 x e' σ' ρ' w' a' h2 h hR' (hG.later L) (L.code.trans hcd) (Nat.le_trans hba L.size) hx hn' hd') fun ex a w hp=>hp.later L
   ·rename_i y hnot
    refine wpX_mono (ih c1 s1 a1 e σ x e' σ' ρ W a h1 h hR hG hcd hba hE hn hd) fun ex a' w' hp=> ?_
    cases ex with
    |normal=>
     obtain ⟨ρ',L,hR',hn',hd',hx⟩:=hp
     cases x<;>first|exact hx.elim|exact absurd h (hnot _ _)
    |_=>exact hp
  |cond c c1 c2=>
   simp only [cCode,Option.bind_eq_bind,Option.pure_def,Option.bind_eq_some_iff,Option.some.injEq] at hc
   obtain ⟨ac,h0,a1,h1,a2,h2,rfl⟩:=hc
   have s1:SizeOf.sizeOf c1≤N:=by simp at hs;omega
   have s2:SizeOf.sizeOf c2≤N:=by simp at hs;omega
   have hx:=opd_sound hE hG h0
   simp only [evalCode] at h
   split at h
   ·rename_i hl
    rw [hl] at hx
    exact wpX_cond (t:=true) hx.bool_inv (ih c1 s1 a1 e σ x e' σ' ρ W a h1 h hR hG hcd hba hE hn hd)
   ·rename_i hl
    rw [hl] at hx
    exact wpX_cond (t:=false) hx.bool_inv (ih c2 s2 a2 e σ x e' σ' ρ W a h2 h hR hG hcd hba hE hn hd)
   ·cases h
  |block id b=>
   simp only [cCode,Option.bind_eq_bind,Option.pure_def,Option.bind_eq_some_iff,Option.some.injEq] at hc
   obtain ⟨ab,h1,rfl⟩:=hc
   have s1:SizeOf.sizeOf b≤N:=by simp at hs;omega
   simp only [evalCode] at h
   refine wpX_block ?_
   split at h
   ·rename_i id' e1 σ1 hev
    refine wpX_mono (ih b s1 ab e σ _ e1 σ1 ρ W a h1 hev hR hG hcd hba hE hn hd) fun ex a' w' hp=> ?_
    obtain ⟨ρ',L,hR',hn',hd',hx⟩:=hp
    cases ex<;>first|exact hx.elim|skip
    obtain ⟨rfl,hx⟩:=hx
    simp only [Exit.inBlock]
    split at h
    ·rename_i hid
     rw [if_pos hid]
     cases h
     exact ⟨ρ',L,hR',hn',hd',hx⟩
    ·rename_i hid
     rw [if_neg hid]
     cases h
     exact ⟨ρ',L,hR',hn',hd',rfl,hx⟩
   ·rename_i y hnot
    refine wpX_mono (ih b s1 ab e σ x e' σ' ρ W a h1 h hR hG hcd hba hE hn hd) fun ex a' w' hp=> ?_
    cases ex with
    |exit j=>
     obtain ⟨ρ',L,hR',hn',hd',hx⟩:=hp
     cases x<;>first|exact hx.elim|exact absurd h (hnot _ _ _)
    |_=>exact hp
  |loop b=>
   simp only [cCode,Option.bind_eq_bind,Option.pure_def,Option.bind_eq_some_iff,Option.some.injEq] at hc
   obtain ⟨ab,h1,rfl⟩:=hc
   have s1:SizeOf.sizeOf b≤N:=by simp at hs;omega
   simp only [evalCode] at h
   refine wpX_loop (k0:=k) (fun j a' w'=> ∃e1 σ1 ρ1,iter (evalCode callf ext glob n k inR ab) j e1 σ1=some (x,e',σ')∧Later ρ W ρ1 w'∧Rel ρ1 w' σ1∧RE ρ1 w' e1 a'.tmps∧a'.tmps.size=n∧DefR ρ1 w' base a'.defers)
    ⟨e,σ,ρ,h, .refl _ _,hR,hE,hn,hd⟩ ?_
   rintro j a' w' ⟨e1,σ1,ρ1,hit,L1,hR1,hE1,hn1,hd1⟩
   cases j with
   |zero=>cases hit
   |succ j=>
    simp only [iter] at hit
    split at hit
    ·rename_i e2 σ2 hev
     refine wpX_mono (ih b s1 ab e1 σ1 _ e2 σ2 ρ1 w' a' h1 hev hR1 (hG.later L1) (L1.code.trans hcd) (Nat.le_trans hba L1.size) hE1 hn1 hd1) fun ex a2 w2 hp=> ?_
     obtain ⟨ρ',L,hR',hn',hd',hx⟩:=hp
     cases ex<;>first|exact hx.elim|skip
     exact ⟨j,Nat.lt_succ_self j,e2,σ2,ρ',hit,L1.trans L,hR',hx,hn',hd'⟩
    ·rename_i y hnot
     refine wpX_mono (ih b s1 ab e1 σ1 x e' σ' ρ1 w' a' h1 hit hR1 (hG.later L1) (L1.code.trans hcd) (Nat.le_trans hba L1.size) hE1 hn1 hd1) fun ex a2 w2 hp=> ?_
     cases ex with
     |normal=>
      obtain ⟨ρ',L,hR',hn',hd',hx⟩:=hp
      cases x<;>first|exact hx.elim|exact absurd hit (hnot _ _)
     |_=>exact hp.later L1
  |scope b=>
   simp only [cCode,Option.bind_eq_bind,Option.pure_def,Option.bind_eq_some_iff,Option.some.injEq] at hc
   obtain ⟨ab,h1,rfl⟩:=hc
   have s1:SizeOf.sizeOf b≤N:=by simp at hs;omega
   cases hj:jumpOf ab with
   |none=>
    rw [hj] at h
    simp only [evalCode] at h
    refine wpX_scope_straight ?_
    split at h
    ·cases h
    ·rename_i y hnot
     refine wpX_mono (ih b s1 ab e σ x e' σ' ρ W a h1 h hR hG hcd hba hE hn hd) fun ex a' w' hp=> ?_
     cases ex with
     |goto j=>
      obtain ⟨ρ',L,hR',hn',hd',hx⟩:=hp
      cases x<;>first|exact hx.elim|exact absurd h (hnot _ _ _)
     |_=>exact hp
   |some lr=>
    obtain ⟨l,ar⟩:=lr
    rw [hj] at h
    simp only [evalCode] at h
    have hfind:aFind ab l=some ar:=by
     unfold jumpOf at hj
     obtain ⟨l',_,hj⟩:=Option.bind_eq_some_iff.1 hj
     obtain ⟨r,hr,hj⟩:=Option.map_eq_some_iff.1 hj
     cases hj
     exact hr
    obtain ⟨rest,hf1,hf2,hf3⟩:=aFind_sound b ab l ar h1 hfind
    have s2:SizeOf.sizeOf rest≤N:=Nat.le_trans hf3 s1
    have pass: ∀j a' w',(∃e1 σ1 ρ1,iterG l (evalCode callf ext glob n k inR ar) j e1 σ1=some (x,e',σ')∧Later ρ W ρ1 w'∧Rel ρ1 w' σ1∧RE ρ1 w' e1 a'.tmps∧a'.tmps.size=n∧DefR ρ1 w' base a'.defers)→
     wpX P ro rest (Exit.jump l (fun a2 w2=> ∃j',j'<j∧ ∃e1 σ1 ρ1,iterG l (evalCode callf ext glob n k inR ar) j' e1 σ1=some (x,e',σ')∧Later ρ W ρ1 w2∧Rel ρ1 w2 σ1∧RE ρ1 w2 e1 a2.tmps∧a2.tmps.size=n∧DefR ρ1 w2 base a2.defers) (PostR n base ρ W x e' σ')) a' w':=by
     rintro j a' w' ⟨e1,σ1,ρ1,hit,L1,hR1,hE1,hn1,hd1⟩
     cases j with
     |zero=>cases hit
     |succ j=>
      simp only [iterG] at hit
      split at hit
      ·rename_i l' e2 σ2 hev
       split at hit
       ·rename_i hl
        subst hl
        refine wpX_mono (ih rest s2 ar e1 σ1 _ e2 σ2 ρ1 w' a' hf2 hev hR1 (hG.later L1) (L1.code.trans hcd) (Nat.le_trans hba L1.size) hE1 hn1 hd1) fun ex a2 w2 hp=> ?_
        obtain ⟨ρ',L,hR',hn',hd',hx⟩:=hp
        cases ex<;>first|exact hx.elim|skip
        obtain ⟨rfl,hx⟩:=hx
        exact ⟨rfl,j,Nat.lt_succ_self j,e2,σ2,ρ',hit,L1.trans L,hR',hx,hn',hd'⟩
       ·cases hit
      ·rename_i y hnot
       refine wpX_mono (ih rest s2 ar e1 σ1 x e' σ' ρ1 w' a' hf2 hit hR1 (hG.later L1) (L1.code.trans hcd) (Nat.le_trans hba L1.size) hE1 hn1 hd1) fun ex a2 w2 hp=> ?_
       cases ex with
       |goto i=>
        obtain ⟨ρ',L,hR',hn',hd',hx⟩:=hp
        cases x<;>first|exact hx.elim|exact absurd hit (hnot _ _ _)
       |_=>exact hp.later L1
    refine wpX_scope_passes l _ hf1 ?_ pass
    split at h
    ·rename_i l' e1 σ1 hev
     split at h
     ·rename_i hl
      subst hl
      refine wpX_mono (ih b s1 ab e σ _ e1 σ1 ρ W a h1 hev hR hG hcd hba hE hn hd) fun ex a2 w2 hp=> ?_
      obtain ⟨ρ',L,hR',hn',hd',hx⟩:=hp
      cases ex<;>first|exact hx.elim|skip
      obtain ⟨rfl,hx⟩:=hx
      exact ⟨rfl,k,e1,σ1,ρ',h,L,hR',hx,hn',hd'⟩
     ·cases h
    ·rename_i y hnot
     refine wpX_mono (ih b s1 ab e σ x e' σ' ρ W a h1 h hR hG hcd hba hE hn hd) fun ex a2 w2 hp=> ?_
     cases ex with
     |goto i=>
      obtain ⟨ρ',L,hR',hn',hd',hx⟩:=hp
      cases x<;>first|exact hx.elim|exact absurd h (hnot _ _ _)
     |_=>exact hp
  |rangeFunc f ps as bd=>
   simp only [cCode,Option.bind_eq_bind,Option.pure_def,Option.bind_eq_some_iff,Option.some.injEq] at hc
   obtain ⟨af,h0,aas,h1,abd,h2,rfl⟩:=hc
   have hx:=opd_sound hE hG h0
   simp only [evalCode] at h
   split at h
   ·rename_i g first captured hl
    rw [hl] at hx
    cases inR with
    |true=>simp at h
    |false=>
     obtain rfl:=hro rfl
     simp only [Bool.false_eq_true,if_false] at h
     generalize hv:a.eval f=v at hx
     cases hx with
     |func hs1 hs2 hf hcap=>
      rename_i fa ca
      refine wpX_rangeFunc fun fn hreal=> ?_
      have hc1:ρ.code aas as fn:=by rw [hcd];exact ⟨⟨acc,keep,h1⟩,hreal⟩
      have hc2:ρ.code abd bd fn:=by rw [hcd];exact ⟨⟨acc,keep,h2⟩,hreal⟩
      obtain ⟨ρ1,p,hpb,hp,L1,hR1,hD1⟩:=openLoop hR hE hn (ps:=ps) hc1 hc2
      obtain ⟨W2,hW2⟩: ∃W2,(W.alloc (.deferred (some []))).alloc (.loop {state:= .ready,pending:=none,fn,tmps:=a.tmps,params:=ps,assign:=as,body:=bd,defers:=W.heap.size})=W2:=⟨_,rfl⟩
      rw [hW2] at L1 hR1 hD1
      have hcd1:ρ1.code=codeP P:=L1.code.trans hcd
      have hargs:Rs ρ1 W2 (first++[.yield σ.length]++captured) (fa++ #[.func (.yield p.blk) #[] #[]]++ca):=
       Rs.append (Rs.append (Rs.later L1 ⟨hs1,hf⟩) ⟨rfl,fun j d hd=>by
        match j,hd with
        |0,hd=>cases hd;exact .yield hp
        |j+1,hd=>simp at hd⟩) (Rs.later L1 ⟨hs2,hcap⟩)
      have key: ∀r σ1,callf (.fn g) (first++[.yield σ.length]++captured) (σ++[.loop n e ps.toList aas abd .ready none])=some (r,σ1)→(∀en w,EndR ρ1 W2 σ1 r en w→rangeX P none p.blk (PostR n base ρ W x e' σ') {a with defers:= {target:= .collected W.heap.size,args:= #[]} ::a.defers} en w)→
       ∃ (l:Nat) (mark:List Deferred) (w₁:World) (d:Deferred) (w₁':World) (f':FuncId) (args:Array Value) (w₂:World),
        (Instr.enterLoop fn a.tmps ps as bd none).run P W= .ok (l,mark) w₁∧(resolve a.eval (rangeCall f l) 0).run P w₁= .ok d w₁'∧
        (invoke d.target d.args).run P w₁'= .ok (.enter f' args) w₂∧
        Calls P f' args w₂ (rangeX P none l (PostR n base ρ W x e' σ') {a with defers:=mark++a.defers}):=by
       intro r σ1 hcf hpost
       obtain ⟨⟨gn,hgf,hgb,hgn⟩,hcalls⟩:=hcall.2 (.fn g) _ _ r σ1 hcf
       refine ⟨W.heap.size+1,[{target:= .collected W.heap.size,args:= #[]}],W2,{target:= .fn (.func g) ca,args:=fa++ #[.func (.yield (W.heap.size+1)) #[] #[]]},W2,g,fa++ #[.func (.yield (W.heap.size+1)) #[] #[]]++ca,W2,
        by rw [←hW2];exact run_enterLoop_outer _ _ _ _ _, ?_, ?_, ?_⟩
       ·show (Deferred.ofValue (a.eval f) (#[Operand.const (.func (.yield (W.heap.size+1)) #[] #[])].map a.eval)).run P W2=_
        rw [hv]
        rw [show (#[Operand.const (.func (.yield (W.heap.size+1)) #[] #[])].map a.eval)= #[.func (.yield (W.heap.size+1)) #[] #[]] by simp [Act.eval]]
        rfl
       ·show (callFunc g _).run P _=_
        rw [callFunc_run hgf hgb hgn]
       ·rw [←hpb]
        exact Calls.mono (hcalls ρ1 _ _ hR1 (hG.later L1) hcd1 hargs) fun en w he=>hpost en w he
      split at h
      ·rename_i d σ1 hcf
       refine key _ _ hcf fun en w he=> ?_
       obtain ⟨ρ2,L2,hR2,hr⟩:=he
       cases en with
       |returned v=>
        split at h
        ·rename_i m e1 ps1 as1 bd1 st pend hloop
         split at h
         ·cases h
         ·rename_i hbusy
          obtain ⟨p',rec,hp',hh,r1,r2,r3,r4,r5,r6,r7⟩:=hR2.obj _ _ hloop
          rw [L2.loc _ _ _ hp] at hp'
          cases hp'
          obtain ⟨rst,rpe,rfn,rtm,rps,ras,rbd,rdf⟩:=rec
          simp only at r1 r2 r3 r4 r5 r6 r7
          subst r2
          have hend:=run_endLoop (P:=P) hh (by rw [r1];exact hbusy)
          obtain ⟨L3,hR3⟩:=setObj_change hR2 hloop rfl (L2.loc _ _ _ hp) (.loop {state:= .exhausted,pending:=pend.map AJump.code,fn:=rfn,tmps:=rtm,params:=rps,assign:=ras,body:=rbd,defers:=rdf}) (o':= .loop m e1 ps1 as1 bd1 .exhausted pend)
           (fun L=>⟨p,_,L2.loc _ _ _ hp,heap_set_at hh,rfl,rfl,r3,r4,r5,r6,fun t=>(r7 t).later L⟩)
          have LL:=(L1.trans L2).trans L3
          have hDD:=((hD1 base a.defers hba hd).later L2).later L3
          refine ⟨pend.map AJump.code,_,hend, ?_⟩
          cases pend with
          |none=>
           cases h
           exact ⟨ρ2,LL,hR3,hn,hDD,hE.later LL⟩
          |some j=>
           cases j with
           |ret=>cases h;exact wpX_of (n:=0) (wpIn_ret ⟨ρ2,LL,hR3,hn,hDD,hE.later LL⟩)
           |exit id=>cases h;exact wpX_of (n:=0) (wpIn_exit ⟨ρ2,LL,hR3,hn,hDD,rfl,hE.later LL⟩)
           |goto l=>cases h;exact wpX_of (n:=0) (wpIn_goto ⟨ρ2,LL,hR3,hn,hDD,rfl,hE.later LL⟩)
        ·cases h
       |_=>exact hr.elim
      ·rename_i d σ1 hcf
       cases h
       refine key _ _ hcf fun en w he=> ?_
       obtain ⟨ρ2,L2,hR2,hr⟩:=he
       cases en with
       |panicked ch=>exact ⟨ρ2,L1.trans L2,hR2,hn,(hD1 base a.defers hba hd).later L2,hr⟩
       |_=>exact hr.elim
      ·cases h
   ·cases h
  |region id ops draw=>
   simp only [cCode,Option.bind_eq_bind,Option.bind_eq_some_iff] at hc
   obtain ⟨os,hos,hc⟩:=hc
   cases draw with
   |false=>
    simp only [Bool.false_eq_true,if_false,Option.pure_def,Option.some.injEq] at hc
    subst hc
    simp only [evalCode] at h
    refine wpX_of (n:=0) (wpIn_region ?_)
    cases hr:runReg callf glob n (optR (keep id) os) e σ with
    |none=>rw [hr] at h;cases h
    |some y=>
     obtain ⟨r,e1,σ1⟩:=y
     rw [hr] at h
     obtain ⟨e2,hr2,hke⟩:=optR_sound hr
     have:=runOps_sound (ρ0:=ρ) (W0:=W) (Q:=PostR n base ρ W x e' σ') (ro:=ro) (ds:=a.defers) hcall hos hcd (r:=r) (e':=e2) (σ':=σ1)
      (fun hr0 ρ' W' a' L hR' hE' hn' hd'=>by
        subst hr0
        simp only [Option.some.injEq,Prod.mk.injEq] at h
        obtain ⟨rfl,rfl,rfl⟩:=h
        exact ⟨ρ',L,hR',hn',by rw [hd'];exact hd.later L,by rw [←hke rfl];exact getE_keepE hE'⟩)
      (fun d hr0 ρ' W' a' v L hR' hv hn' hd'=>by
        subst hr0
        simp only [Option.some.injEq,Prod.mk.injEq] at h
        obtain ⟨rfl,rfl,rfl⟩:=h
        exact ⟨ρ',L,hR',hn',by rw [hd'];exact hd.later L,v,rfl,hv⟩) os 0 rfl (Nat.zero_le _) e σ ρ W a hr2 (.refl _ _) hR hG hE hn rfl
     simpa using this
   |true=>
    simp only [if_true] at hc
    split at hc
    ·rename_i hok
     simp only [Option.pure_def,Option.some.injEq] at hc
     subst hc
     simp only [evalCode] at h
     refine wpX_of (n:=0) (wpIn_region_any hord ?_)
     have L0:Later ρ W ρ {W with drawn:=W.drawn+1} :=hR.drew.1
     have hR0:Rel ρ {W with drawn:=W.drawn+1} σ:=hR.drew.2
     split at h
     ·rename_i e1 σ1 hr
      cases h
      have k1: (none:Option D)=none→ ∀ (ρ':Ren) (W':World) (a':Act),Later ρ W ρ' W'→Rel ρ' W' σ'→RE ρ' W' e1 a'.tmps→a'.tmps.size=n→a'.defers=a.defers→PostR n base ρ W .normal (keepE (keep id) e1) σ' .normal a' W':=
       fun _ ρ' W' a' L hR' hE' hn' hd'=>⟨ρ',L,hR',hn',by rw [hd'];exact hd.later L,getE_keepE hE'⟩
      split at hr
      ·rename_i s a0 hlf
       exact Reg.allL (X:=⟨callf,ext,glob,n,os,ancs ops.toList,e,σ,fun _=>false⟩) (ρ0:=ρ) (W0:=W) (ds:=a.defers) ⟨hos,rfl,hok,hcall,hext⟩ (fun _=>rfl) hG hcd hlf hr k1 (fun d h=>by cases h) L0 hR0 (hE.later L0) hn rfl
      ·exact Reg.all (X:=⟨callf,ext,glob,n,os,ancs ops.toList,e,σ,fun _=>false⟩) (ρ0:=ρ) (W0:=W) (ds:=a.defers) ⟨hos,rfl,hok,hcall,hext⟩ (fun _=>rfl) hG hcd hr k1 (fun d h=>by cases h) L0 hR0 (hE.later L0) hn rfl
     ·rename_i d e1 σ1 hr
      cases h
      have k2: ∀d1,some d=some d1→ ∀ (ρ':Ren) (W':World) (a':Act) (v:Value),Later ρ W ρ' W'→Rel ρ' W' σ'→R ρ' W' d1 v→a'.tmps.size=n→a'.defers=a.defers→PostR n base ρ W (.panic d) e' σ' (.panic [{v,recovered:=false}]) a' W':=
       fun d1 h1 ρ' W' a' v L hR' hv hn' hd'=>by cases h1;exact ⟨ρ',L,hR',hn',by rw [hd'];exact hd.later L,v,rfl,hv⟩
      split at hr
      ·rename_i s a0 hlf
       exact Reg.allL (X:=⟨callf,ext,glob,n,os,ancs ops.toList,e,σ,fun _=>false⟩) (ρ0:=ρ) (W0:=W) (ds:=a.defers) ⟨hos,rfl,hok,hcall,hext⟩ (fun _=>rfl) hG hcd hlf hr (fun h=>by cases h) k2 L0 hR0 (hE.later L0) hn rfl
      ·exact Reg.all (X:=⟨callf,ext,glob,n,os,ancs ops.toList,e,σ,fun _=>false⟩) (ρ0:=ρ) (W0:=W) (ds:=a.defers) ⟨hos,rfl,hok,hcall,hext⟩ (fun _=>rfl) hG hcd hr (fun h=>by cases h) k2 L0 hR0 (hE.later L0) hn rfl
     ·cases h
    ·cases hc
end
theorem R.mono {ρ ρ':Ren} {W W':World} (hl: ∀i v p,ρ.loc i v=some p→ρ'.loc i v=some p) (hf: ∀b,ρ.fix b→ρ'.fix b) (hh: ∀b,ρ.fix b→W'.heap[b]? =W.heap[b]?)
 {d:D} {v:Value} (r:R ρ W d v) (hd: ∀i,ρ.dom i→ρ'.dom i:=by exact fun _ h=>False.elim h):R ρ' W' d v:=by
 induction r with
 |bool b=>exact .bool b
 |int k n=>exact .int k n
 |str s=>exact .str s
 |ptr hp=>exact .ptr (hl _ _ _ hp)
 |rptr hp=>exact .rptr (hl _ _ _ hp)
 |tptr h hc hr ih=>exact .tptr (hf _ h) (fun j hj=>(cell?_of_heap (hh _ h) _).trans (hc j hj)) ih
 |nilptr=>exact .nilptr
 |empty a=>exact .empty a
 |slice0 a c=>exact .slice0 a c
 |slice h hn hcap hsz hc hr ih=>exact .slice (hf _ h) hn hcap hsz (fun i j e d he hd=>(cell?_of_heap (hh _ h) _).trans (hc i j e d he hd)) ih
 |arr hp hn hc=>exact .arr (hl _ _ _ hp) hn hc
 |arr0 hi=>exact .arr0 (hd _ hi)
 |map hp=>exact .map (hl _ _ _ hp)
 |nilmap=>exact .nilmap
 |func h1 h2 hf hc ihf ihc=>exact .func h1 h2 ihf ihc
 |nilfunc=>exact .nilfunc
 |yield hp=>exact .yield (hl _ _ _ hp)
 |iface _ ih=>exact .iface ih
 |niliface=>exact .niliface
 |agg hs hr ih=>exact .agg hs ih
 |tuple hs hr ih=>exact .tuple hs ih
 |undef=>exact .undef
 |any v=>exact .any v
theorem treeL_get: ∀ {l:List D} (_:treeL l=true) {j:Nat} {d:D},l[j]? =some d→d.tree=true
 | [],_,j,d,h=>by simp at h
 |x::l,ht,j,d,h=>by
  simp only [treeL,Bool.and_eq_true] at ht
  cases j with
  |zero=>simp at h;subst h;exact ht.1
  |succ j=>exact treeL_get ht.2 (by simpa using h)
theorem treeL_of: ∀ {l:List D},(∀ (j:Nat) (d:D),l[j]? =some d→d.tree=true)→treeL l=true
 | [],_=>rfl
 |x::l,h=>by
  simp only [treeL,Bool.and_eq_true]
  exact ⟨h 0 x rfl,treeL_of fun j d hj=>h (j+1) d (by simpa using hj)⟩
theorem tree_cells {e:D} (h:e.tree=true) {j:Nat} {d:D} (hd:e.cells[j]? =some d):d.tree=true:=by
 cases e with
 |agg cs=>simp only [D.tree] at h;exact treeL_get h hd
 |_=>
  have:j=0:=by have:=(List.getElem?_eq_some_iff.1 hd).1;simp [D.cells] at this;omega
  subst this
  simp only [D.cells,List.getElem?_cons_zero,Option.some.injEq] at hd
  subst hd
  exact h
def bare (fx:Nat→Prop):Ren:=⟨fun _ _=>none,fx,fun _ _ _=>False,fun _=>False⟩
theorem R.tree {ρ:Ren} {W:World} {d:D} {v:Value} (r:R ρ W d v):d.tree=true→R (bare ρ.fix) W d v:=by
 induction r with
 |bool b=>exact fun _=> .bool b
 |int k n=>exact fun _=> .int k n
 |str s=>exact fun _=> .str s
 |ptr hp=>intro h;simp [D.tree] at h
 |rptr hp=>intro h;simp [D.tree] at h
 |tptr h hc hr ih=>intro h;simp [D.tree] at h
 |nilptr=>exact fun _=> .nilptr
 |empty a=>exact fun _=> .empty a
 |slice0 a c=>exact fun _=> .slice0 a c
 |slice h hn hcap hsz hc hr ih=>
  intro ht
  simp only [D.tree] at ht
  exact .slice h hn hcap hsz hc fun i j e d he hd=>ih i j e d he hd (tree_cells (treeL_get ht he) hd)
 |arr hp hn hc=>intro h;simp [D.tree] at h
 |arr0 i=>intro h;simp [D.tree] at h
 |map hp=>intro h;simp [D.tree] at h
 |nilmap=>exact fun _=> .nilmap
 |func h1 h2 hf hc ihf ihc=>
  intro ht
  simp only [D.tree,Bool.and_eq_true] at ht
  exact .func h1 h2 (fun j d hd=>ihf j d hd (treeL_get ht.1 hd)) (fun j d hd=>ihc j d hd (treeL_get ht.2 hd))
 |nilfunc=>exact fun _=> .nilfunc
 |yield hp=>intro h;simp [D.tree] at h
 |iface _ ih=>intro ht;simp only [D.tree] at ht;exact .iface (ih ht)
 |niliface=>exact fun _=> .niliface
 |agg hs hr ih=>intro ht;simp only [D.tree] at ht;exact .agg hs fun j d hd=>ih j d hd (treeL_get ht hd)
 |tuple hs hr ih=>intro ht;simp only [D.tree] at ht;exact .tuple hs fun j d hd=>ih j d hd (treeL_get ht hd)
 |undef=>intro h;simp [D.tree] at h
 |any v=>intro h;simp [D.tree] at h
theorem R.flat {ρ ρ':Ren} {W W':World} {d:D} {v:Value} (h:d.flat=true) (r:R ρ W d v):R ρ' W' d v:=by
 cases r<;>simp only [D.flat,Bool.false_eq_true] at h
 ·exact .bool _
 ·exact .int _ _
 ·exact .str _
 ·exact .niliface
 ·rename_i cs vs hs hr
  refine .tuple hs fun j d hd=> ?_
  have h1:=hr j d hd
  have h2:=List.all_eq_true.1 h d (List.mem_of_getElem? hd)
  generalize vs.getD j Go.undef=x at h1
  cases h1<;>simp at h2
  ·exact .bool _
  ·exact .int _ _
  ·exact .str _
def lent (ρ:Ren) (l:List Nat):Nat→Prop:=fun b=>ρ.fix b∨ ∃i v p,i ∈ l∧ρ.loc i v=some p∧b=p.blk
theorem strip_tree: ∀ (n:Nat) (σ:St) (d d':D),strip n σ d=some d'→d'.tree=true
 |0,σ,d,d',h=>by
  simp only [strip] at h
  split at h
  ·cases h;assumption
  ·cases h
 |n+1,σ,d,d',h=>by
  have many: ∀ {l l':List D},l.mapM (strip n σ)=some l'→treeL l'=true:=fun {l l'} hm=>by
   obtain ⟨h1,h2⟩:=mapM_some hm
   refine treeL_of fun j d hd=> ?_
   have hj:j<l.length:=by rw [←h1];exact (List.getElem?_eq_some_iff.1 hd).1
   obtain ⟨y,hy,hy'⟩:=h2 j _ (List.getElem?_eq_getElem hj)
   rw [hd] at hy';cases hy'
   exact strip_tree n σ _ _ hy
  simp only [strip] at h
  split at h
  ·cases h;assumption
  ·split at h
   ·split at h
    ·obtain ⟨l',hl,rfl⟩:=Option.map_eq_some_iff.1 h;simpa [D.tree] using many hl
    ·cases h
   ·obtain ⟨l',hl,rfl⟩:=Option.map_eq_some_iff.1 h;simpa [D.tree] using many hl
   ·obtain ⟨l',hl,rfl⟩:=Option.map_eq_some_iff.1 h;simpa [D.tree] using many hl
   ·obtain ⟨l',hl,rfl⟩:=Option.map_eq_some_iff.1 h;simpa [D.tree] using many hl
   ·cases h
theorem strip_cells: ∀ (n:Nat) (σ:St) (e e':D),strip n σ e=some e'→e'.cells.length=e.cells.length∧
 ∀ (j:Nat) (c:D),e.cells[j]? =some c→ ∃c' m,e'.cells[j]? =some c'∧m≤n∧strip m σ c=some c'∧ ∀i ∈ leads m σ c,i ∈ leads n σ e:=by
 intro n σ e e' h
 by_cases ht:e.tree=true
 ·have he:e'=e:=by
   cases n<;>simp only [strip,ht,if_true,Option.some.injEq] at h<;>exact h.symm
  subst he
  refine ⟨rfl,fun j c hc=>⟨c,0,hc,Nat.zero_le _, ?_,fun i hi=>by simp [leads] at hi⟩⟩
  simp [strip,tree_cells ht hc]
 ·cases n with
  |zero=>simp [strip,ht] at h
  |succ n=>
   have single:e'.cells=[e']→e.cells=[e]→e'.cells.length=e.cells.length∧
    ∀ (j:Nat) (c:D),e.cells[j]? =some c→ ∃c' m,e'.cells[j]? =some c'∧m≤n+1∧strip m σ c=some c'∧ ∀i ∈ leads m σ c,i ∈ leads (n+1) σ e:=by
    intro h1 h2
    rw [h1,h2]
    refine ⟨rfl,fun j c hc=> ?_⟩
    have hj:j=0:=by have:=(List.getElem?_eq_some_iff.1 hc).1;simp at this;omega
    subst hj
    simp only [List.getElem?_cons_zero,Option.some.injEq] at hc
    subst hc
    exact ⟨e',n+1,rfl,Nat.le_refl _,h,fun i hi=>hi⟩
   have h0:=h
   simp only [strip,ht,Bool.false_eq_true,if_false] at h
   split at h
   ·split at h
    ·obtain ⟨l',hl,rfl⟩:=Option.map_eq_some_iff.1 h;exact single rfl rfl
    ·cases h
   ·obtain ⟨l',hl,rfl⟩:=Option.map_eq_some_iff.1 h;exact single rfl rfl
   ·rename_i cs
    obtain ⟨l',hl,rfl⟩:=Option.map_eq_some_iff.1 h
    obtain ⟨h1,h2⟩:=mapM_some hl
    refine ⟨h1,fun j c hc=> ?_⟩
    obtain ⟨c',hc',hg⟩:=h2 j c hc
    refine ⟨c',n,hg,Nat.le_succ n,hc',fun i hi=> ?_⟩
    simp only [leads,ht,Bool.false_eq_true,if_false]
    exact List.mem_flatMap.2 ⟨c,List.mem_of_getElem? hc,hi⟩
   ·obtain ⟨l',hl,rfl⟩:=Option.map_eq_some_iff.1 h;exact single rfl rfl
   ·cases h
theorem strip_sound {ρ:Ren} {W:World} {σ:St} (hR:Rel ρ W σ) (l:List Nat): ∀ (N n:Nat),n≤N→ ∀ (d d':D) (v:Value),R ρ W d v→strip n σ d=some d'→(∀i ∈ leads n σ d,i ∈ l)→R (bare (lent ρ l)) W d' v:=by
 intro N
 induction N with
 |zero=>
  intro n hn d d' v r h hl
  obtain rfl:n=0:=by omega
  simp only [strip] at h
  split at h
  ·rename_i ht
   cases h
   exact R.mono (ρ:=bare ρ.fix) (ρ':=bare (lent ρ l)) (fun _ _ _ h=>h) (fun b h=>Or.inl h) (fun _ _=>rfl) (r.tree ht)
  ·cases h
 |succ N ih=>
  intro n hn d d' v r h hl
  by_cases ht:d.tree=true
  ·have he:d'=d:=by
    cases n<;>simp only [strip,ht,if_true,Option.some.injEq] at h<;>exact h.symm
   subst he
   exact R.mono (ρ:=bare ρ.fix) (ρ':=bare (lent ρ l)) (fun _ _ _ h=>h) (fun b h=>Or.inl h) (fun _ _=>rfl) (r.tree ht)
  ·cases n with
   |zero=>simp [strip,ht] at h
   |succ n=>
    have hnN:n≤N:=by omega
    have hcell: ∀ (es es':List D),es.mapM (strip n σ)=some es'→(∀e ∈ es,∀i ∈ leads n σ e,i ∈ l)→es'.length=es.length∧ ∀ (i:Nat) (e':D),es'[i]? =some e'→ ∃e,es[i]? =some e∧e'.cells.length=e.cells.length∧
     ∀ (j:Nat) (c':D),e'.cells[j]? =some c'→ ∃c,e.cells[j]? =some c∧ ∀u,R ρ W c u→R (bare (lent ρ l)) W c' u:=by
     intro es es' hm hle
     obtain ⟨h1,h2⟩:=mapM_some hm
     refine ⟨h1,fun i e' he'=> ?_⟩
     have hi:i<es.length:=by rw [←h1];exact (List.getElem?_eq_some_iff.1 he').1
     obtain ⟨y,hy,hy'⟩:=h2 i _ (List.getElem?_eq_getElem hi)
     rw [he'] at hy';cases hy'
     obtain ⟨s1,s2⟩:=strip_cells n σ _ _ hy
     refine ⟨es[i],List.getElem?_eq_getElem hi,s1,fun j c' hc'=> ?_⟩
     have hj:j<es[i].cells.length:=by rw [←s1];exact (List.getElem?_eq_some_iff.1 hc').1
     obtain ⟨c2,m,hc2,hm2,hst,hld⟩:=s2 j _ (List.getElem?_eq_getElem hj)
     rw [hc'] at hc2;cases hc2
     exact ⟨_,List.getElem?_eq_getElem hj,fun u hu=>ih m (by omega) _ _ u hu hst fun i' hi'=>hle _ (List.getElem_mem hi) i' (hld i' hi')⟩
    simp only [strip,ht,Bool.false_eq_true,if_false] at h
    simp only [leads,ht,Bool.false_eq_true,if_false] at hl
    split at h
    ·
     rename_i i ver off k
     simp only at hl
     split at h
     ·rename_i es hrow
      obtain ⟨es',hm,rfl⟩:=Option.map_eq_some_iff.1 h
      rw [hrow] at hl
      obtain ⟨hlen,hel⟩:=hcell es es' hm fun e he i' hi'=>hl i' (List.mem_cons_of_mem _ (List.mem_flatMap.2 ⟨e,he,hi'⟩))
      have hmem:i ∈ l:=hl i List.mem_cons_self
      have key: ∀sz fs since,RowR ρ W i sz fs since→(if since≤ver∧off+k≤ver∧ver≤fs.length then some ((fs.drop off).take k) else none)=some es→R (bare (lent ρ l)) W (.slice es') v:=by
       intro sz fs since hro hif
       split at hif
       ·rename_i hcond
        cases hif
        have hxl: ((fs.drop off).take k).length=k:=by simp;omega
        have hget: ∀ (idx:Nat) (e:D),((fs.drop off).take k)[idx]? =some e→idx<k∧fs[off+idx]? =some e:=by
         intro idx e he
         have hi:idx<k:=by have:=(List.getElem?_eq_some_iff.1 he).1;omega
         rw [List.getElem?_take_of_lt hi,List.getElem?_drop] at he
         exact ⟨hi,he⟩
        cases r with
        |arr0=>
         have:es'=[]:=List.eq_nil_of_length_eq_zero (by rw [hlen];simp)
         rw [this];exact .slice0 _ _
        |arr hp hn' hc'=>
         rename_i c p
         have e1:p.sz=sz:=hro.sz hcond.1 hcond.2.2 hp
         have cellv: ∀ (a j:Nat) (e' c':D),es'[a]? =some e'→e'.cells[j]? =some c'→ ∃u,W.cell? ⟨p.blk,off*p.sz+ (a*sz+j),none⟩=some u∧R (bare (lent ρ l)) W c' u:=by
          intro a j e' c' he' hc''
          obtain ⟨e,he,hl1,hl2⟩:=hel a e' he'
          obtain ⟨c0,hc0,hto⟩:=hl2 j c' hc''
          obtain ⟨ha,hfe⟩:=hget a e he
          obtain ⟨_,_,hcells⟩:=hro.elem hcond.1 hcond.2.2 hp (by omega:off+a<ver) hfe
          obtain ⟨u,hu,hur⟩:=hcells j c0 hc0
          refine ⟨u, ?_,hto u hur⟩
          rw [e1,show off*sz+ (a*sz+j)=(off+a) *sz+j by rw [Nat.add_mul];omega]
          exact hu
         refine .slice (sz:=sz) (f:=fun a j=>(W.cell? ⟨p.blk,off*p.sz+ (a*sz+j),none⟩).getD Go.undef) (.inr ⟨i,ver,p,hmem,hp,rfl⟩) (by rw [hlen,hxl]) hn' (fun a e' he'=> ?_) (fun a j e' c' he' hc''=> ?_) (fun a j e' c' he' hc''=> ?_)
         ·obtain ⟨e,he,hl1,_⟩:=hel a e' he'
          rw [hl1];exact (hro.2.1 _ _ (hget a e he).2).1
         ·obtain ⟨u,hu,_⟩:=cellv a j e' c' he' hc''
          rw [hu];rfl
         ·obtain ⟨u,hu,hur⟩:=cellv a j e' c' he' hc''
          rw [hu];exact hur
       ·cases hif
      simp only [rowOf] at hrow
      split at hrow
      ·rename_i sz fs since hes;exact key _ _ _ (hR.obj i _ hes) hrow
      ·rename_i sz fs since hes;exact key _ _ _ (hR.obj i _ hes).1 hrow
      ·cases hrow
     ·cases h
    ·rename_i es
     obtain ⟨es',hm,rfl⟩:=Option.map_eq_some_iff.1 h
     obtain ⟨hlen,hel⟩:=hcell es es' hm fun e he i' hi'=>hl i' (List.mem_flatMap.2 ⟨e,he,hi'⟩)
     cases r with
     |slice0 a c=>
      have:es'=[]:=List.eq_nil_of_length_eq_zero (by rw [hlen];rfl)
      rw [this];exact .slice0 _ _
     |slice hf hn' hcap hsz hc hr=>
      rename_i sz f
      refine .slice (sz:=sz) (f:=f) (.inl hf) (by rw [hlen];exact hn') hcap (fun a e' he'=> ?_) (fun a j e' c' he' hc'=> ?_) (fun a j e' c' he' hc'=> ?_)
      ·obtain ⟨e,he,hl1,_⟩:=hel a e' he'
       rw [hl1];exact hsz a e he
      ·obtain ⟨e,he,hl1,hl2⟩:=hel a e' he'
       obtain ⟨c0,hc0,_⟩:=hl2 j c' hc'
       exact hc a j e c0 he hc0
      ·obtain ⟨e,he,hl1,hl2⟩:=hel a e' he'
       obtain ⟨c0,hc0,hto⟩:=hl2 j c' hc'
       exact hto _ (hr a j e c0 he hc0)
    ·rename_i cs
     obtain ⟨cs',hm,rfl⟩:=Option.map_eq_some_iff.1 h
     obtain ⟨h1,h2⟩:=mapM_some hm
     cases r with
     |agg hs hr=>
      refine .agg (by rw [hs,h1]) fun j d hd=> ?_
      have hj:j<cs.length:=by rw [←h1];exact (List.getElem?_eq_some_iff.1 hd).1
      obtain ⟨y,hy,hy'⟩:=h2 j _ (List.getElem?_eq_getElem hj)
      rw [hd] at hy';cases hy'
      exact ih n hnN _ _ _ (hr j _ (List.getElem?_eq_getElem hj)) hy fun i' hi'=>hl i' (List.mem_flatMap.2 ⟨_,List.getElem_mem hj,hi'⟩)
    ·rename_i cs
     obtain ⟨cs',hm,rfl⟩:=Option.map_eq_some_iff.1 h
     obtain ⟨h1,h2⟩:=mapM_some hm
     cases r with
     |tuple hs hr=>
      refine .tuple (by rw [hs,h1]) fun j d hd=> ?_
      have hj:j<cs.length:=by rw [←h1];exact (List.getElem?_eq_some_iff.1 hd).1
      obtain ⟨y,hy,hy'⟩:=h2 j _ (List.getElem?_eq_getElem hj)
      rw [hd] at hy';cases hy'
      exact ih n hnN _ _ _ (hr j _ (List.getElem?_eq_getElem hj)) hy fun i' hi'=>hl i' (List.mem_flatMap.2 ⟨_,List.getElem_mem hj,hi'⟩)
    ·cases h
def GlobT (glob:Gl):Prop:= ∀g cs,glob.g g=some cs→treeL cs=true
theorem GlobR.bare {ρ:Ren} {W:World} {glob:Gl} (hT:GlobT glob) (h:GlobR ρ W glob):GlobR (bare ρ.fix) W glob:=by
 intro g cs hg
 have ht:=hT g cs hg
 obtain ⟨h1,h2⟩:=h g cs hg
 refine ⟨?_,h2⟩
 cases h1 with
 |tptr hf hc hr=>exact .tptr hf hc fun j d hd=>(hr j d hd).tree (treeL_get ht hd)
def Gives (W:World) (fx:Nat→Prop) (r:D) (en:Ending) (w:World):Prop:=
 ∃ (fx':Nat→Prop) (v:Value),en= .returned v∧(∀b,fx b→fx' b)∧(∀b,fx' b→fx b∨(W.heap.size≤b∧b<w.heap.size))∧
  (∀b,b<W.heap.size→w.heap[b]? =W.heap[b]?)∧W.heap.size≤w.heap.size∧w.os=W.os∧w.tape=W.tape∧w.output=W.output∧R (bare fx') w r v
def PureCall (P:Program) (glob:Gl) (f:FuncId) (args:List D) (r:D):Prop:=
 ∀ (fx:Nat→Prop) (W:World) (vs:Array Value),(∀b,fx b→b<W.heap.size)→GlobR (bare fx) W glob→Rs (bare fx) W args vs→Calls P f vs W (Gives W fx r)
def ExtR (P:Program) (glob:Gl) (ext:Ext):Prop:=
 ∀f g,ext f=some g→Real P f∧ ∀args r,treeL args=true→g args=some r→r.tree=true∧PureCall P glob f args r
def TabR (P:Program) (T:FuncId→Option AFunc):Prop:=
 ∀f af,T f=some af→ ∃fn acc keep,P.funcs[f]? =some fn∧cFunc P acc keep fn=some af
def cold (P:Program) (fx:Nat→Prop):Ren:=⟨fun _ _=>none,fx,codeP P,fun _=>False⟩
theorem cold_rel {P:Program} {fx:Nat→Prop} {W:World} (h: ∀b,fx b→b<W.heap.size):Rel (cold P fx) W []:=
 ⟨fun i o h=>by simp at h,fun i v p h=>by simp [cold] at h,fun i v p j w q h=>by simp [cold] at h,fun i o v p h=>by simp at h,h,fun i h=>h.elim⟩
theorem pure_lift {P:Program} {glob:Gl} {f:FuncId} {args:List D} {r:D} {ρ:Ren} {W:World} {σ:St} {vs:Array Value} (h:PureCall P glob f args r) (hR:Rel ρ W σ) (hT:GlobT glob) (hG:GlobR ρ W glob)
 (ha:Rs (bare ρ.fix) W args vs):Calls P f vs W (EndR ρ W σ (.ret r)):=by
 refine Calls.mono (h ρ.fix W vs hR.fixlt (hG.bare hT) ha) fun en w hg=> ?_
 obtain ⟨fx',v,rfl,h1,h2,h3,h4,h5,h6,h7,hr⟩:=hg
 obtain ⟨L,hR'⟩:=hR.grow (ρ':=⟨ρ.loc,fx',ρ.code,ρ.dom⟩) (W':=w) h4 h5 h6 h7 h3 rfl rfl h2 h1
 exact ⟨⟨ρ.loc,fx',ρ.code,ρ.dom⟩,L,hR',R.mono (ρ:=bare fx') (ρ':=⟨ρ.loc,fx',ρ.code,ρ.dom⟩) (fun i v p h=>by simp [bare] at h) (fun b h=>h) (fun _ _=>rfl) hr⟩
theorem Rs.tree {ρ:Ren} {W:World} {args:List D} {vs:Array Value} (h:Rs ρ W args vs) (ht:treeL args=true):Rs (bare ρ.fix) W args vs:=
 ⟨h.1,fun j d hd=>(h.2 j d hd).tree (treeL_get ht hd)⟩
theorem leads_row: ∀ (n:Nat) (σ:St) (d d':D),strip n σ d=some d'→ ∀i ∈ leads n σ d,(∃sz es since,σ[i]? =some (.row sz es since))∨(∃sz es since,σ[i]? =some (.fro sz es since))
 |0,σ,d,d',h,i,hi=>by simp [leads] at hi
 |n+1,σ,d,d',h,i,hi=>by
  have many: ∀ {l l':List D},l.mapM (strip n σ)=some l'→ ∀i ∈ l.flatMap (leads n σ),(∃sz es since,σ[i]? =some (.row sz es since))∨(∃sz es since,σ[i]? =some (.fro sz es since)):=fun {l l'} hm i hi=>by
   obtain ⟨e,he,hie⟩:=List.mem_flatMap.1 hi
   obtain ⟨j,hj⟩:=List.mem_iff_getElem?.1 he
   obtain ⟨y,hy,_⟩:=(mapM_some hm).2 j e hj
   exact leads_row n σ e y hy i hie
  by_cases ht:d.tree=true
  ·simp [leads,ht] at hi
  ·simp only [strip,ht,Bool.false_eq_true,if_false] at h
   simp only [leads,ht,Bool.false_eq_true,if_false] at hi
   split at h
   ·rename_i k ver off m
    simp only at hi
    split at h
    ·rename_i es hrow
     obtain ⟨l',hl,rfl⟩:=Option.map_eq_some_iff.1 h
     rw [hrow] at hi
     rcases List.mem_cons.1 hi with rfl|hi
     ·simp only [rowOf] at hrow
      split at hrow
      ·rename_i hes;exact .inl ⟨_,_,_,hes⟩
      ·rename_i hes;exact .inr ⟨_,_,_,hes⟩
      ·cases hrow
     ·exact many hl i hi
    ·cases h
   ·obtain ⟨l',hl,rfl⟩:=Option.map_eq_some_iff.1 h;exact many hl i hi
   ·obtain ⟨l',hl,rfl⟩:=Option.map_eq_some_iff.1 h;exact many hl i hi
   ·obtain ⟨l',hl,rfl⟩:=Option.map_eq_some_iff.1 h;exact many hl i hi
   ·cases h
theorem callExt_sound {P:Program} {glob:Gl} {f:FuncId} {g:List D→Option D} (hg: ∀args r,treeL args=true→g args=some r→r.tree=true∧PureCall P glob f args r) (hT:GlobT glob)
 {args:List D} {σ:St} {r:FRes} {σ':St} (h:callExt g args σ=some (r,σ')) {ρ:Ren} {W:World} {vs:Array Value} (hR:Rel ρ W σ) (hG:GlobR ρ W glob) (ha:Rs ρ W args vs):
 Calls P f vs W (EndR ρ W σ' r):=by
 unfold callExt at h
 split at h
 ·rename_i ht
  obtain ⟨d,hd,hx⟩:=Option.map_eq_some_iff.1 h
  cases hx
  exact pure_lift (hg args d ht hd).2 hR hT hG (ha.tree ht)
 ·split at h
  ·rename_i as has
   split at h
   ·rename_i d hd
    obtain ⟨m1,m2⟩:=mapM_some has
    have hast:treeL as=true:=treeL_of fun j x hx=>by
     have hj:j<args.length:=by rw [←m1];exact (List.getElem?_eq_some_iff.1 hx).1
     obtain ⟨y,hy,hy'⟩:=m2 j _ (List.getElem?_eq_getElem hj)
     rw [hx] at hy';cases hy'
     exact strip_tree _ _ _ _ hy
    have hra: ∀ (ρ1:Ren),(∀b,lent ρ (args.flatMap (leads 16 σ)) b→ρ1.fix b)→Rs (bare ρ1.fix) W as vs:=by
     intro ρ1 hle
     refine ⟨by rw [ha.1,m1],fun j x hx=> ?_⟩
     have hj:j<args.length:=by rw [←m1];exact (List.getElem?_eq_some_iff.1 hx).1
     obtain ⟨y,hy,hy'⟩:=m2 j _ (List.getElem?_eq_getElem hj)
     rw [hx] at hy';cases hy'
     have:=strip_sound hR (args.flatMap (leads 16 σ)) 16 16 (Nat.le_refl _) _ _ _ (ha.2 j _ (List.getElem?_eq_getElem hj)) hy fun i hi=>List.mem_flatMap.2 ⟨_,List.getElem_mem hj,hi⟩
     exact this.mono (fun i v p h=>by simp [bare] at h) hle (fun _ _=>rfl)
    split at h
    ·rename_i hflat
     cases h
     have hlt: ∀b,lent ρ (args.flatMap (leads 16 σ)) b→b<W.heap.size:=by
      rintro b (h| ⟨i,v,p,_,hp,rfl⟩)
      ·exact hR.fixlt b h
      ·exact (hR.blk i v p hp).1
     have hGl:GlobR (bare (lent ρ (args.flatMap (leads 16 σ)))) W glob:=fun g cs hgc=>
      ⟨R.mono (ρ:=bare ρ.fix) (ρ':=bare (lent ρ (args.flatMap (leads 16 σ)))) (fun _ _ _ h=>h) (fun b h=>Or.inl h) (fun _ _=>rfl) (hG.bare hT g cs hgc).1,(hG g cs hgc).2⟩
     refine Calls.mono ((hg as d hast hd).2 (lent ρ (args.flatMap (leads 16 σ))) W vs hlt hGl (hra (bare (lent ρ (args.flatMap (leads 16 σ)))) fun b h=>h)) fun en w hgv=> ?_
     obtain ⟨fx',v,rfl,h1,h2,h3,h4,h5,h6,h7,hr⟩:=hgv
     obtain ⟨L,hR'⟩:=hR.grow (ρ':=ρ) (W':=w) h4 h5 h6 h7 h3 rfl rfl (fun b h=> .inl h) (fun b h=>h)
     exact ⟨ρ,L,hR',hr.flat hflat⟩
    ·cases h
     obtain ⟨L,hR1⟩:=hR.freeze (args.flatMap (leads 16 σ))
     refine Calls.mono (pure_lift (hg as d hast hd).2 hR1 hT (hG.later L) (hra _ fun b hb=> ?_)) fun en w he=> ?_
     ·rcases hb with h| ⟨i,v,p,hi,hp,rfl⟩
      ·exact .inl h
      ·obtain ⟨x,hx,hix⟩:=List.mem_flatMap.1 hi
       obtain ⟨j,hj⟩:=List.mem_iff_getElem?.1 hx
       obtain ⟨y,hy,_⟩:=m2 j x hj
       rcases leads_row 16 σ x y hy i hix with ⟨sz,es,since,hs⟩ | ⟨sz,es,since,hs⟩
       ·exact .inr ⟨i,sz,es,since,v,p,hi,hs,hp,rfl⟩
       ·exact .inl ((hR.obj i _ hs).2 v p hp)
     ·obtain ⟨ρ2,L2,h2⟩:=he
      exact ⟨ρ2,L.trans L2,h2⟩
   ·cases h
  ·cases h
structure PostOK (glob:Gl):Prop where
 sound: ∀f σ x r σ',glob.post f σ x=some (r,σ')→ ∃r0 σ0,x=some (r0,σ0)∧ ∀ (ρ:Ren) (W:World) (en:Ending) (w:World),Rel ρ W σ→EndR ρ W σ0 r0 en w→EndR ρ W σ' r en w
 query: ∀f σ x d σ',glob.query f=true→glob.post f σ x=some (.ret d,σ')→σ'=σ
theorem extOK {T:FuncId→Option AFunc} {ext:Ext} {glob:Gl} (hpost:PostOK glob) (k:Nat):ExtOK (fun f=>(ext f).isSome) glob (evalFn T ext glob k):=by
 refine ⟨?_,fun f args σ d σ' hq hn h=> ?_⟩
 ·intro f args σ r σ' hx h
  cases k with
  |zero=>cases h
  |succ k=>
   obtain ⟨g,hg⟩:=Option.isSome_iff_exists.1 hx
   simp only [evalFn,hg] at h
   unfold callExt at h
   split at h
   ·rename_i ht
    obtain ⟨d,hd,hq⟩:=Option.map_eq_some_iff.1 h
    cases hq
    exact ⟨d,rfl,fun _=>rfl⟩
   ·rename_i ht
    split at h
    ·split at h
     ·rename_i d hd
      split at h
      ·cases h;exact ⟨d,rfl,fun _=>rfl⟩
      ·rename_i hf
       cases h
       refine ⟨d,rfl,fun hh=> ?_⟩
       rcases hh with hh|hh
       ·exact absurd hh hf
       ·exact absurd hh ht
     ·cases h
    ·cases h
 ·cases k with
  |zero=>cases h
  |succ k=>
   have hx:ext f=none:=by simpa using hn
   simp only [evalFn,hx] at h
   exact hpost.query f σ _ d σ' hq h
theorem argsE_get: ∀ (l:List D) (i t:Nat),getE (argsE i l) t=if i≤t∧t<i+l.length then l.getD (t - i) .any else .any
 | [],i,t=>by simp [argsE,getE]
 |d::l,i,t=>by
  simp only [argsE,getE]
  split
  ·rename_i h
   subst h
   simp
  ·rename_i h
   rw [argsE_get l (i+1) t]
   by_cases hc:i≤t∧t<i+ (d::l).length
   ·rw [if_pos hc,if_pos (by simp at hc;omega)]
    rw [show t - i=(t - (i+1)) +1 by omega]
    rfl
   ·rw [if_neg hc,if_neg (by simp at hc;omega)]
theorem args_RE {ρ:Ren} {W:World} {args:List D} {vs:Array Value} (h:Rs ρ W args vs) (m:Nat):RE ρ W (argsE 0 args) (vs++Array.replicate m Go.undef):=by
 intro t
 rw [argsE_get]
 split
 ·rename_i hc
  have ht:t<args.length:=by omega
  have htv:t<vs.size:=by rw [h.1];exact ht
  have:=h.2 t _ (List.getElem?_eq_getElem ht)
  refine R.undef_irrel ?_ (by rw [List.getD_eq_getElem?_getD,Nat.sub_zero,List.getElem?_eq_getElem ht];exact this)
  simp [Array.getD_eq_getD_getElem?,Array.getElem?_append_left htv]
 ·exact .any _
theorem resOf_sound {P:Program} {ρ:Ren} {W:World} {σ:St} {e:Env} {tmps:Array Value} (hR:Rel ρ W σ) (hE:RE ρ W e tmps) {v:ResultVar} {av:ARes} (hv:cRes P v=some av) {d:D} (h:resOf e σ av=some d):
 ∃u,(match v with| .tmp t=>pure (tmps.getD t Go.undef) | .cell a t=>(do loadVar t (←asAddr (tmps.getD a Go.undef))):Sem Value).run P W= .ok u W∧R ρ W d u:=by
 cases v with
 |tmp t=>
  simp only [cRes,Option.some.injEq] at hv
  subst hv
  simp only [resOf,Option.some.injEq] at h
  subst h
  exact ⟨_,rfl,hE t⟩
 |cell a t=>
  simp only [cRes,Option.bind_eq_bind,Option.pure_def,Option.bind_eq_some_iff,Option.some.injEq] at hv
  obtain ⟨ag,h1,sz,h2,rfl⟩:=hv
  obtain ⟨u,hu,hr⟩:=load_sound hR h1 h2 (hE a) h
  refine ⟨u, ?_,hr⟩
  show ((do loadVar t (←asAddr (tmps.getD a Go.undef))):Sem Value).run P W=_
  generalize tmps.getD a Go.undef=x at hu ⊢
  unfold Instr.loadAt at hu
  simp only [Sem.run_bind] at hu ⊢
  unfold Instr.sureAddr at hu
  split at hu
  ·exact hu
  ·cases hu
theorem results_list {P:Program} {ρ:Ren} {W:World} {σ:St} {e:Env} {tmps:Array Value} (hR:Rel ρ W σ) (hE:RE ρ W e tmps): ∀ {l:List ResultVar} {al:List ARes} {ds:List D},
 l.mapM (cRes P)=some al→al.mapM (resOf e σ)=some ds→
 ∃us:List Value,(l.mapM fun v=>(match v with| .tmp t=>pure (tmps.getD t Go.undef) | .cell a t=>(do loadVar t (←asAddr (tmps.getD a Go.undef))):Sem Value)).run P W= .ok us W∧us.length=ds.length∧
  ∀ (j:Nat) (d:D),ds[j]? =some d→R ρ W d (us.getD j Go.undef)
 | [],al,ds,h1,h2=>by
  simp at h1;subst h1
  simp at h2;subst h2
  exact ⟨[],rfl,rfl,fun j d h=>by simp at h⟩
 |v::l,al,ds,h1,h2=>by
  simp only [List.mapM_cons,Option.bind_eq_bind,Option.pure_def,Option.bind_eq_some_iff,Option.some.injEq] at h1
  obtain ⟨av,hav,al',hal,rfl⟩:=h1
  simp only [List.mapM_cons,Option.bind_eq_bind,Option.pure_def,Option.bind_eq_some_iff,Option.some.injEq] at h2
  obtain ⟨d,hd,ds',hds,rfl⟩:=h2
  obtain ⟨u,hu,hr⟩:=resOf_sound hR hE hav hd
  obtain ⟨us,hus,hl,hrs⟩:=results_list hR hE hal hds
  refine ⟨u::us, ?_,by simp [hl],fun j x hx=> ?_⟩
  ·rw [List.mapM_cons,Sem.run_bind,hu,Result.andThen_ok,Sem.run_bind,hus,Result.andThen_ok]
   rfl
  ·cases j with
   |zero=>simp at hx;subst hx;exact hr
   |succ j=>exact hrs j x (by simpa using hx)
theorem results_sound {P:Program} {ρ:Ren} {W:World} {σ:St} {e:Env} {tmps:Array Value} (hR:Rel ρ W σ) (hE:RE ρ W e tmps) {fn:Func} {al:List ARes} (hal:fn.results.toList.mapM (cRes P)=some al) {d:D}
 (h:resultsOf e σ al=some d): ∃v,(results fn tmps).run P W= .ok v W∧R ρ W d v:=by
 unfold resultsOf at h
 cases hds:al.mapM (resOf e σ) with
 |none=>rw [hds] at h;cases h
 |some ds=>
  rw [hds] at h
  obtain ⟨us,hus,hl,hrs⟩:=results_list hR hE hal hds
  have hmap: (fn.results.mapM fun v=>(match v with| .tmp t=>pure (tmps.getD t Go.undef) | .cell a t=>(do loadVar t (←asAddr (tmps.getD a Go.undef))):Sem Value)).run P W= .ok us.toArray W:=by
   rw [Array.mapM_eq_mapM_toList]
   simp only [Sem.run_map,hus]
   rfl
  have hres: (results fn tmps).run P W= .ok (if h:us.toArray.size=1 then us.toArray[0] else .tuple us.toArray) W:=by
   unfold results
   rw [Sem.run_bind]
   erw [hmap]
   rfl
  rw [hres]
  match ds,us,hl,hrs,h with
  | [x],[u],_,hrs,h=>
   simp only [Option.some.injEq] at h
   subst h
   exact ⟨u,rfl,hrs 0 x rfl⟩
  | [],[],_,_,h=>
   simp only [Option.some.injEq] at h
   subst h
   exact ⟨.tuple #[],rfl, .tuple rfl fun j d h=>by simp at h⟩
  |x::y::ds,u1::u2::us,hl,hrs,h=>
   simp only [Option.some.injEq] at h
   subst h
   refine ⟨.tuple (u1::u2::us).toArray,by simp, .tuple (by simpa using hl) fun j d hd=> ?_⟩
   have:=hrs j d hd
   simpa [Array.getD_eq_getD_getElem?,List.getD_eq_getElem?_getD] using this
theorem Rs.snd {ρ:Ren} {W:World} {d:D} {ds:List D} {v:Value} {vs:List Value} (h:Rs ρ W (d::ds) (v::vs).toArray):R ρ W d v∧Rs ρ W ds vs.toArray:=
 ⟨h.2 0 d rfl,by have:=h.1;simpa using this,fun j x hx=>by have:=h.2 (j+1) x (by simpa using hx);simpa [Array.getD_eq_getD_getElem?] using this⟩
theorem putParams_sound {ρ:Ren} {W:World} {n:Nat} : ∀ (ps:List Nat) (ds:List D) (vs:List Value) (e e':Env) (tmps:Array Value),putParams n ps ds e=some e'→Rs ρ W ds vs.toArray→RE ρ W e tmps→tmps.size=n→
 RE ρ W e' ((ps.zip vs).foldl (fun tmps (t,a)=>tmps.setIfInBounds t a) tmps)∧((ps.zip vs).foldl (fun tmps (t,a)=>tmps.setIfInBounds t a) tmps).size=n∧vs.length=ps.length
 | [],[],vs,e,e',tmps,h,hv,hE,hn=>by
  cases h
  have:vs=[]:=List.eq_nil_of_length_eq_zero (by simpa using hv.1)
  subst this
  exact ⟨hE,hn,rfl⟩
 | [],_::_,_,_,_,_,h,_,_,_=>by cases h
 |_::_,[],_,_,_,_,h,_,_,_=>by cases h
 |p::ps,d::ds,vs,e,e',tmps,h,hv,hE,hn=>by
  match vs,hv with
  | [],hv=>simp [Rs] at hv
  |v::vs,hv=>
   obtain ⟨h1,h2⟩:=Rs.snd hv
   simp only [putParams] at h
   split at h
   ·rename_i e1 hput
    obtain ⟨hE1,hn1⟩:=RE.put (a:= {tmps,defers:=[]}) hE hn hput h1
    obtain ⟨a1,a2,a3⟩:=putParams_sound ps ds vs e1 e' (tmps.setIfInBounds p v) h h2 hE1 hn1
    exact ⟨by simpa using a1,by simpa using a2,by simpa using a3⟩
   ·cases h
theorem endR_sound {P:Program} {ρ:Ren} {W:World} {σ:St} (hR:Rel ρ W σ) {i:Nat} {p:Pl} (hp:ρ.loc i 0=some p) {j:Option AJump} {r:FRes} {σ':St} (h:endR i j σ=some (r,σ')):
 ∃v w',(Instr.endRound p.blk (j.map AJump.code)).run P W= .ok v w'∧EndR ρ W σ' r (.returned v) w':=by
 unfold endR at h
 split at h
 ·rename_i n env ps as bd st pd hs
  cases h
  obtain ⟨p',rec,hp',hh,r1,r2,r3,r4,r5,r6,r7⟩:=hR.obj _ _ hs
  rw [hp] at hp'
  cases hp'
  obtain ⟨rst,rpe,rfn,rtm,rps,ras,rbd,rdf⟩:=rec
  simp only at r1 r2 r3 r4 r5 r6 r7
  have hend:=run_endRound (P:=P) (j.map AJump.code) hh
  have hj: (j.map AJump.code).isNone=j.isNone:=by cases j<;>rfl
  rw [hj] at hend
  obtain ⟨L,hR'⟩:=setObj_change hR hs rfl hp (.loop {state:=if j.isNone then .ready else .done,pending:=j.map AJump.code,fn:=rfn,tmps:=rtm,params:=rps,assign:=ras,body:=rbd,defers:=rdf})
   (o':= .loop n env ps as bd (if j.isNone then .ready else .done) j) (fun L=>⟨p,_,hp,heap_set_at hh,rfl,rfl,r3,r4,r5,r6,fun t=>(r7 t).later L⟩)
  exact ⟨.bool j.isNone,_,hend,ρ,L,hR', .bool _⟩
 ·cases h
theorem take_one {ρ0 ρ:Ren} {W0 w:World} {σ:St} (h0: ∀b,ρ0.fix b→b<W0.heap.size) (L:Later ρ0 W0 ρ w) (hR:Rel ρ w σ) {D:Nat} (hD:W0.heap.size≤D) (hloc: ∀i v p,ρ.loc i v=some p→p.blk≠D) (hfix: ¬ρ.fix D) (o:Go.Obj):
 Later ρ0 W0 ρ (w.putObj D o)∧Rel ρ (w.putObj D o) σ∧Soft ρ w ρ (w.putObj D o):=by
 have S:Soft ρ w ρ (w.putObj D o):=⟨fun _ _ _ h=>h,fun _ h=>h,fun b hb=>World.putObj_heap_other (fun h=>hfix (h ▸ hb)),rfl,fun _ h=>h⟩
 refine ⟨⟨L.loc,L.fix,fun b hb=> ?_,by rw [World.putObj_size];exact L.size,L.os,L.tape,L.output,fun b hb hn=> ?_,L.new,L.fixnew,L.code,L.dom⟩,⟨fun i o' ho=> ?_,fun i v p hp=> ?_,hR.inj,hR.apart,fun b hb=> ?_,hR.dom⟩,S⟩
 ·rw [World.putObj_heap_other (by have:=h0 b hb;omega)];exact L.heap b hb
 ·rw [World.putObj_heap_other (by omega)];exact L.own b hb hn
 ·exact (hR.obj i o' ho).soft S (fun v p hp=>World.putObj_heap_other (hloc i v p hp)) fun _=>rfl
 ·rw [World.putObj_size];exact hR.blk i v p hp
 ·rw [World.putObj_size];exact hR.fixlt b hb
theorem leaves {P:Program} {fn:Func} {tmps:Array Value} {Rq:Ending→World→Prop} {ρ0 ρ:Ren} {W0:World} {σ:St} {u:FrameMode} (hu:u≠ .run) (h0: ∀b,ρ0.fix b→b<W0.heap.size):
 ∀ (Ds:List Nat) (w:World),Ds.Nodup→(∀D ∈ Ds,W0.heap.size≤D∧D<w.heap.size∧w.heap[D]? =some (.deferred (some []))∧(∀i v p,ρ.loc i v=some p→p.blk≠D)∧ ¬ρ.fix D)→
  Later ρ0 W0 ρ w→Rel ρ w σ→(∀w',Later ρ0 W0 ρ w'→Rel ρ w' σ→Soft ρ w ρ w'→LeavesIn (FR none) 0 P fn tmps Rq [] u w')→
  LeavesInM (FR none) 0 P fn tmps Rq (Ds.map fun D=> {target:= .collected D,args:= #[]}) u w
 | [],w,_,_,L,hR,h=>h w L hR ⟨fun _ _ _ h=>h,fun _ h=>h,fun _ _=>rfl,rfl,fun _ h=>h⟩
 |D::Ds,w,hnd,hDs,L,hR,h=>by
  obtain ⟨d1,d2,d3,d4,d5⟩:=hDs D List.mem_cons_self
  obtain ⟨L1,hR1,S⟩:=take_one h0 L hR d1 d4 d5 (.deferred none)
  refine ⟨hu, .inl ⟨D,w.putObj D (.deferred none),rfl,run_takeDeferred d3, ?_⟩⟩
  refine leaves hu h0 Ds _ (List.nodup_cons.1 hnd).2 (fun E hE=> ?_) L1 hR1 fun w' L' hR' S'=>h w' L' hR' ⟨fun i v p hp=>S'.loc i v p (S.loc i v p hp),fun b hb=>S'.fix b (S.fix b hb),fun b hb=>(S'.heap b (S.fix b hb)).trans (S.heap b hb),rfl,fun _ h=>h⟩
  obtain ⟨e1,e2,e3,e4,e5⟩:=hDs E (List.mem_cons_of_mem _ hE)
  have hne:E≠D:=fun h=>(List.nodup_cons.1 hnd).1 (h ▸ hE)
  exact ⟨e1,by rw [World.putObj_size];exact e2,by rw [World.putObj_heap_other hne];exact e3,e4,e5⟩
def roundX (P:Program) (f:FuncId) (l:Nat) (R:Ending→World→Prop):Exit→Act→World→Prop
 | .normal,_,w=> ∃v w',(Instr.endRound l none).run P w= .ok v w'∧R (.returned v) w'
 | .ret,_,w=> ∃v w',(Instr.endRound l (some .ret)).run P w= .ok v w'∧R (.returned v) w'
 | .exit id,_,w=> ∃v w',(Instr.endRound l (some (.exit id))).run P w= .ok v w'∧R (.returned v) w'
 | .goto t,_,w=> ∃v w',(Instr.endRound l (some (.goto t))).run P w= .ok v w'∧R (.returned v) w'
 | .panic chain,a,w=> ∀fn,P.funcs[f]? =some fn→LeavesInM (FR none) 0 P fn a.tmps R a.defers (.panicking chain) w
 | .outgrown,_,_=>False
theorem round_of_wpX {P:Program} {l:Nat} {f:FuncId} {tmps:Array Value} {assign body:Code} {w:World} {R:Ending→World→Prop} (hf: (P.funcs[f]?).isSome=true)
 (h:wpX P (some l) assign (Exit.then (fun a₁ w₁=> ∃w₂,(Instr.beginRound l).run P w₁= .ok () w₂∧wpX P (some l) body (roundX P f l R) a₁ w₂) (fun _ _ _=>False)) {tmps:=tmps,defers:=[]} w):
 RoundIn (FR none) 0 P l f tmps assign body w R:=by
 refine ⟨trivial,fun c cs _=> ?_⟩
 let b:Frame:= {(default:Frame) with fn:=f,kind:= .normal,roundOf:=some l}
 have hb0:Frame.round l f tmps assign body .normal=b.atR {tmps:=tmps,defers:=[]} [.code assign, .beginRound, .code body]:=by simp [Frame.round,Frame.atR,b]
 obtain ⟨e,a₁,w₁,hq,harr⟩:=h b [.beginRound, .code body] (c::cs) rfl hf
 rw [←hb0] at harr
 cases e with
 |normal=>
  obtain ⟨w₂,hbr,hbody⟩:=hq
  obtain ⟨e₂,a₂,w₃,hq₂,harr₂⟩:=hbody b [] (c::cs) rfl hf
  have s1:=StepsIn.trans harr (oneR (stepR_beginRound (b:=b) (a:=a₁) (k:=[.code body]) (cs:=c::cs) rfl hbr))
  cases e₂ with
  |normal=>
   obtain ⟨v,w₄,hend,hR⟩:=hq₂
   exact ⟨.returned v,w₄,hR,StepsIn.trans s1 (StepsIn.trans harr₂ (oneR (stepR_round_end rfl rfl hend)))⟩
  |ret=>
   obtain ⟨v,w₄,hend,hR⟩:=hq₂
   obtain ⟨k₁,hs⟩:=harr₂.2 rfl
   exact ⟨.returned v,w₄,hR,StepsIn.trans s1 (StepsIn.trans hs (oneR (stepR_round_ret rfl rfl hend)))⟩
  |exit id=>
   obtain ⟨v,w₄,hend,hR⟩:=hq₂
   obtain ⟨k₁,hk,hs⟩:=harr₂.2 rfl rfl
   exact ⟨.returned v,w₄,hR,StepsIn.trans s1 (StepsIn.trans hs (oneR (stepR_round_exit rfl rfl hk hend)))⟩
  |goto t=>
   obtain ⟨v,w₄,hend,hR⟩:=hq₂
   obtain ⟨k₁,hk,hs⟩:=harr₂.2 rfl rfl
   exact ⟨.returned v,w₄,hR,StepsIn.trans s1 (StepsIn.trans hs (oneR (stepR_round_goto rfl rfl hk hend)))⟩
  |panic chain=>
   obtain ⟨todo,hs⟩:=harr₂
   obtain ⟨fn,hfn⟩:=Option.isSome_iff_exists.1 hf
   obtain ⟨e',w'',fr',hR,hs',hfn',hl⟩:=leaves_stepsInM a₂.defers (.panicking chain) w₃ {b.atR a₂ todo with mode:= .panicking chain} (c::cs) rfl rfl rfl hfn rfl trivial (roomR _) (hq₂ fn hfn)
   have last: ∀m:Machine,step P (lone fr' (c::cs) w'')= .next m→StepsIn (Machine.fenced P (FR none)) P (lone fr' (c::cs) w'') m:=
    fun m hm=> .one (fenced_lone (.inl trivial) (fun _ _=>trivial) (roomR _)) hm
   cases e' with
   |returned v=>exact ⟨.returned v,w'',hR,StepsIn.trans s1 (StepsIn.trans hs (StepsIn.trans hs' (last _ (step_leave_returned hl))))⟩
   |panicked ch=>exact ⟨.panicked ch,w'',hR,StepsIn.trans s1 (StepsIn.trans hs (StepsIn.trans hs' (last _ (step_leave_panicked hl))))⟩
   |outgrown=>exact ⟨.outgrown,w'',hR,Outgrown.of_steps (StepsIn.steps (StepsIn.trans s1 hs)) hs'⟩
  |outgrown=>exact hq₂.elim
 |exit id=>exact hq.elim
 |goto t=>exact hq.elim
 |ret=>exact hq.elim
 |panic chain=>exact hq.elim
 |outgrown=>exact hq.elim
theorem round_sound {P:Program} {glob:Gl} {callf:CallF} {ext:FuncId→Bool} {k:Nat} (hcall:CallOK P glob callf) (hext:ExtOK ext glob callf) (hord:P.follows .mixedOrders=true) {i:Nat} {args:List D} {σ:St} {r:FRes} {σ':St}
 (h:evalRound (fun n=>evalCode callf ext glob n k true) i args σ=some (r,σ')) {ρ:Ren} {W:World} {vs:Array Value} {p:Pl} (hR:Rel ρ W σ) (hG:GlobR ρ W glob) (hcd:ρ.code=codeP P) (ha:Rs ρ W args vs) (hp:ρ.loc i 0=some p):
 ∃l f tmps assign body,(Instr.yield p.blk vs).run P W= .ok (.round l f tmps assign body) W∧RoundIn (FR none) 0 P l f tmps assign body W (EndR ρ W σ' r):=by
 unfold evalRound at h
 split at h
 ·rename_i n env ps as bd hs
  obtain ⟨p',rec,hp',hh,r1,r2,r3,r4,r5,r6,r7⟩:=hR.obj _ _ hs
  rw [hp] at hp'
  cases hp'
  split at h
  ·rename_i e hput
   obtain ⟨q1,q2,q3⟩:=putParams_sound ps args vs.toList env e rec.tmps hput (by simpa using ha) r7 r6
   have hsz:vs.size=rec.params.size:=by
    have:=q3;rw [←r3] at this;simpa using this
   have hfold: (rec.params.zip vs).foldl (fun tmps (t,a)=>tmps.setIfInBounds t a) rec.tmps=(ps.zip vs.toList).foldl (fun tmps (t,a)=>tmps.setIfInBounds t a) rec.tmps:=by
    rw [←Array.foldl_toList,←r3]
    simp
   refine ⟨p.blk,rec.fn,_,rec.assign,rec.body,run_yield hh hsz,round_of_wpX (by have h4:=r4;rw [hcd] at h4;exact h4.2) ?_⟩
   rw [hfold]
   obtain ⟨⟨acc1,keep1,hc1⟩,hreal⟩:codeP P as rec.assign rec.fn:=by rw [←hcd];exact r4
   obtain ⟨⟨acc2,keep2,hc2⟩,_⟩:codeP P bd rec.body rec.fn:=by rw [←hcd];exact r5
   split at h
   ·rename_i e1 σ1 hev1
    refine wpX_mono (code_sound (ro:=some p.blk) (base:=W.heap.size) hcall hext hord (fun h=>by cases h) _ rec.assign (Nat.le_refl _) as e σ _ e1 σ1 ρ W _ hc1 hev1 hR hG hcd (Nat.le_refl _) q1 q2 (DefR.nil _ _ _)) fun ex a1 w1 hpost=> ?_
    obtain ⟨ρ1,L1,hR1,hn1,hd1,hx⟩:=hpost
    cases ex<;>first|exact hx.elim|skip
    split at h
    ·rename_i n1 env1 ps1 as1 bd1 pd1 hs1
     obtain ⟨p1,rec1,hp1,hh1,t1,t2,t3,t4,t5,t6,t7⟩:=hR1.obj _ _ hs1
     rw [L1.loc _ _ _ hp] at hp1
     cases hp1
     obtain ⟨L2,hR2⟩:=setObj_change hR1 hs1 rfl (L1.loc _ _ _ hp) (.loop {rec1 with state:= .busy}) (o':= .loop n1 env1 ps1 as1 bd1 .busy pd1)
      (fun L=>⟨p,_,L1.loc _ _ _ hp,heap_set_at hh1,rfl,t2,t3,t4,t5,t6,fun t=>(t7 t).later L⟩)
     refine ⟨_,run_beginRound hh1 t1, ?_⟩
     have go: ∀x e2 σ2,evalCode callf ext glob n k true bd e1 (σ1.set i (.loop n1 env1 ps1 as1 bd1 .busy pd1))=some (x,e2,σ2)→
      wpX P (some p.blk) rec.body (PostR n W.heap.size ρ1 w1 x e2 σ2) a1 (w1.putObj p.blk (.loop {rec1 with state:= .busy})):=fun x e2 σ2 hev=>
      wpX_mono (code_sound (ro:=some p.blk) (base:=W.heap.size) hcall hext hord (fun h=>by cases h) _ rec.body (Nat.le_refl _) bd e1 _ x e2 σ2 ρ1 _ a1 hc2 hev hR2 ((hG.later L1).later L2) (L1.code.trans hcd) (Nat.le_trans L1.size L2.size) (hx.later L2) hn1 (hd1.later L2)) fun ex a w hpp=>hpp.later L2
     have fin: ∀ (j:Option AJump) σ2,endR i j σ2=some (r,σ')→ ∀ρ2 w2,Later ρ1 w1 ρ2 w2→Rel ρ2 w2 σ2→ ∃v w',(Instr.endRound p.blk (j.map AJump.code)).run P w2= .ok v w'∧EndR ρ W σ' r (.returned v) w':=by
      intro j σ2 hend ρ2 w2 LL hRR
      obtain ⟨v,w',h1,ρ3,L3,h3⟩:=endR_sound (P:=P) hRR (LL.loc _ _ _ (L1.loc _ _ _ hp)) hend
      exact ⟨v,w',h1,ρ3,(L1.trans LL).trans L3,h3⟩
     split at h
     ·rename_i e2 σ2 hev
      refine wpX_mono (go _ _ _ hev) fun ex a w hpp=> ?_
      obtain ⟨ρ2,LL,hRR,_,_,hxx⟩:=hpp
      cases ex<;>first|exact hxx.elim|exact fin none σ2 h ρ2 w LL hRR
     ·rename_i e2 σ2 hev
      refine wpX_mono (go _ _ _ hev) fun ex a w hpp=> ?_
      obtain ⟨ρ2,LL,hRR,_,_,hxx⟩:=hpp
      cases ex<;>first|exact hxx.elim|exact fin (some .ret) σ2 h ρ2 w LL hRR
     ·rename_i id e2 σ2 hev
      refine wpX_mono (go _ _ _ hev) fun ex a w hpp=> ?_
      obtain ⟨ρ2,LL,hRR,_,_,hxx⟩:=hpp
      cases ex<;>first|exact hxx.elim|skip
      obtain ⟨rfl,_⟩:=hxx
      exact fin (some (.exit _)) σ2 h ρ2 w LL hRR
     ·rename_i l e2 σ2 hev
      refine wpX_mono (go _ _ _ hev) fun ex a w hpp=> ?_
      obtain ⟨ρ2,LL,hRR,_,_,hxx⟩:=hpp
      cases ex<;>first|exact hxx.elim|skip
      obtain ⟨rfl,_⟩:=hxx
      exact fin (some (.goto _)) σ2 h ρ2 w LL hRR
     ·rename_i d e2 σ2 hev
      cases h
      refine wpX_mono (go _ _ _ hev) fun ex a w hpp=> ?_
      obtain ⟨ρ2,LL,hRR,_,hdd,hxx⟩:=hpp
      cases ex<;>first|exact hxx.elim|skip
      obtain ⟨Ds,d1,d2,d3⟩:=hdd
      obtain ⟨v,rfl,hv⟩:=hxx
      intro fn hfn
      rw [d2]
      exact leaves (by simp) hR.fixlt Ds w d1 d3 (L1.trans LL) hRR fun w' L' hR' S=>⟨_,L',hR',v,rfl,hv.soft S⟩
     ·cases h
    ·cases h
   ·cases h
  ·cases h
 ·cases h
theorem grown_change {ρ:Ren} {W W':World} {σ:St} (hR:Rel ρ W σ) (g:Grown W W'):Later ρ W ρ W'∧Rel ρ W' σ:=
 hR.grow (ρ':=ρ) (W':=W') g.size g.os g.tape g.output g.heap rfl rfl (fun _ h=> .inl h) (fun _ h=>h)
theorem catch_sound {P:Program} {glob:Gl} {callf:CallF} (hcall:CallOK P glob callf) {f:FuncId} {ty:TypeId} (hf:glob.catches f=some ty) {args:List D} {σ:St} {r:FRes} {σ':St} (h:evalCatch callf ty args σ=some (r,σ')):
 Real P f∧ ∀ρ W vs,Rel ρ W σ→GlobR ρ W glob→ρ.code=codeP P→Rs ρ W args vs→Calls P f vs W (EndR ρ W σ' r):=by
 obtain ⟨hreal,te,hC⟩:=hcall.1.2 f ty hf
 refine ⟨hreal,fun ρ W vs hR hG hcd ha=> ?_⟩
 unfold evalCatch at h
 split at h
 ·rename_i g first captured
  obtain ⟨hlen,hget⟩:=ha
  obtain ⟨v0,rfl⟩: ∃v0,vs= #[v0]:=by
   match vs,hlen with
   | ⟨[v]⟩,_=>exact ⟨v,rfl⟩
  have h0:=hget 0 _ rfl
  have h0':R ρ W (.func g first captured) v0:=h0
  cases h0' with
  |func h1 h2 hfa hca=>
  rename_i fa ca
  let p:Pl:=⟨W.heap.size,1,0⟩
  let ρ1:Ren:= {ρ with loc:=fun i v=>if i=σ.length then (if v=0 then some p else none) else ρ.loc i v}
  have hp:ρ1.loc σ.length 0=some p:=by simp [ρ1]
  obtain ⟨L1,hR1⟩:=hR.push (ρ':=ρ1) (W':=W.alloc (.cells #[.int .i64 0] te)) (o':= .box [.int .i64 0]) (by simp) rfl rfl rfl
   (fun b hb=>heap_alloc_old _ _ hb) (fun j v hj=>by simp [ρ1,hj]) (fun v q hq=>by
    simp only [ρ1,if_true] at hq
    split at hq
    ·cases hq;simp [p]
    ·cases hq) (fun _=>Iff.rfl) rfl
   (fun L=>⟨p, #[.int .i64 0],te,hp,heap_alloc_at W _,rfl,fun j d hd=>by
     match j,hd with
     |0,hd=>cases hd;exact .int _ _
     |j+1,hd=>simp at hd⟩)
  have hG1:=hG.later L1
  have hcd1:ρ1.code=codeP P:=L1.code.trans hcd
  have hargs:Rs ρ1 (W.alloc (.cells #[.int .i64 0] te)) (first++captured) (fa++ca):=Rs.append (Rs.later L1 ⟨h1,hfa⟩) (Rs.later L1 ⟨h2,hca⟩)
  have key: ∀ (r1:FRes) (σ1:St) (n:Int),callf (.fn g) (first++captured) (σ++[.box [.int .i64 0]])=some (r1,σ1)→(∃y,σ1[σ.length]? =some (.box [y]))→
   (((∃d,r1= .ret d)∧n=0)∨r1= .panic (.iface ty (.agg [.int .i64 n])))→Calls P f #[.func (.func g) fa ca] W (EndR ρ W (σ1.set σ.length (.box [.int .i64 n])) (.ret (.int .i64 n))):=by
   intro r1 σ1 n hcf hy hr1
   obtain ⟨y,hy⟩:=hy
   obtain ⟨hrg,hcg⟩:=hcall.2 (.fn g) _ _ r1 σ1 hcf
   have cellOf: ∀ {en:Ending} {w:World},EndR ρ1 (W.alloc (.cells #[.int .i64 0] te)) σ1 r1 en w→ ∃y t,w.heap[W.heap.size]? =some (.cells #[y] t):=by
    rintro en w ⟨ρ2,L2,hR2,_⟩
    obtain ⟨q,c,t,hq,hh,hz,_⟩:=hR2.obj _ _ hy
    rw [L2.loc _ _ _ hp] at hq
    cases hq
    match c,hz with
    | ⟨[y]⟩,_=>exact ⟨y,t,hh⟩
   have endOf: ∀ {en:Ending} {w:World},EndR ρ1 (W.alloc (.cells #[.int .i64 0] te)) σ1 r1 en w→(((∃v,en= .returned v)∧n=0)∨en= .panicked [{v:= .iface ty (.agg #[.int .i64 n]),recovered:=false}]):=by
    rintro en w ⟨ρ2,L2,hR2,hm⟩
    rcases hr1 with ⟨⟨d,rfl⟩,hn⟩ |rfl
    ·cases en with
     |returned v=>exact .inl ⟨⟨v,rfl⟩,hn⟩
     |_=>exact hm.elim
    ·cases en with
     |panicked ch=>
      obtain ⟨v,rfl,hv⟩:=hm
      cases hv with
      |iface hv=>
      cases hv with
      |agg hz hr=>
      rename_i a
      match a,hz,hr with
      | ⟨[x]⟩,_,hr=>
       have h0:=hr 0 _ rfl
       have h0':R ρ2 w (.int .i64 n) x:=h0
       cases h0'
       exact .inr rfl
     |_=>exact hm.elim
   refine Calls.mono (hC g fa ca W (EndR ρ1 (W.alloc (.cells #[.int .i64 0] te)) σ1 r1) hrg ?_ fun en w he=>⟨cellOf he,(endOf he).imp (fun h=>h.1) fun h=>⟨n,h⟩⟩) fun en w he=> ?_
   ·exact hcg ρ1 _ _ hR1 hG1 hcd1 hargs
   ·obtain ⟨en',w',w'',n',hq,rfl,hgr,rfl,hcase⟩:=he
    have hn:n'=n:=by
     rcases endOf hq with ⟨⟨v,rfl⟩,hn0⟩ |rfl
     ·rcases hcase with ⟨_,hn1⟩ |hbad
      ·rw [hn1,hn0]
      ·cases hbad
     ·rcases hcase with ⟨⟨v,hv⟩,_⟩ |hgood
      ·cases hv
      ·injection hgood with hgood
       injection hgood with hgood _
       injection hgood with hgood _
       injection hgood with _ hgood
       injection hgood with hgood
       simpa using hgood.symm
    subst hn
    obtain ⟨ρ2,L2,hR2,_⟩:=hq
    obtain ⟨Lg,hRg⟩:=grown_change hR2 hgr
    obtain ⟨q,c,t,hq,hh,hz,_⟩:=hRg.obj _ _ hy
    rw [L2.loc _ _ _ hp] at hq
    cases hq
    obtain ⟨L3,hR3⟩:=setRow_change hRg hy rfl (L2.loc _ _ _ hp) #[.int .i64 n'] (o':= .box [.int .i64 n']) fun L=>
     ⟨p, #[.int .i64 n'],t,L2.loc _ _ _ hp,setRow_heap w'' W.heap.size c _ t _ hh,rfl,fun j d hd=>by
      match j,hd with
      |0,hd=>cases hd;exact .int _ _
      |j+1,hd=>simp at hd⟩
    exact ⟨ρ2,((L1.trans L2).trans Lg).trans L3,hR3, .int _ _⟩
  split at h
  ·rename_i d σ1 hcf
   split at h
   ·rename_i y hy
    cases h
    exact key _ σ1 0 hcf ⟨y,hy⟩ (.inl ⟨⟨d,rfl⟩,rfl⟩)
   ·cases h
  ·rename_i t n σ1 hcf
   split at h
   ·rename_i y hy
    split at h
    ·rename_i ht
     subst ht
     cases h
     exact key _ σ1 n hcf ⟨y,hy⟩ (.inr rfl)
    ·cases h
   ·cases h
  ·cases h
 ·cases h
theorem body_sound {P:Program} {glob:Gl} {T:FuncId→Option AFunc} {callf:CallF} {ext:FuncId→Bool} (hcall:CallOK P glob callf) (hext:ExtOK ext glob callf) (hTab:TabR P T) (hord:P.follows .mixedOrders=true) {f:FuncId} {af:AFunc} (haf:T f=some af) {k:Nat}
 {args:List D} {σ:St} {r:FRes} {σ':St} (h:evalBody callf ext glob k af args σ=some (r,σ')):
 Real P f∧ ∀ρ W vs,Rel ρ W σ→GlobR ρ W glob→ρ.code=codeP P→Rs ρ W args vs→Calls P f vs W (EndR ρ W σ' r):=by
 obtain ⟨fn,acc,keep,hfn,hcf⟩:=hTab f af haf
 unfold cFunc at hcf
 cases hbody:fn.body with
 |none=>rw [hbody] at hcf;cases hcf
 |some c=>
  rw [hbody] at hcf
  simp only [Option.bind_eq_bind,Option.bind_some] at hcf
  split at hcf
  ·cases hcf
  ·rename_i hname
   simp only [Option.pure_def,Option.bind_eq_some_iff,Option.some.injEq] at hcf
   obtain ⟨al,hal,ac,hac,rfl⟩:=hcf
   refine ⟨⟨fn,hfn,by rw [hbody];rfl,by simpa using hname⟩,fun ρ W vs hR hG hcd ha=> ?_⟩
   unfold evalBody at h
   split at h
   ·rename_i hlen
    refine calls_of_wpX hfn hbody ?_
    obtain ⟨hlen,hle⟩:=hlen
    simp only at hle h
    have hsz: (vs++Array.replicate (fn.ntmps - vs.size) Go.undef).size=fn.ntmps:=by
     have:=ha.1
     simp only at hlen
     simp;omega
    have go: ∀x e σ1,evalCode callf ext glob fn.ntmps k false ac (argsE 0 args) σ=some (x,e,σ1)→
     wpX P none c (PostR fn.ntmps W.heap.size ρ W x e σ1) {tmps:=vs++Array.replicate (fn.ntmps - vs.size) Go.undef,defers:=[]} W:=fun x e σ1 hev=>
     code_sound hcall hext hord (fun _=>rfl) _ c (Nat.le_refl _) ac _ σ x e σ1 ρ W _ hac hev hR hG hcd (Nat.le_refl _) (args_RE ha _) hsz (DefR.nil _ _ _)
    have ends: ∀e σ1,(resultsOf e σ1 al).map (fun d=>(FRes.ret d,σ1))=some (r,σ')→ ∀ (ρ1:Ren) (a:Act) (w:World),Later ρ W ρ1 w→Rel ρ1 w σ1→DefR ρ1 w W.heap.size a.defers→RE ρ1 w e a.tmps→
     LeavesInM (FR none) 0 P fn a.tmps (EndR ρ W σ' r) a.defers .returning w:=by
     intro e σ1 hres ρ1 a w L hR1 hd hE
     obtain ⟨d,hd',hx⟩:=Option.map_eq_some_iff.1 hres
     cases hx
     obtain ⟨Ds,d1,d2,d3⟩:=hd
     rw [d2]
     refine leaves (by simp) hR.fixlt Ds w d1 d3 L hR1 fun w' L' hR' S=> ?_
     obtain ⟨v,hv,hr⟩:=results_sound hR' (fun t=>(hE t).soft S) hal hd'
     exact ⟨v,hv,ρ1,L',hR',hr⟩
    split at h
    ·rename_i e σ1 hev
     refine wpX_mono (go _ e σ1 hev) fun ex a w hp=> ?_
     obtain ⟨ρ1,L,hR1,hn,hd,hx⟩:=hp
     cases ex<;>first|exact hx.elim|exact ends e σ1 h ρ1 a w L hR1 hd hx
    ·rename_i e σ1 hev
     refine wpX_mono (go _ e σ1 hev) fun ex a w hp=> ?_
     obtain ⟨ρ1,L,hR1,hn,hd,hx⟩:=hp
     cases ex<;>first|exact hx.elim|exact ends e σ1 h ρ1 a w L hR1 hd hx
    ·rename_i d e σ1 hev
     cases h
     refine wpX_mono (go _ e σ' hev) fun ex a w hp=> ?_
     obtain ⟨ρ1,L,hR1,hn,hd,hx⟩:=hp
     cases ex<;>first|exact hx.elim|skip
     obtain ⟨Ds,d1,d2,d3⟩:=hd
     obtain ⟨v,rfl,hv⟩:=hx
     show LeavesInM (FR none) 0 P fn a.tmps (EndR ρ W σ' (.panic d)) a.defers _ w
     rw [d2]
     exact leaves (by simp) hR.fixlt Ds w d1 d3 L hR1 fun w' L' hR' S=>⟨ρ1,L',hR',v,rfl,hv.soft S⟩
    ·cases h
   ·cases h
theorem evalFn_sound {P:Program} {glob:Gl} {T:FuncId→Option AFunc} {ext:Ext} (hX:ExtR P glob ext) (hTab:TabR P T) (hT:GlobT glob) (hN:NatR P glob) (hpost:PostOK glob) (hord:P.follows .mixedOrders=true): ∀k,CallOK P glob (evalFn T ext glob k):=by
 intro k
 induction k with
 |zero=>exact ⟨hN,fun t args σ r σ' h=>by cases h⟩
 |succ k ih=>
  refine ⟨hN, ?_⟩
  intro t args σ r σ' h
  cases t with
  |round i=>
   intro ρ W vs p hR hG hcd ha hp
   simp only [evalFn] at h
   exact round_sound ih (extOK hpost k) hord h hR hG hcd ha hp
  |fn f=>
   simp only [evalFn] at h
   split at h
   ·rename_i g hg
    exact ⟨(hX f g hg).1,fun ρ W vs hR hG _ ha=>callExt_sound (hX f g hg).2 hT h hR hG ha⟩
   ·obtain ⟨r0,σ0,h0,hto⟩:=hpost.sound _ _ _ _ _ h
    have key:Real P f∧ ∀ρ W vs,Rel ρ W σ→GlobR ρ W glob→ρ.code=codeP P→Rs ρ W args vs→Calls P f vs W (EndR ρ W σ0 r0):=by
     split at h0
     ·rename_i af haf
      exact body_sound ih (extOK hpost k) hTab hord haf h0
     ·split at h0
      ·rename_i ty hty
       exact catch_sound ih hty h0
      ·cases h0
    exact ⟨key.1,fun ρ W vs hR hG hcd ha=>(key.2 ρ W vs hR hG hcd ha).mono fun en w he=>hto ρ W en w hR he⟩
def fnTree (T:FuncId→Option AFunc) (ext:Ext) (glob:Gl) (k:Nat) (f:FuncId) (args:List D):Option D:=
 match evalFn T ext glob k (.fn f) args [] with
 |some (.ret d,σ)=>strip 16 σ d
 |_=>none
theorem pure_of_eval {P:Program} {glob:Gl} {T:FuncId→Option AFunc} {ext:Ext} (hX:ExtR P glob ext) (hTab:TabR P T) (hT:GlobT glob) (hN:NatR P glob) (hpost:PostOK glob) (hord:P.follows .mixedOrders=true) {k:Nat} {f:FuncId} {args:List D} {r:D}
 (h:fnTree T ext glob k f args=some r):Real P f∧(r.tree=true∧PureCall P glob f args r):=by
 unfold fnTree at h
 split at h
 ·rename_i d σ hev
  obtain ⟨hreal,hcalls⟩:=(evalFn_sound hX hTab hT hN hpost hord k).2 (.fn f) args [] (.ret d) σ hev
  refine ⟨hreal,strip_tree _ _ _ _ h,fun fx W vs hfx hG ha=> ?_⟩
  have up: ∀ {d v},R (bare fx) W d v→R (cold P fx) W d v:=fun hr=>R.mono (ρ:=bare fx) (ρ':=cold P fx) (fun i v p h=>by simp [bare] at h) (fun _ h=>h) (fun _ _=>rfl) hr
  refine Calls.mono (hcalls (cold P fx) W vs (cold_rel hfx) (fun g cs hg=>⟨up (hG g cs hg).1,(hG g cs hg).2⟩) rfl ⟨ha.1,fun j x hx=>up (ha.2 j x hx)⟩) fun en w he=> ?_
  obtain ⟨ρ1,L,hR1,hr⟩:=he
  cases en with
  |returned v=>
   refine ⟨lent ρ1 (leads 16 σ d),v,rfl,fun b hb=> .inl (L.fix b hb),fun b hb=> ?_,fun b hb=>L.own b hb (fun i v p h=>by simp [cold] at h),L.size,L.os,L.tape,L.output, ?_⟩
   ·rcases hb with hb| ⟨i,v,p,_,hp,rfl⟩
    ·rcases L.fixnew b hb with h| ⟨j,u,q,hq,_⟩ |hge
     ·exact .inl h
     ·simp [cold] at hq
     ·exact .inr ⟨hge,hR1.fixlt b hb⟩
    ·rcases L.new i v p hp with ⟨j,u,q,hq,_⟩ |hge
     ·simp [cold] at hq
     ·exact .inr ⟨hge,(hR1.blk i v p hp).1⟩
   ·exact strip_sound hR1 (leads 16 σ d) 16 16 (Nat.le_refl _) d r v hr h fun i hi=>hi
  |_=>exact hr.elim
 ·cases h
mutual
theorem D.weak_tree: ∀ (d:D),d.tree=true→d.weak.tree=true
 | .bool _,h=>h| .int ..,h=>h| .str _,h=>h| .nilptr,h=>h| .nilmap,h=>h| .nilfunc,h=>h| .niliface,h=>h
 | .empty,_=>rfl
 | .slice es,h=>by simp only [D.weak,D.tree] at*;exact weakL_tree es h
 | .agg es,h=>by simp only [D.weak,D.tree] at*;exact weakL_tree es h
 | .tuple es,h=>by simp only [D.weak,D.tree] at*;exact weakL_tree es h
 | .iface t v,h=>by simp only [D.weak,D.tree] at*;exact D.weak_tree v h
 | .func ..,h=>h
 | .ptr ..,h=>h| .rptr ..,h=>h| .tptr ..,h=>h| .arr ..,h=>h| .map _,h=>h| .yield _,h=>h| .undef,h=>h| .any,h=>h
theorem weakL_tree: ∀ (l:List D),treeL l=true→treeL (weakL l)=true
 | [],_=>rfl
 |d::r,h=>by
  simp only [treeL,weakL,Bool.and_eq_true] at*
  exact ⟨D.weak_tree d h.1,weakL_tree r h.2⟩
end
theorem Gives.weak {W:World} {fx:Nat→Prop} {r:D} {en:Ending} {w:World} (h:Gives W fx r en w):Gives W fx r.weak en w:=by
 obtain ⟨fx',v,h1,h2,h3,h4,h5,h6,h7,h8,hr⟩:=h
 exact ⟨fx',v,h1,h2,h3,h4,h5,h6,h7,h8,hr.weak⟩
def Comp (T:FuncId→Option AFunc) (ext:Ext) (glob:Gl) (f:FuncId) (args:List D) (r:D):Prop:=
 ∃k d,fnTree T ext glob k f args=some d∧d.weak=r
abbrev ExtL:=List (FuncId × (List D→Option D))
def extOf:ExtL→Ext
 | [],_=>none
 | (g,h)::r,f=>if f=g then some fun a=>h (weakL a) else extOf r f
theorem PureCall.ofWeak {P:Program} {glob:Gl} {f:FuncId} {args:List D} {r:D} (h:PureCall P glob f (weakL args) r):PureCall P glob f args r:=by
 intro fx W vs hfx hG ha
 refine h fx W vs hfx hG ⟨by rw [ha.1,weakL_length],fun j d hd=> ?_⟩
 obtain ⟨e,he,rfl⟩:=weak_get hd
 exact (ha.2 j e he).weak
theorem ExtR.cons {P:Program} {glob:Gl} {L:ExtL} (hL:ExtR P glob (extOf L)) {f:FuncId} {g:List D→Option D} (hf:Real P f)
 (h: ∀args r,treeL args=true→g args=some r→r.tree=true∧PureCall P glob f args r):ExtR P glob (extOf ((f,g)::L)):=by
 intro f' g' he
 simp only [extOf] at he
 split at he
 ·rename_i hff
  subst hff
  cases he
  refine ⟨hf,fun args r ht hr=> ?_⟩
  obtain ⟨h1,h2⟩:=h (weakL args) r (weakL_tree _ ht) hr
  exact ⟨h1,h2.ofWeak⟩
 ·exact hL f' g' he
@[reducible,simp] def tm (t:Nat):AOpd:= .tmp t
@[reducible,simp] def zi (n:Int):AOpd:= .lit (.int .i64 n)
@[reducible,simp] def ld (d t:Nat):AOper:=⟨some d, .load false 1 (.tmp t),none,[]⟩
@[reducible,simp] def lq (d t:Nat):AOper:=⟨some d, .load false 1 (.tmp t),none,[t]⟩
@[reducible,simp] def ao (d k t:Nat):AOper:=⟨some d, .addOff k (.tmp t),none,[]⟩
@[reducible,simp] def aq (d k t:Nat):AOper:=⟨some d, .addOff k (.tmp t),none,[t]⟩
@[reducible,simp] def op (d:Nat) (o:AOp):AOper:=⟨some d,o,none,[]⟩
@[reducible,simp] def oq (d:Nat) (o:AOp) (r:List Nat):AOper:=⟨some d,o,none,r⟩
@[reducible,simp] def on (o:AOp):AOper:=⟨none,o,none,[]⟩
@[reducible,simp] def om (o:AOp) (r:List Nat):AOper:=⟨none,o,none,r⟩
@[reducible,simp] def rg (l:List AOper) (k:List Nat):ACode:= .region l (some k)
@[reducible,simp] def dr (l:List AOper) (a k:List Nat):ACode:= .drawn l a (some k)
def keepL (l:List (Nat × List Nat)) (id:Nat):Option (List Nat):=match l with
 | []=>none
 | (i,s)::r=>if i=id then some s else keepL r id
def findL:List (FuncId × AFunc)→FuncId→Option AFunc
 | [],_=>none
 | (k,a)::r,f=>if f=k then some a else findL r f
def Good (P:Program) (x:FuncId × AFunc):Prop:= ∃fn acc keep,P.funcs[x.1]? =some fn∧cFunc P acc keep fn=some x.2
theorem findL_good {P:Program} : ∀ (l:List (FuncId × AFunc)),(∀x ∈ l,Good P x)→ ∀f af,findL l f=some af→Good P (f,af)
 | [],_,f,af,h=>by cases h
 | (k,a)::r,hl,f,af,h=>by
  simp only [findL] at h
  split at h
  ·rename_i hk;cases h;subst hk;exact hl _ List.mem_cons_self
  ·exact findL_good r (fun x hx=>hl x (List.mem_cons_of_mem _ hx)) f af h
mutual
def D.under (n:Nat):D→Bool
 | .ptr i _| .rptr i _ _ _| .arr i _ _ _| .map i| .yield i=>decide (i<n)
 | .tptr l| .slice l| .agg l| .tuple l=>underL n l
 | .func _ a b=>underL n a&&underL n b
 | .iface _ v=>v.under n
 |_=>true
def underL (n:Nat):List D→Bool
 | []=>true
 |d::r=>d.under n&&underL n r
end
theorem underL_iff {n:Nat} : ∀ {l:List D},underL n l=true↔ ∀ (j:Nat) (d:D),l[j]? =some d→d.under n=true
 | []=>by simp [underL]
 |x::l=>by
  simp only [underL,Bool.and_eq_true]
  rw [underL_iff (l:=l)]
  constructor
  ·rintro ⟨h1,h2⟩ j d hd
   cases j with
   |zero=>simp at hd;subst hd;exact h1
   |succ j=>exact h2 j d (by simpa using hd)
  ·intro h
   exact ⟨h 0 x rfl,fun j d hd=>h (j+1) d (by simpa using hd)⟩
theorem under_cells {n:Nat} {e:D} (h: ∀ (j:Nat) (d:D),e.cells[j]? =some d→d.under n=true):e.under n=true:=by
 cases e with
 |agg cs=>simp only [D.under];exact underL_iff.2 h
 |_=>exact h 0 _ rfl
theorem cells_under {n:Nat} {e:D} (h:e.under n=true) (j:Nat) (d:D) (hd:e.cells[j]? =some d):d.under n=true:=by
 cases e with
 |agg cs=>simp only [D.under] at h;exact underL_iff.1 h j d hd
 |_=>
  have:j=0:=by have:=(List.getElem?_eq_some_iff.1 hd).1;simp [D.cells] at this;omega
  subst this
  simp only [D.cells,List.getElem?_cons_zero,Option.some.injEq] at hd
  subst hd;exact h
theorem R.is_under {ρ:Ren} {W:World} {n:Nat} (hl: ∀i v p,ρ.loc i v=some p→i<n) (hd: ∀i,ρ.dom i→i<n) {d:D} {v:Value} (r:R ρ W d v):d.under n=true:=by
 induction r with
 |bool b=>rfl
 |int k n=>rfl
 |str s=>rfl
 |ptr hp=>simp only [D.under,decide_eq_true_eq];exact hl _ _ _ hp
 |rptr hp=>simp only [D.under,decide_eq_true_eq];exact hl _ _ _ hp
 | @tptr cs b off f h hc hr ih=>
  simp only [D.under]
  exact underL_iff.2 fun j d hd=>ih j d hd
 |nilptr=>rfl
 |empty a=>rfl
 |slice0 a c=>rfl
 |slice h hn hcap hsz hc hr ih=>
  simp only [D.under]
  exact underL_iff.2 fun i e he=>under_cells fun j d hd=>ih i j e d he hd
 |arr hp hn hc=>simp only [D.under,decide_eq_true_eq];exact hl _ _ _ hp
 |arr0 h=>simp only [D.under,decide_eq_true_eq];exact hd _ h
 |map hp=>simp only [D.under,decide_eq_true_eq];exact hl _ _ _ hp
 |nilmap=>rfl
 |func h1 h2 hf hc ihf ihc=>simp only [D.under,Bool.and_eq_true];exact ⟨underL_iff.2 ihf,underL_iff.2 ihc⟩
 |nilfunc=>rfl
 |yield hp=>simp only [D.under,decide_eq_true_eq];exact hl _ _ _ hp
 |iface _ ih=>exact ih
 |niliface=>rfl
 |agg hs hr ih=>simp only [D.under];exact underL_iff.2 ih
 |tuple hs hr ih=>simp only [D.under];exact underL_iff.2 ih
 |undef=>rfl
 |any v=>rfl
def cut (ρ:Ren) (n:Nat) (l:List Nat):Ren:=⟨fun i v=>if i<n then ρ.loc i v else none,lent ρ l,ρ.code,fun i=>i<n∧ρ.dom i⟩
theorem cut_loc {ρ:Ren} {n:Nat} {l:List Nat} {i v:Nat} {p:Pl} (h: (cut ρ n l).loc i v=some p):i<n∧ρ.loc i v=some p:=by
 simp only [cut] at h
 split at h
 ·exact ⟨by assumption,h⟩
 ·cases h
theorem loc_cut {ρ:Ren} {n:Nat} {l:List Nat} {i v:Nat} {p:Pl} (hi:i<n) (h:ρ.loc i v=some p): (cut ρ n l).loc i v=some p:=by
 simp only [cut,if_pos hi,h]
theorem R.cut {ρ:Ren} {W:World} {n:Nat} {l:List Nat} {d:D} {v:Value} (r:R ρ W d v):d.under n=true→R (cut ρ n l) W d v:=by
 induction r with
 |bool b=>exact fun _=> .bool b
 |int k n=>exact fun _=> .int k n
 |str s=>exact fun _=> .str s
 |ptr hp=>intro h;simp only [D.under,decide_eq_true_eq] at h;exact .ptr (loc_cut h hp)
 |rptr hp=>intro h;simp only [D.under,decide_eq_true_eq] at h;exact .rptr (loc_cut h hp)
 |tptr h hc hr ih=>
  intro hb
  simp only [D.under] at hb
  exact .tptr (.inl h) hc fun j d hd=>ih j d hd (underL_iff.1 hb j d hd)
 |nilptr=>exact fun _=> .nilptr
 |empty a=>exact fun _=> .empty a
 |slice0 a c=>exact fun _=> .slice0 a c
 |slice h hn hcap hsz hc hr ih=>
  intro hb
  simp only [D.under] at hb
  exact .slice (.inl h) hn hcap hsz hc fun i j e d he hd=>ih i j e d he hd (cells_under (underL_iff.1 hb i e he) j d hd)
 |arr hp hn hc=>intro h;simp only [D.under,decide_eq_true_eq] at h;exact .arr (loc_cut h hp) hn hc
 |arr0 hd=>intro h;simp only [D.under,decide_eq_true_eq] at h;exact .arr0 ⟨h,hd⟩
 |map hp=>intro h;simp only [D.under,decide_eq_true_eq] at h;exact .map (loc_cut h hp)
 |nilmap=>exact fun _=> .nilmap
 |func h1 h2 hf hc ihf ihc=>
  intro hb
  simp only [D.under,Bool.and_eq_true] at hb
  exact .func h1 h2 (fun j d hd=>ihf j d hd (underL_iff.1 hb.1 j d hd)) (fun j d hd=>ihc j d hd (underL_iff.1 hb.2 j d hd))
 |nilfunc=>exact fun _=> .nilfunc
 |yield hp=>intro h;simp only [D.under,decide_eq_true_eq] at h;exact .yield (loc_cut h hp)
 |iface _ ih=>intro h;exact .iface (ih h)
 |niliface=>exact fun _=> .niliface
 |agg hs hr ih=>intro hb;simp only [D.under] at hb;exact .agg hs fun j d hd=>ih j d hd (underL_iff.1 hb j d hd)
 |tuple hs hr ih=>intro hb;simp only [D.under] at hb;exact .tuple hs fun j d hd=>ih j d hd (underL_iff.1 hb j d hd)
 |undef=>exact fun _=> .undef
 |any v=>exact fun _=> .any v
def Obj.under (n:Nat):Obj→Prop
 | .box cs=>underL n cs=true
 | .row _ es _| .fro _ es _=>underL n es=true
 | .siter .. =>True
 | .map kvs=> ∀ (j:Nat) (k v:D),kvs[j]? =some (k,v)→k.under n=true∧v.under n=true
 | .loop _ env _ _ _ _ _=> ∀t,(getE env t).under n=true
theorem ObjR.is_under {ρ:Ren} {W:World} {n i:Nat} (hl: ∀i v p,ρ.loc i v=some p→i<n) (hd: ∀i,ρ.dom i→i<n) {o:Obj} (r:ObjR ρ W i o):o.under n:=by
 have row: ∀sz es since,RowR ρ W i sz es since→underL n es=true:=by
  rintro sz es since ⟨h1,h2,h4,h3⟩
  refine underL_iff.2 fun k e he=>under_cells fun j d hj=> ?_
  have hk:k<es.length:=(List.getElem?_eq_some_iff.1 he).1
  rcases h3 es.length h1 (Nat.le_refl _) with ⟨h0,_⟩ | ⟨p,c,ty,hp,hs,hc,hh,hz,hr⟩
  ·omega
  ·exact (hr k e j d hk he hj).is_under hl hd
 cases o with
 |box cs=>
  obtain ⟨p,c,ty,hp,hh,hz,hr⟩:=r
  exact underL_iff.2 fun j d hj=>(hr j d hj).is_under hl hd
 |row sz es since=>exact row _ _ _ r
 |fro sz es since=>exact row _ _ _ r.1
 |siter l pos=>trivial
 |map kvs=>
  obtain ⟨p,ents,clock,hp,hh,hz,hr⟩:=r
  intro j k v hj
  obtain ⟨e,he,h1,h2⟩:=hr j k v hj
  exact ⟨h1.is_under hl hd,h2.is_under hl hd⟩
 |loop m env ps as bd st pend=>
  obtain ⟨p,rec,hp,hh,h1,h2,h3,h4,h5,h6,h7⟩:=r
  exact fun t=>(h7 t).is_under hl hd
theorem ObjR.cut {ρ:Ren} {W:World} {n i:Nat} {l:List Nat} (hi:i<n) {o:Obj} (hu:o.under n) (r:ObjR ρ W i o):ObjR (cut ρ n l) W i o:=by
 have hl: ∀v,(AI.cut ρ n l).loc i v=ρ.loc i v:=fun v=>by simp [AI.cut,hi]
 have row: ∀sz es since,underL n es=true→RowR ρ W i sz es since→RowR (AI.cut ρ n l) W i sz es since:=by
  rintro sz es since hu ⟨h1,h2,h4,h3⟩
  refine ⟨h1,h2,fun ver hv=>by rw [hl];exact h4 ver hv,fun ver hv hv'=> ?_⟩
  rcases h3 ver hv hv' with ⟨rfl,hn⟩ | ⟨p,c,ty,hp,hs,hc,hh,hz,hr⟩
  ·exact .inl ⟨rfl,by rw [hl];exact hn⟩
  ·exact .inr ⟨p,c,ty,by rw [hl];exact hp,hs,hc,hh,hz,fun idx e j d hi he hd=>(hr idx e j d hi he hd).cut (cells_under (underL_iff.1 hu idx e he) j d hd)⟩
 cases o with
 |box cs=>
  obtain ⟨p,c,ty,hp,hh,hz,hr⟩:=r
  exact ⟨p,c,ty,by rw [hl];exact hp,hh,hz,fun j d hd=>(hr j d hd).cut (underL_iff.1 hu j d hd)⟩
 |row sz es since=>exact row _ _ _ hu r
 |fro sz es since=>exact ⟨row _ _ _ hu r.1,fun ver p hp=> .inl (r.2 ver p (by rw [←hl];exact hp))⟩
 |siter m pos=>
  obtain ⟨p,s,hp,hh,hs⟩:=r
  exact ⟨p,s,by rw [hl];exact hp,hh,hs⟩
 |map kvs=>
  obtain ⟨p,ents,clock,hp,hh,hz,hr⟩:=r
  refine ⟨p,ents,clock,by rw [hl];exact hp,hh,hz,fun j k v hj=> ?_⟩
  obtain ⟨e,he,h1,h2⟩:=hr j k v hj
  exact ⟨e,he,h1.cut (hu j k v hj).1,h2.cut (hu j k v hj).2⟩
 |loop m env ps as bd st pend=>
  obtain ⟨p,rec,hp,hh,h1,h2,h3,h4,h5,h6,h7⟩:=r
  exact ⟨p,rec,by rw [hl];exact hp,hh,h1,h2,h3,h4,h5,h6,fun t=>(h7 t).cut (hu t)⟩
def trimV (n:Nat) (σ:St):FRes→Option FRes
 | .ret d=>match strip 16 σ d with
  |some d'=>if (leads 16 σ d).all (fun i=>decide (n≤i)) then some (.ret d'.weak) else if d.under n then some (.ret d) else none
  |none=>if d.under n then some (.ret d) else none
 | .panic d=>if d.under n then some (.panic d) else none
def Keeps (σ σ':St):Prop:= ∀i,i<σ.length→σ'[i]? =σ[i]? ∨ ∃o,σ'[i]? =some o∧o.under σ.length
theorem EndR.trim {ρ:Ren} {W:World} {σ σ':St} {r r':FRes} {en:Ending} {w:World} (hR0:Rel ρ W σ) (hk:Keeps σ σ') (hv:trimV σ.length σ' r=some r') (h:EndR ρ W σ' r en w):EndR ρ W (σ'.take σ.length) r' en w:=by
 obtain ⟨ρ1,L,hR,hr⟩:=h
 have up: ∀ {l:List Nat} {d:D} {v:Value},d.under σ.length=true→R ρ1 w d v→R (AI.cut ρ1 σ.length l) w d v:=fun hu r=>r.cut hu
 have world: ∀l:List Nat,(∀i ∈ l,σ.length≤i)→Later ρ W (AI.cut ρ1 σ.length l) w∧Rel (AI.cut ρ1 σ.length l) w (σ'.take σ.length):=by
  intro l hlent
  have L2:Later ρ W (AI.cut ρ1 σ.length l) w:=by
   refine ⟨fun i v p hp=>loc_cut (hR0.blk i v p hp).2 (L.loc i v p hp),fun b hb=> .inl (L.fix b hb),L.heap,L.size,L.os,L.tape,L.output,L.own,fun i v p hp=>L.new i v p (cut_loc hp).2,fun b hb=> ?_,L.code,fun i hi=>⟨hR0.dom i hi,L.dom i hi⟩⟩
   rcases hb with hb| ⟨i,v,p,_,hp,rfl⟩
   ·exact L.fixnew b hb
   ·exact .inr (L.new i v p hp)
  refine ⟨L2,⟨fun i o ho=> ?_,fun i v p hp=> ?_,fun i v p j u q hp hq he=>hR.inj i v p j u q (cut_loc hp).2 (cut_loc hq).2 he,fun i o v p ho hlv hp hb=> ?_,fun b hb=> ?_,fun i hi=> ?_⟩⟩
  ·have hi:i<σ.length:=by have:=(List.getElem?_eq_some_iff.1 ho).1;simp at this;omega
   rw [List.getElem?_take_of_lt hi] at ho
   refine (hR.obj i o ho).cut hi ?_
   rcases hk i hi with h1| ⟨o2,h1,h2⟩
   ·rw [ho] at h1
    exact (hR0.obj i o h1.symm).is_under (fun i v p hp=>(hR0.blk i v p hp).2) hR0.dom
   ·rw [ho] at h1;cases h1;exact h2
  ·obtain ⟨hi,hp'⟩:=cut_loc hp
   have:=hR.blk i v p hp'
   exact ⟨this.1,by simp;omega⟩
  ·have hi:i<σ.length:=by have:=(List.getElem?_eq_some_iff.1 ho).1;simp at this;omega
   rw [List.getElem?_take_of_lt hi] at ho
   rcases hb with hb| ⟨j,u,q,hj,hq,he⟩
   ·exact hR.apart i o v p ho hlv (cut_loc hp).2 hb
   ·have:=hR.inj i v p j u q (cut_loc hp).2 hq he
    have:=hlent j hj
    omega
  ·rcases hb with hb| ⟨j,u,q,hj,hq,rfl⟩
   ·exact hR.fixlt b hb
   ·exact (hR.blk j u q hq).1
  ·obtain ⟨h1,h2⟩:=hi
   have:=hR.dom i h2
   simp;omega
 have plain: ∀ {d:D},d.under σ.length=true→(match r,en with| .ret d', .returned v=>d'=d∧R ρ1 w d v| .panic d', .panicked ch=>d'=d∧ ∃v,ch=[{v,recovered:=false}]∧R ρ1 w d v|_,_=>False)→EndR ρ W (σ'.take σ.length) r en w:=by
  intro d hu hm
  obtain ⟨L2,R2⟩:=world [] (by simp)
  refine ⟨_,L2,R2, ?_⟩
  cases r with
  |ret d'=>cases en<;>first|exact hm.elim| (obtain ⟨rfl,hm⟩:=hm;exact up hu hm)
  |panic d'=>cases en<;>first|exact hm.elim| (obtain ⟨rfl,v,hv,hm⟩:=hm;exact ⟨v,hv,up hu hm⟩)
 cases r with
 |ret d=>
  have flat:d.under σ.length=true→EndR ρ W (σ'.take σ.length) (.ret d) en w:=fun hu=>plain hu (by cases en<;>first|exact hr.elim|exact ⟨rfl,hr⟩)
  simp only [trimV] at hv
  split at hv
  ·rename_i d' hs
   split at hv
   ·rename_i hall
    cases hv
    obtain ⟨L2,R2⟩:=world (leads 16 σ' d) (fun i hi=>by simpa using List.all_eq_true.1 hall i hi)
    refine ⟨_,L2,R2, ?_⟩
    cases en with
    |returned v=>
     have:=strip_sound hR (leads 16 σ' d) 16 16 (Nat.le_refl _) d d' v hr hs fun i hi=>hi
     exact (R.mono (ρ:=bare (lent ρ1 (leads 16 σ' d))) (ρ':=AI.cut ρ1 σ.length (leads 16 σ' d)) (W':=w) (fun i v p h=>by simp [bare] at h) (fun _ h=>h) (fun _ _=>rfl) this).weak
    |_=>exact hr.elim
   ·split at hv
    ·cases hv;exact flat (by assumption)
    ·cases hv
  ·split at hv
   ·cases hv;exact flat (by assumption)
   ·cases hv
 |panic d=>
  simp only [trimV] at hv
  split at hv
  ·cases hv
   exact plain (by assumption) (by cases en<;>first|exact hr.elim|exact ⟨rfl,hr⟩)
  ·cases hv
open Classical in
noncomputable def trim (σ:St):Option (FRes × St)→Option (FRes × St)
 |some (r,σ')=>if Keeps σ σ' then (match trimV σ.length σ' r with
  |some r'=>some (r',σ'.take σ.length)
  |none=>some (r,σ')) else some (r,σ')
 |none=>none
theorem trim_sound {σ:St} {x:Option (FRes × St)} {r:FRes} {σ':St} (h:trim σ x=some (r,σ')):
 ∃r0 σ0,x=some (r0,σ0)∧ ∀ (ρ:Ren) (W:World) (en:Ending) (w:World),Rel ρ W σ→EndR ρ W σ0 r0 en w→EndR ρ W σ' r en w:=by
 unfold trim at h
 split at h
 ·rename_i r0 σ0
  refine ⟨r0,σ0,rfl,fun ρ W en w hR he=> ?_⟩
  split at h
  ·rename_i hk
   split at h
   ·rename_i r' hv
    cases h
    exact he.trim hR hk hv
   ·cases h;exact he
  ·cases h;exact he
 ·cases h
open Classical in
noncomputable def postI (q:FuncId→Bool) (f:FuncId) (σ:St) (x:Option (FRes × St)):Option (FRes × St):=
 match trim σ x with
 |some (.ret d,σ')=>if q f=true∧σ'≠σ then none else some (.ret d,σ')
 |y=>y
theorem postI_ok {glob:Gl} (h:glob.post=postI glob.query):PostOK glob:=by
 constructor
 ·intro f σ x r σ' hx
  rw [h] at hx
  unfold postI at hx
  split at hx
  ·rename_i d σ1 ht
   split at hx
   ·cases hx
   ·cases hx;exact trim_sound ht
  ·exact trim_sound hx
 ·intro f σ x d σ' hq hx
  rw [h] at hx
  unfold postI at hx
  split at hx
  ·split at hx
   ·cases hx
   ·rename_i hn
    cases hx
    exact Classical.byContradiction fun hne=>hn ⟨hq,hne⟩
  ·rename_i hne
   exact absurd hx (hne _ _)
def Obj.eqb:Obj→Obj→Bool
 | .box a, .box b=>eqbL a b
 | .row s a n, .row s' b n'=>s==s'&&n==n'&&eqbL a b
 | .fro s a n, .fro s' b n'=>s==s'&&n==n'&&eqbL a b
 | .siter l p, .siter l' p'=>l==l'&&p==p'
 | .map a, .map b=>eqbL (a.map (·.1)) (b.map (·.1))&&eqbL (a.map (·.2)) (b.map (·.2))
 |_,_=>false
theorem pairs_eq: ∀ {a b:List (D × D)},a.map (·.1)=b.map (·.1)→a.map (·.2)=b.map (·.2)→a=b
 | [],[],_,_=>rfl
 | [],_::_,h,_=>by simp at h
 |_::_,[],h,_=>by simp at h
 | (x,y)::a,(u,v)::b,h1,h2=>by
  simp only [List.map_cons,List.cons.injEq] at h1 h2
  rw [h1.1,h2.1,pairs_eq h1.2 h2.2]
theorem Obj.eqb_eq (a b:Obj) (h:a.eqb b=true):a=b:=by
 cases a<;>cases b<;>simp only [Obj.eqb,Bool.and_eq_true,beq_iff_eq,Bool.false_eq_true] at h
 ·rw [eqbL_eq _ _ h]
 ·rw [h.1.1,h.1.2,eqbL_eq _ _ h.2]
 ·rw [h.1.1,h.1.2,eqbL_eq _ _ h.2]
 ·rw [h.1,h.2]
 ·rw [pairs_eq (eqbL_eq _ _ h.1) (eqbL_eq _ _ h.2)]
def begins:St→St→Bool
 | [],_=>true
 |a::x,b::y=>a.eqb b&&begins x y
 |_::_,[]=>false
theorem begins_spec: ∀ {σ σ':St},begins σ σ'=true→ ∃τ,σ'=σ++τ
 | [],σ',_=>⟨σ',rfl⟩
 |a::x,[],h=>by simp [begins] at h
 |a::x,b::y,h=>by
  simp only [begins,Bool.and_eq_true] at h
  obtain ⟨τ,ht⟩:=begins_spec h.2
  exact ⟨τ,by rw [Obj.eqb_eq a b h.1,ht];rfl⟩
def postC (q:FuncId→Bool) (f:FuncId) (σ:St) (x:Option (FRes × St)):Option (FRes × St):=
 if q f then match x with
  |some (.ret d,σ')=>if d.under 0&&begins σ σ' then some (.ret d,σ) else none
  |y=>y
 else x
mutual
theorem D.under_mono {n m:Nat} (h:n≤m): ∀ (d:D),d.under n=true→d.under m=true
 | .ptr _ _,hu| .rptr _ _ _ _,hu| .arr _ _ _ _,hu| .map _,hu| .yield _,hu=>by simp only [D.under,decide_eq_true_eq] at*;omega
 | .tptr l,hu| .slice l,hu| .agg l,hu| .tuple l,hu=>by simp only [D.under] at*;exact underL_mono h l hu
 | .func _ a b,hu=>by simp only [D.under,Bool.and_eq_true] at*;exact ⟨underL_mono h a hu.1,underL_mono h b hu.2⟩
 | .iface _ v,hu=>by simp only [D.under] at*;exact D.under_mono h v hu
 | .bool _,_| .int _ _,_| .str _,_| .nilptr,_| .empty,_| .nilmap,_| .nilfunc,_| .niliface,_| .undef,_| .any,_=>rfl
theorem underL_mono {n m:Nat} (h:n≤m): ∀ (l:List D),underL n l=true→underL m l=true
 | [],_=>rfl
 |d::r,hu=>by
  simp only [underL,Bool.and_eq_true] at*
  exact ⟨D.under_mono h d hu.1,underL_mono h r hu.2⟩
end
theorem postC_ok {glob:Gl} (h:glob.post=postC glob.query):PostOK glob:=by
 have key: ∀ {σ σ':St} {d:D},(d.under 0&&begins σ σ')=true→ ∀ (ρ:Ren) (W:World) (en:Ending) (w:World),Rel ρ W σ→EndR ρ W σ' (.ret d) en w→EndR ρ W σ (.ret d) en w:=by
  intro σ σ' d hc ρ W en w hR he
  simp only [Bool.and_eq_true] at hc
  obtain ⟨τ,rfl⟩:=begins_spec hc.2
  obtain ⟨ρ1,L,hR1,hr⟩:=he
  have hk:Keeps σ (σ++τ):=fun i hi=> .inl (List.getElem?_append_left hi)
  have hu:=D.under_mono (Nat.zero_le σ.length) d hc.1
  have:=EndR.trim (r:= .panic d) (r':= .panic d) (en:= .panicked [{v:=(match en with| .returned v=>v|_=>Go.undef),recovered:=false}]) hR hk (by simp [trimV,hu]) ⟨ρ1,L,hR1,by
   cases en<;>first|exact hr.elim|exact ⟨_,rfl,hr⟩⟩
  obtain ⟨ρ2,L2,hR2,v,hv,hr2⟩:=this
  rw [List.take_left] at hR2
  refine ⟨ρ2,L2,hR2, ?_⟩
  cases en with
  |returned u=>simp at hv;subst hv;exact hr2
  |_=>exact hr.elim
 constructor
 ·intro f σ x r σ' hx
  rw [h] at hx
  unfold postC at hx
  split at hx
  ·split at hx
   ·split at hx
    ·rename_i hc
     cases hx
     exact ⟨_,_,rfl,key hc⟩
    ·cases hx
   ·exact ⟨r,σ',hx,fun ρ W en w _ he=>he⟩
  ·exact ⟨r,σ',hx,fun ρ W en w _ he=>he⟩
 ·intro f σ x d σ' hq hx
  rw [h] at hx
  unfold postC at hx
  rw [if_pos hq] at hx
  split at hx
  ·split at hx
   ·cases hx;rfl
   ·cases hx
  ·rename_i hne
   exact absurd hx (hne _ _)
end Go.AI
