/- Texts of the proof: an interpreter over trees, proved to follow the model. No conditions of its own. -/
import Derived.Test.YtgenoggafhhgfaaGreatDoorK4
set_option linter.unusedVariables false
set_option linter.unusedSimpArgs false
namespace Go.AI
open Go
structure Fi (φ: (Nat→Prop)→Prop):Prop where
 all: ∀ {p:Nat→Prop},(∀k,p k)→φ p
 and: ∀ {p q:Nat→Prop},φ p→φ q→φ (fun k=>p k∧q k)
 mono: ∀ {p q:Nat→Prop},φ p→(∀k,p k→q k)→φ q
theorem fi_from (K:Nat):Fi (fun p=> ∀k,K≤k→p k):=⟨fun h k _=>h k,fun h1 h2 k hk=>⟨h1 k hk,h2 k hk⟩,fun h1 h2 k hk=>h2 k (h1 k hk)⟩
theorem fi_ev:Fi (fun p=> ∃K,∀k,K≤k→p k):=
 ⟨fun h=>⟨0,fun k _=>h k⟩,fun ⟨a,ha⟩ ⟨b,hb⟩=>⟨max a b,fun k hk=>⟨ha k (by omega),hb k (by omega)⟩⟩,fun ⟨a,ha⟩ h=>⟨a,fun k hk=>h k (ha k hk)⟩⟩
section
variable {φ: (Nat→Prop)→Prop} (hφ:Fi φ) {F:Nat→CallF} {L:CallF} (hL: ∀t a σ x,L t a σ=some x→φ (fun k=>F k t a σ=some x)) {glob:Gl} {ext:FuncId→Bool} {n:Nat}
include hφ hL
theorem fi_stepGo {o:AOp} {e:Env} {σ:St} {x:SV × St} (h:stepGo L glob o e σ=some x):φ (fun k=>stepGo (F k) glob o e σ=some x):=by
 unfold stepGo at h ⊢
 split at h
 ·rename_i d σ' hs
  try simp only [hs]
  exact hφ.all fun _=>h
 ·rename_i σ' hs
  try simp only [hs]
  exact hφ.all fun _=>h
 ·rename_i f args σ' hs
  try simp only [hs]
  split at h
  ·rename_i g hn
   try simp only [hn]
   exact hφ.all fun _=>h
  ·rename_i hn
   try simp only [hn]
   cases hc:L (.fn f) args σ' with
   |none=>rw [hc] at h;cases h
   |some y=>
    rw [hc] at h
    refine hφ.mono (hL _ _ _ _ hc) fun k hk=> ?_
    rw [hk];exact h
 ·rename_i i args σ' hs
  try simp only [hs]
  cases hc:L (.round i) args σ' with
  |none=>rw [hc] at h;cases h
  |some y=>
   rw [hc] at h
   refine hφ.mono (hL _ _ _ _ hc) fun k hk=> ?_
   rw [hk];exact h
 ·rename_i d σ' hs
  try simp only [hs]
  exact hφ.all fun _=>h
 ·cases h
theorem fi_stepVal {o:AOper} {e:Env} {σ:St} {x:SV × St} (h:stepVal L glob o e σ=some x):φ (fun k=>stepVal (F k) glob o e σ=some x):=by
 unfold stepVal at h ⊢
 split at h
 ·rename_i hg
  try simp only [hg]
  exact fi_stepGo hφ hL h
 ·rename_i t want hg
  try simp only [hg]
  split at h
  ·rename_i b hb
   try simp only [hb]
   split at h
   ·rename_i hw
    try simp only [if_pos hw]
    exact fi_stepGo hφ hL h
   ·rename_i hw
    try simp only [if_neg hw]
    exact hφ.all fun _=>h
  ·rename_i hb
   try simp only [hb]
   exact hφ.all fun _=>h
  ·cases h
theorem fi_stepOper {o:AOper} {e:Env} {σ:St} {x:Option D × Env × St} (h:stepOper L glob n o e σ=some x):φ (fun k=>stepOper (F k) glob n o e σ=some x):=by
 unfold stepOper at h ⊢
 cases hv:stepVal L glob o e σ with
 |none=>rw [hv] at h;cases h
 |some y=>
  rw [hv] at h
  refine hφ.mono (fi_stepVal hφ hL hv) fun k hk=> ?_
  rw [hk];exact h
theorem fi_runOps: ∀ (os:List AOper) {e:Env} {σ:St} {x:Option D × Env × St},runOps L glob n os e σ=some x→φ (fun k=>runOps (F k) glob n os e σ=some x)
 | [],e,σ,x,h=>hφ.all fun _=>h
 |o::r,e,σ,x,h=>by
  simp only [runOps] at h ⊢
  cases hs:stepOper L glob n o e σ with
  |none=>rw [hs] at h;cases h
  |some y=>
   obtain ⟨d,e',σ'⟩:=y
   rw [hs] at h
   cases d with
   |some d=>
    refine hφ.mono (fi_stepOper hφ hL hs) fun k hk=> ?_
    rw [hk];exact h
   |none=>
    refine hφ.mono (hφ.and (fi_stepOper hφ hL hs) (fi_runOps r h)) fun k hk=> ?_
    rw [hk.1];exact hk.2
theorem fi_runReg {os:List AOper} {e:Env} {σ:St} {x:Option D × Env × St} (h:runReg L glob n os e σ=some x):φ (fun k=>runReg (F k) glob n os e σ=some x):=by
 unfold runReg at h ⊢
 split at h
 ·exact hφ.all fun _=>h
 ·split at h
  ·rename_i hc
   try simp only [if_pos hc]
   exact fi_runOps hφ hL _ h
  ·cases h
theorem fi_sameAt {o:AOper} {e:Env} {σ:St} {d:D} (h:sameAt L glob o e σ d=true):φ (fun k=>sameAt (F k) glob o e σ d=true):=by
 unfold sameAt at h ⊢
 cases hv:stepVal L glob o e σ with
 |none=>rw [hv] at h;cases h
 |some y=>
  rw [hv] at h
  refine hφ.mono (fi_stepVal hφ hL hv) fun k hk=> ?_
  rw [hk];exact h
omit hL in
theorem fi_list {α:Type} {p:α→Bool} {q:Nat→α→Bool} (hpq: ∀a,p a=true→φ (fun k=>q k a=true)): ∀ (l:List α),l.all p=true→φ (fun k=>l.all (q k)=true)
 | [],_=>hφ.all fun _=>rfl
 |a::r,h=>by
  simp only [List.all_cons,Bool.and_eq_true] at h ⊢
  exact hφ.and (hpq a h.1) (fi_list hpq r h.2)
omit hL in
theorem fi_or {a b:Bool} {q:Nat→Bool} (h: (a||b)=true) (hb:b=true→φ (fun k=>q k=true)):φ (fun k=>(a||q k)=true):=by
 cases a with
 |true=>exact hφ.all fun _=>rfl
 |false=>simpa using hb (by simpa using h)
omit hL in
theorem fi_and {a b:Bool} {p q:Nat→Bool} (h: (a&&b)=true) (ha:a=true→φ (fun k=>p k=true)) (hb:b=true→φ (fun k=>q k=true)):φ (fun k=>(p k&&q k)=true):=by
 simp only [Bool.and_eq_true] at h ⊢
 exact hφ.and (ha h.1) (hb h.2)
theorem fi_runAfter (j:Nat): ∀ (os:List AOper) {anc:List Nat} {loud:List (Nat × St)} {e:Env} {σ:St} {x:Env},runAfter L ext glob n j os anc loud e σ=some x→φ (fun k=>runAfter (F k) ext glob n j os anc loud e σ=some x)
 | [],anc,loud,e,σ,x,h=>hφ.all fun _=>h
 |o::r,anc,loud,e,σ,x,h=>by
  simp only [runAfter] at h ⊢
  split at h
  ·rename_i hc
   try simp only [if_pos hc]
   exact fi_runAfter j r h
  ·rename_i hc
   try simp only [if_neg hc]
   split at h
   ·rename_i d σ1 hv
    split at h
    ·rename_i e1 hput
     split at h
     ·rename_i hq
      refine hφ.mono (hφ.and (fi_stepVal hφ hL hv) (hφ.and (fi_and hφ hq (p:=fun _=>quietAt ext glob o.op (keepE (some o.reads) e) d) (fun h=>hφ.all fun _=>h) fun h=>fi_list hφ (fun a ha=>fi_or hφ ha fun h=>fi_sameAt hφ hL h) _ h) (fi_runAfter j r h))) fun k hk=> ?_
      obtain ⟨h1,h2,h3⟩:=hk
      simp only [h1,hput]
      rw [if_pos h2];exact h3
     ·cases h
    ·cases h
   ·cases h
theorem fi_runDrawn {fin:Hist→Env→St→Option (Option D × Env × St)} {finK:Nat→Hist→Env→St→Option (Option D × Env × St)} (hfin: ∀a e σ x,fin a e σ=some x→φ (fun k=>finK k a e σ=some x)):
 ∀ (os:List AOper) {j:Nat} {anc:List Nat} {done:List Done} {loud:List (Nat × St)} {hist:Hist} {e:Env} {σ:St} {x:Option D × Env × St},
  runDrawn L ext glob n fin j os anc done loud hist e σ=some x→φ (fun k=>runDrawn (F k) ext glob n (finK k) j os anc done loud hist e σ=some x)
 | [],j,anc,done,loud,hist,e,σ,x,h=>by
  simp only [runDrawn] at h ⊢
  exact hfin _ _ _ _ h
 |o::r,j,anc,done,loud,hist,e,σ,x,h=>by
  simp only [runDrawn] at h ⊢
  split at h
  ·rename_i d σ1 hv
   split at h
   ·rename_i e1 hput
    split at h
    ·rename_i hq
     split at h
     ·rename_i hall
      refine hφ.mono (hφ.and (fi_stepVal hφ hL hv) (hφ.and (fi_list hφ (q:=fun k a=>hasN (anc.headD 0) a.1||sameAt (F k) glob o (keepE (some o.reads) e) a.2 d) (fun a ha=>fi_or hφ ha fun h=>fi_sameAt hφ hL h) _ hall) (fi_runDrawn hfin r h))) fun k hk=> ?_
      obtain ⟨h1,h2,h3⟩:=hk
      simp only [h1,hput,if_pos hq]
      rw [if_pos h2];exact h3
     ·cases h
    ·rename_i hq
     split at h
     ·rename_i hall
      refine hφ.mono (hφ.and (fi_stepVal hφ hL hv) (hφ.and (fi_and hφ hall (p:=fun _=>loud.all fun a=>hasN (anc.headD 0) a.1) (q:=fun k=>done.all fun a=>hasN (anc.headD 0) a.1||sameAt (F k) glob a.2.1 a.2.2.1 σ1 a.2.2.2) (fun h=>hφ.all fun _=>h) fun h=>fi_list hφ (fun a ha=>fi_or hφ ha fun h=>fi_sameAt hφ hL h) _ h) (fi_runDrawn hfin r h))) fun k hk=> ?_
      obtain ⟨h1,h2,h3⟩:=hk
      simp only [h1,hput,if_neg hq]
      rw [if_pos h2];exact h3
     ·cases h
   ·cases h
  ·rename_i d σ1 hv
   split at h
   ·rename_i hall
    refine hφ.mono (hφ.and (fi_stepVal hφ hL hv) (fi_and hφ hall (p:=fun _=>loud.all fun a=>hasN (anc.headD 0) a.1) (q:=fun k=>(runAfter (F k) ext glob n j r anc.tail loud e σ).isSome) (fun h=>hφ.all fun _=>h) fun h=> ?_)) fun k hk=> ?_
    ·obtain ⟨y,hy⟩:=Option.isSome_iff_exists.1 h
     exact hφ.mono (fi_runAfter hφ hL j r hy) fun k hk=>by rw [hk];rfl
    ·obtain ⟨h1,h2⟩:=hk
     try simp only [h1]
     rw [if_pos h2];exact h
   ·cases h
  ·cases h
theorem fi_finL {s:AOper} {a0:Nat} {hist:Hist} {e:Env} {σ:St} {x:Option D × Env × St} (h:finL L ext glob s a0 hist e σ=some x):φ (fun k=>finL (F k) ext glob s a0 hist e σ=some x):=by
 unfold finL at h ⊢
 split at h
 ·rename_i size a v hop
  try simp only [hop]
  split at h
  ·rename_i b off hab
   try simp only [hab]
   split at h
   ·rename_i σ' hst
    try simp only [hst]
    split at h
    ·rename_i ob hob
     try simp only [hob]
     split at h
     ·rename_i hall
      refine hφ.mono (fi_list hφ (q:=fun k=>freeAt (F k) ext glob a0 b ob hist σ) (fun y hy=> ?_) _ hall) fun k hk=>by rw [if_pos hk];exact h
      obtain ⟨j,o,e1,d,s1⟩:=y
      simp only [freeAt] at hy ⊢
      refine fi_or hφ hy fun hy=> ?_
      split at hy
      ·rename_i hq
       try simp only [if_pos hq]
       exact fi_and hφ hy (fun h=>fi_list hφ (fun a ha=>fi_or hφ ha fun h=>fi_sameAt hφ hL h) _ h) fun h=>fi_sameAt hφ hL h
      ·rename_i hq
       try simp only [if_neg hq]
       exact hφ.all fun _=>hy
     ·cases h
    ·cases h
   ·cases h
  ·cases h
 ·cases h
omit hL in
theorem fi_iter {K:Nat} (hK:φ (fun k=>K≤k)) {f:Env→St→Option (AExit × Env × St)} {g:Nat→Env→St→Option (AExit × Env × St)} (hfg: ∀e σ x,f e σ=some x→φ (fun k=>g k e σ=some x)) {e:Env} {σ:St} {x:AExit × Env × St}
 (h:iter f K e σ=some x):φ (fun k=>iter (g k) k e σ=some x):=by
 have up: ∀ {f:Env→St→Option (AExit × Env × St)} (m m':Nat) {e:Env} {σ:St} {x:AExit × Env × St},m≤m'→iter f m e σ=some x→iter f m' e σ=some x:=by
  intro f m
  induction m with
  |zero=>intro m' e σ x _ h;cases h
  |succ m ihm=>
   intro m' e σ x hm h
   obtain ⟨m',rfl⟩: ∃q,m'=q+1:=⟨m' - 1,by omega⟩
   simp only [iter] at h ⊢
   split at h
   ·rename_i e' σ' hf
    exact ihm m' (by omega) h
   ·exact h
 have go: ∀ (m:Nat) {e:Env} {σ:St} {x:AExit × Env × St},iter f m e σ=some x→φ (fun k=>iter (g k) m e σ=some x):=by
  intro m
  induction m with
  |zero=>intro e σ x h;cases h
  |succ m ihm=>
   intro e σ x h
   simp only [iter] at h ⊢
   cases hb:f e σ with
   |none=>rw [hb] at h;cases h
   |some y=>
    obtain ⟨ex,e1,σ1⟩:=y
    rw [hb] at h
    cases ex with
    |normal=>exact hφ.mono (hφ.and (hfg _ _ _ hb) (ihm h)) fun k hk=>by rw [hk.1];exact hk.2
    |_=>exact hφ.mono (hfg _ _ _ hb) fun k hk=>by rw [hk];exact h
 exact hφ.mono (hφ.and hK (go K h)) fun k hk=>up K k hk.1 hk.2
omit hL in
theorem fi_iterG {K:Nat} (l:Nat) (hK:φ (fun k=>K≤k)) {f:Env→St→Option (AExit × Env × St)} {g:Nat→Env→St→Option (AExit × Env × St)} (hfg: ∀e σ x,f e σ=some x→φ (fun k=>g k e σ=some x)) {e:Env} {σ:St} {x:AExit × Env × St}
 (h:iterG l f K e σ=some x):φ (fun k=>iterG l (g k) k e σ=some x):=by
 have up: ∀ {f:Env→St→Option (AExit × Env × St)} (m m':Nat) {e:Env} {σ:St} {x:AExit × Env × St},m≤m'→iterG l f m e σ=some x→iterG l f m' e σ=some x:=by
  intro f m
  induction m with
  |zero=>intro m' e σ x _ h;cases h
  |succ m ihm=>
   intro m' e σ x hm h
   obtain ⟨m',rfl⟩: ∃q,m'=q+1:=⟨m' - 1,by omega⟩
   simp only [iterG] at h ⊢
   split at h
   ·rename_i l' e' σ' hf
    split at h
    ·rename_i hl;rw [if_pos hl];exact ihm m' (by omega) h
    ·cases h
   ·exact h
 have go: ∀ (m:Nat) {e:Env} {σ:St} {x:AExit × Env × St},iterG l f m e σ=some x→φ (fun k=>iterG l (g k) m e σ=some x):=by
  intro m
  induction m with
  |zero=>intro e σ x h;cases h
  |succ m ihm=>
   intro e σ x h
   simp only [iterG] at h ⊢
   cases hb:f e σ with
   |none=>rw [hb] at h;cases h
   |some y=>
    obtain ⟨ex,e1,σ1⟩:=y
    rw [hb] at h
    cases ex with
    |goto l'=>
     simp only at h
     split at h
     ·rename_i hl
      exact hφ.mono (hφ.and (hfg _ _ _ hb) (ihm h)) fun k hk=>by rw [hk.1];simp only [if_pos hl];exact hk.2
     ·cases h
    |_=>exact hφ.mono (hfg _ _ _ hb) fun k hk=>by rw [hk];exact h
 exact hφ.mono (hφ.and hK (go K h)) fun k hk=>up K k hk.1 hk.2
theorem fi_evalCode {K:Nat} (hK:φ (fun k=>K≤k)) {inR:Bool} : ∀ (N:Nat) (c:ACode),SizeOf.sizeOf c≤N→ ∀ {e:Env} {σ:St} {x:AExit × Env × St},evalCode L ext glob n K inR c e σ=some x→φ (fun k=>evalCode (F k) ext glob n k inR c e σ=some x):=by
 intro N
 induction N with
 |zero=>intro c hN;cases c<;>simp at hN<;>omega
 |succ N IH=>
 intro c hN
 cases c with
 |skip=>intro e σ x h;exact hφ.all fun _=>h
 |region ops keep=>
  intro e σ x h
  simp only [evalCode] at h ⊢
  cases hr:runReg L glob n ops e σ with
  |none=>rw [hr] at h;cases h
  |some y=>
   rw [hr] at h
   exact hφ.mono (fi_runReg hφ hL hr) fun k hk=>by rw [hk];exact h
 |drawn ops anc keep=>
  intro e σ x h
  simp only [evalCode] at h ⊢
  cases hlf:lastFree ops anc with
  |none=>
   simp only [hlf] at h ⊢
   cases hr:runDrawn L ext glob n (fun _ e σ=>some (none,e,σ)) 0 ops anc [] [] [] e σ with
   |none=>rw [hr] at h;cases h
   |some y=>
    rw [hr] at h
    exact hφ.mono (fi_runDrawn hφ hL (finK:=fun _ _ e σ=>some (none,e,σ)) (fun a e σ x h=>hφ.all fun _=>h) ops hr) fun k hk=>by rw [hk];exact h
  |some s=>
   obtain ⟨s,a0⟩:=s
   simp only [hlf] at h ⊢
   cases hr:runDrawn L ext glob n (finL L ext glob s a0) 0 ops.dropLast anc [] [] [] e σ with
   |none=>rw [hr] at h;cases h
   |some y=>
    rw [hr] at h
    exact hφ.mono (fi_runDrawn hφ hL (finK:=fun k=>finL (F k) ext glob s a0) (fun a e σ x h=>fi_finL hφ hL h) _ hr) fun k hk=>by rw [hk];exact h
 |seq a b=>
  intro e σ x h
  have iha:=fun {e σ x} =>IH a (by simp at hN;omega) (e:=e) (σ:=σ) (x:=x)
  have ihb:=fun {e σ x} =>IH b (by simp at hN;omega) (e:=e) (σ:=σ) (x:=x)
  simp only [evalCode] at h ⊢
  cases ha:evalCode L ext glob n K inR a e σ with
  |none=>rw [ha] at h;cases h
  |some y=>
   obtain ⟨ex,e1,σ1⟩:=y
   rw [ha] at h
   cases ex with
   |normal=>exact hφ.mono (hφ.and (iha ha) (ihb h)) fun k hk=>by rw [hk.1];exact hk.2
   |_=>exact hφ.mono (iha ha) fun k hk=>by rw [hk];exact h
 |cond c a b=>
  intro e σ x h
  have iha:=fun {e σ x} =>IH a (by simp at hN;omega) (e:=e) (σ:=σ) (x:=x)
  have ihb:=fun {e σ x} =>IH b (by simp at hN;omega) (e:=e) (σ:=σ) (x:=x)
  simp only [evalCode] at h ⊢
  split at h
  ·rename_i hc
   try simp only [hc]
   exact iha h
  ·rename_i hc
   try simp only [hc]
   exact ihb h
  ·cases h
 |block id b=>
  intro e σ x h
  have ih:=fun {e σ x} =>IH b (by simp at hN;omega) (e:=e) (σ:=σ) (x:=x)
  simp only [evalCode] at h ⊢
  cases ha:evalCode L ext glob n K inR b e σ with
  |none=>rw [ha] at h;cases h
  |some y=>
   rw [ha] at h
   exact hφ.mono (ih ha) fun k hk=>by rw [hk];exact h
 |loop b=>
  intro e σ x h
  simp only [evalCode] at h ⊢
  exact fi_iter hφ hK (fun e σ x h=>IH b (by simp at hN;omega) h) h
 |exit id=>intro e σ x h;exact hφ.all fun _=>h
 |label l=>intro e σ x h;exact hφ.all fun _=>h
 |goto l=>intro e σ x h;exact hφ.all fun _=>h
 |scope b jump=>
  intro e σ x h
  cases jump with
  |none=>
   simp only [evalCode] at h ⊢
   cases ha:evalCode L ext glob n K inR b e σ with
   |none=>rw [ha] at h;cases h
   |some y=>
    rw [ha] at h
    exact hφ.mono (IH b (by simp at hN;omega) ha) fun k hk=>by rw [hk];exact h
  |some lr=>
   obtain ⟨l,rest⟩:=lr
   simp only [evalCode] at h ⊢
   cases ha:evalCode L ext glob n K inR b e σ with
   |none=>rw [ha] at h;cases h
   |some y=>
    obtain ⟨ex,e1,σ1⟩:=y
    rw [ha] at h
    cases ex with
    |goto l'=>
     simp only at h
     split at h
     ·rename_i hl
      exact hφ.mono (hφ.and (IH b (by simp at hN;omega) ha) (fi_iterG hφ l hK (fun e σ x h=>IH rest (by simp at hN;omega) h) h)) fun k hk=>by rw [hk.1];simp only [if_pos hl];exact hk.2
     ·cases h
    |_=>exact hφ.mono (IH b (by simp at hN;omega) ha) fun k hk=>by rw [hk];exact h
 |rangeFunc f ps as bd=>
  intro e σ x h
  simp only [evalCode] at h ⊢
  split at h
  ·rename_i g first captured hf
   try simp only [hf]
   split at h
   ·cases h
   ·rename_i hin
    try simp only [if_neg hin]
    cases hc:L (.fn g) (first++[.yield σ.length]++captured) (σ++[.loop n e ps as bd .ready none]) with
    |none=>rw [hc] at h;cases h
    |some y=>
     rw [hc] at h
     exact hφ.mono (hL _ _ _ _ hc) fun k hk=>by rw [hk];exact h
  ·cases h
 |ret=>intro e σ x h;exact hφ.all fun _=>h
theorem fi_evalBody {K:Nat} (hK:φ (fun k=>K≤k)) {af:AFunc} {args:List D} {σ:St} {x:FRes × St} (h:evalBody L ext glob K af args σ=some x):φ (fun k=>evalBody (F k) ext glob k af args σ=some x):=by
 unfold evalBody at h ⊢
 split at h
 ·rename_i hc
  try simp only [if_pos hc]
  cases he:evalCode L ext glob af.ntmps K false af.body (argsE 0 args) σ with
  |none=>rw [he] at h;cases h
  |some y=>
   rw [he] at h
   exact hφ.mono (fi_evalCode hφ hL hK _ _ (Nat.le_refl _) he) fun k hk=>by rw [hk];exact h
 ·cases h
theorem fi_evalRound {K:Nat} (hK:φ (fun k=>K≤k)) {i:Nat} {args:List D} {σ:St} {x:FRes × St} (h:evalRound (fun n=>evalCode L ext glob n K true) i args σ=some x):φ (fun k=>evalRound (fun n=>evalCode (F k) ext glob n k true) i args σ=some x):=by
 unfold evalRound at h ⊢
 split at h
 ·rename_i m env ps as bd hs
  try simp only [hs]
  split at h
  ·rename_i e hput
   try simp only [hput]
   simp only at h
   cases ha:evalCode L ext glob m K true as e σ with
   |none=>rw [ha] at h;cases h
   |some y=>
    obtain ⟨ex,e1,σ1⟩:=y
    rw [ha] at h
    cases ex with
    |normal=>
     simp only at h
     split at h
     ·rename_i n1 env1 ps1 as1 bd1 p1 hs1
      cases hb:evalCode L ext glob m K true bd e1 (σ1.set i (.loop n1 env1 ps1 as1 bd1 .busy p1)) with
      |none=>rw [hb] at h;cases h
      |some y=>
       rw [hb] at h
       exact hφ.mono (hφ.and (fi_evalCode hφ hL hK _ _ (Nat.le_refl _) ha) (fi_evalCode hφ hL hK _ _ (Nat.le_refl _) hb)) fun k hk=>by rw [hk.1];simp only [hs1];rw [hk.2];exact h
     ·cases h
    |_=>cases h
  ·cases h
 ·cases h
theorem fi_evalCatch {ty:TypeId} {args:List D} {σ:St} {x:FRes × St} (h:evalCatch L ty args σ=some x):φ (fun k=>evalCatch (F k) ty args σ=some x):=by
 unfold evalCatch at h ⊢
 split at h
 ·rename_i g first captured
  cases hc:L (.fn g) (first++captured) (σ++[.box [.int .i64 0]]) with
  |none=>rw [hc] at h;cases h
  |some y=>
   rw [hc] at h
   exact hφ.mono (hL _ _ _ _ hc) fun k hk=>by rw [hk];exact h
 ·cases h
end
def stepF (T:FuncId→Option AFunc) (ext:Ext) (glob:Gl) (L:CallF) (K:Nat) (t:Tgt) (a:List D) (σ:St):Option (FRes × St):=
 match t with
 | .round i=>evalRound (fun n=>evalCode L (fun f=>(ext f).isSome) glob n K true) i a σ
 | .fn f=>match ext f with
  |some g=>callExt g a σ
  |none=>glob.post f σ (match T f with
   |some af=>evalBody L (fun f=>(ext f).isSome) glob K af a σ
   |none=>match glob.catches f with
    |some ty=>evalCatch L ty a σ
    |none=>none)
section
variable {T:FuncId→Option AFunc} {ext:Ext} {glob:Gl} (hpost: ∀f σ,glob.post f σ none=none)
include hpost
theorem evalFn_step {φ: (Nat→Prop)→Prop} (hφ:Fi φ) {F:Nat→CallF} {L:CallF} (hL: ∀t a σ x,L t a σ=some x→φ (fun k=>F k t a σ=some x)) {K:Nat} (hK:φ (fun k=>K≤k)) {t:Tgt} {a:List D} {σ:St} {x:FRes × St}
 (h:stepF T ext glob L K t a σ=some x):
 φ (fun k=>stepF T ext glob (F k) k t a σ=some x):=by
 cases t with
 |round i=>exact fi_evalRound hφ hL hK h
 |fn f=>
  simp only [stepF] at h ⊢
  cases hx:ext f with
  |some g=>
   rw [hx] at h
   exact hφ.all fun _=>h
  |none=>
   rw [hx] at h
   simp only at h ⊢
   cases hT:T f with
   |some af=>
    rw [hT] at h
    simp only at h ⊢
    cases hb:evalBody L (fun f=>(ext f).isSome) glob K af a σ with
    |none=>rw [hb,hpost] at h;cases h
    |some y=>rw [hb] at h;exact hφ.mono (fi_evalBody hφ hL hK hb) fun k hk=>by rw [hk];exact h
   |none=>
    rw [hT] at h
    simp only at h ⊢
    cases hc:glob.catches f with
    |none=>rw [hc] at h;exact hφ.all fun _=>h
    |some ty=>
     rw [hc] at h
     simp only at h ⊢
     cases hb:evalCatch L ty a σ with
     |none=>rw [hb,hpost] at h;cases h
     |some y=>rw [hb] at h;exact hφ.mono (fi_evalCatch hφ hL hb) fun k hk=>by rw [hk];exact h
theorem evalFn_eq (k:Nat) (t:Tgt) (a:List D) (σ:St):evalFn T ext glob (k+1) t a σ=stepF T ext glob (evalFn T ext glob k) k t a σ:=by
 have _h:=hpost
 cases t<;>rfl
theorem evalFn_mono: ∀ (k:Nat) (t:Tgt) (a:List D) (σ:St) (x:FRes × St),evalFn T ext glob k t a σ=some x→ ∀m,k≤m→evalFn T ext glob m t a σ=some x
 |0,t,a,σ,x,h=>by cases h
 |k+1,t,a,σ,x,h=>by
  intro m hm
  obtain ⟨m,rfl⟩: ∃q,m=q+1:=⟨m - 1,by omega⟩
  rw [evalFn_eq hpost] at h ⊢
  exact evalFn_step hpost (fi_from k) (F:=evalFn T ext glob) (fun t a σ x h m hm=>evalFn_mono k t a σ x h m hm) (fun m hm=>hm) h m (by omega)
noncomputable def callI (T:FuncId→Option AFunc) (ext:Ext) (glob:Gl):CallF:=fun t a σ=>
 open Classical in if h: ∃x k,evalFn T ext glob k t a σ=some x then some h.choose else none
theorem callI_iff {t:Tgt} {a:List D} {σ:St} {x:FRes × St} :callI T ext glob t a σ=some x↔ ∃k,evalFn T ext glob k t a σ=some x:=by
 unfold callI
 constructor
 ·intro h
  split at h
  ·rename_i hx
   cases h
   exact hx.choose_spec
  ·cases h
 ·rintro ⟨k,hk⟩
  have hx: ∃x k,evalFn T ext glob k t a σ=some x:=⟨x,k,hk⟩
  rw [dif_pos hx]
  obtain ⟨k2,hk2⟩:=hx.choose_spec
  have h1:=evalFn_mono hpost k t a σ x hk (max k k2) (by omega)
  have h2:=evalFn_mono hpost k2 t a σ _ hk2 (max k k2) (by omega)
  rw [h1] at h2
  exact h2.symm
theorem callI_ev (t:Tgt) (a:List D) (σ:St) (x:FRes × St) (h:callI T ext glob t a σ=some x): ∃K,∀k,K≤k→evalFn T ext glob k t a σ=some x:=by
 obtain ⟨k,hk⟩:=(callI_iff hpost).1 h
 exact ⟨k,fun m hm=>evalFn_mono hpost k t a σ x hk m hm⟩
theorem callI_step {K:Nat} {t:Tgt} {a:List D} {σ:St} {x:FRes × St}
 (h:stepF T ext glob (callI T ext glob) K t a σ=some x):callI T ext glob t a σ=some x:=by
 obtain ⟨k,hk⟩:=evalFn_step hpost fi_ev (F:=evalFn T ext glob) (callI_ev hpost) ⟨K,fun k hk=>hk⟩ h
 exact (callI_iff hpost).2 ⟨k+1,by rw [evalFn_eq hpost];exact hk k (Nat.le_refl _)⟩
theorem callI_sound {P:Program} (hX:ExtR P glob ext) (hTab:TabR P T) (hT:GlobT glob) (hN:NatR P glob) (hok:PostOK glob) (hord:P.follows .mixedOrders=true):CallOK P glob (callI T ext glob):=by
 refine ⟨hN,fun t args σ r σ' h=> ?_⟩
 obtain ⟨k,hk⟩:=(callI_iff hpost).1 h
 exact (evalFn_sound hX hTab hT hN hok hord k).2 t args σ r σ' hk
end
end Go.AI
namespace Go.AI
open Go
open Classical in
noncomputable def iterI (f:Env→St→Option (AExit × Env × St)) (e:Env) (σ:St):Option (AExit × Env × St):=
 if h: ∃x k,iter f k e σ=some x then some h.choose else none
open Classical in
noncomputable def iterGI (l:Nat) (f:Env→St→Option (AExit × Env × St)) (e:Env) (σ:St):Option (AExit × Env × St):=
 if h: ∃x k,iterG l f k e σ=some x then some h.choose else none
theorem iter_up {f:Env→St→Option (AExit × Env × St)} : ∀ (m m':Nat) {e:Env} {σ:St} {x:AExit × Env × St},m≤m'→iter f m e σ=some x→iter f m' e σ=some x
 |0,m',e,σ,x,_,h=>by cases h
 |m+1,m',e,σ,x,hm,h=>by
  obtain ⟨m',rfl⟩: ∃q,m'=q+1:=⟨m' - 1,by omega⟩
  simp only [iter] at h ⊢
  split at h
  ·exact iter_up m m' (by omega) h
  ·exact h
theorem iterG_up {l:Nat} {f:Env→St→Option (AExit × Env × St)} : ∀ (m m':Nat) {e:Env} {σ:St} {x:AExit × Env × St},m≤m'→iterG l f m e σ=some x→iterG l f m' e σ=some x
 |0,m',e,σ,x,_,h=>by cases h
 |m+1,m',e,σ,x,hm,h=>by
  obtain ⟨m',rfl⟩: ∃q,m'=q+1:=⟨m' - 1,by omega⟩
  simp only [iterG] at h ⊢
  split at h
  ·split at h
   ·rename_i hl;rw [if_pos hl];exact iterG_up m m' (by omega) h
   ·cases h
  ·exact h
theorem iterI_iff {f:Env→St→Option (AExit × Env × St)} {e:Env} {σ:St} {x:AExit × Env × St} :iterI f e σ=some x↔ ∃k,iter f k e σ=some x:=by
 unfold iterI
 constructor
 ·intro h
  split at h
  ·rename_i hx;cases h;exact hx.choose_spec
  ·cases h
 ·rintro ⟨k,hk⟩
  have hx: ∃x k,iter f k e σ=some x:=⟨x,k,hk⟩
  rw [dif_pos hx]
  obtain ⟨k2,hk2⟩:=hx.choose_spec
  have h1:=iter_up k (max k k2) (by omega) hk
  have h2:=iter_up k2 (max k k2) (by omega) hk2
  rw [h1] at h2
  exact h2.symm
theorem iterGI_iff {l:Nat} {f:Env→St→Option (AExit × Env × St)} {e:Env} {σ:St} {x:AExit × Env × St} :iterGI l f e σ=some x↔ ∃k,iterG l f k e σ=some x:=by
 unfold iterGI
 constructor
 ·intro h
  split at h
  ·rename_i hx;cases h;exact hx.choose_spec
  ·cases h
 ·rintro ⟨k,hk⟩
  have hx: ∃x k,iterG l f k e σ=some x:=⟨x,k,hk⟩
  rw [dif_pos hx]
  obtain ⟨k2,hk2⟩:=hx.choose_spec
  have h1:=iterG_up k (max k k2) (by omega) hk
  have h2:=iterG_up k2 (max k k2) (by omega) hk2
  rw [h1] at h2
  exact h2.symm
theorem opt_ext {α:Type} {a b:Option α} (h: ∀x,a=some x↔b=some x):a=b:=by
 cases a with
 |none=>cases b with
  |none=>rfl
  |some y=>exact absurd ((h y).2 rfl) (by simp)
 |some x=>exact ((h x).1 rfl).symm
theorem iterI_next {f:Env→St→Option (AExit × Env × St)} {e e':Env} {σ σ':St} (h:f e σ=some (.normal,e',σ')):iterI f e σ=iterI f e' σ':=by
 refine opt_ext fun x=> ?_
 rw [iterI_iff,iterI_iff]
 constructor
 ·rintro ⟨k,hk⟩
  cases k with
  |zero=>cases hk
  |succ k=>simp only [iter,h] at hk;exact ⟨k,hk⟩
 ·rintro ⟨k,hk⟩
  exact ⟨k+1,by simp only [iter,h];exact hk⟩
theorem iterI_end {f:Env→St→Option (AExit × Env × St)} {e:Env} {σ:St} {x:AExit × Env × St} (h:f e σ=some x) (hx:x.1≠ .normal):iterI f e σ=some x:=by
 refine iterI_iff.2 ⟨1, ?_⟩
 obtain ⟨ex,e1,σ1⟩:=x
 simp only [iter,h]
 cases ex<;>first|rfl|exact absurd rfl hx
noncomputable def evalI (callf:CallF) (ext:FuncId→Bool) (glob:Gl) (n:Nat) (inR:Bool):ACode→Env→St→Option (AExit × Env × St)
 | .skip,e,σ=>some (.normal,e,σ)
 | .region ops keep,e,σ=>match runReg callf glob n ops e σ with
  |some (none,e',σ')=>some (.normal,keepE keep e',σ')
  |some (some d,e',σ')=>some (.panic d,e',σ')
  |none=>none
 | .drawn ops anc keep,e,σ=>match (match lastFree ops anc with
  |some (s,a0)=>runDrawn callf ext glob n (finL callf ext glob s a0) 0 ops.dropLast anc [] [] [] e σ
  |none=>runDrawn callf ext glob n (fun _ e σ=>some (none,e,σ)) 0 ops anc [] [] [] e σ) with
  |some (none,e',σ')=>some (.normal,keepE keep e',σ')
  |some (some d,e',σ')=>some (.panic d,e',σ')
  |none=>none
 | .seq a b,e,σ=>match evalI callf ext glob n inR a e σ with
  |some (.normal,e',σ')=>evalI callf ext glob n inR b e' σ'
  |x=>x
 | .cond c a b,e,σ=>match lookA glob e c with
  | .bool true=>evalI callf ext glob n inR a e σ
  | .bool false=>evalI callf ext glob n inR b e σ
  |_=>none
 | .block id body,e,σ=>match evalI callf ext glob n inR body e σ with
  |some (.exit id',e',σ')=>if id'=id then some (.normal,e',σ') else some (.exit id',e',σ')
  |x=>x
 | .loop body,e,σ=>iterI (evalI callf ext glob n inR body) e σ
 | .exit id,e,σ=>some (.exit id,e,σ)
 | .label _,e,σ=>some (.normal,e,σ)
 | .goto l,e,σ=>some (.goto l,e,σ)
 | .scope body none,e,σ=>match evalI callf ext glob n inR body e σ with
  |some (.goto _,_,_)=>none
  |x=>x
 | .scope body (some (l,rest)),e,σ=>match evalI callf ext glob n inR body e σ with
  |some (.goto l',e',σ')=>if l'=l then iterGI l (evalI callf ext glob n inR rest) e' σ' else none
  |x=>x
 | .rangeFunc f ps as bd,e,σ=>match lookA glob e f with
  | .func g first captured=>
   if inR then none else
   match callf (.fn g) (first++[.yield σ.length]++captured) (σ++[.loop n e ps as bd .ready none]) with
   |some (.ret _,σ')=>match σ'[σ.length]? with
    |some (.loop m e1 ps1 as1 bd1 st pend)=>
     if st= .busy then none else
     let σ2:=σ'.set σ.length (.loop m e1 ps1 as1 bd1 .exhausted pend)
     match pend with
     |none=>some (.normal,e,σ2)
     |some .ret=>some (.ret,e,σ2)
     |some (.exit id)=>some (.exit id,e,σ2)
     |some (.goto l)=>some (.goto l,e,σ2)
    |_=>none
   |some (.panic d,σ')=>some (.panic d,e,σ')
   |none=>none
  |_=>none
 | .ret,e,σ=>some (.ret,e,σ)
section
variable {callf:CallF} {ext:FuncId→Bool} {glob:Gl} {n:Nat} {inR:Bool}
theorem evalCode_up {K K':Nat} (h:K≤K') {c:ACode} {e:Env} {σ:St} {x:AExit × Env × St} (he:evalCode callf ext glob n K inR c e σ=some x):evalCode callf ext glob n K' inR c e σ=some x:=
 fi_evalCode (fi_from K) (F:=fun _=>callf) (L:=callf) (fun _ _ _ _ h _ _=>h) (fun _ hk=>hk) _ c (Nat.le_refl _) he K' h
theorem evalI_code: ∀ (N:Nat) (c:ACode),SizeOf.sizeOf c≤N→ ∀ {e:Env} {σ:St} {x:AExit × Env × St},evalI callf ext glob n inR c e σ=some x→ ∃K,evalCode callf ext glob n K inR c e σ=some x:=by
 intro N
 induction N with
 |zero=>intro c hN;cases c<;>simp at hN<;>omega
 |succ N IH=>
 intro c hN e σ x h
 have loops: ∀ (b:ACode),SizeOf.sizeOf b≤N→ ∀ (m:Nat) {e:Env} {σ:St} {x:AExit × Env × St},iter (evalI callf ext glob n inR b) m e σ=some x→ ∃K,iter (evalCode callf ext glob n K inR b) m e σ=some x:=by
  intro b hb m
  induction m with
  |zero=>intro e σ x h;cases h
  |succ m ih=>
   intro e σ x h
   simp only [iter] at h
   cases he:evalI callf ext glob n inR b e σ with
   |none=>rw [he] at h;cases h
   |some y=>
    obtain ⟨K1,h1⟩:=IH b hb he
    obtain ⟨ex,e1,σ1⟩:=y
    rw [he] at h
    cases ex with
    |normal=>
     simp only at h
     obtain ⟨K2,h2⟩:=ih h
     refine ⟨max K1 K2, ?_⟩
     have h3: ∀ (q:Nat) {e:Env} {σ:St} {x:AExit × Env × St},iter (evalCode callf ext glob n K2 inR b) q e σ=some x→iter (evalCode callf ext glob n (max K1 K2) inR b) q e σ=some x:=by
      intro q
      induction q with
      |zero=>intro e σ x h;cases h
      |succ q ihq=>
       intro e σ x h
       simp only [iter] at h ⊢
       cases hq:evalCode callf ext glob n K2 inR b e σ with
       |none=>rw [hq] at h;cases h
       |some z=>
        rw [evalCode_up (by omega) hq]
        rw [hq] at h
        obtain ⟨ez,e2,σ2⟩:=z
        cases ez with
        |normal=>exact ihq h
        |_=>exact h
     simp only [iter,evalCode_up (show K1≤max K1 K2 by omega) h1]
     exact h3 m h2
    |_=>exact ⟨K1,by simp only [iter,h1];exact h⟩
 have loopsG: ∀ (l:Nat) (b:ACode),SizeOf.sizeOf b≤N→ ∀ (m:Nat) {e:Env} {σ:St} {x:AExit × Env × St},iterG l (evalI callf ext glob n inR b) m e σ=some x→ ∃K,iterG l (evalCode callf ext glob n K inR b) m e σ=some x:=by
  intro l b hb m
  induction m with
  |zero=>intro e σ x h;cases h
  |succ m ih=>
   intro e σ x h
   simp only [iterG] at h
   cases he:evalI callf ext glob n inR b e σ with
   |none=>rw [he] at h;cases h
   |some y=>
    obtain ⟨K1,h1⟩:=IH b hb he
    obtain ⟨ex,e1,σ1⟩:=y
    rw [he] at h
    cases ex with
    |goto l'=>
     simp only at h
     split at h
     ·rename_i hl
      obtain ⟨K2,h2⟩:=ih h
      refine ⟨max K1 K2, ?_⟩
      have h3: ∀ (q:Nat) {e:Env} {σ:St} {x:AExit × Env × St},iterG l (evalCode callf ext glob n K2 inR b) q e σ=some x→iterG l (evalCode callf ext glob n (max K1 K2) inR b) q e σ=some x:=by
       intro q
       induction q with
       |zero=>intro e σ x h;cases h
       |succ q ihq=>
        intro e σ x h
        simp only [iterG] at h ⊢
        cases hq:evalCode callf ext glob n K2 inR b e σ with
        |none=>rw [hq] at h;cases h
        |some z=>
         rw [evalCode_up (by omega) hq]
         rw [hq] at h
         obtain ⟨ez,e2,σ2⟩:=z
         cases ez with
         |goto l2=>
          simp only at h ⊢
          split at h
          ·rename_i h2l;rw [if_pos h2l];exact ihq h
          ·cases h
         |_=>exact h
      simp only [iterG,evalCode_up (show K1≤max K1 K2 by omega) h1,if_pos hl]
      exact h3 m h2
     ·cases h
    |_=>exact ⟨K1,by simp only [iterG,h1];exact h⟩
 cases c with
 |skip=>exact ⟨0,h⟩
 |region ops keep=>exact ⟨0,by simp only [evalI] at h;simp only [evalCode];exact h⟩
 |drawn ops anc keep=>exact ⟨0,by simp only [evalI] at h;simp only [evalCode];exact h⟩
 |seq a b=>
  simp only [evalI] at h
  cases ha:evalI callf ext glob n inR a e σ with
  |none=>rw [ha] at h;cases h
  |some y=>
   obtain ⟨K1,h1⟩:=IH a (by simp at hN;omega) ha
   obtain ⟨ex,e1,σ1⟩:=y
   rw [ha] at h
   cases ex with
   |normal=>
    simp only at h
    obtain ⟨K2,h2⟩:=IH b (by simp at hN;omega) h
    exact ⟨max K1 K2,by simp only [evalCode,evalCode_up (show K1≤max K1 K2 by omega) h1];exact evalCode_up (by omega) h2⟩
   |_=>exact ⟨K1,by simp only [evalCode,h1];exact h⟩
 |cond c a b=>
  simp only [evalI] at h
  split at h
  ·rename_i hc
   obtain ⟨K,hK⟩:=IH a (by simp at hN;omega) h
   exact ⟨K,by simp only [evalCode,hc];exact hK⟩
  ·rename_i hc
   obtain ⟨K,hK⟩:=IH b (by simp at hN;omega) h
   exact ⟨K,by simp only [evalCode,hc];exact hK⟩
  ·cases h
 |block id b=>
  simp only [evalI] at h
  cases ha:evalI callf ext glob n inR b e σ with
  |none=>rw [ha] at h;cases h
  |some y=>
   obtain ⟨K1,h1⟩:=IH b (by simp at hN;omega) ha
   rw [ha] at h
   exact ⟨K1,by simp only [evalCode,h1];exact h⟩
 |loop b=>
  simp only [evalI] at h
  obtain ⟨m,hm⟩:=iterI_iff.1 h
  obtain ⟨K,hK⟩:=loops b (by simp at hN;omega) m hm
  refine ⟨max K m, ?_⟩
  simp only [evalCode]
  exact fi_iter (fi_from m) (K:=m) (g:=fun _=>evalCode callf ext glob n (max K m) inR b) (f:=evalCode callf ext glob n K inR b) (fun _ h=>h) (fun e σ x h k _=>evalCode_up (by omega) h) hK (max K m) (by omega)
 |exit id=>exact ⟨0,h⟩
 |label l=>exact ⟨0,h⟩
 |goto l=>exact ⟨0,h⟩
 |scope b jump=>
  cases jump with
  |none=>
   simp only [evalI] at h
   cases ha:evalI callf ext glob n inR b e σ with
   |none=>rw [ha] at h;cases h
   |some y=>
    obtain ⟨K1,h1⟩:=IH b (by simp at hN;omega) ha
    rw [ha] at h
    exact ⟨K1,by simp only [evalCode,h1];exact h⟩
  |some lr=>
   obtain ⟨l,rest⟩:=lr
   simp only [evalI] at h
   cases ha:evalI callf ext glob n inR b e σ with
   |none=>rw [ha] at h;cases h
   |some y=>
    obtain ⟨K1,h1⟩:=IH b (by simp at hN;omega) ha
    obtain ⟨ex,e1,σ1⟩:=y
    rw [ha] at h
    cases ex with
    |goto l'=>
     simp only at h
     split at h
     ·rename_i hl
      obtain ⟨m,hm⟩:=iterGI_iff.1 h
      obtain ⟨K,hK⟩:=loopsG l rest (by simp at hN;omega) m hm
      refine ⟨max K1 (max K m), ?_⟩
      simp only [evalCode,evalCode_up (show K1≤max K1 (max K m) by omega) h1,if_pos hl]
      exact fi_iterG (fi_from m) (K:=m) l (g:=fun _=>evalCode callf ext glob n (max K1 (max K m)) inR rest) (f:=evalCode callf ext glob n K inR rest) (fun _ h=>h) (fun e σ x h k _=>evalCode_up (by omega) h) hK (max K1 (max K m)) (by omega)
     ·cases h
    |_=>exact ⟨K1,by simp only [evalCode,h1];exact h⟩
 |rangeFunc f ps as bd=>exact ⟨0,by simp only [evalI] at h;simp only [evalCode];exact h⟩
 |ret=>exact ⟨0,h⟩
noncomputable def bodyI (callf:CallF) (ext:FuncId→Bool) (glob:Gl) (af:AFunc) (args:List D) (σ:St):Option (FRes × St):=
 if args.length=af.nparams∧af.nparams≤af.ntmps then
  match evalI callf ext glob af.ntmps false af.body (argsE 0 args) σ with
  |some (.normal,e,σ') |some (.ret,e,σ')=>(resultsOf e σ' af.results).map fun d=>(.ret d,σ')
  |some (.panic d,_,σ')=>some (.panic d,σ')
  |_=>none
 else none
theorem bodyI_code {af:AFunc} {args:List D} {σ:St} {x:FRes × St} (h:bodyI callf ext glob af args σ=some x): ∃K,evalBody callf ext glob K af args σ=some x:=by
 unfold bodyI at h
 split at h
 ·rename_i hc
  cases he:evalI callf ext glob af.ntmps false af.body (argsE 0 args) σ with
  |none=>rw [he] at h;cases h
  |some y=>
   obtain ⟨K,hK⟩:=evalI_code _ _ (Nat.le_refl _) he
   rw [he] at h
   exact ⟨K,by simp only [evalBody,if_pos hc,hK];exact h⟩
 ·cases h
end
section
variable {T:FuncId→Option AFunc} {ext:Ext} {glob:Gl} (hpost: ∀f σ,glob.post f σ none=none)
include hpost
theorem callI_fn {f:FuncId} {af:AFunc} (hx:ext f=none) (hT:T f=some af) {args:List D} {σ:St} {x y:FRes × St} (h:bodyI (callI T ext glob) (fun f=>(ext f).isSome) glob af args σ=some y)
 (hp:glob.post f σ (some y)=some x):callI T ext glob (.fn f) args σ=some x:=by
 obtain ⟨K,hK⟩:=bodyI_code h
 exact callI_step hpost (K:=K) (by simp only [stepF,hx,hT,hK,hp])
theorem callI_catch {f:FuncId} {ty:TypeId} (hx:ext f=none) (hT:T f=none) (hc:glob.catches f=some ty) {args:List D} {σ:St} {x y:FRes × St} (h:evalCatch (callI T ext glob) ty args σ=some y)
 (hp:glob.post f σ (some y)=some x):callI T ext glob (.fn f) args σ=some x:=
 callI_step hpost (K:=0) (by simp only [stepF,hx,hT,hc,h,hp])
theorem callI_ext {f:FuncId} {g:List D→Option D} (hx:ext f=some g) {args:List D} {σ:St} {x:FRes × St} (h:callExt g args σ=some x):callI T ext glob (.fn f) args σ=some x:=
 callI_step hpost (K:=0) (by simp only [stepF,hx,h])
end
end Go.AI
namespace Go.AI
open Go
theorem getA {σ τ:St} {i:Nat} : (σ++τ)[σ.length+i]? =τ[i]? :=by
 rw [List.getElem?_append_right (by omega)];simp
theorem getA0 {σ τ:St} : (σ++τ)[σ.length]? =τ[0]? :=getA (i:=0)
theorem getO {σ τ:St} {i:Nat} {o:Obj} (h:σ[i]? =some o): (σ++τ)[i]? =some o:=by
 rw [List.getElem?_append_left (List.getElem?_eq_some_iff.1 h).1];exact h
theorem setA {σ τ:St} {i:Nat} {o:Obj} : (σ++τ).set (σ.length+i) o=σ++τ.set i o:=by
 rw [List.set_append_right _ _ (by omega)];simp
theorem setA0 {σ τ:St} {o:Obj} : (σ++τ).set σ.length o=σ++τ.set 0 o:=setA (i:=0)
theorem setO {σ τ:St} {i:Nat} {o:Obj} (h:i<σ.length): (σ++τ).set i o=σ.set i o++τ:=by
 rw [List.set_append_left _ _ h]
mutual
theorem D.tree_under {n:Nat} : ∀ (d:D),d.tree=true→d.under n=true
 | .bool _,_| .int _ _,_| .str _,_| .nilptr,_| .empty,_| .nilmap,_| .nilfunc,_| .niliface,_=>rfl
 | .slice l,h| .agg l,h| .tuple l,h=>by simp only [D.tree,D.under] at*;exact treeL_under l h
 | .func _ a b,h=>by simp only [D.tree,D.under,Bool.and_eq_true] at*;exact ⟨treeL_under a h.1,treeL_under b h.2⟩
 | .iface _ v,h=>by simp only [D.tree,D.under] at*;exact D.tree_under v h
 | .ptr _ _,h| .rptr _ _ _ _,h| .arr _ _ _ _,h| .map _,h| .yield _,h| .tptr _,h| .undef,h| .any,h=>by simp [D.tree] at h
theorem treeL_under {n:Nat} : ∀ (l:List D),treeL l=true→underL n l=true
 | [],_=>rfl
 |d::r,h=>by
  simp only [treeL,underL,Bool.and_eq_true] at*
  exact ⟨D.tree_under d h.1,treeL_under r h.2⟩
end
theorem keeps_app {σ τ:St} :Keeps σ (σ++τ):=fun i hi=> .inl (List.getElem?_append_left hi)
theorem trimV_tree {n:Nat} {σ:St} {d:D} (h:d.tree=true):trimV n σ (.ret d)=some (.ret d.weak):=by
 have h1:strip 16 σ d=some d:=by simp [strip,h]
 have h2:leads 16 σ d=[]:=by simp [leads,h]
 simp [trimV,h1,h2]
theorem trimV_under {n:Nat} {σ:St} {d:D} (hs:strip 16 σ d=none) (h:d.under n=true):trimV n σ (.ret d)=some (.ret d):=by
 simp [trimV,hs,h]
theorem trimV_panic {n:Nat} {σ:St} {d:D} (h:d.tree=true):trimV n σ (.panic d)=some (.panic d):=by
 simp [trimV,D.tree_under d h]
section
variable {q:FuncId→Bool} {f:FuncId} {σ τ:St} {d r:D}
theorem postI_ret {σ':St} (hk:Keeps σ σ') (hv:trimV σ.length σ' (.ret d)=some (.ret r)) (hq:q f=true→σ'.take σ.length=σ):postI q f σ (some (.ret d,σ'))=some (.ret r,σ'.take σ.length):=by
 have ht:trim σ (some (.ret d,σ'))=some (.ret r,σ'.take σ.length):=by
  unfold trim
  simp only [if_pos hk,hv]
 unfold postI
 rw [ht]
 simp only
 rw [if_neg]
 rintro ⟨h1,h2⟩
 exact h2 (hq h1)
theorem postI_pan {σ':St} (hk:Keeps σ σ') (hv:d.tree=true):postI q f σ (some (.panic d,σ'))=some (.panic d,σ'.take σ.length):=by
 have ht:trim σ (some (.panic d,σ'))=some (.panic d,σ'.take σ.length):=by
  unfold trim
  simp only [if_pos hk,trimV_panic hv]
 unfold postI
 rw [ht]
theorem postI_tree (h:d.tree=true):postI q f σ (some (.ret d,σ++τ))=some (.ret d.weak,σ):=by
 rw [postI_ret keeps_app (trimV_tree h) (fun _=>List.take_left ..),List.take_left]
theorem postI_tree0 (h:d.tree=true):postI q f σ (some (.ret d,σ))=some (.ret d.weak,σ):=by
 have:=postI_tree (q:=q) (f:=f) (σ:=σ) (τ:=[]) h
 simpa using this
theorem postI_panic (h:d.tree=true):postI q f σ (some (.panic d,σ++τ))=some (.panic d,σ):=by
 rw [postI_pan keeps_app h,List.take_left]
theorem postI_under (hs:strip 16 (σ++τ) d=none) (hu:d.under σ.length=true):postI q f σ (some (.ret d,σ++τ))=some (.ret d,σ):=by
 rw [postI_ret keeps_app (trimV_under hs hu) (fun _=>List.take_left ..),List.take_left]
end
noncomputable def seqI (callf:CallF) (ext:FuncId→Bool) (glob:Gl) (n:Nat) (inR:Bool) (b:ACode) (x:Option (AExit × Env × St)):Option (AExit × Env × St):=
 match x with
 |some (.normal,e,σ)=>evalI callf ext glob n inR b e σ
 |x=>x
noncomputable def condI (callf:CallF) (ext:FuncId→Bool) (glob:Gl) (n:Nat) (inR:Bool) (a b:ACode) (e:Env) (σ:St) (d:D):Option (AExit × Env × St):=
 match d with
 | .bool true=>evalI callf ext glob n inR a e σ
 | .bool false=>evalI callf ext glob n inR b e σ
 |_=>none
def opsI (callf:CallF) (glob:Gl) (n:Nat) (r:List AOper) (x:Option (Option D × Env × St)):Option (Option D × Env × St):=
 match x with
 |some (none,e,σ)=>runOps callf glob n r e σ
 |x=>x
section
variable (callf:CallF) (ext:FuncId→Bool) (glob:Gl) (n:Nat) (fin:Hist→Env→St→Option (Option D × Env × St)) (j:Nat) (o:AOper) (r:List AOper) (anc:List Nat) (done:List Done) (loud:List (Nat × St)) (hist:Hist) (e:Env) (σ:St)
def drawL (d:D) (σ':St) (e':Env) (b:Bool):Option (Option D × Env × St):=
 if b=true then runDrawn callf ext glob n fin (j+1) r anc.tail ((j,o,keepE (some o.reads) e,d)::done) loud ((j,o,keepE (some o.reads) e,d,σ)::hist) e' σ' else none
def drawM (d:D) (σ':St) (e':Env) (b:Bool):Option (Option D × Env × St):=
 if b=true then runDrawn callf ext glob n fin (j+1) r anc.tail done ((j,σ)::loud) ((j,o,keepE (some o.reads) e,d,σ)::hist) e' σ' else none
def drawQ (d:D) (σ':St) (e':Env) (b:Bool):Option (Option D × Env × St):=
 if b=true then drawL callf ext glob n fin j o r anc done loud hist e σ d σ' e' (loud.all (fun x=>hasN (anc.headD 0) x.1||sameAt callf glob o (keepE (some o.reads) e) x.2 d))
 else drawM callf ext glob n fin j o r anc done loud hist e σ d σ' e' (loud.all (fun x=>hasN (anc.headD 0) x.1)&&done.all (fun x=>hasN (anc.headD 0) x.1||sameAt callf glob x.2.1 x.2.2.1 σ' x.2.2.2))
def drawE (d:D) (σ':St) (x:Option Env):Option (Option D × Env × St):=
 match x with
 |some e'=>drawQ callf ext glob n fin j o r anc done loud hist e σ d σ' e' (quietAt ext glob o.op (keepE (some o.reads) e) d)
 |none=>none
def drawP (d:D) (σ':St) (b:Bool):Option (Option D × Env × St):=if b=true then some (some d,e,σ') else none
def drawV (x:Option (SV × St)):Option (Option D × Env × St):=
 match x with
 |some (.val d,σ')=>drawE callf ext glob n fin j o r anc done loud hist e σ d σ' (putE n e o.dst d)
 |some (.panic d,σ')=>drawP e d σ' (loud.all (fun x=>hasN (anc.headD 0) x.1)&&(runAfter callf ext glob n j r anc.tail loud e σ).isSome)
 |none=>none
def afterQ (e':Env) (b:Bool):Option Env:=if b=true then runAfter callf ext glob n j r anc.tail loud e' σ else none
def afterE (d:D) (x:Option Env):Option Env:=
 match x with
 |some e'=>afterQ callf ext glob n j r anc loud σ e' (quietAt ext glob o.op (keepE (some o.reads) e) d&&loud.all (fun x=>hasN (anc.headD 0) x.1||sameAt callf glob o (keepE (some o.reads) e) x.2 d))
 |none=>none
def afterV (x:Option (SV × St)):Option Env:=
 match x with
 |some (.val d,_)=>afterE callf ext glob n j o r anc loud e σ d (putE n e o.dst d)
 |_=>none
def afterI (b:Bool):Option Env:=
 if b=true then runAfter callf ext glob n j r anc.tail loud e σ else afterV callf ext glob n j o r anc loud e σ (stepVal callf glob o (keepE (some o.reads) e) σ)
end
section
variable {callf:CallF} {ext:FuncId→Bool} {glob:Gl} {n:Nat} {inR:Bool} {a b:ACode} {ops:List AOper} {e:Env} {σ:St} {d:D} {i:Nat}
@[simp] theorem seqI_normal:seqI callf ext glob n inR b (some (.normal,e,σ))=evalI callf ext glob n inR b e σ:=rfl
@[simp] theorem seqI_ret:seqI callf ext glob n inR b (some (.ret,e,σ))=some (.ret,e,σ):=rfl
@[simp] theorem seqI_exit:seqI callf ext glob n inR b (some (.exit i,e,σ))=some (.exit i,e,σ):=rfl
@[simp] theorem seqI_goto:seqI callf ext glob n inR b (some (.goto i,e,σ))=some (.goto i,e,σ):=rfl
@[simp] theorem seqI_panic:seqI callf ext glob n inR b (some (.panic d,e,σ))=some (.panic d,e,σ):=rfl
@[simp] theorem seqI_none:seqI callf ext glob n inR b none=none:=rfl
@[simp] theorem condI_true:condI callf ext glob n inR a b e σ (.bool true)=evalI callf ext glob n inR a e σ:=rfl
@[simp] theorem condI_false:condI callf ext glob n inR a b e σ (.bool false)=evalI callf ext glob n inR b e σ:=rfl
@[simp] theorem opsI_go:opsI callf glob n ops (some (none,e,σ))=runOps callf glob n ops e σ:=rfl
@[simp] theorem opsI_panic:opsI callf glob n ops (some (some d,e,σ))=some (some d,e,σ):=rfl
end
section
variable {callf:CallF} {ext:FuncId→Bool} {glob:Gl} {n:Nat} {fin:Hist→Env→St→Option (Option D × Env × St)} {j:Nat} {o:AOper} {r:List AOper} {anc:List Nat} {done:List Done} {loud:List (Nat × St)} {hist:Hist} {e:Env} {σ:St} {d:D} {σ':St} {e':Env}
@[simp] theorem drawL_true:drawL callf ext glob n fin j o r anc done loud hist e σ d σ' e' true=runDrawn callf ext glob n fin (j+1) r anc.tail ((j,o,keepE (some o.reads) e,d)::done) loud ((j,o,keepE (some o.reads) e,d,σ)::hist) e' σ':=rfl
@[simp] theorem drawM_true:drawM callf ext glob n fin j o r anc done loud hist e σ d σ' e' true=runDrawn callf ext glob n fin (j+1) r anc.tail done ((j,σ)::loud) ((j,o,keepE (some o.reads) e,d,σ)::hist) e' σ':=rfl
@[simp] theorem drawQ_true:drawQ callf ext glob n fin j o r anc done loud hist e σ d σ' e' true=drawL callf ext glob n fin j o r anc done loud hist e σ d σ' e' (loud.all (fun x=>hasN (anc.headD 0) x.1||sameAt callf glob o (keepE (some o.reads) e) x.2 d)):=rfl
@[simp] theorem drawQ_false:drawQ callf ext glob n fin j o r anc done loud hist e σ d σ' e' false=drawM callf ext glob n fin j o r anc done loud hist e σ d σ' e' (loud.all (fun x=>hasN (anc.headD 0) x.1)&&done.all (fun x=>hasN (anc.headD 0) x.1||sameAt callf glob x.2.1 x.2.2.1 σ' x.2.2.2)):=rfl
@[simp] theorem drawE_some:drawE callf ext glob n fin j o r anc done loud hist e σ d σ' (some e')=drawQ callf ext glob n fin j o r anc done loud hist e σ d σ' e' (quietAt ext glob o.op (keepE (some o.reads) e) d):=rfl
@[simp] theorem drawP_true:drawP e d σ' true=some (some d,e,σ'):=rfl
@[simp] theorem drawV_val:drawV callf ext glob n fin j o r anc done loud hist e σ (some (.val d,σ'))=drawE callf ext glob n fin j o r anc done loud hist e σ d σ' (putE n e o.dst d):=rfl
@[simp] theorem drawV_panic:drawV callf ext glob n fin j o r anc done loud hist e σ (some (.panic d,σ'))=drawP e d σ' (loud.all (fun x=>hasN (anc.headD 0) x.1)&&(runAfter callf ext glob n j r anc.tail loud e σ).isSome):=rfl
@[simp] theorem afterQ_true:afterQ callf ext glob n j r anc loud σ e' true=runAfter callf ext glob n j r anc.tail loud e' σ:=rfl
@[simp] theorem afterE_some:afterE callf ext glob n j o r anc loud e σ d (some e')=afterQ callf ext glob n j r anc loud σ e' (quietAt ext glob o.op (keepE (some o.reads) e) d&&loud.all (fun x=>hasN (anc.headD 0) x.1||sameAt callf glob o (keepE (some o.reads) e) x.2 d)):=rfl
@[simp] theorem afterV_val:afterV callf ext glob n j o r anc loud e σ (some (.val d,σ'))=afterE callf ext glob n j o r anc loud e σ d (putE n e o.dst d):=rfl
@[simp] theorem afterI_true:afterI callf ext glob n j o r anc loud e σ true=runAfter callf ext glob n j r anc.tail loud e σ:=rfl
@[simp] theorem afterI_false:afterI callf ext glob n j o r anc loud e σ false=afterV callf ext glob n j o r anc loud e σ (stepVal callf glob o (keepE (some o.reads) e) σ):=rfl
end
attribute [simp] lookA runReg stepOper stepVal stepGo stepOp getE setE putE keepE val argsE resultsOf resOf D.weak weakL D.tree treeL loadD storeD cutCells D.cells arithD intArith strArith D.one putCells
attribute [simp] quietAt AOp.quiet hasN sameAt lastFree D.eqb eqbL freeAt finL
section
variable {callf:CallF} {ext:FuncId→Bool} {glob:Gl} {n:Nat} {inR:Bool} {e:Env} {σ:St}
@[simp] theorem evI_skip:evalI callf ext glob n inR .skip e σ=some (.normal,e,σ):=rfl
@[simp] theorem evI_region {ops keep} :evalI callf ext glob n inR (.region ops keep) e σ=(match runReg callf glob n ops e σ with
 |some (none,e',σ')=>some (.normal,keepE keep e',σ')
 |some (some d,e',σ')=>some (.panic d,e',σ')
 |none=>none):=rfl
@[simp] theorem evI_drawn {ops anc keep} :evalI callf ext glob n inR (.drawn ops anc keep) e σ=(match (match lastFree ops anc with
 |some (s,a0)=>runDrawn callf ext glob n (finL callf ext glob s a0) 0 ops.dropLast anc [] [] [] e σ
 |none=>runDrawn callf ext glob n (fun _ e σ=>some (none,e,σ)) 0 ops anc [] [] [] e σ) with
 |some (none,e',σ')=>some (.normal,keepE keep e',σ')
 |some (some d,e',σ')=>some (.panic d,e',σ')
 |none=>none):=rfl
@[simp] theorem evI_seq {a b} :evalI callf ext glob n inR (.seq a b) e σ=seqI callf ext glob n inR b (evalI callf ext glob n inR a e σ):=by
 rw [evalI]
 generalize evalI callf ext glob n inR a e σ=y
 rcases y with _| ⟨x,_,_⟩
 ·rfl
 ·cases x<;>rfl
@[simp] theorem evI_cond {c a b} :evalI callf ext glob n inR (.cond c a b) e σ=condI callf ext glob n inR a b e σ (lookA glob e c):=by
 rw [evalI]
 generalize lookA glob e c=d
 cases d<;>first|rfl| (rename_i t;cases t<;>rfl)
@[simp] theorem runOps_nil:runOps callf glob n [] e σ=some (none,e,σ):=rfl
@[simp] theorem runOps_cons {o r} :runOps callf glob n (o::r) e σ=opsI callf glob n r (stepOper callf glob n o e σ):=by
 rw [runOps]
 generalize stepOper callf glob n o e σ=y
 rcases y with _| ⟨x,_,_⟩
 ·rfl
 ·cases x<;>rfl
@[simp] theorem runDrawn_nil {fin j anc done loud hist} :runDrawn callf ext glob n fin j [] anc done loud hist e σ=fin hist e σ:=rfl
@[simp] theorem runDrawn_cons {fin j o r anc done loud hist} :runDrawn callf ext glob n fin j (o::r) anc done loud hist e σ=drawV callf ext glob n fin j o r anc done loud hist e σ (stepVal callf glob o (keepE (some o.reads) e) σ):=by
 rw [runDrawn]
 generalize stepVal callf glob o (keepE (some o.reads) e) σ=y
 rcases y with _| ⟨x,σ'⟩
 ·rfl
 ·cases x with
  |val d=>
   simp only [drawV_val]
   generalize putE n e o.dst d=q
   cases q<;>rfl
  |panic d=>rfl
@[simp] theorem runAfter_nil {j anc loud} :runAfter callf ext glob n j [] anc loud e σ=if anc.all (fun b=>hasN b j) then some e else none:=rfl
@[simp] theorem runAfter_cons {j o r anc loud} :runAfter callf ext glob n j (o::r) anc loud e σ=afterI callf ext glob n j o r anc loud e σ (hasN (anc.headD 0) j):=by
 rw [runAfter]
 unfold afterI
 split
 ·rfl
 ·generalize stepVal callf glob o (keepE (some o.reads) e) σ=y
  rcases y with _| ⟨x,σ'⟩
  ·rfl
  ·cases x with
   |val d=>
    simp only [afterV_val]
    generalize putE n e o.dst d=q
    cases q<;>rfl
   |panic d=>rfl
@[simp] theorem evI_block {id body} :evalI callf ext glob n inR (.block id body) e σ=(match evalI callf ext glob n inR body e σ with
 |some (.exit id',e',σ')=>if id'=id then some (.normal,e',σ') else some (.exit id',e',σ')
 |x=>x):=rfl
@[simp] theorem evI_loop {body} :evalI callf ext glob n inR (.loop body) e σ=iterI (evalI callf ext glob n inR body) e σ:=rfl
@[simp] theorem evI_exit {id} :evalI callf ext glob n inR (.exit id) e σ=some (.exit id,e,σ):=rfl
@[simp] theorem evI_label {l} :evalI callf ext glob n inR (.label l) e σ=some (.normal,e,σ):=rfl
@[simp] theorem evI_goto {l} :evalI callf ext glob n inR (.goto l) e σ=some (.goto l,e,σ):=rfl
@[simp] theorem evI_scope0 {body} :evalI callf ext glob n inR (.scope body none) e σ=(match evalI callf ext glob n inR body e σ with
 |some (.goto _,_,_)=>none
 |x=>x):=rfl
@[simp] theorem evI_scope1 {body l rest} :evalI callf ext glob n inR (.scope body (some (l,rest))) e σ=(match evalI callf ext glob n inR body e σ with
 |some (.goto l',e',σ')=>if l'=l then iterGI l (evalI callf ext glob n inR rest) e' σ' else none
 |x=>x):=rfl
@[simp] theorem evI_ret:evalI callf ext glob n inR .ret e σ=some (.ret,e,σ):=rfl
end
theorem wrap_i64 {n:Int} (h0: -9223372036854775808≤n) (h1:n≤9223372036854775807):IntKind.i64.wrap n=n:=by
 simp only [IntKind.wrap,IntKind.bits,IntKind.signed]
 simp
 omega
theorem loop_find_from {α:Type} {f:Env→St→Option (AExit × Env × St)} (l:List α) (E:Nat→Env) (S:Nat→St) (Q:α→Bool) (X:Nat→AExit × Env × St) (Y:AExit × Env × St) (hX: ∀i,(X i).1≠ .normal) (hY:Y.1≠ .normal)
 (h: ∀i (hi:i<l.length),f (E i) (S i)=if Q l[i] then some (X i) else some (.normal,E (i+1),S (i+1))) (hf:f (E l.length) (S l.length)=some Y):
 ∀ (m j:Nat),j+m=l.length→iterI f (E j) (S j)=some (match (l.drop j).findIdx? Q with|some i=>X (j+i) |none=>Y)
 |0,j,hj=>by
  obtain rfl:j=l.length:=by omega
  rw [List.drop_length]
  exact iterI_end hf hY
 |m+1,j,hj=>by
  have hlt:j<l.length:=by omega
  have hb:=h j hlt
  rw [List.drop_eq_getElem_cons hlt,List.findIdx?_cons]
  cases hq:Q l[j] with
  |true=>
   rw [hq] at hb
   simp only [if_true] at hb ⊢
   exact iterI_end hb (hX j)
  |false=>
   rw [hq] at hb
   simp only [Bool.false_eq_true,if_false] at hb ⊢
   rw [iterI_next hb,loop_find_from l E S Q X Y hX hY h hf m (j+1) (by omega)]
   cases (l.drop (j+1)).findIdx? Q with
   |none=>rfl
   |some i=>simp only [Option.map_some];rw [show j+1+i=j+ (i+1) by omega]
theorem loop_findS {α:Type} {f:Env→St→Option (AExit × Env × St)} (l:List α) (E:Nat→Env) (S:Nat→St) (Q:α→Bool) (X:Nat→AExit × Env × St) (Y:AExit × Env × St) (hX: ∀i,(X i).1≠ .normal) (hY:Y.1≠ .normal)
 (h: ∀i (hi:i<l.length),f (E i) (S i)=if Q l[i] then some (X i) else some (.normal,E (i+1),S (i+1))) (hf:f (E l.length) (S l.length)=some Y):
 iterI f (E 0) (S 0)=some (match l.findIdx? Q with|some i=>X i|none=>Y):=by
 have:=loop_find_from l E S Q X Y hX hY h hf l.length 0 (by omega)
 rw [List.drop_zero] at this
 rw [this]
 cases l.findIdx? Q with
 |none=>rfl
 |some i=>simp only [Nat.zero_add]
theorem loop_find {α:Type} {f:Env→St→Option (AExit × Env × St)} {σ:St} (l:List α) (E:Nat→Env) (Q:α→Bool) (X:Nat→AExit × Env × St) (Y:AExit × Env × St) (hX: ∀i,(X i).1≠ .normal) (hY:Y.1≠ .normal)
 (h: ∀i (hi:i<l.length),f (E i) σ=if Q l[i] then some (X i) else some (.normal,E (i+1),σ)) (hf:f (E l.length) σ=some Y):
 iterI f (E 0) σ=some (match l.findIdx? Q with|some i=>X i|none=>Y):=loop_findS l E (fun _=>σ) Q X Y hX hY h hf
theorem findIdx_all {α:Type} {l:List α} {p:α→Bool} (h:l.findIdx? (fun a=> !p a)=none):l.all p=true:=by
 rw [List.findIdx?_eq_none_iff] at h
 exact List.all_eq_true.2 fun a ha=>by simpa using h a ha
theorem findIdx_not {α:Type} {l:List α} {p:α→Bool} {i:Nat} (h:l.findIdx? (fun a=> !p a)=some i):l.all p=false:=by
 obtain ⟨hi,h1,_⟩:=List.findIdx?_eq_some_iff_getElem.1 h
 cases hc:l.all p with
 |false=>rfl
 |true=>have:=List.all_eq_true.1 hc _ (List.getElem_mem hi);simp [this] at h1
theorem loop_seek_from {α:Type} {f:Env→St→Option (AExit × Env × St)} {σ:St} (l:List α) (E:Nat→Env) (Q:α→Bool) (X:α→AExit × Env) (Y:AExit × Env) (hX: ∀a,(X a).1≠ .normal) (hY:Y.1≠ .normal)
 (h: ∀i (hi:i<l.length) (τ:St),∃τ',f (E i) (σ++τ)=if Q l[i] then some ((X l[i]).1,(X l[i]).2,σ++τ') else some (.normal,E (i+1),σ++τ')) (hf: ∀τ,∃τ',f (E l.length) (σ++τ)=some (Y.1,Y.2,σ++τ')):
 ∀ (m j:Nat) (τ:St),j+m=l.length→ ∃τ',iterI f (E j) (σ++τ)=some (match (l.drop j).find? Q with|some a=>((X a).1,(X a).2,σ++τ') |none=>(Y.1,Y.2,σ++τ'))
 |0,j,τ,hj=>by
  obtain rfl:j=l.length:=by omega
  rw [List.drop_length]
  obtain ⟨τ',h1⟩:=hf τ
  exact ⟨τ',iterI_end h1 hY⟩
 |m+1,j,τ,hj=>by
  have hlt:j<l.length:=by omega
  obtain ⟨τ1,hb⟩:=h j hlt τ
  rw [List.drop_eq_getElem_cons hlt,List.find?_cons]
  cases hq:Q l[j] with
  |true=>
   rw [hq] at hb
   simp only [if_true] at hb ⊢
   exact ⟨τ1,iterI_end hb (hX _)⟩
  |false=>
   rw [hq] at hb
   simp only [Bool.false_eq_true,if_false] at hb ⊢
   rw [iterI_next hb]
   exact loop_seek_from l E Q X Y hX hY h hf m (j+1) τ1 (by omega)
theorem loop_seek {α:Type} {f:Env→St→Option (AExit × Env × St)} {σ:St} (l:List α) (E:Nat→Env) (Q:α→Bool) (X:α→AExit × Env) (Y:AExit × Env) (hX: ∀a,(X a).1≠ .normal) (hY:Y.1≠ .normal)
 (h: ∀i (hi:i<l.length) (τ:St),∃τ',f (E i) (σ++τ)=if Q l[i] then some ((X l[i]).1,(X l[i]).2,σ++τ') else some (.normal,E (i+1),σ++τ')) (hf: ∀τ,∃τ',f (E l.length) (σ++τ)=some (Y.1,Y.2,σ++τ')) (τ:St):
 ∃τ',iterI f (E 0) (σ++τ)=some (match l.find? Q with|some a=>((X a).1,(X a).2,σ++τ') |none=>(Y.1,Y.2,σ++τ')):=by
 have:=loop_seek_from l E Q X Y hX hY h hf l.length 0 τ (by omega)
 rw [List.drop_zero] at this
 exact this
theorem getAs {σ τ:St} {i k:Nat} {o:Obj} : (σ.set i o++τ)[σ.length+k]? =τ[k]? :=by
 have:σ.length=(σ.set i o).length:=by simp
 rw [this];exact getA
theorem getAs0 {σ τ:St} {i:Nat} {o:Obj} : (σ.set i o++τ)[σ.length]? =τ[0]? :=getAs (k:=0)
theorem getSs {σ τ:St} {i:Nat} {o:Obj} (h:i<σ.length): (σ.set i o++τ)[i]? =some o:=by
 rw [List.getElem?_append_left (by simpa using h),List.getElem?_set_self h]
theorem setSs {σ τ:St} {i:Nat} {o o':Obj} (h:i<σ.length): (σ.set i o++τ).set i o'=σ.set i o'++τ:=by
 rw [setO (by simpa using h),List.set_set]
theorem lt_of_get {σ:St} {i:Nat} {o:Obj} (h:σ[i]? =some o):i<σ.length:=(List.getElem?_eq_some_iff.1 h).1
def firstE:List Int→Int
 | []=>0
 |x::r=>if x=0 then firstE r else x
theorem firstE_find {α:Type} (e:α→Int): ∀ (l:List α),firstE (l.map e)=match l.find? (fun a=>e a != 0) with|some a=>e a|none=>0
 | []=>rfl
 |a::r=>by
  simp only [List.map_cons,firstE,List.find?_cons]
  by_cases h:e a=0
  ·rw [if_pos h,firstE_find e r]
   have: (e a != 0)=false:=by simp [h]
   rw [this]
  ·rw [if_neg h]
   have: (e a != 0)=true:=by simp [h]
   rw [this]
theorem firstE_app (a b:List Int):firstE (a++b)=if firstE a=0 then firstE b else firstE a:=by
 induction a with
 |nil=>simp [firstE]
 |cons x r ih=>
  simp only [List.cons_append,firstE]
  by_cases h:x=0
  ·simp only [if_pos h];exact ih
  ·simp only [if_neg h]
section
variable {q:FuncId→Bool} {f:FuncId} {σ τ:St} {d:D}
theorem postI_len {σ':St} (hl:σ'.length=σ.length) (hd:d.tree=true) (hw:d.weak=d) (hq:q f=false):postI q f σ (some (.ret d,σ'))=some (.ret d,σ'):=by
 have ht:trim σ (some (.ret d,σ'))=some (.ret d,σ'):=by
  unfold trim
  simp only [trimV_tree hd,hw]
  split
  ·rw [←hl,List.take_length]
  ·rfl
 unfold postI
 rw [ht]
 simp [hq]
theorem keeps_set {i:Nat} {o:Obj} (ho:o.under σ.length):Keeps σ (σ.set i o++τ):=by
 intro j hj
 rw [List.getElem?_append_left (by simpa using hj)]
 by_cases h:i=j
 ·subst h
  right
  exact ⟨o,by rw [List.getElem?_set_self hj],ho⟩
 ·left
  rw [List.getElem?_set_ne h]
theorem postI_set {i:Nat} {o:Obj} (ho:o.under σ.length) (hd:d.tree=true) (hq:q f=false):postI q f σ (some (.ret d,σ.set i o++τ))=some (.ret d.weak,σ.set i o):=by
 rw [postI_ret (keeps_set ho) (trimV_tree hd) (by simp [hq])]
 have:σ.length=(σ.set i o).length:=by simp
 rw [this,List.take_left]
end
theorem wrap_nat {n:Nat} (h:n<9223372036854775807):IntKind.i64.wrap ((n:Int) +1)=((n+1:Nat):Int):=by
 rw [wrap_i64 (by omega) (by omega)];omega
def foldB {α β:Type} (step:α→β→Bool × β):List α→β→Bool × β
 | [],b=>(true,b)
 |a::r,b=>if (step a b).1 then foldB step r (step a b).2 else (false,(step a b).2)
theorem foldB_app {α β:Type} (step:α→β→Bool × β): ∀ (l m:List α) (b:β),foldB step (l++m) b=if (foldB step l b).1 then foldB step m (foldB step l b).2 else (false,(foldB step l b).2)
 | [],m,b=>by simp [foldB]
 |a::r,m,b=>by
  simp only [List.cons_append,foldB]
  split
  ·exact foldB_app step r m _
  ·simp
theorem foldB_map {α α' β:Type} (step:α→β→Bool × β) (g:α'→α): ∀ (l:List α') (b:β),foldB step (l.map g) b=foldB (fun a=>step (g a)) l b
 | [],b=>rfl
 |a::r,b=>by simp only [List.map_cons,foldB,foldB_map step g r]
theorem foldB_inv {α β:Type} {step:α→β→Bool × β} {I:β→Prop} : ∀ (l:List α) (_: ∀a ∈ l,∀b,I b→(step a b).1=true→I (step a b).2) (b:β),I b→(foldB step l b).1=true→I (foldB step l b).2
 | [],h,b,hb,_=>hb
 |a::r,h,b,hb,ht=>by
  simp only [foldB] at ht ⊢
  split at ht
  ·rename_i hs
   rw [if_pos hs]
   exact foldB_inv r (fun x hx=>h x (List.mem_cons_of_mem _ hx)) _ (h a List.mem_cons_self b hb hs) ht
  ·cases ht
theorem loop_foldB_from {α β:Type} {f:Env→St→Option (AExit × Env × St)} (l:List α) (E:Nat→Env) (S:β→St) (I:β→Prop) (step:α→β→Bool × β) (X Y:AExit × Env) (hX:X.1≠ .normal) (hY:Y.1≠ .normal)
 (hI: ∀i (hi:i<l.length) b,I b→(step l[i] b).1=true→I (step l[i] b).2)
 (h: ∀i (hi:i<l.length) b τ,I b→ ∃τ',f (E i) (S b++τ)=some (if (step l[i] b).1 then (.normal,E (i+1),S (step l[i] b).2++τ') else (X.1,X.2,S (step l[i] b).2++τ')))
 (hf: ∀b τ,I b→ ∃τ',f (E l.length) (S b++τ)=some (Y.1,Y.2,S b++τ')):
 ∀ (m j:Nat) (b:β) (τ:St),j+m=l.length→I b→ ∃τ',iterI f (E j) (S b++τ)=some (if (foldB step (l.drop j) b).1 then (Y.1,Y.2,S (foldB step (l.drop j) b).2++τ') else (X.1,X.2,S (foldB step (l.drop j) b).2++τ'))
 |0,j,b,τ,hj,hb=>by
  obtain rfl:j=l.length:=by omega
  rw [List.drop_length]
  obtain ⟨τ',h1⟩:=hf b τ hb
  exact ⟨τ',iterI_end h1 hY⟩
 |m+1,j,b,τ,hj,hb=>by
  have hlt:j<l.length:=by omega
  obtain ⟨τ1,h1⟩:=h j hlt b τ hb
  rw [List.drop_eq_getElem_cons hlt]
  simp only [foldB]
  by_cases hs: (step l[j] b).1=true
  ·simp only [if_pos hs] at h1 ⊢
   rw [iterI_next h1]
   exact loop_foldB_from l E S I step X Y hX hY hI h hf m (j+1) _ τ1 (by omega) (hI j hlt b hb hs)
  ·simp only [if_neg hs] at h1 ⊢
   exact ⟨τ1,iterI_end h1 hX⟩
theorem loop_foldB {α β:Type} {f:Env→St→Option (AExit × Env × St)} (l:List α) (E:Nat→Env) (S:β→St) (I:β→Prop) (step:α→β→Bool × β) (X Y:AExit × Env) (hX:X.1≠ .normal) (hY:Y.1≠ .normal)
 (hI: ∀i (hi:i<l.length) b,I b→(step l[i] b).1=true→I (step l[i] b).2)
 (h: ∀i (hi:i<l.length) b τ,I b→ ∃τ',f (E i) (S b++τ)=some (if (step l[i] b).1 then (.normal,E (i+1),S (step l[i] b).2++τ') else (X.1,X.2,S (step l[i] b).2++τ')))
 (hf: ∀b τ,I b→ ∃τ',f (E l.length) (S b++τ)=some (Y.1,Y.2,S b++τ')) (b:β) (τ:St) (hb:I b):
 ∃τ',iterI f (E 0) (S b++τ)=some (if (foldB step l b).1 then (Y.1,Y.2,S (foldB step l b).2++τ') else (X.1,X.2,S (foldB step l b).2++τ')):=by
 have:=loop_foldB_from l E S I step X Y hX hY hI h hf l.length 0 b τ (by omega) hb
 rw [List.drop_zero] at this
 exact this
def foldS {α β γ:Type} (step:Nat→α→β→β ⊕ γ):List α→Nat→β→β ⊕ γ
 | [],_,b=> .inl b
 |a::r,i,b=>match step i a b with
  | .inl b'=>foldS step r (i+1) b'
  | .inr c=> .inr c
theorem loop_foldS_from {α β γ:Type} {f:Env→St→Option (AExit × Env × St)} (l:List α) (E:Nat→β→Env) (S:β→St) (I:Nat→β→Prop) (step:Nat→α→β→β ⊕ γ) (X:γ→AExit × Env) (SX:γ→St) (Y:β→AExit × Env) (hX: ∀c,(X c).1≠ .normal) (hY: ∀b,(Y b).1≠ .normal)
 (hI: ∀i (hi:i<l.length) b b',I i b→step i l[i] b= .inl b'→I (i+1) b')
 (h: ∀i (hi:i<l.length) b τ,I i b→ ∃τ',f (E i b) (S b++τ)=some (match step i l[i] b with| .inl b'=>(.normal,E (i+1) b',S b'++τ') | .inr c=>((X c).1,(X c).2,SX c++τ')))
 (hf: ∀b τ,I l.length b→ ∃τ',f (E l.length b) (S b++τ)=some ((Y b).1,(Y b).2,S b++τ')):
 ∀ (m j:Nat) (b:β) (τ:St),j+m=l.length→I j b→ ∃τ',iterI f (E j b) (S b++τ)=some (match foldS step (l.drop j) j b with| .inl b'=>((Y b').1,(Y b').2,S b'++τ') | .inr c=>((X c).1,(X c).2,SX c++τ'))
 |0,j,b,τ,hj,hb=>by
  obtain rfl:j=l.length:=by omega
  rw [List.drop_length]
  obtain ⟨τ',h1⟩:=hf b τ hb
  exact ⟨τ',iterI_end h1 (hY b)⟩
 |m+1,j,b,τ,hj,hb=>by
  have hlt:j<l.length:=by omega
  obtain ⟨τ1,h1⟩:=h j hlt b τ hb
  rw [List.drop_eq_getElem_cons hlt]
  simp only [foldS]
  cases hs:step j l[j] b with
  |inl b'=>
   rw [hs] at h1
   simp only at h1 ⊢
   rw [iterI_next h1]
   exact loop_foldS_from l E S I step X SX Y hX hY hI h hf m (j+1) _ τ1 (by omega) (hI j hlt b b' hb hs)
  |inr c=>
   rw [hs] at h1
   exact ⟨τ1,iterI_end h1 (hX c)⟩
theorem loop_foldS {α β γ:Type} {f:Env→St→Option (AExit × Env × St)} (l:List α) (E:Nat→β→Env) (S:β→St) (I:Nat→β→Prop) (step:Nat→α→β→β ⊕ γ) (X:γ→AExit × Env) (SX:γ→St) (Y:β→AExit × Env) (hX: ∀c,(X c).1≠ .normal) (hY: ∀b,(Y b).1≠ .normal)
 (hI: ∀i (hi:i<l.length) b b',I i b→step i l[i] b= .inl b'→I (i+1) b')
 (h: ∀i (hi:i<l.length) b τ,I i b→ ∃τ',f (E i b) (S b++τ)=some (match step i l[i] b with| .inl b'=>(.normal,E (i+1) b',S b'++τ') | .inr c=>((X c).1,(X c).2,SX c++τ')))
 (hf: ∀b τ,I l.length b→ ∃τ',f (E l.length b) (S b++τ)=some ((Y b).1,(Y b).2,S b++τ')) (b:β) (τ:St) (hb:I 0 b):
 ∃τ',iterI f (E 0 b) (S b++τ)=some (match foldS step l 0 b with| .inl b'=>((Y b').1,(Y b').2,S b'++τ') | .inr c=>((X c).1,(X c).2,SX c++τ')):=by
 have:=loop_foldS_from l E S I step X SX Y hX hY hI h hf l.length 0 b τ (by omega) hb
 rw [List.drop_zero] at this
 exact this
theorem loop_foldP_from {α β γ:Type} {f:Env→St→Option (AExit × Env × St)} (l:List α) (E:Nat→β→Env) (S:β→St) (I:Nat→β→Prop) (step:Nat→α→β→β ⊕ γ) (X:γ→AExit) (SX:St) (Y:β→AExit × Env) (hX: ∀c,X c≠ .normal) (hY: ∀b,(Y b).1≠ .normal)
 (hI: ∀i (hi:i<l.length) b b',I i b→step i l[i] b= .inl b'→I (i+1) b')
 (h: ∀i (hi:i<l.length) b τ,I i b→ ∃τ' ev,f (E i b) (S b++τ)=some (match step i l[i] b with| .inl b'=>(.normal,E (i+1) b',S b'++τ') | .inr c=>(X c,ev,SX++τ')))
 (hf: ∀b τ,I l.length b→ ∃τ',f (E l.length b) (S b++τ)=some ((Y b).1,(Y b).2,S b++τ')):
 ∀ (m j:Nat) (b:β) (τ:St),j+m=l.length→I j b→ ∃τ' ev,iterI f (E j b) (S b++τ)=some (match foldS step (l.drop j) j b with| .inl b'=>((Y b').1,(Y b').2,S b'++τ') | .inr c=>(X c,ev,SX++τ'))
 |0,j,b,τ,hj,hb=>by
  obtain rfl:j=l.length:=by omega
  rw [List.drop_length]
  obtain ⟨τ',h1⟩:=hf b τ hb
  exact ⟨τ',[],iterI_end h1 (hY b)⟩
 |m+1,j,b,τ,hj,hb=>by
  have hlt:j<l.length:=by omega
  obtain ⟨τ1,ev,h1⟩:=h j hlt b τ hb
  rw [List.drop_eq_getElem_cons hlt]
  simp only [foldS]
  cases hs:step j l[j] b with
  |inl b'=>
   rw [hs] at h1
   simp only at h1 ⊢
   rw [iterI_next h1]
   exact loop_foldP_from l E S I step X SX Y hX hY hI h hf m (j+1) _ τ1 (by omega) (hI j hlt b b' hb hs)
  |inr c=>
   rw [hs] at h1
   exact ⟨τ1,ev,iterI_end h1 (hX c)⟩
theorem loop_foldP {α β γ:Type} {f:Env→St→Option (AExit × Env × St)} (l:List α) (E:Nat→β→Env) (S:β→St) (I:Nat→β→Prop) (step:Nat→α→β→β ⊕ γ) (X:γ→AExit) (SX:St) (Y:β→AExit × Env) (hX: ∀c,X c≠ .normal) (hY: ∀b,(Y b).1≠ .normal)
 (hI: ∀i (hi:i<l.length) b b',I i b→step i l[i] b= .inl b'→I (i+1) b')
 (h: ∀i (hi:i<l.length) b τ,I i b→ ∃τ' ev,f (E i b) (S b++τ)=some (match step i l[i] b with| .inl b'=>(.normal,E (i+1) b',S b'++τ') | .inr c=>(X c,ev,SX++τ')))
 (hf: ∀b τ,I l.length b→ ∃τ',f (E l.length b) (S b++τ)=some ((Y b).1,(Y b).2,S b++τ')) (b:β) (τ:St) (hb:I 0 b):
 ∃τ' ev,iterI f (E 0 b) (S b++τ)=some (match foldS step l 0 b with| .inl b'=>((Y b').1,(Y b').2,S b'++τ') | .inr c=>(X c,ev,SX++τ')):=by
 have:=loop_foldP_from l E S I step X SX Y hX hY hI h hf l.length 0 b τ (by omega) hb
 rw [List.drop_zero] at this
 exact this
theorem opq {α:Type} (f:α→D) (l:List α): ∃ld:List D,l.map f=ld∧ld.length=l.length∧ ∀i (hi:i<l.length),∃h2:i<ld.length,ld[i]=f l[i]:=
 ⟨l.map f,rfl,by simp,fun i hi=>⟨by simpa using hi,by simp⟩⟩
end Go.AI
