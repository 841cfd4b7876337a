/- Texts of the proof: an interpreter over trees, proved to follow the model. No conditions of its own. -/
import Derived.Test.YtgenoggafhhgfaaGreatDoorH4
set_option linter.unusedVariables false
set_option linter.unusedSimpArgs false
namespace Go.AI
open Go
structure Fi (φ: (Nat->Prop)->Prop):Prop where
 all: ∀ {p:Nat->Prop},(∀k,p k)->φ p
 and: ∀ {p q:Nat->Prop},φ p->φ q->φ (fun k=>p k/\q k)
 mono: ∀ {p q:Nat->Prop},φ p->(∀k,p k->q k)->φ q
theorem tO (K:Nat):Fi (fun p=> ∀k,K<=k->p k):=⟨fun h k _=>h k,fun h1 h2 k hk=>⟨h1 k hk,h2 k hk⟩,fun h1 h2 k hk=>h2 k (h1 k hk)⟩
theorem P0:Fi (fun p=> ∃K,∀k,K<=k->p k):=
 ⟨fun h=>⟨0,fun k _=>h k⟩,fun ⟨a,ha⟩ ⟨b,hb⟩=>⟨max a b,fun k hk=>⟨ha k (by omega),hb k (by omega)⟩⟩,fun ⟨a,ha⟩ h=>⟨a,fun k hk=>h k (ha k hk)⟩⟩
section
variable {φ: (Nat->Prop)->Prop} (hφ:Fi φ) {F:Nat->cC} {L:cC} (hL: ∀t a σ x,L t a σ=some x->φ (fun k=>F k t a σ=some x)) {au:Gl} {ext:FuncId->Bool} {n:Nat}
include hφ hL
theorem xJ {o:AOp} {e:Env} {σ:St} {x:SV × St} (h:eo L au o e σ=some x):φ (fun k=>eo (F k) au o e σ=some x):=by
 unfold eo at h ⊢
 split at h
 ·rename_i d σ' hs
  try simp only [hs]
  exact hφ.all fun _=>h
 ·rename_i σ' hs
  try simp only [hs]
  exact hφ.all fun _=>h
 ·rename_i f args σ' hs
  try simp only [hs]
  split at h
  ·rename_i g hn
   try simp only [hn]
   exact hφ.all fun _=>h
  ·rename_i hn
   try simp only [hn]
   cases hc:L (.fn f) args σ' with
   |none=>rw [hc] at h;cases h
   |some y=>
    rw [hc] at h
    refine hφ.mono (hL _ _ _ _ hc) fun k hk=> ?_
    rw [hk];exact h
 ·rename_i i args σ' hs
  try simp only [hs]
  cases hc:L (.round i) args σ' with
  |none=>rw [hc] at h;cases h
  |some y=>
   rw [hc] at h
   refine hφ.mono (hL _ _ _ _ hc) fun k hk=> ?_
   rw [hk];exact h
 ·rename_i d σ' hs
  try simp only [hs]
  exact hφ.all fun _=>h
 ·cases h
theorem gL {o:bz} {e:Env} {σ:St} {x:SV × St} (h:bO L au o e σ=some x):φ (fun k=>bO (F k) au o e σ=some x):=by
 unfold bO at h ⊢
 split at h
 ·rename_i hg
  try simp only [hg]
  exact xJ hφ hL h
 ·rename_i t want hg
  try simp only [hg]
  split at h
  ·rename_i b hb
   try simp only [hb]
   split at h
   ·rename_i hw
    try simp only [if_pos hw]
    exact xJ hφ hL h
   ·rename_i hw
    try simp only [if_neg hw]
    exact hφ.all fun _=>h
  ·rename_i hb
   try simp only [hb]
   exact hφ.all fun _=>h
  ·cases h
theorem sK {o:bz} {e:Env} {σ:St} {x:Option D × Env × St} (h:dg L au n o e σ=some x):φ (fun k=>dg (F k) au n o e σ=some x):=by
 unfold dg at h ⊢
 cases hv:bO L au o e σ with
 |none=>rw [hv] at h;cases h
 |some y=>
  rw [hv] at h
  refine hφ.mono (gL hφ hL hv) fun k hk=> ?_
  rw [hk];exact h
theorem xK: ∀ (os:List bz) {e:Env} {σ:St} {x:Option D × Env × St},ck L au n os e σ=some x->φ (fun k=>ck (F k) au n os e σ=some x)
 | [],e,σ,x,h=>hφ.all fun _=>h
 |o::r,e,σ,x,h=>by
  simp only [ck] at h ⊢
  cases hs:dg L au n o e σ with
  |none=>rw [hs] at h;cases h
  |some y=>
   obtain ⟨d,e',σ'⟩:=y
   rw [hs] at h
   cases d with
   |some d=>
    refine hφ.mono (sK hφ hL hs) fun k hk=> ?_
    rw [hk];exact h
   |none=>
    refine hφ.mono (hφ.and (sK hφ hL hs) (xK r h)) fun k hk=> ?_
    rw [hk.1];exact hk.2
theorem D6 {os:List bz} {e:Env} {σ:St} {x:Option D × Env × St} (h:gb L au n os e σ=some x):φ (fun k=>gb (F k) au n os e σ=some x):=by
 unfold gb at h ⊢
 split at h
 ·exact hφ.all fun _=>h
 ·split at h
  ·rename_i hc
   try simp only [if_pos hc]
   exact xK hφ hL _ h
  ·cases h
theorem jY {o:bz} {e:Env} {σ:St} {d:D} (h:sameAt L au o e σ d=true):φ (fun k=>sameAt (F k) au o e σ d=true):=by
 unfold sameAt at h ⊢
 cases hv:bO L au o e σ with
 |none=>rw [hv] at h;cases h
 |some y=>
  rw [hv] at h
  refine hφ.mono (gL hφ hL hv) fun k hk=> ?_
  rw [hk];exact h
omit hL in
theorem mV {α:Type} {p:α->Bool} {q:Nat->α->Bool} (hpq: ∀a,p a=true->φ (fun k=>q k a=true)): ∀ (l:List α),l.all p=true->φ (fun k=>l.all (q k)=true)
 | [],_=>hφ.all fun _=>rfl
 |a::r,h=>by
  simp only [List.all_cons,Bool.and_eq_true] at h ⊢
  exact hφ.and (hpq a h.1) (mV hpq r h.2)
omit hL in
theorem AY {a b:Bool} {q:Nat->Bool} (h: (a||b)=true) (hb:b=true->φ (fun k=>q k=true)):φ (fun k=>(a||q k)=true):=by
 cases a with
 |true=>exact hφ.all fun _=>rfl
 |false=>simpa using hb (by simpa using h)
omit hL in
theorem y8 {a b:Bool} {p q:Nat->Bool} (h: (a&&b)=true) (ha:a=true->φ (fun k=>p k=true)) (hb:b=true->φ (fun k=>q k=true)):φ (fun k=>(p k&&q k)=true):=by
 simp only [Bool.and_eq_true] at h ⊢
 exact hφ.and (ha h.1) (hb h.2)
theorem mh (j:Nat): ∀ (os:List bz) {anc:List Nat} {bN:List (Nat × St)} {e:Env} {σ:St} {x:Env},cJ L ext au n j os anc bN e σ=some x->φ (fun k=>cJ (F k) ext au n j os anc bN e σ=some x)
 | [],anc,bN,e,σ,x,h=>hφ.all fun _=>h
 |o::r,anc,bN,e,σ,x,h=>by
  simp only [cJ] at h ⊢
  split at h
  ·rename_i hc
   try simp only [if_pos hc]
   exact mh j r h
  ·rename_i hc
   try simp only [if_neg hc]
   split at h
   ·rename_i d σ1 hv
    split at h
    ·rename_i e1 hput
     split at h
     ·rename_i hq
      refine hφ.mono (hφ.and (gL hφ hL hv) (hφ.and (y8 hφ hq (p:=fun _=>quietAt ext au o.op (bU (some o.reads) e) d) (fun h=>hφ.all fun _=>h) fun h=>mV hφ (fun a ha=>AY hφ ha fun h=>jY hφ hL h) _ h) (mh j r h))) fun k hk=> ?_
      obtain ⟨h1,h2,h3⟩:=hk
      simp only [h1,hput]
      rw [if_pos h2];exact h3
     ·cases h
    ·cases h
   ·cases h
theorem jm {fin:lu->Env->St->Option (Option D × Env × St)} {finK:Nat->lu->Env->St->Option (Option D × Env × St)} (e8: ∀a e σ x,fin a e σ=some x->φ (fun k=>finK k a e σ=some x)):
 ∀ (os:List bz) {j:Nat} {anc:List Nat} {done:List Eu} {bN:List (Nat × St)} {dh:lu} {e:Env} {σ:St} {x:Option D × Env × St},
  bX L ext au n fin j os anc done bN dh e σ=some x->φ (fun k=>bX (F k) ext au n (finK k) j os anc done bN dh e σ=some x)
 | [],j,anc,done,bN,dh,e,σ,x,h=>by
  simp only [bX] at h ⊢
  exact e8 _ _ _ _ h
 |o::r,j,anc,done,bN,dh,e,σ,x,h=>by
  simp only [bX] at h ⊢
  split at h
  ·rename_i d σ1 hv
   split at h
   ·rename_i e1 hput
    split at h
    ·rename_i hq
     split at h
     ·rename_i hall
      refine hφ.mono (hφ.and (gL hφ hL hv) (hφ.and (mV hφ (q:=fun k a=>ic (anc.headD 0) a.1||sameAt (F k) au o (bU (some o.reads) e) a.2 d) (fun a ha=>AY hφ ha fun h=>jY hφ hL h) _ hall) (jm e8 r h))) fun k hk=> ?_
      obtain ⟨h1,h2,h3⟩:=hk
      simp only [h1,hput,if_pos hq]
      rw [if_pos h2];exact h3
     ·cases h
    ·rename_i hq
     split at h
     ·rename_i hall
      refine hφ.mono (hφ.and (gL hφ hL hv) (hφ.and (y8 hφ hall (p:=fun _=>bN.all fun a=>ic (anc.headD 0) a.1) (q:=fun k=>done.all fun a=>ic (anc.headD 0) a.1||sameAt (F k) au a.2.1 a.2.2.1 σ1 a.2.2.2) (fun h=>hφ.all fun _=>h) fun h=>mV hφ (fun a ha=>AY hφ ha fun h=>jY hφ hL h) _ h) (jm e8 r h))) fun k hk=> ?_
      obtain ⟨h1,h2,h3⟩:=hk
      simp only [h1,hput,if_neg hq]
      rw [if_pos h2];exact h3
     ·cases h
   ·cases h
  ·rename_i d σ1 hv
   split at h
   ·rename_i hall
    refine hφ.mono (hφ.and (gL hφ hL hv) (y8 hφ hall (p:=fun _=>bN.all fun a=>ic (anc.headD 0) a.1) (q:=fun k=>(cJ (F k) ext au n j r anc.tail bN e σ).isSome) (fun h=>hφ.all fun _=>h) fun h=> ?_)) fun k hk=> ?_
    ·obtain ⟨y,hy⟩:=Option.isSome_iff_exists.1 h
     exact hφ.mono (mh hφ hL j r hy) fun k hk=>by rw [hk];rfl
    ·obtain ⟨h1,h2⟩:=hk
     try simp only [h1]
     rw [if_pos h2];exact h
   ·cases h
  ·cases h
theorem GJ {s:bz} {a0:Nat} {dh:lu} {e:Env} {σ:St} {x:Option D × Env × St} (h:tU L ext au s a0 dh e σ=some x):φ (fun k=>tU (F k) ext au s a0 dh e σ=some x):=by
 unfold tU at h ⊢
 split at h
 ·rename_i size a v hop
  try simp only [hop]
  split at h
  ·rename_i b off hab
   try simp only [hab]
   split at h
   ·rename_i σ' hst
    try simp only [hst]
    split at h
    ·rename_i ob hob
     try simp only [hob]
     split at h
     ·rename_i hall
      refine hφ.mono (mV hφ (q:=fun k=>tT (F k) ext au a0 b ob dh σ) (fun y hy=> ?_) _ hall) fun k hk=>by rw [if_pos hk];exact h
      obtain ⟨j,o,e1,d,s1⟩:=y
      simp only [tT] at hy ⊢
      refine AY hφ hy fun hy=> ?_
      split at hy
      ·rename_i hq
       try simp only [if_pos hq]
       exact y8 hφ hy (fun h=>mV hφ (fun a ha=>AY hφ ha fun h=>jY hφ hL h) _ h) fun h=>jY hφ hL h
      ·rename_i hq
       try simp only [if_neg hq]
       exact hφ.all fun _=>hy
     ·cases h
    ·cases h
   ·cases h
  ·cases h
 ·cases h
omit hL in
theorem Dg {K:Nat} (hK:φ (fun k=>K<=k)) {f:Env->St->Option (bx × Env × St)} {g:Nat->Env->St->Option (bx × Env × St)} (hfg: ∀e σ x,f e σ=some x->φ (fun k=>g k e σ=some x)) {e:Env} {σ:St} {x:bx × Env × St}
 (h:iter f K e σ=some x):φ (fun k=>iter (g k) k e σ=some x):=by
 have up: ∀ {f:Env->St->Option (bx × Env × St)} (m m':Nat) {e:Env} {σ:St} {x:bx × Env × St},m<=m'->iter f m e σ=some x->iter f m' e σ=some x:=by
  intro f m
  induction m with
  |zero=>intro m' e σ x _ h;cases h
  |succ m ihm=>
   intro m' e σ x hm h
   obtain ⟨m',rfl⟩: ∃q,m'=q+1:=⟨m' - 1,by omega⟩
   simp only [iter] at h ⊢
   split at h
   ·rename_i e' σ' hf
    exact ihm m' (by omega) h
   ·exact h
 have go: ∀ (m:Nat) {e:Env} {σ:St} {x:bx × Env × St},iter f m e σ=some x->φ (fun k=>iter (g k) m e σ=some x):=by
  intro m
  induction m with
  |zero=>intro e σ x h;cases h
  |succ m ihm=>
   intro e σ x h
   simp only [iter] at h ⊢
   cases hb:f e σ with
   |none=>rw [hb] at h;cases h
   |some y=>
    obtain ⟨ex,e1,σ1⟩:=y
    rw [hb] at h
    cases ex with
    |normal=>exact hφ.mono (hφ.and (hfg _ _ _ hb) (ihm h)) fun k hk=>by rw [hk.1];exact hk.2
    |_=>exact hφ.mono (hfg _ _ _ hb) fun k hk=>by rw [hk];exact h
 exact hφ.mono (hφ.and hK (go K h)) fun k hk=>up K k hk.1 hk.2
omit hL in
theorem AZ {K:Nat} (l:Nat) (hK:φ (fun k=>K<=k)) {f:Env->St->Option (bx × Env × St)} {g:Nat->Env->St->Option (bx × Env × St)} (hfg: ∀e σ x,f e σ=some x->φ (fun k=>g k e σ=some x)) {e:Env} {σ:St} {x:bx × Env × St}
 (h:eC l f K e σ=some x):φ (fun k=>eC l (g k) k e σ=some x):=by
 have up: ∀ {f:Env->St->Option (bx × Env × St)} (m m':Nat) {e:Env} {σ:St} {x:bx × Env × St},m<=m'->eC l f m e σ=some x->eC l f m' e σ=some x:=by
  intro f m
  induction m with
  |zero=>intro m' e σ x _ h;cases h
  |succ m ihm=>
   intro m' e σ x hm h
   obtain ⟨m',rfl⟩: ∃q,m'=q+1:=⟨m' - 1,by omega⟩
   simp only [eC] at h ⊢
   split at h
   ·rename_i l' e' σ' hf
    split at h
    ·rename_i hl;rw [if_pos hl];exact ihm m' (by omega) h
    ·cases h
   ·exact h
 have go: ∀ (m:Nat) {e:Env} {σ:St} {x:bx × Env × St},eC l f m e σ=some x->φ (fun k=>eC l (g k) m e σ=some x):=by
  intro m
  induction m with
  |zero=>intro e σ x h;cases h
  |succ m ihm=>
   intro e σ x h
   simp only [eC] at h ⊢
   cases hb:f e σ with
   |none=>rw [hb] at h;cases h
   |some y=>
    obtain ⟨ex,e1,σ1⟩:=y
    rw [hb] at h
    cases ex with
    |goto l'=>
     simp only at h
     split at h
     ·rename_i hl
      exact hφ.mono (hφ.and (hfg _ _ _ hb) (ihm h)) fun k hk=>by rw [hk.1];simp only [if_pos hl];exact hk.2
     ·cases h
    |_=>exact hφ.mono (hfg _ _ _ hb) fun k hk=>by rw [hk];exact h
 exact hφ.mono (hφ.and hK (go K h)) fun k hk=>up K k hk.1 hk.2
theorem jn {K:Nat} (hK:φ (fun k=>K<=k)) {inR:Bool} : ∀ (N:Nat) (c:aK),SizeOf.sizeOf c<=N-> ∀ {e:Env} {σ:St} {x:bx × Env × St},evalCode L ext au n K inR c e σ=some x->φ (fun k=>evalCode (F k) ext au n k inR c e σ=some x):=by
 intro N
 induction N with
 |zero=>intro c hN;cases c<;>simp at hN<;>omega
 |succ N IH=>
 intro c hN
 cases c with
 |skip=>intro e σ x h;exact hφ.all fun _=>h
 |region ops keep=>
  intro e σ x h
  simp only [evalCode] at h ⊢
  cases hr:gb L au n ops e σ with
  |none=>rw [hr] at h;cases h
  |some y=>
   rw [hr] at h
   exact hφ.mono (D6 hφ hL hr) fun k hk=>by rw [hk];exact h
 |drawn ops anc keep=>
  intro e σ x h
  simp only [evalCode] at h ⊢
  cases hlf:gT ops anc with
  |none=>
   simp only [hlf] at h ⊢
   cases hr:bX L ext au n (fun _ e σ=>some (none,e,σ)) 0 ops anc [] [] [] e σ with
   |none=>rw [hr] at h;cases h
   |some y=>
    rw [hr] at h
    exact hφ.mono (jm hφ hL (finK:=fun _ _ e σ=>some (none,e,σ)) (fun a e σ x h=>hφ.all fun _=>h) ops hr) fun k hk=>by rw [hk];exact h
  |some s=>
   obtain ⟨s,a0⟩:=s
   simp only [hlf] at h ⊢
   cases hr:bX L ext au n (tU L ext au s a0) 0 ops.dropLast anc [] [] [] e σ with
   |none=>rw [hr] at h;cases h
   |some y=>
    rw [hr] at h
    exact hφ.mono (jm hφ hL (finK:=fun k=>tU (F k) ext au s a0) (fun a e σ x h=>GJ hφ hL h) _ hr) fun k hk=>by rw [hk];exact h
 |seq a b=>
  intro e σ x h
  have iha:=fun {e σ x} =>IH a (by simp at hN;omega) (e:=e) (σ:=σ) (x:=x)
  have ihb:=fun {e σ x} =>IH b (by simp at hN;omega) (e:=e) (σ:=σ) (x:=x)
  simp only [evalCode] at h ⊢
  cases ha:evalCode L ext au n K inR a e σ with
  |none=>rw [ha] at h;cases h
  |some y=>
   obtain ⟨ex,e1,σ1⟩:=y
   rw [ha] at h
   cases ex with
   |normal=>exact hφ.mono (hφ.and (iha ha) (ihb h)) fun k hk=>by rw [hk.1];exact hk.2
   |_=>exact hφ.mono (iha ha) fun k hk=>by rw [hk];exact h
 |cond c a b=>
  intro e σ x h
  have iha:=fun {e σ x} =>IH a (by simp at hN;omega) (e:=e) (σ:=σ) (x:=x)
  have ihb:=fun {e σ x} =>IH b (by simp at hN;omega) (e:=e) (σ:=σ) (x:=x)
  simp only [evalCode] at h ⊢
  split at h
  ·rename_i hc
   try simp only [hc]
   exact iha h
  ·rename_i hc
   try simp only [hc]
   exact ihb h
  ·cases h
 |block id b=>
  intro e σ x h
  have ih:=fun {e σ x} =>IH b (by simp at hN;omega) (e:=e) (σ:=σ) (x:=x)
  simp only [evalCode] at h ⊢
  cases ha:evalCode L ext au n K inR b e σ with
  |none=>rw [ha] at h;cases h
  |some y=>
   rw [ha] at h
   exact hφ.mono (ih ha) fun k hk=>by rw [hk];exact h
 |loop b=>
  intro e σ x h
  simp only [evalCode] at h ⊢
  exact Dg hφ hK (fun e σ x h=>IH b (by simp at hN;omega) h) h
 |exit id=>intro e σ x h;exact hφ.all fun _=>h
 |label l=>intro e σ x h;exact hφ.all fun _=>h
 |goto l=>intro e σ x h;exact hφ.all fun _=>h
 |scope b jump=>
  intro e σ x h
  cases jump with
  |none=>
   simp only [evalCode] at h ⊢
   cases ha:evalCode L ext au n K inR b e σ with
   |none=>rw [ha] at h;cases h
   |some y=>
    rw [ha] at h
    exact hφ.mono (IH b (by simp at hN;omega) ha) fun k hk=>by rw [hk];exact h
  |some lr=>
   obtain ⟨l,rest⟩:=lr
   simp only [evalCode] at h ⊢
   cases ha:evalCode L ext au n K inR b e σ with
   |none=>rw [ha] at h;cases h
   |some y=>
    obtain ⟨ex,e1,σ1⟩:=y
    rw [ha] at h
    cases ex with
    |goto l'=>
     simp only at h
     split at h
     ·rename_i hl
      exact hφ.mono (hφ.and (IH b (by simp at hN;omega) ha) (AZ hφ l hK (fun e σ x h=>IH rest (by simp at hN;omega) h) h)) fun k hk=>by rw [hk.1];simp only [if_pos hl];exact hk.2
     ·cases h
    |_=>exact hφ.mono (IH b (by simp at hN;omega) ha) fun k hk=>by rw [hk];exact h
 |rangeFunc f ps as bd=>
  intro e σ x h
  simp only [evalCode] at h ⊢
  split at h
  ·rename_i g first captured hf
   try simp only [hf]
   split at h
   ·cases h
   ·rename_i hin
    try simp only [if_neg hin]
    cases hc:L (.fn g) (first++[.yield σ.length]++captured) (σ++[.loop n e ps as bd .ready none]) with
    |none=>rw [hc] at h;cases h
    |some y=>
     rw [hc] at h
     exact hφ.mono (hL _ _ _ _ hc) fun k hk=>by rw [hk];exact h
  ·cases h
 |ret=>intro e σ x h;exact hφ.all fun _=>h
theorem A0 {K:Nat} (hK:φ (fun k=>K<=k)) {af:aF} {args:List D} {σ:St} {x:dJ × St} (h:fI L ext au K af args σ=some x):φ (fun k=>fI (F k) ext au k af args σ=some x):=by
 unfold fI at h ⊢
 split at h
 ·rename_i hc
  try simp only [if_pos hc]
  cases he:evalCode L ext au af.ntmps K false af.body (lz 0 args) σ with
  |none=>rw [he] at h;cases h
  |some y=>
   rw [he] at h
   exact hφ.mono (jn hφ hL hK _ _ (Nat.le_refl _) he) fun k hk=>by rw [hk];exact h
 ·cases h
theorem y9 {K:Nat} (hK:φ (fun k=>K<=k)) {i:Nat} {args:List D} {σ:St} {x:dJ × St} (h:dW (fun n=>evalCode L ext au n K true) i args σ=some x):φ (fun k=>dW (fun n=>evalCode (F k) ext au n k true) i args σ=some x):=by
 unfold dW at h ⊢
 split at h
 ·rename_i m env ps as bd hs
  try simp only [hs]
  split at h
  ·rename_i e hput
   try simp only [hput]
   simp only at h
   cases ha:evalCode L ext au m K true as e σ with
   |none=>rw [ha] at h;cases h
   |some y=>
    obtain ⟨ex,e1,σ1⟩:=y
    rw [ha] at h
    cases ex with
    |normal=>
     simp only at h
     split at h
     ·rename_i n1 env1 ps1 as1 bd1 p1 hs1
      cases hb:evalCode L ext au m K true bd e1 (σ1.set i (.loop n1 env1 ps1 as1 bd1 .busy p1)) with
      |none=>rw [hb] at h;cases h
      |some y=>
       rw [hb] at h
       exact hφ.mono (hφ.and (jn hφ hL hK _ _ (Nat.le_refl _) ha) (jn hφ hL hK _ _ (Nat.le_refl _) hb)) fun k hk=>by rw [hk.1];simp only [hs1];rw [hk.2];exact h
     ·cases h
    |_=>cases h
  ·cases h
 ·cases h
theorem za {ty:TypeId} {args:List D} {σ:St} {x:dJ × St} (h:eD L ty args σ=some x):φ (fun k=>eD (F k) ty args σ=some x):=by
 unfold eD at h ⊢
 split at h
 ·rename_i g first captured
  cases hc:L (.fn g) (first++captured) (σ++[.box [.int .i64 0]]) with
  |none=>rw [hc] at h;cases h
  |some y=>
   rw [hc] at h
   exact hφ.mono (hL _ _ _ _ hc) fun k hk=>by rw [hk];exact h
 ·cases h
end
def qt (T:FuncId->Option aF) (ext:Ext) (au:Gl) (L:cC) (K:Nat) (t:Tgt) (a:List D) (σ:St):Option (dJ × St):=
 match t with
 | .round i=>dW (fun n=>evalCode L (fun f=>(ext f).isSome) au n K true) i a σ
 | .fn f=>match ext f with
  |some g=>j4 g a σ
  |none=>au.post f σ (match T f with
   |some af=>fI L (fun f=>(ext f).isSome) au K af a σ
   |none=>match au.catches f with
    |some ty=>eD L ty a σ
    |none=>none)
section
variable {T:FuncId->Option aF} {ext:Ext} {au:Gl} (hpost: ∀f σ,au.post f σ none=none)
include hpost
theorem sL {φ: (Nat->Prop)->Prop} (hφ:Fi φ) {F:Nat->cC} {L:cC} (hL: ∀t a σ x,L t a σ=some x->φ (fun k=>F k t a σ=some x)) {K:Nat} (hK:φ (fun k=>K<=k)) {t:Tgt} {a:List D} {σ:St} {x:dJ × St}
 (h:qt T ext au L K t a σ=some x):
 φ (fun k=>qt T ext au (F k) k t a σ=some x):=by
 cases t with
 |round i=>exact y9 hφ hL hK h
 |fn f=>
  simp only [qt] at h ⊢
  cases hx:ext f with
  |some g=>
   rw [hx] at h
   exact hφ.all fun _=>h
  |none=>
   rw [hx] at h
   simp only at h ⊢
   cases hT:T f with
   |some af=>
    rw [hT] at h
    simp only at h ⊢
    cases hb:fI L (fun f=>(ext f).isSome) au K af a σ with
    |none=>rw [hb,hpost] at h;cases h
    |some y=>rw [hb] at h;exact hφ.mono (A0 hφ hL hK hb) fun k hk=>by rw [hk];exact h
   |none=>
    rw [hT] at h
    simp only at h ⊢
    cases hc:au.catches f with
    |none=>rw [hc] at h;exact hφ.all fun _=>h
    |some ty=>
     rw [hc] at h
     simp only at h ⊢
     cases hb:eD L ty a σ with
     |none=>rw [hb,hpost] at h;cases h
     |some y=>rw [hb] at h;exact hφ.mono (za hφ hL hb) fun k hk=>by rw [hk];exact h
theorem xL (k:Nat) (t:Tgt) (a:List D) (σ:St):eE T ext au (k+1) t a σ=qt T ext au (eE T ext au k) k t a σ:=by
 have _h:=hpost
 cases t<;>rfl
theorem jo: ∀ (k:Nat) (t:Tgt) (a:List D) (σ:St) (x:dJ × St),eE T ext au k t a σ=some x-> ∀m,k<=m->eE T ext au m t a σ=some x
 |0,t,a,σ,x,h=>by cases h
 |k+1,t,a,σ,x,h=>by
  intro m hm
  obtain ⟨m,rfl⟩: ∃q,m=q+1:=⟨m - 1,by omega⟩
  rw [xL hpost] at h ⊢
  exact sL hpost (tO k) (F:=eE T ext au) (fun t a σ x h m hm=>jo k t a σ x h m hm) (fun m hm=>hm) h m (by omega)
noncomputable def jq (T:FuncId->Option aF) (ext:Ext) (au:Gl):cC:=fun t a σ=>
 open Classical in if h: ∃x k,eE T ext au k t a σ=some x then some h.choose else none
theorem rJ {t:Tgt} {a:List D} {σ:St} {x:dJ × St} :jq T ext au t a σ=some x↔ ∃k,eE T ext au k t a σ=some x:=by
 unfold jq
 constructor
 ·intro h
  split at h
  ·rename_i hx
   cases h
   exact hx.choose_spec
  ·cases h
 ·rintro ⟨k,hk⟩
  have hx: ∃x k,eE T ext au k t a σ=some x:=⟨x,k,hk⟩
  rw [dif_pos hx]
  obtain ⟨k2,hk2⟩:=hx.choose_spec
  have h1:=jo hpost k t a σ x hk (max k k2) (by omega)
  have h2:=jo hpost k2 t a σ _ hk2 (max k k2) (by omega)
  rw [h1] at h2
  exact h2.symm
theorem Fw (t:Tgt) (a:List D) (σ:St) (x:dJ × St) (h:jq T ext au t a σ=some x): ∃K,∀k,K<=k->eE T ext au k t a σ=some x:=by
 obtain ⟨k,hk⟩:=(rJ hpost).1 h
 exact ⟨k,fun m hm=>jo hpost k t a σ x hk m hm⟩
theorem kG {K:Nat} {t:Tgt} {a:List D} {σ:St} {x:dJ × St}
 (h:qt T ext au (jq T ext au) K t a σ=some x):jq T ext au t a σ=some x:=by
 obtain ⟨k,hk⟩:=sL hpost P0 (F:=eE T ext au) (Fw hpost) ⟨K,fun k hk=>hk⟩ h
 exact (rJ hpost).2 ⟨k+1,by rw [xL hpost];exact hk k (Nat.le_refl _)⟩
theorem A1 {P:Program} (hX:dI P au ext) (hTab:Ft P T) (hT:vD au) (hN:Fl P au) (hok:kF au) (hord:P.follows .mixedOrders=true):jx P au (jq T ext au):=by
 refine ⟨hN,fun t args σ r σ' h=> ?_⟩
 obtain ⟨k,hk⟩:=(rJ hpost).1 h
 exact (qq hX hTab hT hN hok hord k).2 t args σ r σ' hk
end
end Go.AI
namespace Go.AI
open Go
open Classical in
noncomputable def aU (f:Env->St->Option (bx × Env × St)) (e:Env) (σ:St):Option (bx × Env × St):=
 if h: ∃x k,iter f k e σ=some x then some h.choose else none
open Classical in
noncomputable def zd (l:Nat) (f:Env->St->Option (bx × Env × St)) (e:Env) (σ:St):Option (bx × Env × St):=
 if h: ∃x k,eC l f k e σ=some x then some h.choose else none
theorem ze {f:Env->St->Option (bx × Env × St)} : ∀ (m m':Nat) {e:Env} {σ:St} {x:bx × Env × St},m<=m'->iter f m e σ=some x->iter f m' e σ=some x
 |0,m',e,σ,x,_,h=>by cases h
 |m+1,m',e,σ,x,hm,h=>by
  obtain ⟨m',rfl⟩: ∃q,m'=q+1:=⟨m' - 1,by omega⟩
  simp only [iter] at h ⊢
  split at h
  ·exact ze m m' (by omega) h
  ·exact h
theorem vH {l:Nat} {f:Env->St->Option (bx × Env × St)} : ∀ (m m':Nat) {e:Env} {σ:St} {x:bx × Env × St},m<=m'->eC l f m e σ=some x->eC l f m' e σ=some x
 |0,m',e,σ,x,_,h=>by cases h
 |m+1,m',e,σ,x,hm,h=>by
  obtain ⟨m',rfl⟩: ∃q,m'=q+1:=⟨m' - 1,by omega⟩
  simp only [eC] at h ⊢
  split at h
  ·split at h
   ·rename_i hl;rw [if_pos hl];exact vH m m' (by omega) h
   ·cases h
  ·exact h
theorem mW {f:Env->St->Option (bx × Env × St)} {e:Env} {σ:St} {x:bx × Env × St} :aU f e σ=some x↔ ∃k,iter f k e σ=some x:=by
 unfold aU
 constructor
 ·intro h
  split at h
  ·rename_i hx;cases h;exact hx.choose_spec
  ·cases h
 ·rintro ⟨k,hk⟩
  have hx: ∃x k,iter f k e σ=some x:=⟨x,k,hk⟩
  rw [dif_pos hx]
  obtain ⟨k2,hk2⟩:=hx.choose_spec
  have h1:=ze k (max k k2) (by omega) hk
  have h2:=ze k2 (max k k2) (by omega) hk2
  rw [h1] at h2
  exact h2.symm
theorem Cb {l:Nat} {f:Env->St->Option (bx × Env × St)} {e:Env} {σ:St} {x:bx × Env × St} :zd l f e σ=some x↔ ∃k,eC l f k e σ=some x:=by
 unfold zd
 constructor
 ·intro h
  split at h
  ·rename_i hx;cases h;exact hx.choose_spec
  ·cases h
 ·rintro ⟨k,hk⟩
  have hx: ∃x k,eC l f k e σ=some x:=⟨x,k,hk⟩
  rw [dif_pos hx]
  obtain ⟨k2,hk2⟩:=hx.choose_spec
  have h1:=vH k (max k k2) (by omega) hk
  have h2:=vH k2 (max k k2) (by omega) hk2
  rw [h1] at h2
  exact h2.symm
theorem GK {α:Type} {a b:Option α} (h: ∀x,a=some x↔b=some x):a=b:=by
 cases a with
 |none=>cases b with
  |none=>rfl
  |some y=>exact absurd ((h y).2 rfl) (by simp)
 |some x=>exact ((h x).1 rfl).symm
theorem aO {f:Env->St->Option (bx × Env × St)} {e e':Env} {σ σ':St} (h:f e σ=some (.normal,e',σ')):aU f e σ=aU f e' σ':=by
 refine GK fun x=> ?_
 rw [mW,mW]
 constructor
 ·rintro ⟨k,hk⟩
  cases k with
  |zero=>cases hk
  |succ k=>simp only [iter,h] at hk;exact ⟨k,hk⟩
 ·rintro ⟨k,hk⟩
  exact ⟨k+1,by simp only [iter,h];exact hk⟩
theorem aH {f:Env->St->Option (bx × Env × St)} {e:Env} {σ:St} {x:bx × Env × St} (h:f e σ=some x) (hx:x.1≠ .normal):aU f e σ=some x:=by
 refine mW.2 ⟨1, ?_⟩
 obtain ⟨ex,e1,σ1⟩:=x
 simp only [iter,h]
 cases ex<;>first|rfl|exact absurd rfl hx
noncomputable def aD (aC:cC) (ext:FuncId->Bool) (au:Gl) (n:Nat) (inR:Bool):aK->Env->St->Option (bx × Env × St)
 | .skip,e,σ=>some (.normal,e,σ)
 | .region ops keep,e,σ=>match gb aC au n ops e σ with
  |some (none,e',σ')=>some (.normal,bU keep e',σ')
  |some (some d,e',σ')=>some (.panic d,e',σ')
  |none=>none
 | .drawn ops anc keep,e,σ=>match (match gT ops anc with
  |some (s,a0)=>bX aC ext au n (tU aC ext au s a0) 0 ops.dropLast anc [] [] [] e σ
  |none=>bX aC ext au n (fun _ e σ=>some (none,e,σ)) 0 ops anc [] [] [] e σ) with
  |some (none,e',σ')=>some (.normal,bU keep e',σ')
  |some (some d,e',σ')=>some (.panic d,e',σ')
  |none=>none
 | .seq a b,e,σ=>match aD aC ext au n inR a e σ with
  |some (.normal,e',σ')=>aD aC ext au n inR b e' σ'
  |x=>x
 | .cond c a b,e,σ=>match bM au e c with
  | .bool true=>aD aC ext au n inR a e σ
  | .bool false=>aD aC ext au n inR b e σ
  |_=>none
 | .block id body,e,σ=>match aD aC ext au n inR body e σ with
  |some (.exit id',e',σ')=>if id'=id then some (.normal,e',σ') else some (.exit id',e',σ')
  |x=>x
 | .loop body,e,σ=>aU (aD aC ext au n inR body) e σ
 | .exit id,e,σ=>some (.exit id,e,σ)
 | .label _,e,σ=>some (.normal,e,σ)
 | .goto l,e,σ=>some (.goto l,e,σ)
 | .scope body none,e,σ=>match aD aC ext au n inR body e σ with
  |some (.goto _,_,_)=>none
  |x=>x
 | .scope body (some (l,rest)),e,σ=>match aD aC ext au n inR body e σ with
  |some (.goto l',e',σ')=>if l'=l then zd l (aD aC ext au n inR rest) e' σ' else none
  |x=>x
 | .rangeFunc f ps as bd,e,σ=>match bM au e f with
  | .func g first captured=>
   if inR then none else
   match aC (.fn g) (first++[.yield σ.length]++captured) (σ++[.loop n e ps as bd .ready none]) with
   |some (.ret _,σ')=>match σ'[σ.length]? with
    |some (.loop m e1 ps1 as1 bd1 st pend)=>
     if st= .busy then none else
     let σ2:=σ'.set σ.length (.loop m e1 ps1 as1 bd1 .exhausted pend)
     match pend with
     |none=>some (.normal,e,σ2)
     |some .ret=>some (.ret,e,σ2)
     |some (.exit id)=>some (.exit id,e,σ2)
     |some (.goto l)=>some (.goto l,e,σ2)
    |_=>none
   |some (.panic d,σ')=>some (.panic d,e,σ')
   |none=>none
  |_=>none
 | .ret,e,σ=>some (.ret,e,σ)
section
variable {aC:cC} {ext:FuncId->Bool} {au:Gl} {n:Nat} {inR:Bool}
theorem dm {K K':Nat} (h:K<=K') {c:aK} {e:Env} {σ:St} {x:bx × Env × St} (he:evalCode aC ext au n K inR c e σ=some x):evalCode aC ext au n K' inR c e σ=some x:=
 jn (tO K) (F:=fun _=>aC) (L:=aC) (fun _ _ _ _ h _ _=>h) (fun _ hk=>hk) _ c (Nat.le_refl _) he K' h
theorem oF: ∀ (N:Nat) (c:aK),SizeOf.sizeOf c<=N-> ∀ {e:Env} {σ:St} {x:bx × Env × St},aD aC ext au n inR c e σ=some x-> ∃K,evalCode aC ext au n K inR c e σ=some x:=by
 intro N
 induction N with
 |zero=>intro c hN;cases c<;>simp at hN<;>omega
 |succ N IH=>
 intro c hN e σ x h
 have loops: ∀ (b:aK),SizeOf.sizeOf b<=N-> ∀ (m:Nat) {e:Env} {σ:St} {x:bx × Env × St},iter (aD aC ext au n inR b) m e σ=some x-> ∃K,iter (evalCode aC ext au n K inR b) m e σ=some x:=by
  intro b hb m
  induction m with
  |zero=>intro e σ x h;cases h
  |succ m ih=>
   intro e σ x h
   simp only [iter] at h
   cases he:aD aC ext au n inR b e σ with
   |none=>rw [he] at h;cases h
   |some y=>
    obtain ⟨K1,h1⟩:=IH b hb he
    obtain ⟨ex,e1,σ1⟩:=y
    rw [he] at h
    cases ex with
    |normal=>
     simp only at h
     obtain ⟨K2,h2⟩:=ih h
     refine ⟨max K1 K2, ?_⟩
     have h3: ∀ (q:Nat) {e:Env} {σ:St} {x:bx × Env × St},iter (evalCode aC ext au n K2 inR b) q e σ=some x->iter (evalCode aC ext au n (max K1 K2) inR b) q e σ=some x:=by
      intro q
      induction q with
      |zero=>intro e σ x h;cases h
      |succ q ihq=>
       intro e σ x h
       simp only [iter] at h ⊢
       cases hq:evalCode aC ext au n K2 inR b e σ with
       |none=>rw [hq] at h;cases h
       |some z=>
        rw [dm (by omega) hq]
        rw [hq] at h
        obtain ⟨ez,e2,σ2⟩:=z
        cases ez with
        |normal=>exact ihq h
        |_=>exact h
     simp only [iter,dm (show K1<=max K1 K2 by omega) h1]
     exact h3 m h2
    |_=>exact ⟨K1,by simp only [iter,h1];exact h⟩
 have loopsG: ∀ (l:Nat) (b:aK),SizeOf.sizeOf b<=N-> ∀ (m:Nat) {e:Env} {σ:St} {x:bx × Env × St},eC l (aD aC ext au n inR b) m e σ=some x-> ∃K,eC l (evalCode aC ext au n K inR b) m e σ=some x:=by
  intro l b hb m
  induction m with
  |zero=>intro e σ x h;cases h
  |succ m ih=>
   intro e σ x h
   simp only [eC] at h
   cases he:aD aC ext au n inR b e σ with
   |none=>rw [he] at h;cases h
   |some y=>
    obtain ⟨K1,h1⟩:=IH b hb he
    obtain ⟨ex,e1,σ1⟩:=y
    rw [he] at h
    cases ex with
    |goto l'=>
     simp only at h
     split at h
     ·rename_i hl
      obtain ⟨K2,h2⟩:=ih h
      refine ⟨max K1 K2, ?_⟩
      have h3: ∀ (q:Nat) {e:Env} {σ:St} {x:bx × Env × St},eC l (evalCode aC ext au n K2 inR b) q e σ=some x->eC l (evalCode aC ext au n (max K1 K2) inR b) q e σ=some x:=by
       intro q
       induction q with
       |zero=>intro e σ x h;cases h
       |succ q ihq=>
        intro e σ x h
        simp only [eC] at h ⊢
        cases hq:evalCode aC ext au n K2 inR b e σ with
        |none=>rw [hq] at h;cases h
        |some z=>
         rw [dm (by omega) hq]
         rw [hq] at h
         obtain ⟨ez,e2,σ2⟩:=z
         cases ez with
         |goto l2=>
          simp only at h ⊢
          split at h
          ·rename_i h2l;rw [if_pos h2l];exact ihq h
          ·cases h
         |_=>exact h
      simp only [eC,dm (show K1<=max K1 K2 by omega) h1,if_pos hl]
      exact h3 m h2
     ·cases h
    |_=>exact ⟨K1,by simp only [eC,h1];exact h⟩
 cases c with
 |skip=>exact ⟨0,h⟩
 |region ops keep=>exact ⟨0,by simp only [aD] at h;simp only [evalCode];exact h⟩
 |drawn ops anc keep=>exact ⟨0,by simp only [aD] at h;simp only [evalCode];exact h⟩
 |seq a b=>
  simp only [aD] at h
  cases ha:aD aC ext au n inR a e σ with
  |none=>rw [ha] at h;cases h
  |some y=>
   obtain ⟨K1,h1⟩:=IH a (by simp at hN;omega) ha
   obtain ⟨ex,e1,σ1⟩:=y
   rw [ha] at h
   cases ex with
   |normal=>
    simp only at h
    obtain ⟨K2,h2⟩:=IH b (by simp at hN;omega) h
    exact ⟨max K1 K2,by simp only [evalCode,dm (show K1<=max K1 K2 by omega) h1];exact dm (by omega) h2⟩
   |_=>exact ⟨K1,by simp only [evalCode,h1];exact h⟩
 |cond c a b=>
  simp only [aD] at h
  split at h
  ·rename_i hc
   obtain ⟨K,hK⟩:=IH a (by simp at hN;omega) h
   exact ⟨K,by simp only [evalCode,hc];exact hK⟩
  ·rename_i hc
   obtain ⟨K,hK⟩:=IH b (by simp at hN;omega) h
   exact ⟨K,by simp only [evalCode,hc];exact hK⟩
  ·cases h
 |block id b=>
  simp only [aD] at h
  cases ha:aD aC ext au n inR b e σ with
  |none=>rw [ha] at h;cases h
  |some y=>
   obtain ⟨K1,h1⟩:=IH b (by simp at hN;omega) ha
   rw [ha] at h
   exact ⟨K1,by simp only [evalCode,h1];exact h⟩
 |loop b=>
  simp only [aD] at h
  obtain ⟨m,hm⟩:=mW.1 h
  obtain ⟨K,hK⟩:=loops b (by simp at hN;omega) m hm
  refine ⟨max K m, ?_⟩
  simp only [evalCode]
  exact Dg (tO m) (K:=m) (g:=fun _=>evalCode aC ext au n (max K m) inR b) (f:=evalCode aC ext au n K inR b) (fun _ h=>h) (fun e σ x h k _=>dm (by omega) h) hK (max K m) (by omega)
 |exit id=>exact ⟨0,h⟩
 |label l=>exact ⟨0,h⟩
 |goto l=>exact ⟨0,h⟩
 |scope b jump=>
  cases jump with
  |none=>
   simp only [aD] at h
   cases ha:aD aC ext au n inR b e σ with
   |none=>rw [ha] at h;cases h
   |some y=>
    obtain ⟨K1,h1⟩:=IH b (by simp at hN;omega) ha
    rw [ha] at h
    exact ⟨K1,by simp only [evalCode,h1];exact h⟩
  |some lr=>
   obtain ⟨l,rest⟩:=lr
   simp only [aD] at h
   cases ha:aD aC ext au n inR b e σ with
   |none=>rw [ha] at h;cases h
   |some y=>
    obtain ⟨K1,h1⟩:=IH b (by simp at hN;omega) ha
    obtain ⟨ex,e1,σ1⟩:=y
    rw [ha] at h
    cases ex with
    |goto l'=>
     simp only at h
     split at h
     ·rename_i hl
      obtain ⟨m,hm⟩:=Cb.1 h
      obtain ⟨K,hK⟩:=loopsG l rest (by simp at hN;omega) m hm
      refine ⟨max K1 (max K m), ?_⟩
      simp only [evalCode,dm (show K1<=max K1 (max K m) by omega) h1,if_pos hl]
      exact AZ (tO m) (K:=m) l (g:=fun _=>evalCode aC ext au n (max K1 (max K m)) inR rest) (f:=evalCode aC ext au n K inR rest) (fun _ h=>h) (fun e σ x h k _=>dm (by omega) h) hK (max K1 (max K m)) (by omega)
     ·cases h
    |_=>exact ⟨K1,by simp only [evalCode,h1];exact h⟩
 |rangeFunc f ps as bd=>exact ⟨0,by simp only [aD] at h;simp only [evalCode];exact h⟩
 |ret=>exact ⟨0,h⟩
noncomputable def ah (aC:cC) (ext:FuncId->Bool) (au:Gl) (af:aF) (args:List D) (σ:St):Option (dJ × St):=
 if args.length=af.nparams/\af.nparams<=af.ntmps then
  match aD aC ext au af.ntmps false af.body (lz 0 args) σ with
  |some (.normal,e,σ') |some (.ret,e,σ')=>(iD e σ' af.results).map fun d=>(.ret d,σ')
  |some (.panic d,_,σ')=>some (.panic d,σ')
  |_=>none
 else none
theorem Cc {af:aF} {args:List D} {σ:St} {x:dJ × St} (h:ah aC ext au af args σ=some x): ∃K,fI aC ext au K af args σ=some x:=by
 unfold ah at h
 split at h
 ·rename_i hc
  cases he:aD aC ext au af.ntmps false af.body (lz 0 args) σ with
  |none=>rw [he] at h;cases h
  |some y=>
   obtain ⟨K,hK⟩:=oF _ _ (Nat.le_refl _) he
   rw [he] at h
   exact ⟨K,by simp only [fI,if_pos hc,hK];exact h⟩
 ·cases h
noncomputable def yI (aC:cC) (ext:FuncId->Bool) (au:Gl) (i:Nat) (args:List D) (σ:St):Option (dJ × St):=dW (fun n=>aD aC ext au n true) i args σ
theorem A2 {i:Nat} {args:List D} {σ:St} {x:dJ × St} (h:yI aC ext au i args σ=some x): ∃K,dW (fun n=>evalCode aC ext au n K true) i args σ=some x:=by
 unfold yI dW at h
 split at h
 ·rename_i m env ps as bd hs
  split at h
  ·rename_i e hput
   simp only at h
   cases ha:aD aC ext au m true as e σ with
   |none=>rw [ha] at h;cases h
   |some y=>
    obtain ⟨K1,h1⟩:=oF _ _ (Nat.le_refl _) ha
    obtain ⟨ex,e1,σ1⟩:=y
    rw [ha] at h
    cases ex with
    |normal=>
     simp only at h
     split at h
     ·rename_i n1 env1 ps1 as1 bd1 p1 hs1
      cases hb:aD aC ext au m true bd e1 (σ1.set i (.loop n1 env1 ps1 as1 bd1 .busy p1)) with
      |none=>rw [hb] at h;cases h
      |some y=>
       obtain ⟨K2,h2⟩:=oF _ _ (Nat.le_refl _) hb
       rw [hb] at h
       refine ⟨max K1 K2, ?_⟩
       simp only [dW,hs,hput,dm (show K1<=max K1 K2 by omega) h1,hs1,dm (show K2<=max K1 K2 by omega) h2]
       exact h
     ·cases h
    |_=>cases h
  ·cases h
 ·cases h
end
section
variable {T:FuncId->Option aF} {ext:Ext} {au:Gl} (hpost: ∀f σ,au.post f σ none=none)
include hpost
theorem A3 {f:FuncId} {af:aF} (hx:ext f=none) (hT:T f=some af) {args:List D} {σ:St} {x y:dJ × St} (h:ah (jq T ext au) (fun f=>(ext f).isSome) au af args σ=some y)
 (hp:au.post f σ (some y)=some x):jq T ext au (.fn f) args σ=some x:=by
 obtain ⟨K,hK⟩:=Cc h
 exact kG hpost (K:=K) (by simp only [qt,hx,hT,hK,hp])
theorem zU {f:FuncId} {ty:TypeId} (hx:ext f=none) (hT:T f=none) (hc:au.catches f=some ty) {args:List D} {σ:St} {x y:dJ × St} (h:eD (jq T ext au) ty args σ=some y)
 (hp:au.post f σ (some y)=some x):jq T ext au (.fn f) args σ=some x:=
 kG hpost (K:=0) (by simp only [qt,hx,hT,hc,h,hp])
theorem wV {f:FuncId} {g:List D->Option D} (hx:ext f=some g) {args:List D} {σ:St} {x:dJ × St} (h:j4 g args σ=some x):jq T ext au (.fn f) args σ=some x:=
 kG hpost (K:=0) (by simp only [qt,hx,h])
theorem Aw {i:Nat} {args:List D} {σ:St} {x:dJ × St} (h:yI (jq T ext au) (fun f=>(ext f).isSome) au i args σ=some x):jq T ext au (.round i) args σ=some x:=by
 obtain ⟨K,hK⟩:=A2 h
 exact kG hpost (K:=K) (by simp only [qt,hK])
end
end Go.AI
namespace Go.AI
open Go
theorem aS {σ τ:St} {i:Nat} : (σ++τ)[σ.length+i]? =τ[i]? :=by
 rw [List.getElem?_append_right (by omega)];simp
theorem az {σ τ:St} : (σ++τ)[σ.length]? =τ[0]? :=aS (i:=0)
theorem bD {σ τ:St} {i:Nat} {o:Obj} (h:σ[i]? =some o): (σ++τ)[i]? =some o:=by
 rw [List.getElem?_append_left (List.getElem?_eq_some_iff.1 h).1];exact h
theorem bP {σ τ:St} {i:Nat} {o:Obj} : (σ++τ).set (σ.length+i) o=σ++τ.set i o:=by
 rw [List.set_append_right _ _ (by omega)];simp
theorem aN {σ τ:St} {o:Obj} : (σ++τ).set σ.length o=σ++τ.set 0 o:=bP (i:=0)
theorem jb {σ τ:St} {i:Nat} {o:Obj} (h:i<σ.length): (σ++τ).set i o=σ.set i o++τ:=by
 rw [List.set_append_left _ _ h]
mutual
theorem D.oG {n:Nat} : ∀ (d:D),d.tree=true->d.under n=true
 | .bool _,_| .int _ _,_| .str _,_| .bL,_| .empty,_| .cH,_| .cq,_| .bV,_=>rfl
 | .slice l,h| .agg l,h| .tuple l,h=>by simp only [D.tree,D.under] at*;exact fm l h
 | .func _ a b,h=>by simp only [D.tree,D.under,Bool.and_eq_true] at*;exact ⟨fm a h.1,fm b h.2⟩
 | .iface _ v,h=>by simp only [D.tree,D.under] at*;exact D.oG v h
 | .ptr _ _,h| .rptr _ _ _ _,h| .arr _ _ _ _,h| .map _,h| .yield _,h| .tptr _,h| .undef,h| .any,h=>by simp [D.tree] at h
theorem fm {n:Nat} : ∀ (l:List D),bW l=true->cL n l=true
 | [],_=>rfl
 |d::r,h=>by
  simp only [bW,cL,Bool.and_eq_true] at*
  exact ⟨D.oG d h.1,fm r h.2⟩
end
theorem fX {σ τ:St} :nB σ (σ++τ):=fun i hi=> .inl (List.getElem?_append_left hi)
theorem kH {n:Nat} {σ:St} {d:D} (h:d.tree=true):fK n σ (.ret d)=some (.ret d.weak):=by
 have h1:strip 16 σ d=some d:=by simp [strip,h]
 have h2:leads 16 σ d=[]:=by simp [leads,h]
 simp [fK,h1,h2]
theorem A4 {n:Nat} {σ:St} {d:D} (hs:strip 16 σ d=none) (h:d.under n=true):fK n σ (.ret d)=some (.ret d):=by
 simp [fK,hs,h]
theorem A5 {n:Nat} {σ:St} {d:D} (h:d.tree=true):fK n σ (.panic d)=some (.panic d):=by
 simp [fK,D.oG d h]
section
variable {q:FuncId->Bool} {f:FuncId} {σ τ:St} {d r:D}
theorem jZ {σ':St} (hk:nB σ σ') (hv:fK σ.length σ' (.ret d)=some (.ret r)) (hq:q f=true->σ'.take σ.length=σ):eA q f σ (some (.ret d,σ'))=some (.ret r,σ'.take σ.length):=by
 have ht:trim σ (some (.ret d,σ'))=some (.ret r,σ'.take σ.length):=by
  unfold trim
  simp only [if_pos hk,hv]
 unfold eA
 rw [ht]
 simp only
 rw [if_neg]
 rintro ⟨h1,h2⟩
 exact h2 (hq h1)
theorem xM {σ':St} (hk:nB σ σ') (hv:d.tree=true):eA q f σ (some (.panic d,σ'))=some (.panic d,σ'.take σ.length):=by
 have ht:trim σ (some (.panic d,σ'))=some (.panic d,σ'.take σ.length):=by
  unfold trim
  simp only [if_pos hk,A5 hv]
 unfold eA
 rw [ht]
theorem og (h:d.tree=true):eA q f σ (some (.ret d,σ++τ))=some (.ret d.weak,σ):=by
 rw [jZ fX (kH h) (fun _=>List.take_left ..),List.take_left]
theorem A6 (h:d.tree=true):eA q f σ (some (.ret d,σ))=some (.ret d.weak,σ):=by
 have:=og (q:=q) (f:=f) (σ:=σ) (τ:=[]) h
 simpa using this
theorem A7 (h:d.tree=true):eA q f σ (some (.panic d,σ++τ))=some (.panic d,σ):=by
 rw [xM fX h,List.take_left]
theorem gG (hs:strip 16 (σ++τ) d=some r) (hl: ∀i ∈ leads 16 (σ++τ) d,σ.length<=i):eA q f σ (some (.ret d,σ++τ))=some (.ret r.weak,σ):=by
 have hv:fK σ.length (σ++τ) (.ret d)=some (.ret r.weak):=by
  simp only [fK,hs]
  rw [if_pos (List.all_eq_true.2 fun i hi=>by simpa using hl i hi)]
 rw [jZ fX hv (fun _=>List.take_left ..),List.take_left]
theorem Ad (hs:strip 16 (σ++τ) d=none) (hu:d.under σ.length=true):eA q f σ (some (.ret d,σ++τ))=some (.ret d,σ):=by
 rw [jZ fX (A4 hs hu) (fun _=>List.take_left ..),List.take_left]
end
noncomputable def Cd (aC:cC) (ext:FuncId->Bool) (au:Gl) (n:Nat) (inR:Bool) (b:aK) (x:Option (bx × Env × St)):Option (bx × Env × St):=
 match x with
 |some (.normal,e,σ)=>aD aC ext au n inR b e σ
 |x=>x
noncomputable def Fx (aC:cC) (ext:FuncId->Bool) (au:Gl) (n:Nat) (inR:Bool) (a b:aK) (e:Env) (σ:St) (d:D):Option (bx × Env × St):=
 match d with
 | .bool true=>aD aC ext au n inR a e σ
 | .bool false=>aD aC ext au n inR b e σ
 |_=>none
def KX (aC:cC) (au:Gl) (n:Nat) (r:List bz) (x:Option (Option D × Env × St)):Option (Option D × Env × St):=
 match x with
 |some (none,e,σ)=>ck aC au n r e σ
 |x=>x
section
variable (aC:cC) (ext:FuncId->Bool) (au:Gl) (n:Nat) (fin:lu->Env->St->Option (Option D × Env × St)) (j:Nat) (o:bz) (r:List bz) (anc:List Nat) (done:List Eu) (bN:List (Nat × St)) (dh:lu) (e:Env) (σ:St)
def Fy (d:D) (σ':St) (e':Env) (b:Bool):Option (Option D × Env × St):=
 if b=true then bX aC ext au n fin (j+1) r anc.tail ((j,o,bU (some o.reads) e,d)::done) bN ((j,o,bU (some o.reads) e,d,σ)::dh) e' σ' else none
def Fz (d:D) (σ':St) (e':Env) (b:Bool):Option (Option D × Env × St):=
 if b=true then bX aC ext au n fin (j+1) r anc.tail done ((j,σ)::bN) ((j,o,bU (some o.reads) e,d,σ)::dh) e' σ' else none
def Dh (d:D) (σ':St) (e':Env) (b:Bool):Option (Option D × Env × St):=
 if b=true then Fy aC ext au n fin j o r anc done bN dh e σ d σ' e' (bN.all (fun x=>ic (anc.headD 0) x.1||sameAt aC au o (bU (some o.reads) e) x.2 d))
 else Fz aC ext au n fin j o r anc done bN dh e σ d σ' e' (bN.all (fun x=>ic (anc.headD 0) x.1)&&done.all (fun x=>ic (anc.headD 0) x.1||sameAt aC au x.2.1 x.2.2.1 σ' x.2.2.2))
def FA (d:D) (σ':St) (x:Option Env):Option (Option D × Env × St):=
 match x with
 |some e'=>Dh aC ext au n fin j o r anc done bN dh e σ d σ' e' (quietAt ext au o.op (bU (some o.reads) e) d)
 |none=>none
def FB (d:D) (σ':St) (b:Bool):Option (Option D × Env × St):=if b=true then some (some d,e,σ') else none
def FC (x:Option (SV × St)):Option (Option D × Env × St):=
 match x with
 |some (.val d,σ')=>FA aC ext au n fin j o r anc done bN dh e σ d σ' (eB n e o.dst d)
 |some (.panic d,σ')=>FB e d σ' (bN.all (fun x=>ic (anc.headD 0) x.1)&&(cJ aC ext au n j r anc.tail bN e σ).isSome)
 |none=>none
def Ce (e':Env) (b:Bool):Option Env:=if b=true then cJ aC ext au n j r anc.tail bN e' σ else none
def Cf (d:D) (x:Option Env):Option Env:=
 match x with
 |some e'=>Ce aC ext au n j r anc bN σ e' (quietAt ext au o.op (bU (some o.reads) e) d&&bN.all (fun x=>ic (anc.headD 0) x.1||sameAt aC au o (bU (some o.reads) e) x.2 d))
 |none=>none
def Cg (x:Option (SV × St)):Option Env:=
 match x with
 |some (.val d,_)=>Cf aC ext au n j o r anc bN e σ d (eB n e o.dst d)
 |_=>none
def zf (b:Bool):Option Env:=
 if b=true then cJ aC ext au n j r anc.tail bN e σ else Cg aC ext au n j o r anc bN e σ (bO aC au o (bU (some o.reads) e) σ)
end
section
variable {aC:cC} {ext:FuncId->Bool} {au:Gl} {n:Nat} {inR:Bool} {a b:aK} {ops:List bz} {e:Env} {σ:St} {d:D} {i:Nat}
@[simp] theorem Jr:Cd aC ext au n inR b (some (.normal,e,σ))=aD aC ext au n inR b e σ:=rfl
@[simp] theorem P1:Cd aC ext au n inR b (some (.ret,e,σ))=some (.ret,e,σ):=rfl
@[simp] theorem OG:Cd aC ext au n inR b (some (.exit i,e,σ))=some (.exit i,e,σ):=rfl
@[simp] theorem OH:Cd aC ext au n inR b (some (.goto i,e,σ))=some (.goto i,e,σ):=rfl
@[simp] theorem KY:Cd aC ext au n inR b (some (.panic d,e,σ))=some (.panic d,e,σ):=rfl
@[simp] theorem OI:Cd aC ext au n inR b none=none:=rfl
@[simp] theorem KZ:Fx aC ext au n inR a b e σ (.bool true)=aD aC ext au n inR a e σ:=rfl
@[simp] theorem Js:Fx aC ext au n inR a b e σ (.bool false)=aD aC ext au n inR b e σ:=rfl
@[simp] theorem Rl:KX aC au n ops (some (none,e,σ))=ck aC au n ops e σ:=rfl
@[simp] theorem K0:KX aC au n ops (some (some d,e,σ))=some (some d,e,σ):=rfl
end
section
variable {aC:cC} {ext:FuncId->Bool} {au:Gl} {n:Nat} {fin:lu->Env->St->Option (Option D × Env × St)} {j:Nat} {o:bz} {r:List bz} {anc:List Nat} {done:List Eu} {bN:List (Nat × St)} {dh:lu} {e:Env} {σ:St} {d:D} {σ':St} {e':Env}
@[simp] theorem K3:Fy aC ext au n fin j o r anc done bN dh e σ d σ' e' true=bX aC ext au n fin (j+1) r anc.tail ((j,o,bU (some o.reads) e,d)::done) bN ((j,o,bU (some o.reads) e,d,σ)::dh) e' σ':=rfl
@[simp] theorem K4:Fz aC ext au n fin j o r anc done bN dh e σ d σ' e' true=bX aC ext au n fin (j+1) r anc.tail done ((j,σ)::bN) ((j,o,bU (some o.reads) e,d,σ)::dh) e' σ':=rfl
@[simp] theorem K5:Dh aC ext au n fin j o r anc done bN dh e σ d σ' e' true=Fy aC ext au n fin j o r anc done bN dh e σ d σ' e' (bN.all (fun x=>ic (anc.headD 0) x.1||sameAt aC au o (bU (some o.reads) e) x.2 d)):=rfl
@[simp] theorem Jt:Dh aC ext au n fin j o r anc done bN dh e σ d σ' e' false=Fz aC ext au n fin j o r anc done bN dh e σ d σ' e' (bN.all (fun x=>ic (anc.headD 0) x.1)&&done.all (fun x=>ic (anc.headD 0) x.1||sameAt aC au x.2.1 x.2.2.1 σ' x.2.2.2)):=rfl
@[simp] theorem K6:FA aC ext au n fin j o r anc done bN dh e σ d σ' (some e')=Dh aC ext au n fin j o r anc done bN dh e σ d σ' e' (quietAt ext au o.op (bU (some o.reads) e) d):=rfl
@[simp] theorem K7:FB e d σ' true=some (some d,e,σ'):=rfl
@[simp] theorem D7:FC aC ext au n fin j o r anc done bN dh e σ (some (.val d,σ'))=FA aC ext au n fin j o r anc done bN dh e σ d σ' (eB n e o.dst d):=rfl
@[simp] theorem Ju:FC aC ext au n fin j o r anc done bN dh e σ (some (.panic d,σ'))=FB e d σ' (bN.all (fun x=>ic (anc.headD 0) x.1)&&(cJ aC ext au n j r anc.tail bN e σ).isSome):=rfl
@[simp] theorem Jv:Ce aC ext au n j r anc bN σ e' true=cJ aC ext au n j r anc.tail bN e' σ:=rfl
@[simp] theorem Jw:Cf aC ext au n j o r anc bN e σ d (some e')=Ce aC ext au n j r anc bN σ e' (quietAt ext au o.op (bU (some o.reads) e) d&&bN.all (fun x=>ic (anc.headD 0) x.1||sameAt aC au o (bU (some o.reads) e) x.2 d)):=rfl
@[simp] theorem Ch:Cg aC ext au n j o r anc bN e σ (some (.val d,σ'))=Cf aC ext au n j o r anc bN e σ d (eB n e o.dst d):=rfl
@[simp] theorem Jx:zf aC ext au n j o r anc bN e σ true=cJ aC ext au n j r anc.tail bN e σ:=rfl
@[simp] theorem GL:zf aC ext au n j o r anc bN e σ false=Cg aC ext au n j o r anc bN e σ (bO aC au o (bU (some o.reads) e) σ):=rfl
end
attribute [simp] bM gb dg bO eo aY cg sV eB bU val lz iD wM D.weak dU D.tree bW zx ga fh D.cells xX intArith oQ D.one aE
attribute [simp] quietAt AOp.quiet ic sameAt gT D.eqb bC tT tU
section
variable {aC:cC} {ext:FuncId->Bool} {au:Gl} {n:Nat} {inR:Bool} {e:Env} {σ:St}
@[simp] theorem P2:aD aC ext au n inR .skip e σ=some (.normal,e,σ):=rfl
@[simp] theorem K8 {ops keep} :aD aC ext au n inR (.region ops keep) e σ=(match gb aC au n ops e σ with
 |some (none,e',σ')=>some (.normal,bU keep e',σ')
 |some (some d,e',σ')=>some (.panic d,e',σ')
 |none=>none):=rfl
@[simp] theorem OJ {ops anc keep} :aD aC ext au n inR (.drawn ops anc keep) e σ=(match (match gT ops anc with
 |some (s,a0)=>bX aC ext au n (tU aC ext au s a0) 0 ops.dropLast anc [] [] [] e σ
 |none=>bX aC ext au n (fun _ e σ=>some (none,e,σ)) 0 ops anc [] [] [] e σ) with
 |some (none,e',σ')=>some (.normal,bU keep e',σ')
 |some (some d,e',σ')=>some (.panic d,e',σ')
 |none=>none):=rfl
@[simp] theorem Rm {a b} :aD aC ext au n inR (.seq a b) e σ=Cd aC ext au n inR b (aD aC ext au n inR a e σ):=by
 rw [aD]
 generalize aD aC ext au n inR a e σ=y
 rcases y with _| ⟨x,_,_⟩
 ·rfl
 ·cases x<;>rfl
@[simp] theorem P3 {c a b} :aD aC ext au n inR (.cond c a b) e σ=Fx aC ext au n inR a b e σ (bM au e c):=by
 rw [aD]
 generalize bM au e c=d
 cases d<;>first|rfl| (rename_i t;cases t<;>rfl)
@[simp] theorem K9:ck aC au n [] e σ=some (none,e,σ):=rfl
@[simp] theorem Jy {o r} :ck aC au n (o::r) e σ=KX aC au n r (dg aC au n o e σ):=by
 rw [ck]
 generalize dg aC au n o e σ=y
 rcases y with _| ⟨x,_,_⟩
 ·rfl
 ·cases x<;>rfl
@[simp] theorem GM {fin j anc done bN dh} :bX aC ext au n fin j [] anc done bN dh e σ=fin dh e σ:=rfl
@[simp] theorem F1 {fin j o r anc done bN dh} :bX aC ext au n fin j (o::r) anc done bN dh e σ=FC aC ext au n fin j o r anc done bN dh e σ (bO aC au o (bU (some o.reads) e) σ):=by
 rw [bX]
 generalize bO aC au o (bU (some o.reads) e) σ=y
 rcases y with _| ⟨x,σ'⟩
 ·rfl
 ·cases x with
  |val d=>
   simp only [D7]
   generalize eB n e o.dst d=q
   cases q<;>rfl
  |panic d=>rfl
@[simp] theorem GN {j anc bN} :cJ aC ext au n j [] anc bN e σ=if anc.all (fun b=>ic b j) then some e else none:=rfl
@[simp] theorem F2 {j o r anc bN} :cJ aC ext au n j (o::r) anc bN e σ=zf aC ext au n j o r anc bN e σ (ic (anc.headD 0) j):=by
 rw [cJ]
 unfold zf
 split
 ·rfl
 ·generalize bO aC au o (bU (some o.reads) e) σ=y
  rcases y with _| ⟨x,σ'⟩
  ·rfl
  ·cases x with
   |val d=>
    simp only [Ch]
    generalize eB n e o.dst d=q
    cases q<;>rfl
   |panic d=>rfl
@[simp] theorem OK {id body} :aD aC ext au n inR (.block id body) e σ=(match aD aC ext au n inR body e σ with
 |some (.exit id',e',σ')=>if id'=id then some (.normal,e',σ') else some (.exit id',e',σ')
 |x=>x):=rfl
@[simp] theorem P4 {body} :aD aC ext au n inR (.loop body) e σ=aU (aD aC ext au n inR body) e σ:=rfl
@[simp] theorem P5 {id} :aD aC ext au n inR (.exit id) e σ=some (.exit id,e,σ):=rfl
@[simp] theorem OL {l} :aD aC ext au n inR (.label l) e σ=some (.normal,e,σ):=rfl
@[simp] theorem P6 {l} :aD aC ext au n inR (.goto l) e σ=some (.goto l,e,σ):=rfl
@[simp] theorem La {body} :aD aC ext au n inR (.scope body none) e σ=(match aD aC ext au n inR body e σ with
 |some (.goto _,_,_)=>none
 |x=>x):=rfl
@[simp] theorem Lb {body l rest} :aD aC ext au n inR (.scope body (some (l,rest))) e σ=(match aD aC ext au n inR body e σ with
 |some (.goto l',e',σ')=>if l'=l then zd l (aD aC ext au n inR rest) e' σ' else none
 |x=>x):=rfl
@[simp] theorem Rn:aD aC ext au n inR .ret e σ=some (.ret,e,σ):=rfl
end
theorem wrap_i64 {n:Int} (h0: -9223372036854775808<=n) (h1:n<=9223372036854775807):IntKind.i64.wrap n=n:=by
 simp only [IntKind.wrap,IntKind.bits,IntKind.signed]
 simp
 omega
theorem mj {α:Type} {f:Env->St->Option (bx × Env × St)} (l:List α) (E:Nat->Env) (S:Nat->St) (Q:α->Bool) (X:Nat->bx × Env × St) (Y:bx × Env × St) (hX: ∀i,(X i).1≠ .normal) (hY:Y.1≠ .normal)
 (h: ∀i (hi:i<l.length),f (E i) (S i)=if Q l[i] then some (X i) else some (.normal,E (i+1),S (i+1))) (hf:f (E l.length) (S l.length)=some Y):
 ∀ (m j:Nat),j+m=l.length->aU f (E j) (S j)=some (match (l.drop j).findIdx? Q with|some i=>X (j+i) |none=>Y)
 |0,j,hj=>by
  obtain rfl:j=l.length:=by omega
  rw [List.drop_length]
  exact aH hf hY
 |m+1,j,hj=>by
  have hlt:j<l.length:=by omega
  have hb:=h j hlt
  rw [List.drop_eq_getElem_cons hlt,List.findIdx?_cons]
  cases hq:Q l[j] with
  |true=>
   rw [hq] at hb
   simp only [if_true] at hb ⊢
   exact aH hb (hX j)
  |false=>
   rw [hq] at hb
   simp only [Bool.false_eq_true,if_false] at hb ⊢
   rw [aO hb,mj l E S Q X Y hX hY h hf m (j+1) (by omega)]
   cases (l.drop (j+1)).findIdx? Q with
   |none=>rfl
   |some i=>simp only [Option.map_some];rw [show j+1+i=j+ (i+1) by omega]
theorem oH {α:Type} {f:Env->St->Option (bx × Env × St)} (l:List α) (E:Nat->Env) (S:Nat->St) (Q:α->Bool) (X:Nat->bx × Env × St) (Y:bx × Env × St) (hX: ∀i,(X i).1≠ .normal) (hY:Y.1≠ .normal)
 (h: ∀i (hi:i<l.length),f (E i) (S i)=if Q l[i] then some (X i) else some (.normal,E (i+1),S (i+1))) (hf:f (E l.length) (S l.length)=some Y):
 aU f (E 0) (S 0)=some (match l.findIdx? Q with|some i=>X i|none=>Y):=by
 have:=mj l E S Q X Y hX hY h hf l.length 0 (by omega)
 rw [List.drop_zero] at this
 rw [this]
 cases l.findIdx? Q with
 |none=>rfl
 |some i=>simp only [Nat.zero_add]
theorem cK {α:Type} {f:Env->St->Option (bx × Env × St)} {σ:St} (l:List α) (E:Nat->Env) (Q:α->Bool) (X:Nat->bx × Env × St) (Y:bx × Env × St) (hX: ∀i,(X i).1≠ .normal) (hY:Y.1≠ .normal)
 (h: ∀i (hi:i<l.length),f (E i) σ=if Q l[i] then some (X i) else some (.normal,E (i+1),σ)) (hf:f (E l.length) σ=some Y):
 aU f (E 0) σ=some (match l.findIdx? Q with|some i=>X i|none=>Y):=oH l E (fun _=>σ) Q X Y hX hY h hf
theorem jr {α:Type} {l:List α} {p:α->Bool} (h:l.findIdx? (fun a=> !p a)=none):l.all p=true:=by
 rw [List.findIdx?_eq_none_iff] at h
 exact List.all_eq_true.2 fun a ha=>by simpa using h a ha
theorem js {α:Type} {l:List α} {p:α->Bool} {i:Nat} (h:l.findIdx? (fun a=> !p a)=some i):l.all p=false:=by
 obtain ⟨hi,h1,_⟩:=List.findIdx?_eq_some_iff_getElem.1 h
 cases hc:l.all p with
 |false=>rfl
 |true=>have:=List.all_eq_true.1 hc _ (List.getElem_mem hi);simp [this] at h1
theorem mm {α:Type} {f:Env->St->Option (bx × Env × St)} {σ:St} (l:List α) (E:Nat->Env) (Q:α->Bool) (X:α->bx × Env) (Y:bx × Env) (hX: ∀a,(X a).1≠ .normal) (hY:Y.1≠ .normal)
 (h: ∀i (hi:i<l.length) (τ:St),∃τ',f (E i) (σ++τ)=if Q l[i] then some ((X l[i]).1,(X l[i]).2,σ++τ') else some (.normal,E (i+1),σ++τ')) (hf: ∀τ,∃τ',f (E l.length) (σ++τ)=some (Y.1,Y.2,σ++τ')):
 ∀ (m j:Nat) (τ:St),j+m=l.length-> ∃τ',aU f (E j) (σ++τ)=some (match (l.drop j).find? Q with|some a=>((X a).1,(X a).2,σ++τ') |none=>(Y.1,Y.2,σ++τ'))
 |0,j,τ,hj=>by
  obtain rfl:j=l.length:=by omega
  rw [List.drop_length]
  obtain ⟨τ',h1⟩:=hf τ
  exact ⟨τ',aH h1 hY⟩
 |m+1,j,τ,hj=>by
  have hlt:j<l.length:=by omega
  obtain ⟨τ1,hb⟩:=h j hlt τ
  rw [List.drop_eq_getElem_cons hlt,List.find?_cons]
  cases hq:Q l[j] with
  |true=>
   rw [hq] at hb
   simp only [if_true] at hb ⊢
   exact ⟨τ1,aH hb (hX _)⟩
  |false=>
   rw [hq] at hb
   simp only [Bool.false_eq_true,if_false] at hb ⊢
   rw [aO hb]
   exact mm l E Q X Y hX hY h hf m (j+1) τ1 (by omega)
theorem eT {α:Type} {f:Env->St->Option (bx × Env × St)} {σ:St} (l:List α) (E:Nat->Env) (Q:α->Bool) (X:α->bx × Env) (Y:bx × Env) (hX: ∀a,(X a).1≠ .normal) (hY:Y.1≠ .normal)
 (h: ∀i (hi:i<l.length) (τ:St),∃τ',f (E i) (σ++τ)=if Q l[i] then some ((X l[i]).1,(X l[i]).2,σ++τ') else some (.normal,E (i+1),σ++τ')) (hf: ∀τ,∃τ',f (E l.length) (σ++τ)=some (Y.1,Y.2,σ++τ')) (τ:St):
 ∃τ',aU f (E 0) (σ++τ)=some (match l.find? Q with|some a=>((X a).1,(X a).2,σ++τ') |none=>(Y.1,Y.2,σ++τ')):=by
 have:=mm l E Q X Y hX hY h hf l.length 0 τ (by omega)
 rw [List.drop_zero] at this
 exact this
theorem pX {σ τ:St} {i k:Nat} {o:Obj} : (σ.set i o++τ)[σ.length+k]? =τ[k]? :=by
 have:σ.length=(σ.set i o).length:=by simp
 rw [this];exact aS
theorem n8 {σ τ:St} {i:Nat} {o:Obj} : (σ.set i o++τ)[σ.length]? =τ[0]? :=pX (k:=0)
theorem nr {σ τ:St} {i:Nat} {o:Obj} (h:i<σ.length): (σ.set i o++τ)[i]? =some o:=by
 rw [List.getElem?_append_left (by simpa using h),List.getElem?_set_self h]
theorem Ak {σ τ:St} {i:Nat} {o o':Obj} (h:i<σ.length): (σ.set i o++τ).set i o'=σ.set i o'++τ:=by
 rw [jb (by simpa using h),List.set_set]
theorem b8 {σ:St} {i:Nat} {o:Obj} (h:σ[i]? =some o):i<σ.length:=(List.getElem?_eq_some_iff.1 h).1
def bn:List Int->Int
 | []=>0
 |x::r=>if x=0 then bn r else x
theorem cS {α:Type} (e:α->Int): ∀ (l:List α),bn (l.map e)=match l.find? (fun a=>e a != 0) with|some a=>e a|none=>0
 | []=>rfl
 |a::r=>by
  simp only [List.map_cons,bn,List.find?_cons]
  by_cases h:e a=0
  ·rw [if_pos h,cS e r]
   have: (e a != 0)=false:=by simp [h]
   rw [this]
  ·rw [if_neg h]
   have: (e a != 0)=true:=by simp [h]
   rw [this]
theorem nJ (a b:List Int):bn (a++b)=if bn a=0 then bn b else bn a:=by
 induction a with
 |nil=>simp [bn]
 |cons x r ih=>
  simp only [List.cons_append,bn]
  by_cases h:x=0
  ·simp only [if_pos h];exact ih
  ·simp only [if_neg h]
section
variable {q:FuncId->Bool} {f:FuncId} {σ τ:St} {d:D}
theorem mX {σ':St} (hl:σ'.length=σ.length) (hd:d.tree=true) (hw:d.weak=d) (hq:q f=false):eA q f σ (some (.ret d,σ'))=some (.ret d,σ'):=by
 have ht:trim σ (some (.ret d,σ'))=some (.ret d,σ'):=by
  unfold trim
  simp only [kH hd,hw]
  split
  ·rw [<-hl,List.take_length]
  ·rfl
 unfold eA
 rw [ht]
 simp [hq]
theorem D8 {i:Nat} {o:Obj} (ho:o.under σ.length):nB σ (σ.set i o++τ):=by
 intro j hj
 rw [List.getElem?_append_left (by simpa using hj)]
 by_cases h:i=j
 ·subst h
  right
  exact ⟨o,by rw [List.getElem?_set_self hj],ho⟩
 ·left
  rw [List.getElem?_set_ne h]
theorem iF {i:Nat} {o:Obj} (ho:o.under σ.length) (hd:d.tree=true) (hq:q f=false):eA q f σ (some (.ret d,σ.set i o++τ))=some (.ret d.weak,σ.set i o):=by
 rw [jZ (D8 ho) (kH hd) (by simp [hq])]
 have:σ.length=(σ.set i o).length:=by simp
 rw [this,List.take_left]
end
theorem aI {n:Nat} (h:n<9223372036854775807):IntKind.i64.wrap ((n:Int) +1)=((n+1:Nat):Int):=by
 rw [wrap_i64 (by omega) (by omega)];omega
def j0 {α β:Type} (step:α->β->Bool × β):List α->β->Bool × β
 | [],b=>(true,b)
 |a::r,b=>if (step a b).1 then j0 step r (step a b).2 else (false,(step a b).2)
theorem xN {α β:Type} (step:α->β->Bool × β): ∀ (l m:List α) (b:β),j0 step (l++m) b=if (j0 step l b).1 then j0 step m (j0 step l b).2 else (false,(j0 step l b).2)
 | [],m,b=>by simp [j0]
 |a::r,m,b=>by
  simp only [List.cons_append,j0]
  split
  ·exact xN step r m _
  ·simp
def bf {α β γ:Type} (step:Nat->α->β->β ⊕ γ):List α->Nat->β->β ⊕ γ
 | [],_,b=> .inl b
 |a::r,i,b=>match step i a b with
  | .inl b'=>bf step r (i+1) b'
  | .inr c=> .inr c
theorem rK {α β γ:Type} {step:Nat->α->β->β ⊕ γ} {I:β->Prop} : ∀ (l:List α) (_: ∀a ∈ l,∀i b b',I b->step i a b= .inl b'->I b') (i:Nat) (b b':β),I b->bf step l i b= .inl b'->I b'
 | [],h,i,b,b',hb,ht=>by cases ht;exact hb
 |a::r,h,i,b,b',hb,ht=>by
  simp only [bf] at ht
  cases hs:step i a b with
  |inl c=>
   rw [hs] at ht
   exact rK r (fun x hx=>h x (List.mem_cons_of_mem _ hx)) _ _ _ (h a List.mem_cons_self i b c hb hs) ht
  |inr c=>rw [hs] at ht;cases ht
theorem kZ {α β γ:Type} {f:Env->St->Option (bx × Env × St)} (l:List α) (E:Nat->β->Env) (S:β->St) (I:Nat->β->Prop) (step:Nat->α->β->β ⊕ γ) (X:γ->bx × Env) (SX:γ->St) (Y:β->bx × Env) (hX: ∀c,(X c).1≠ .normal) (hY: ∀b,(Y b).1≠ .normal)
 (hI: ∀i (hi:i<l.length) b b',I i b->step i l[i] b= .inl b'->I (i+1) b')
 (h: ∀i (hi:i<l.length) b τ,I i b-> ∃τ',f (E i b) (S b++τ)=some (match step i l[i] b with| .inl b'=>(.normal,E (i+1) b',S b'++τ') | .inr c=>((X c).1,(X c).2,SX c++τ')))
 (hf: ∀b τ,I l.length b-> ∃τ',f (E l.length b) (S b++τ)=some ((Y b).1,(Y b).2,S b++τ')):
 ∀ (m j:Nat) (b:β) (τ:St),j+m=l.length->I j b-> ∃τ',aU f (E j b) (S b++τ)=some (match bf step (l.drop j) j b with| .inl b'=>((Y b').1,(Y b').2,S b'++τ') | .inr c=>((X c).1,(X c).2,SX c++τ'))
 |0,j,b,τ,hj,hb=>by
  obtain rfl:j=l.length:=by omega
  rw [List.drop_length]
  obtain ⟨τ',h1⟩:=hf b τ hb
  exact ⟨τ',aH h1 (hY b)⟩
 |m+1,j,b,τ,hj,hb=>by
  have hlt:j<l.length:=by omega
  obtain ⟨τ1,h1⟩:=h j hlt b τ hb
  rw [List.drop_eq_getElem_cons hlt]
  simp only [bf]
  cases hs:step j l[j] b with
  |inl b'=>
   rw [hs] at h1
   simp only at h1 ⊢
   rw [aO h1]
   exact kZ l E S I step X SX Y hX hY hI h hf m (j+1) _ τ1 (by omega) (hI j hlt b b' hb hs)
  |inr c=>
   rw [hs] at h1
   exact ⟨τ1,aH h1 (hX c)⟩
theorem cA {α β γ:Type} {f:Env->St->Option (bx × Env × St)} (l:List α) (E:Nat->β->Env) (S:β->St) (I:Nat->β->Prop) (step:Nat->α->β->β ⊕ γ) (X:γ->bx × Env) (SX:γ->St) (Y:β->bx × Env) (hX: ∀c,(X c).1≠ .normal) (hY: ∀b,(Y b).1≠ .normal)
 (hI: ∀i (hi:i<l.length) b b',I i b->step i l[i] b= .inl b'->I (i+1) b')
 (h: ∀i (hi:i<l.length) b τ,I i b-> ∃τ',f (E i b) (S b++τ)=some (match step i l[i] b with| .inl b'=>(.normal,E (i+1) b',S b'++τ') | .inr c=>((X c).1,(X c).2,SX c++τ')))
 (hf: ∀b τ,I l.length b-> ∃τ',f (E l.length b) (S b++τ)=some ((Y b).1,(Y b).2,S b++τ')) (b:β) (τ:St) (hb:I 0 b):
 ∃τ',aU f (E 0 b) (S b++τ)=some (match bf step l 0 b with| .inl b'=>((Y b').1,(Y b').2,S b'++τ') | .inr c=>((X c).1,(X c).2,SX c++τ')):=by
 have:=kZ l E S I step X SX Y hX hY hI h hf l.length 0 b τ (by omega) hb
 rw [List.drop_zero] at this
 exact this
theorem k7 {α β γ:Type} {f:Env->St->Option (bx × Env × St)} (l:List α) (E:Nat->β->Env) (S:β->St) (I:Nat->β->Prop) (step:Nat->α->β->β ⊕ γ) (X:γ->bx) (SX:St) (Y:β->bx × Env) (hX: ∀c,X c≠ .normal) (hY: ∀b,(Y b).1≠ .normal)
 (hI: ∀i (hi:i<l.length) b b',I i b->step i l[i] b= .inl b'->I (i+1) b')
 (h: ∀i (hi:i<l.length) b τ,I i b-> ∃τ' ev,f (E i b) (S b++τ)=some (match step i l[i] b with| .inl b'=>(.normal,E (i+1) b',S b'++τ') | .inr c=>(X c,ev,SX++τ')))
 (hf: ∀b τ,I l.length b-> ∃τ',f (E l.length b) (S b++τ)=some ((Y b).1,(Y b).2,S b++τ')):
 ∀ (m j:Nat) (b:β) (τ:St),j+m=l.length->I j b-> ∃τ' ev,aU f (E j b) (S b++τ)=some (match bf step (l.drop j) j b with| .inl b'=>((Y b').1,(Y b').2,S b'++τ') | .inr c=>(X c,ev,SX++τ'))
 |0,j,b,τ,hj,hb=>by
  obtain rfl:j=l.length:=by omega
  rw [List.drop_length]
  obtain ⟨τ',h1⟩:=hf b τ hb
  exact ⟨τ',[],aH h1 (hY b)⟩
 |m+1,j,b,τ,hj,hb=>by
  have hlt:j<l.length:=by omega
  obtain ⟨τ1,ev,h1⟩:=h j hlt b τ hb
  rw [List.drop_eq_getElem_cons hlt]
  simp only [bf]
  cases hs:step j l[j] b with
  |inl b'=>
   rw [hs] at h1
   simp only at h1 ⊢
   rw [aO h1]
   exact k7 l E S I step X SX Y hX hY hI h hf m (j+1) _ τ1 (by omega) (hI j hlt b b' hb hs)
  |inr c=>
   rw [hs] at h1
   exact ⟨τ1,ev,aH h1 (hX c)⟩
theorem gM {α β γ:Type} {f:Env->St->Option (bx × Env × St)} (l:List α) (E:Nat->β->Env) (S:β->St) (I:Nat->β->Prop) (step:Nat->α->β->β ⊕ γ) (X:γ->bx) (SX:St) (Y:β->bx × Env) (hX: ∀c,X c≠ .normal) (hY: ∀b,(Y b).1≠ .normal)
 (hI: ∀i (hi:i<l.length) b b',I i b->step i l[i] b= .inl b'->I (i+1) b')
 (h: ∀i (hi:i<l.length) b τ,I i b-> ∃τ' ev,f (E i b) (S b++τ)=some (match step i l[i] b with| .inl b'=>(.normal,E (i+1) b',S b'++τ') | .inr c=>(X c,ev,SX++τ')))
 (hf: ∀b τ,I l.length b-> ∃τ',f (E l.length b) (S b++τ)=some ((Y b).1,(Y b).2,S b++τ')) (b:β) (τ:St) (hb:I 0 b):
 ∃τ' ev,aU f (E 0 b) (S b++τ)=some (match bf step l 0 b with| .inl b'=>((Y b').1,(Y b').2,S b'++τ') | .inr c=>(X c,ev,SX++τ')):=by
 have:=k7 l E S I step X SX Y hX hY hI h hf l.length 0 b τ (by omega) hb
 rw [List.drop_zero] at this
 exact this
theorem opq {α:Type} (f:α->D) (l:List α): ∃ld:List D,l.map f=ld/\ld.length=l.length/\ ∀i (hi:i<l.length),∃h2:i<ld.length,ld[i]=f l[i]:=
 ⟨l.map f,rfl,by simp,fun i hi=>⟨by simpa using hi,by simp⟩⟩
end Go.AI
