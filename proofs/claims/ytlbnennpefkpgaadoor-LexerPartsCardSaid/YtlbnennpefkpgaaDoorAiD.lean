/- An interpreter over trees: regions, code. No conditions of its own. -/
import Derived.Test.YtlbnennpefkpgaaDoorAiC
import Derived.OrdersIn
import Derived.RangeFuncRecord
import Derived.TacticsIn
import Derived.ScopeJumps
set_option linter.unusedVariables false
set_option linter.unusedSimpArgs false
namespace Go.AI
open Go

section
variable {P : Program} {ρ : Ren} {W : World} {σ : St} {glob : Gl} {e : Env} {a : Act}

/-- How a call ends. -/
def EndR (ρ : Ren) (W : World) (σ' : St) (r : FRes) (en : Ending) (W' : World) : Prop :=
  ∃ ρ', Later ρ W ρ' W' ∧ Rel ρ' W' σ' ∧ match r, en with
    | .ret d, .returned v => R ρ' W' d v
    | .panic d, .panicked ch => ∃ v, ch = [{ v, recovered := false }] ∧ R ρ' W' d v
    | _, _ => False

/-- What code is told by. -/
def codeP (P : Program) : ACode → Code → Prop := fun ac c => ∃ (acc : Nat → Bool) (keep : Nat → Option (List Nat)), cCode P acc keep c = some ac

/-- No fence; in a round's frame, or in a function's. -/
abbrev FR (r : Option Nat) : Fence := { Fence.wide with round := r }

theorem callsIn_FR {r : Option Nat} {n : Nat} {P : Program} {f : FuncId} {args : Array Value} {w : World} {R : Ending → World → Prop} : CallsIn (FR r) n P f args w R ↔ Calls P f args w R := callsIn_wide (n := n)

def Real (P : Program) (f : FuncId) : Prop := ∃ fn, P.funcs[f]? = some fn ∧ fn.body.isNone = false ∧ (fn.name == "runtime.NumGoroutine") = false

/-- Functions without a body. -/
def NatR (P : Program) (glob : Gl) : Prop :=
  ∀ f h, glob.nat f = some h → ∀ args r, h args = some r → ∀ ρ W vs, Rs ρ W args vs → ∃ v, (callFunc f vs).run P W = .ok (.value v) W ∧ R ρ W r v

/-- Calls do what they are said to do. -/
def CallOK (P : Program) (glob : Gl) (callf : CallF) : Prop :=
  NatR P glob ∧ ∀ t args σ r σ', callf t args σ = some (r, σ') → match t with
    | .fn f => Real P f ∧ ∀ ρ W vs, Rel ρ W σ → GlobR ρ W glob → ρ.code = codeP P → Rs ρ W args vs → Calls P f vs W (EndR ρ W σ' r)
    | .round i => ∀ ρ W vs p, Rel ρ W σ → GlobR ρ W glob → ρ.code = codeP P → Rs ρ W args vs → ρ.loc i 0 = some p →
        ∃ l f tmps assign body, (Instr.yield p.blk vs).run P W = .ok (.round l f tmps assign body) W ∧ RoundIn (FR none) 0 P l f tmps assign body W (EndR ρ W σ' r)

theorem callFunc_run {f : FuncId} {fn : Func} (hf : P.funcs[f]? = some fn) (hb : fn.body.isNone = false) (hn : (fn.name == "runtime.NumGoroutine") = false) (vs : Array Value) (W : World) :
    (callFunc f vs).run P W = .ok (.enter f vs) W := by
  have h1 : program.run P W = .ok P W := rfl
  unfold callFunc
  rw [Sem.run_bind, h1]
  simp only [Result.andThen_ok, hf]
  rw [if_neg (by rw [hn]; simp), if_neg (by rw [hb]; simp)]
  rfl

theorem go_sound {callf : CallF} (hcall : CallOK P glob callf) (hR : Rel ρ W σ) (hE : RE ρ W e a.tmps) (hG : GlobR ρ W glob) (hcd : ρ.code = codeP P) {ro : Option Nat} {acc : Nat → Bool} {o : Oper} {ao : AOp} (hc : cOp P acc o = some ao)
    {sv : SV} {σ' : St} (h : stepGo callf glob ao e σ = some (sv, σ')) {K : Act → World → Prop} {Q : Exit → Act → World → Prop}
    (hK : ∀ ρ' W' v d, sv = .val d → Later ρ W ρ' W' → Rel ρ' W' σ' → R ρ' W' d v → K (a.put o.dst v) W')
    (hQ : ∀ ρ' W' v d, sv = .panic d → Later ρ W ρ' W' → Rel ρ' W' σ' → R ρ' W' d v → Q (.panic [{ v, recovered := false }]) a W') : o.wpIn (FR ro) 0 P a W K Q := by
  have hnd : ∀ c, o.op ≠ .defer c := fun c hd => by simp [cOp, hd] at hc
  refine ⟨fun _ _ => trivial, ?_⟩
  rw [Oper.semAt_eq _ _ _ hnd]
  unfold stepGo at h
  split at h
  · rename_i d σ1 hs
    cases h
    obtain ⟨ρ', W', L, hR', v, hrun, hr⟩ := stepOp_sound hR hE hG hc hs
    rw [hrun]
    exact hK ρ' W' v d rfl L hR' hr
  · rename_i σ1 hs
    cases h
    obtain ⟨ρ', W', L, hR', hrun⟩ := stepOp_sound hR hE hG hc hs
    rw [show (execOp a.eval o).run P W = .ok .skip W' from hrun]
    exact hK ρ' W' _ .undef rfl L hR' .undef
  · rename_i f args σ1 hs
    obtain ⟨ρ', W', L, hR', vs, hrun, rfl, hvs⟩ := stepOp_sound hR hE hG hc hs
    rw [hrun]
    have fin : ∀ r σ2, callf (.fn f) args σ1 = some (r, σ2) → (∀ d, r = .ret d → sv = .val d ∧ σ' = σ2) → (∀ d, r = .panic d → sv = .panic d ∧ σ' = σ2) →
        o.uponIn (FR ro) 0 P a K Q ((callFunc f vs).run P W') := by
      intro r σ2 hcf h1 h2
      obtain ⟨⟨fn, hf, hb, hn⟩, hcalls⟩ := hcall.2 (.fn f) args σ1 r σ2 hcf
      rw [callFunc_run hf hb hn]
      refine ⟨fun h => (by cases h), callsIn_FR.2 (Calls.mono (hcalls ρ' W' vs hR' (hG.later L) (L.code.trans hcd) hvs) fun en w he => ?_)⟩
      obtain ⟨ρ2, L2, hR2, hr⟩ := he
      cases r with
      | ret d =>
        obtain ⟨rfl, rfl⟩ := h1 d rfl
        cases en with
        | returned v => exact hK ρ2 w v d rfl (L.trans L2) hR2 hr
        | _ => exact hr.elim
      | panic d =>
        obtain ⟨rfl, rfl⟩ := h2 d rfl
        cases en with
        | panicked ch =>
          obtain ⟨v, rfl, hv⟩ := hr
          exact hQ ρ2 w v d rfl (L.trans L2) hR2 hv
        | _ => exact hr.elim
    split at h
    · rename_i h0 hnat
      obtain ⟨d, hd, hx⟩ := Option.map_eq_some_iff.1 h
      cases hx
      obtain ⟨v, hv, hr⟩ := hcall.1 f h0 hnat args d hd ρ' W' vs hvs
      rw [hv]
      exact hK ρ' W' v d rfl L hR' hr
    split at h
    · rename_i d σ2 hcf; cases h; exact fin _ _ hcf (fun d h => by cases h; exact ⟨rfl, rfl⟩) (fun d h => by cases h)
    · rename_i d σ2 hcf; cases h; exact fin _ _ hcf (fun d h => by cases h) (fun d h => by cases h; exact ⟨rfl, rfl⟩)
    · cases h
  · rename_i i args σ1 hs
    obtain ⟨ρ', W', L, hR', p, vs, hp, hrun, rfl, hvs⟩ := stepOp_sound hR hE hG hc hs
    rw [hrun]
    split at h
    · rename_i d σ2 hcf
      cases h
      obtain ⟨l, f, tmps, assign, body, hy, hround⟩ := hcall.2 (.round i) args σ1 (.ret d) _ hcf ρ' W' vs p hR' (hG.later L) (L.code.trans hcd) hvs hp
      rw [hy]
      refine ⟨fun h => (by cases h), hround.1, fun c cs hroom => ?_⟩
      obtain ⟨en, w, he, hc⟩ := hround.2 c cs hroom
      refine ⟨en, w, ?_, hc⟩
      obtain ⟨ρ2, L2, hR2, hr⟩ := he
      cases en with
      | returned v => exact hK ρ2 w v d rfl (L.trans L2) hR2 hr
      | _ => exact hr.elim
    · cases h
  · rename_i d σ1 hs
    cases h
    obtain ⟨ρ', W', L, hR', v, hrun, hr⟩ := stepOp_sound hR hE hG hc hs
    rw [hrun]
    exact hQ ρ' W' v d rfl L hR' hr
  · cases h

theorem cOper_some {acc : Nat → Bool} {dr : Bool} {ops : Array Oper} {o : Oper} {ao : AOper} (h : cOper P acc dr ops o = some ao) :
    cOp P acc o = some ao.op ∧ ao.dst = o.dst ∧ ao.reads = (if dr then o.looksAt ops else []) ∧
    (match o.guard with | none => ao.guard = none | some (j, want) => ∃ t, (ops[j]?).bind (·.dst) = some t ∧ ao.guard = some (t, want)) := by
  unfold cOper at h
  cases hop : cOp P acc o with
  | none => rw [hop] at h; cases h
  | some op =>
    rw [hop] at h
    simp only [Option.bind_eq_bind, Option.bind_some] at h
    split at h
    · rename_i hg
      cases h
      exact ⟨rfl, rfl, rfl, by rw [hg]⟩
    · rename_i j want hg
      cases ht : (ops[j]?).bind (·.dst) with
      | none => rw [ht] at h; cases h
      | some t =>
        rw [ht] at h
        cases h
        exact ⟨rfl, rfl, rfl, by rw [hg]; exact ⟨t, ht, rfl⟩⟩

theorem oper_sound {callf : CallF} (hcall : CallOK P glob callf) (hR : Rel ρ W σ) (hE : RE ρ W e a.tmps) (hG : GlobR ρ W glob) (hcd : ρ.code = codeP P) {ro : Option Nat} {acc : Nat → Bool} {dr : Bool} {ops : Array Oper} {o : Oper} {ao : AOper}
    (hc : cOper P acc dr ops o = some ao) {j : Nat} (hj : ops[j]? = some o)
    {sv : SV} {σ' : St} (h : stepVal callf glob ao e σ = some (sv, σ')) {K : Act → World → Prop} {Q : Exit → Act → World → Prop}
    (hK : ∀ ρ' W' v d, sv = .val d → Later ρ W ρ' W' → Rel ρ' W' σ' → R ρ' W' d v → K (a.put o.dst v) W')
    (hQ : ∀ ρ' W' v d, sv = .panic d → Later ρ W ρ' W' → Rel ρ' W' σ' → R ρ' W' d v → Q (.panic [{ v, recovered := false }]) a W') : wpOpIn (FR ro) 0 P ops Q j K a W := by
  obtain ⟨h1, h2, h3, h4⟩ := cOper_some hc
  unfold wpOpIn
  rw [hj]
  simp only
  unfold stepVal at h
  cases hg : o.guard with
  | none =>
    rw [hg] at h4
    simp only at h4
    rw [h4] at h
    rw [if_pos (by simp [Region.wanted, hg])]
    exact go_sound hcall hR hE hG hcd h1 h hK hQ
  | some gw =>
    obtain ⟨i, want⟩ := gw
    rw [hg] at h4
    obtain ⟨t, ht, hgu⟩ := h4
    rw [hgu] at h
    simp only at h
    have hv := hE t
    have hy : ∀ b, getE e t = .bool b → yielded ops a.tmps i = some b := fun b hb => by
      rw [hb] at hv
      have := hv.bool_inv
      unfold yielded
      rw [ht]
      simp only [Option.bind_some]
      cases hq : a.tmps[t]? with
      | none => simp [Array.getD_eq_getD_getElem?, hq, undef] at this
      | some x => simp [Array.getD_eq_getD_getElem?, hq] at this; rw [this]
    have hn : getE e t = .undef → yielded ops a.tmps i = none := fun hb => by
      rw [hb] at hv
      have hx : a.tmps.getD t undef = .tuple #[] := by
        generalize a.tmps.getD t undef = x at hv
        cases hv; rfl
      unfold yielded
      rw [ht]
      simp only [Option.bind_some]
      cases hq : a.tmps[t]? with
      | none => rfl
      | some x => simp [Array.getD_eq_getD_getElem?, hq] at hx; rw [hx]
    split at h
    · rename_i b hb
      split at h
      · rename_i hbw
        subst hbw
        rw [if_pos (by simp [Region.wanted, hg, hy b hb])]
        exact go_sound hcall hR hE hG hcd h1 h hK hQ
      · rename_i hbw
        cases h
        rw [if_neg (by simp [Region.wanted, hg, hy b hb, hbw])]
        exact ⟨fun _ _ => trivial, hK ρ W _ .undef rfl (.refl _ _) hR .undef⟩
    · rename_i hb
      cases h
      rw [if_neg (by simp [Region.wanted, hg, hn hb])]
      exact ⟨fun _ _ => trivial, hK ρ W _ .undef rfl (.refl _ _) hR .undef⟩
    · cases h

end
end Go.AI

namespace Go.AI
open Go

mutual
theorem D.eqb_eq : ∀ (a b : D), D.eqb a b = true → a = b
  | .bool a, b, h => by cases b <;> simp_all [D.eqb]
  | .int k n, b, h => by cases b <;> simp_all [D.eqb]
  | .str l, b, h => by cases b <;> simp_all [D.eqb]
  | .ptr i o, b, h => by cases b <;> simp_all [D.eqb]
  | .rptr i v x r, b, h => by cases b <;> simp_all [D.eqb]
  | .tptr x, b, h => by
    cases b with
    | tptr y => simp only [D.eqb] at h; rw [eqbL_eq x y h]
    | _ => simp [D.eqb] at h
  | .nilptr, b, h => by cases b <;> simp_all [D.eqb]
  | .empty, b, h => by cases b <;> simp_all [D.eqb]
  | .slice x, b, h => by
    cases b with
    | slice y => simp only [D.eqb] at h; rw [eqbL_eq x y h]
    | _ => simp [D.eqb] at h
  | .arr i v o n, b, h => by cases b <;> simp_all [D.eqb]
  | .map i, b, h => by cases b <;> simp_all [D.eqb]
  | .nilmap, b, h => by cases b <;> simp_all [D.eqb]
  | .func f x y, b, h => by
    cases b with
    | func g u v =>
      simp only [D.eqb, Bool.and_eq_true, beq_iff_eq] at h
      rw [h.1.1, eqbL_eq x u h.1.2, eqbL_eq y v h.2]
    | _ => simp [D.eqb] at h
  | .nilfunc, b, h => by cases b <;> simp_all [D.eqb]
  | .iface t v, b, h => by
    cases b with
    | iface u w =>
      simp only [D.eqb, Bool.and_eq_true, beq_iff_eq] at h
      rw [h.1, D.eqb_eq v w h.2]
    | _ => simp [D.eqb] at h
  | .niliface, b, h => by cases b <;> simp_all [D.eqb]
  | .agg x, b, h => by
    cases b with
    | agg y => simp only [D.eqb] at h; rw [eqbL_eq x y h]
    | _ => simp [D.eqb] at h
  | .tuple x, b, h => by
    cases b with
    | tuple y => simp only [D.eqb] at h; rw [eqbL_eq x y h]
    | _ => simp [D.eqb] at h
  | .undef, b, h => by cases b <;> simp_all [D.eqb]
  | .any, b, h => by simp [D.eqb] at h
theorem eqbL_eq : ∀ (a b : List D), eqbL a b = true → a = b
  | [], [], _ => rfl
  | [], _ :: _, h => by simp [eqbL] at h
  | _ :: _, [], h => by simp [eqbL] at h
  | x :: a, y :: b, h => by
    simp only [eqbL, Bool.and_eq_true] at h
    rw [D.eqb_eq x y h.1, eqbL_eq a b h.2]
end

/-! ### What comes before -/

theorem inner_bits (acc : List Nat) : ∀ (l : List Edge) (m k : Nat),
    (l.foldl (fun m e => if Region.binds .any e then m ||| 2 ^ e.on ||| acc.getD e.on 0 else m) m).testBit k = true →
    m.testBit k = true ∨ ∃ e ∈ l, Region.binds .any e = true ∧ (e.on = k ∨ (acc.getD e.on 0).testBit k = true)
  | [], m, k, h => .inl h
  | e :: l, m, k, h => by
    simp only [List.foldl_cons] at h
    rcases inner_bits acc l _ k h with h1 | ⟨e', he', hb, hr⟩
    · split at h1
      · rename_i hb
        simp only [Nat.testBit_or, Bool.or_eq_true, Nat.testBit_two_pow, decide_eq_true_eq] at h1
        rcases h1 with (h1 | h1) | h1
        · exact .inl h1
        · exact .inr ⟨e, List.mem_cons_self, hb, .inl h1⟩
        · exact .inr ⟨e, List.mem_cons_self, hb, .inr h1⟩
      · exact .inl h1
    · exact .inr ⟨e', List.mem_cons_of_mem _ he', hb, hr⟩

abbrev ancOf (acc : List Nat) (o : Oper) : Nat := o.after.toList.foldl (fun m e => if Region.binds .any e then m ||| 2 ^ e.on ||| acc.getD e.on 0 else m) 0

theorem ancs_go : ∀ (l : List Oper) (acc : List Nat),
    (l.foldl (init := acc) fun acc o => acc ++ [ancOf acc o]).length = acc.length + l.length ∧
    (∀ i, i < acc.length → (l.foldl (init := acc) fun acc o => acc ++ [ancOf acc o])[i]? = acc[i]?) ∧
    ∀ i o, l[i]? = some o → ∃ acc', (∀ k, k < acc.length + i → acc'[k]? = (l.foldl (init := acc) fun acc o => acc ++ [ancOf acc o])[k]?) ∧ acc'.length = acc.length + i ∧
      (l.foldl (init := acc) fun acc o => acc ++ [ancOf acc o])[acc.length + i]? = some (ancOf acc' o)
  | [], acc => ⟨rfl, fun _ _ => rfl, fun i o h => by simp at h⟩
  | o :: l, acc => by
    obtain ⟨h1, h2, h3⟩ := ancs_go l (acc ++ [ancOf acc o])
    refine ⟨?_, fun i hi => ?_, fun i o' ho => ?_⟩
    · simp only [List.foldl_cons]; rw [h1]; simp; omega
    · simp only [List.foldl_cons]; rw [h2 i (by simp; omega), List.getElem?_append_left hi]
    · simp only [List.foldl_cons]
      cases i with
      | zero =>
        simp only [List.getElem?_cons_zero, Option.some.injEq] at ho
        subst ho
        refine ⟨acc, fun k hk => ?_, rfl, ?_⟩
        · rw [h2 k (by simp; omega), List.getElem?_append_left (by omega)]
        · rw [Nat.add_zero, h2 acc.length (by simp)]; simp
      | succ i =>
        obtain ⟨acc', a1, a2, a3⟩ := h3 i o' (by simpa using ho)
        simp only [List.length_append, List.length_cons, List.length_nil] at a1 a2 a3
        exact ⟨acc', fun k hk => a1 k (by omega), by omega, by rw [show acc.length + (i + 1) = acc.length + (0 + 1) + i by omega]; exact a3⟩

theorem ancs_spec {l : List Oper} {i k : Nat} {o : Oper} (ho : l[i]? = some o) (h : ((ancs l).getD i 0).testBit k = true) :
    ∃ e ∈ o.after.toList, Region.binds .any e = true ∧ (e.on = k ∨ (e.on < i ∧ ((ancs l).getD e.on 0).testBit k = true)) := by
  obtain ⟨_, _, h3⟩ := ancs_go l []
  obtain ⟨acc', a1, a2, a3⟩ := h3 i o ho
  simp only [List.length_nil, Nat.zero_add] at a1 a2 a3
  have he : (ancs l)[i]? = some (ancOf acc' o) := a3
  rw [List.getD_eq_getElem?_getD, he] at h
  rcases inner_bits acc' _ 0 k h with h | ⟨e, he, hb, hr⟩
  · simp at h
  · refine ⟨e, he, hb, hr.imp id fun hr => ?_⟩
    have hlt : e.on < i := by
      rcases Nat.lt_or_ge e.on i with h | h
      · exact h
      · rw [List.getD_eq_getElem?_getD, List.getElem?_eq_none (by omega)] at hr; simp at hr
    refine ⟨hlt, ?_⟩
    rw [List.getD_eq_getElem?_getD, a1 _ hlt] at hr
    rw [List.getD_eq_getElem?_getD]
    exact hr

/-! ### Quiet operations -/

theorem quiet_stepOp {look : AOpd → D} {σ σ' : St} {o : AOp} {nx : Nx} (hq : o.quiet = true) (h : stepOp look σ o = some (nx, σ')) : σ' = σ := by
  cases o <;> simp only [AOp.quiet, Bool.false_eq_true] at hq <;> simp only [stepOp] at h <;>
    first
    | (cases h; rfl)
    | (obtain ⟨_, _, _, rfl⟩ := val_some h; rfl)
    | (repeat' split at h) <;> first | (cases h; done) | (cases h; rfl) | (obtain ⟨_, _, _, rfl⟩ := val_some h; rfl)

theorem enter_quiet {look : AOpd → D} {σ σ' : St} {o : AOp} {f : FuncId} {args : List D} (h : stepOp look σ o = some (.enter f args, σ')) : o.quiet = false := by
  cases o <;> first
    | rfl
    | (simp only [stepOp] at h
       first
       | (cases h; done)
       | (obtain ⟨_, _, hh, _⟩ := val_some h; cases hh)
       | (repeat' split at h) <;> first | (cases h; done) | (obtain ⟨_, _, hh, _⟩ := val_some h; cases hh))

theorem yield_quiet {look : AOpd → D} {σ σ' : St} {o : AOp} {i : Nat} {args : List D} (h : stepOp look σ o = some (.yield i args, σ')) : o.quiet = false ∧ ∀ f as, o ≠ .call (.fn f) as := by
  by_cases hc : ∃ c as, o = .call c as
  · obtain ⟨c, as, rfl⟩ := hc
    cases c with
    | fn f => cases h
    | val x => exact ⟨rfl, fun f as h => by cases h⟩
  · refine ⟨?_, fun f as h => hc ⟨_, _, h⟩⟩
    cases o <;> first
      | rfl
      | (simp only [stepOp] at h
         first
         | (cases h; done)
         | (obtain ⟨_, _, hh, _⟩ := val_some h; cases hh)
         | (repeat' split at h) <;> first | (cases h; done) | (obtain ⟨_, _, hh, _⟩ := val_some h; cases hh))

/-- What a table of known functions keeps. -/
def ExtOK (ext : FuncId → Bool) (callf : CallF) : Prop :=
  ∀ f args σ r σ', ext f = true → callf (.fn f) args σ = some (r, σ') → ∃ d, r = .ret d ∧ ((d.flat = true ∨ treeL args = true) → σ' = σ)

theorem quiet_stepVal {ext : FuncId → Bool} {callf : CallF} (hx : ExtOK ext callf) {glob : Gl} {o : AOper} {e : Env} {d : D} {σ σ' : St} (hq : quietAt ext glob o.op e d = true)
    (h : stepVal callf glob o e σ = some (.val d, σ')) : σ' = σ := by
  have key : stepGo callf glob o.op e σ = some (.val d, σ') → σ' = σ := by
    intro h
    unfold stepGo at h
    split at h
    · rename_i d' σ1 hs
      cases h
      unfold quietAt at hq
      split at hq
      · rename_i hop
        rw [hop] at hs
        simp only [stepOp] at hs
        cases hs
      · exact quiet_stepOp hq hs
    · rename_i σ1 hs
      cases h
      unfold quietAt at hq
      split at hq
      · rename_i hop
        rw [hop] at hs
        simp only [stepOp] at hs
        cases hs
      · exact quiet_stepOp hq hs
    · rename_i f args σ1 hs
      unfold quietAt at hq
      split at hq
      · rename_i g as hop
        rw [hop] at hs
        simp only [stepOp, Option.some.injEq, Prod.mk.injEq, Nx.enter.injEq] at hs
        obtain ⟨⟨rfl, rfl⟩, rfl⟩ := hs
        simp only [Bool.and_eq_true, Bool.or_eq_true] at hq
        split at h
        · obtain ⟨_, _, hx'⟩ := Option.map_eq_some_iff.1 h
          cases hx'; rfl
        rename_i hnn
        rw [hnn] at hq
        replace hq := hq.resolve_left (by simp)
        split at h
        · rename_i d' σ2 hcf
          cases h
          obtain ⟨d2, hd2, hsame⟩ := hx _ _ _ _ _ hq.1 hcf
          cases hd2
          exact hsame hq.2
        · cases h
        · cases h
      · rename_i hne
        exact absurd hq (by rw [enter_quiet hs]; simp)
    · rename_i i args σ1 hs
      obtain ⟨h1, h2⟩ := yield_quiet hs
      unfold quietAt at hq
      split at hq
      · rename_i g as hop; exact absurd hop (h2 g as)
      · rw [h1] at hq; cases hq
    · cases h
    · cases h
  unfold stepVal at h
  split at h
  · exact key h
  · split at h
    · split at h
      · exact key h
      · cases h; rfl
    · cases h; rfl
    · cases h

theorem sameAt_some {callf : CallF} {glob : Gl} {o : AOper} {e : Env} {σ : St} {d : D} (h : sameAt callf glob o e σ d = true) :
    ∃ σ', stepVal callf glob o e σ = some (.val d, σ') := by
  unfold sameAt at h
  split at h
  · rename_i d' σ' hs
    rw [D.eqb_eq _ _ h] at hs
    exact ⟨σ', hs⟩
  · cases h

end Go.AI

namespace Go.AI
open Go

structure Ctx where
  callf : CallF
  ext : FuncId → Bool
  glob : Gl
  n : Nat
  os : List AOper
  A : List Nat
  e0 : Env
  s0 : St

namespace Ctx
variable (X : Ctx)

def see (o : AOper) (e : Env) : Env := keepE (some o.reads) e
def step (o : AOper) (e : Env) (σ : St) : Option (SV × St) := stepVal X.callf X.glob o e σ

def tr : Nat → Option (Env × St)
  | 0 => some (X.e0, X.s0)
  | j + 1 => match tr j, X.os[j]? with
    | some (e, σ), some o => match X.step o (see o e) σ with
      | some (.val d, σ') => (putE X.n e o.dst d).map fun e' => (e', σ')
      | _ => none
    | _, _ => none

def E (j : Nat) : Env := ((X.tr j).getD ([], [])).1
def S (j : Nat) : St := ((X.tr j).getD ([], [])).2
def V (j : Nat) : D := match X.os[j]? with
  | some o => (match X.step o (see o (X.E j)) (X.S j) with | some (.val d, _) => d | _ => .any)
  | none => .any
def q (j : Nat) : Bool := match X.os[j]? with
  | some o => quietAt X.ext X.glob o.op (see o (X.E j)) (X.V j)
  | none => true
def bit (i k : Nat) : Bool := (X.A.getD i 0).testBit k

def Fact (i : Nat) : Prop :=
  ∃ o, X.os[i]? = some o ∧ X.step o (see o (X.E i)) (X.S i) = some (.val (X.V i), X.S (i + 1)) ∧ putE X.n (X.E i) o.dst (X.V i) = some (X.E (i + 1)) ∧
  quietAt X.ext X.glob o.op (see o (X.E i)) (X.V i) = X.q i ∧
  (X.q i = true → ∀ k, k < i → X.q k = false → X.bit i k = true ∨ sameAt X.callf X.glob o (see o (X.E i)) (X.S k) (X.V i) = true) ∧
  (X.q i = false → (∀ k, k < i → X.q k = false → X.bit i k = true) ∧
    ∀ i', i' < i → X.q i' = true → X.bit i i' = true ∨ ∃ o', X.os[i']? = some o' ∧ sameAt X.callf X.glob o' (see o' (X.E i')) (X.S (i + 1)) (X.V i') = true)

def PanicAt (m : Nat) (d : D) (σ' : St) : Prop :=
  ∃ o, X.os[m]? = some o ∧ X.step o (see o (X.E m)) (X.S m) = some (.panic d, σ') ∧ (∀ k, k < m → X.q k = false → X.bit m k = true) ∧ ∀ j, m < j → j < X.os.length → X.bit j m = true

theorem trace (hA : X.A.length = X.os.length) : ∀ (l : List AOper) (j : Nat) (done : List Done) (loud : List (Nat × St)) (e : Env) (σ : St) (r : Option D) (e' : Env) (σ' : St), l = X.os.drop j → j ≤ X.os.length → X.tr j = some (e, σ) →
    (∀ i, i < j → X.q i = true → ∃ o', X.os[i]? = some o' ∧ (i, o', see o' (X.E i), X.V i) ∈ done) → (∀ k, k < j → X.q k = false → (k, X.S k) ∈ loud) →
    runDrawn X.callf X.ext X.glob X.n j l (X.A.drop j) done loud e σ = some (r, e', σ') →
    (r = none ∧ (∀ i, j ≤ i → i < X.os.length → X.Fact i) ∧ X.tr X.os.length = some (e', σ')) ∨
    (∃ d m, r = some d ∧ j ≤ m ∧ m < X.os.length ∧ (∀ i, j ≤ i → i < m → X.Fact i) ∧ X.PanicAt m d σ')
  | [], j, done, loud, e, σ, r, e', σ', hl, hj, ht, hdone, hloud, h => by
    have hle : X.os.length ≤ j := by
      have := congrArg List.length hl
      simp at this; omega
    obtain rfl : j = X.os.length := by omega
    simp only [runDrawn, Option.some.injEq, Prod.mk.injEq] at h
    obtain ⟨rfl, rfl, rfl⟩ := h
    exact .inl ⟨rfl, fun i h1 h2 => by omega, ht⟩
  | o :: l, j, done, loud, e, σ, r, e', σ', hl, hj, ht, hdone, hloud, h => by
    have hlt : j < X.os.length := by
      have := congrArg List.length hl
      simp at this; omega
    have hoj : X.os[j]? = some o := by
      have : (X.os.drop j)[0]? = some o := by rw [← hl]; rfl
      simpa using this
    have hl' : l = X.os.drop (j + 1) := by
      have : (X.os.drop j).tail = l := by rw [← hl]; rfl
      rw [← this, List.tail_drop]
    have hEj : X.E j = e := by simp [E, ht]
    have hSj : X.S j = σ := by simp [S, ht]
    have hanc : (X.A.drop j).headD 0 = X.A.getD j 0 := by
      rw [List.getD_eq_getElem?_getD, List.headD_eq_head?_getD, List.head?_drop]
    have htail : (X.A.drop j).tail = X.A.drop (j + 1) := List.tail_drop
    simp only [runDrawn] at h
    split at h
    · rename_i d σ1 hs
      split at h
      · rename_i e1 hput
        have hstep : X.step o (see o (X.E j)) (X.S j) = some (.val d, σ1) := by rw [hEj, hSj]; exact hs
        have hV : X.V j = d := by simp [V, hoj, hstep]
        have ht1 : X.tr (j + 1) = some (e1, σ1) := by
          rw [hEj, hSj] at hstep
          simp [tr, ht, hoj, hstep, hput]
        have hE1 : X.E (j + 1) = e1 := by simp [E, ht1]
        have hS1 : X.S (j + 1) = σ1 := by simp [S, ht1]
        have hq : X.q j = quietAt X.ext X.glob o.op (see o (X.E j)) (X.V j) := by simp [q, hoj]
        have hbase : X.step o (see o (X.E j)) (X.S j) = some (.val (X.V j), X.S (j + 1)) := by rw [hV, hS1]; exact hstep
        have hputf : putE X.n (X.E j) o.dst (X.V j) = some (X.E (j + 1)) := by rw [hEj, hV, hE1]; exact hput
        have glue : X.Fact j → ((r = none ∧ (∀ i, j + 1 ≤ i → i < X.os.length → X.Fact i) ∧ X.tr X.os.length = some (e', σ')) ∨
            (∃ d m, r = some d ∧ j + 1 ≤ m ∧ m < X.os.length ∧ (∀ i, j + 1 ≤ i → i < m → X.Fact i) ∧ X.PanicAt m d σ')) →
            ((r = none ∧ (∀ i, j ≤ i → i < X.os.length → X.Fact i) ∧ X.tr X.os.length = some (e', σ')) ∨
            (∃ d m, r = some d ∧ j ≤ m ∧ m < X.os.length ∧ (∀ i, j ≤ i → i < m → X.Fact i) ∧ X.PanicAt m d σ')) := by
          rintro hf (⟨h1, h2, h3⟩ | ⟨d, m, h1, h2, h3, h4, h5⟩)
          · refine .inl ⟨h1, fun i hi hi' => ?_, h3⟩
            rcases Nat.eq_or_lt_of_le hi with rfl | hi
            · exact hf
            · exact h2 i hi hi'
          · refine .inr ⟨d, m, h1, by omega, h3, fun i hi hi' => ?_, h5⟩
            rcases Nat.eq_or_lt_of_le hi with rfl | hi
            · exact hf
            · exact h4 i hi hi'
        split at h
        · rename_i hqa
          have hqj : X.q j = true := by rw [hq, hEj, hV]; exact hqa
          split at h
          · rename_i hall
            rw [htail] at h
            have hf : X.Fact j := by
              refine ⟨o, hoj, hbase, hputf, hq.symm, fun _ k hk hqk => ?_, fun hn => by rw [hqj] at hn; cases hn⟩
              have := List.all_eq_true.1 hall _ (hloud k hk hqk)
              simp only [Bool.or_eq_true, hanc] at this
              rcases this with h1 | h1
              · exact .inl h1
              · right; rw [hEj, hV]; exact h1
            refine glue hf (trace hA l (j + 1) _ _ _ _ r e' σ' hl' (by omega) ht1 (fun i hi hqi => ?_) (fun k hk hqk => ?_) h)
            · rcases Nat.lt_or_ge i j with hlt | hge
              · obtain ⟨o', h1, h2⟩ := hdone i hlt hqi
                exact ⟨o', h1, List.mem_cons_of_mem _ h2⟩
              · obtain rfl : i = j := by omega
                refine ⟨o, hoj, ?_⟩
                rw [hEj, hV]
                exact List.mem_cons_self
            · rcases Nat.lt_or_ge k j with hlt | hge
              · exact hloud k hlt hqk
              · obtain rfl : k = j := by omega
                rw [hqj] at hqk; cases hqk
          · cases h
        · rename_i hqa
          have hqj : X.q j = false := by rw [hq, hEj, hV]; exact Bool.eq_false_iff.2 hqa
          split at h
          · rename_i hall
            rw [htail] at h
            simp only [Bool.and_eq_true] at hall
            have hf : X.Fact j := by
              refine ⟨o, hoj, hbase, hputf, hq.symm, (fun hn => by rw [hqj] at hn; cases hn), fun _ => ⟨fun k hk hqk => ?_, fun i' hi' hqi => ?_⟩⟩
              · have := List.all_eq_true.1 hall.1 _ (hloud k hk hqk)
                simp only [hanc] at this
                exact this
              · obtain ⟨o', h1, h2⟩ := hdone i' hi' hqi
                have := List.all_eq_true.1 hall.2 _ h2
                simp only [Bool.or_eq_true, hanc] at this
                rcases this with h3 | h3
                · exact .inl h3
                · right; refine ⟨o', h1, ?_⟩; rw [hS1]; exact h3
            refine glue hf (trace hA l (j + 1) _ _ _ _ r e' σ' hl' (by omega) ht1 (fun i hi hqi => ?_) (fun k hk hqk => ?_) h)
            · rcases Nat.lt_or_ge i j with hlt | hge
              · exact hdone i hlt hqi
              · obtain rfl : i = j := by omega
                rw [hqj] at hqi; cases hqi
            · rcases Nat.lt_or_ge k j with hlt | hge
              · exact List.mem_cons_of_mem _ (hloud k hlt hqk)
              · obtain rfl : k = j := by omega
                rw [hSj]
                exact List.mem_cons_self
          · cases h
      · cases h
    · rename_i d σ1 hs
      split at h
      · rename_i hall
        cases h
        simp only [Bool.and_eq_true] at hall
        refine .inr ⟨d, j, rfl, Nat.le_refl _, hlt, fun i h1 h2 => by omega, o, hoj, by rw [hEj, hSj]; exact hs, fun k hk hqk => ?_, fun i hi hi' => ?_⟩
        · have := List.all_eq_true.1 hall.1 _ (hloud k hk hqk)
          simp only [hanc] at this
          exact this
        · rw [htail] at hall
          have hm : X.A.getD i 0 ∈ X.A.drop (j + 1) := by
            rw [List.getD_eq_getElem?_getD, List.getElem?_eq_getElem (by omega : i < X.A.length)]
            have : (X.A.drop (j + 1))[i - (j + 1)]? = some X.A[i] := by
              rw [List.getElem?_drop, show j + 1 + (i - (j + 1)) = i by omega, List.getElem?_eq_getElem (by omega : i < X.A.length)]
            exact List.mem_of_getElem? this
          exact List.all_eq_true.1 hall.2 _ hm
      · cases h
    · cases h

theorem fact_get {i : Nat} (h : X.Fact i) : ∃ o, X.os[i]? = some o ∧ X.step o (see o (X.E i)) (X.S i) = some (.val (X.V i), X.S (i + 1)) := by
  obtain ⟨o, h1, h2, _⟩ := h
  exact ⟨o, h1, h2⟩

/-- A quiet operation leaves the objects. -/
theorem quiet_S (hx : ExtOK X.ext X.callf) {i : Nat} (h : X.Fact i) (hq : X.q i = true) : X.S (i + 1) = X.S i := by
  obtain ⟨o, h1, h2, h3, h4, _⟩ := h
  exact quiet_stepVal hx (by rw [h4]; exact hq) h2

theorem S_same (hx : ExtOK X.ext X.callf) {m : Nat} (hf : ∀ i, i < m → X.Fact i) : ∀ (y x : Nat), x ≤ y → y ≤ m → (∀ k, x ≤ k → k < y → X.q k = true) → X.S y = X.S x
  | 0, x, h1, _, _ => by rw [Nat.le_zero.1 h1]
  | y + 1, x, h1, h2, h3 => by
    rcases Nat.eq_or_lt_of_le h1 with rfl | h
    · rfl
    · rw [X.quiet_S hx (hf y (by omega)) (h3 y (by omega) (by omega)), S_same hx hf y x (by omega) (by omega) fun k hk hk' => h3 k hk (by omega)]

theorem putE_get {n : Nat} {e e' : Env} {dst : Option Nat} {d : D} (h : putE n e dst d = some e') (t : Nat) : getE e' t = if dst = some t then d else getE e t := by
  cases dst with
  | none => simp only [putE, Option.some.injEq] at h; subst h; simp
  | some s =>
    simp only [putE] at h
    split at h
    · simp only [Option.some.injEq] at h
      subst h
      rw [getE_setE]
      simp
    · cases h

theorem see_get (o : AOper) (e : Env) (t : Nat) : getE (see o e) t = if t ∈ o.reads then getE e t else .any := by
  unfold see keepE
  simp only
  induction o.reads with
  | nil => rfl
  | cons x l ih =>
    simp only [List.map_cons, getE, ih]
    by_cases h : x = t
    · subst h; simp
    · simp [h, Ne.symm h]

end Ctx
end Go.AI

namespace Go.AI
open Go

/-- What 'drawnOk' says. -/
theorem drawnOk_spec {ops : Array Oper} (h : drawnOk ops = true) :
    (∀ (i : Nat) (o : Oper) (e : Edge), ops[i]? = some o → e ∈ o.after → Region.binds .any e = true → e.on < i) ∧
    (∀ (i j : Nat) (o p : Oper) (d : Tmp), ops[i]? = some o → ops[j]? = some p → i ≠ j → o.dst = some d →
      p.dst ≠ some d ∧ (d ∉ p.looksAt ops ∨ ((ancs ops.toList).getD j 0).testBit i = true ∨ ((ancs ops.toList).getD i 0).testBit j = true)) := by
  unfold drawnOk at h
  simp only [Bool.and_eq_true] at h
  obtain ⟨⟨_, h1⟩, h2⟩ := h
  have mem : ∀ (i : Nat) (o : Oper), ops[i]? = some o → (o, i) ∈ ops.toList.zipIdx := fun i o ho => by
    rw [List.mem_zipIdx_iff_getElem?]
    simpa using ho
  constructor
  · intro i o e ho he hb
    have := List.all_eq_true.1 h1 _ (mem i o ho)
    simp only at this
    have := Array.all_eq_true_iff_forall_mem.1 this e he
    simpa [hb] using this
  · intro i j o p d ho hp hij hd
    have := List.all_eq_true.1 h2 _ (mem i o ho)
    have := List.all_eq_true.1 this _ (mem j p hp)
    simp only [hd, Bool.or_eq_true, beq_iff_eq, hij, false_or, Bool.and_eq_true, bne_iff_ne, ne_eq, Bool.not_eq_true'] at this
    refine ⟨this.1, ?_⟩
    rcases this.2 with (h | h) | h
    · left
      intro hm
      have : (p.looksAt ops).contains d = true := by simpa using hm
      rw [h] at this; cases this
    · exact .inr (.inl h)
    · exact .inr (.inr h)

/-- What comes before stands before in the text. -/
theorem anc_lt {ops : Array Oper} (h : drawnOk ops = true) (x : Nat) : x < ops.size → ∀ k, ((ancs ops.toList).getD x 0).testBit k = true → k < x := by
  induction x using Nat.strongRecOn with
  | _ x ih =>
    intro hx k hk
    have hox : ops[x]? = some ops[x] := Array.getElem?_eq_getElem hx
    obtain ⟨e, he, hbi, hh⟩ := ancs_spec (l := ops.toList) (i := x) (o := ops[x]) (by rw [Array.getElem?_toList]; exact hox) hk
    have hlt := (drawnOk_spec h).1 x _ e hox (Array.mem_toList_iff.1 he) hbi
    rcases hh with rfl | ⟨_, hh⟩
    · exact hlt
    · exact Nat.lt_trans (ih e.on hlt (by omega) k hh) hlt

section
variable {P : Program} (X : Ctx) {ops : Array Oper} {acc : Nat → Bool} {ρ0 : Ren} {W0 : World} {ds : List Deferred}

/-- What the region's texts have to be. -/
structure Reg (P : Program) (X : Ctx) (ops : Array Oper) (acc : Nat → Bool) : Prop where
  os : ops.toList.mapM (cOper P acc true ops) = some X.os
  A : X.A = ancs ops.toList
  ok : drawnOk ops = true
  call : CallOK P X.glob X.callf
  ext : ExtOK X.ext X.callf

variable {X}

theorem Reg.op (G : Reg P X ops acc) {i : Nat} {ao : AOper} (h : X.os[i]? = some ao) : ∃ o, ops[i]? = some o ∧ cOper P acc true ops o = some ao := by
  obtain ⟨h1, h2⟩ := mapM_some G.os
  have hi : i < ops.toList.length := by rw [← h1]; exact (List.getElem?_eq_some_iff.1 h).1
  obtain ⟨y, hy, hy'⟩ := h2 i _ (List.getElem?_eq_getElem hi)
  rw [h] at hy'
  cases hy'
  exact ⟨ops.toList[i], by rw [← Array.getElem?_toList]; exact List.getElem?_eq_getElem hi, hy⟩

theorem Reg.size (G : Reg P X ops acc) : X.os.length = ops.size := by
  rw [(mapM_some G.os).1]; simp

theorem Reg.Alen (G : Reg P X ops acc) : X.A.length = X.os.length := by
  rw [G.size, G.A]
  have := (ancs_go ops.toList []).1
  simpa [ancs] using this

/-- The temporaries along the text. -/
theorem Reg.Eval (G : Reg P X ops acc) {m : Nat} (hf : ∀ i, i < m → X.Fact i) (t : Nat) : ∀ i, i ≤ m →
    (∀ (j : Nat) (o : Oper), j < i → ops[j]? = some o → o.dst = some t → getE (X.E i) t = X.V j) ∧
    ((∀ (j : Nat) (o : Oper), j < i → ops[j]? = some o → o.dst ≠ some t) → getE (X.E i) t = getE X.e0 t)
  | 0, _ => ⟨fun j o h => by omega, fun _ => by simp [Ctx.E, Ctx.tr]⟩
  | i + 1, hi => by
    obtain ⟨h1, h2⟩ := G.Eval hf t i (by omega)
    obtain ⟨ao, hao, _, hput, _⟩ := hf i (by omega)
    obtain ⟨o, ho, hc⟩ := G.op hao
    have hdst := (cOper_some hc).2.1
    have hget := Ctx.putE_get hput t
    rw [hdst] at hget
    constructor
    · intro j p hj hp hd
      rcases Nat.eq_or_lt_of_le (Nat.le_of_lt_succ hj) with rfl | hlt
      · rw [ho] at hp; cases hp
        rw [hget, if_pos hd]
      · rw [hget, if_neg ((drawnOk_spec G.ok).2 j i p o t hp ho (by omega) hd).1]
        exact h1 j p hlt hp hd
    · intro hn
      rw [hget, if_neg (hn i o (by omega) ho)]
      exact h2 fun j p hj hp => hn j p (by omega) hp

/-- What holds between two operations, in whatever order. -/
structure Inv (P : Program) (X : Ctx) (ops : Array Oper) (ρ0 : Ren) (W0 : World) (ds : List Deferred) (m : Nat) (listed : Array Bool) (a : Act) (w : World) : Prop where
  size : listed.size = ops.size
  lt : ∀ j, listed.getD j false = true → j < m
  closed : ∀ j k, listed.getD j false = true → X.bit j k = true → listed.getD k false = true
  st : ∃ ρ p, Later ρ0 W0 ρ w ∧ Rel ρ w (X.S p) ∧ p ≤ m ∧ (∀ k, k < m → X.q k = false → (listed.getD k false = true ↔ k < p)) ∧
    (∀ (j : Nat) (o : Oper) (t : Tmp), listed.getD j false = true → ops[j]? = some o → o.dst = some t → R ρ w (X.V j) (a.tmps.getD t undef)) ∧
    (∀ t, (∀ (j : Nat) (o : Oper), listed.getD j false = true → ops[j]? = some o → o.dst ≠ some t) → R ρ w (getE X.e0 t) (a.tmps.getD t undef))
  tmps : a.tmps.size = X.n
  defers : a.defers = ds

theorem getD_set (listed : Array Bool) (i j : Nat) (hi : i < listed.size) : (listed.setIfInBounds i true).getD j false = true ↔ (j = i ∨ listed.getD j false = true) := by
  by_cases h : i = j
  · subst h; simp [hi]
  · rw [getD_set_ne false h]
    constructor
    · exact .inr
    · rintro (rfl | h1)
      · exact absurd rfl h
      · exact h1

/-- An operation that is ready has what comes before it behind it. -/
theorem Reg.anc_listed (G : Reg P X ops acc) {m : Nat} {listed : Array Bool} {a : Act} {w : World} (hI : Inv P X ops ρ0 W0 ds m listed a w) {i : Nat} (hr : i ∈ Region.ready .any ops listed) (k : Nat) (hb : X.bit i k = true) :
    listed.getD k false = true := by
  obtain ⟨_, o, ho, hall⟩ := mem_ready.1 hr
  unfold Ctx.bit at hb
  rw [G.A] at hb
  obtain ⟨e, he, hbi, h⟩ := ancs_spec (by simpa using ho) hb
  have he' : e ∈ o.after := Array.mem_toList_iff.1 he
  have := hall e he' hbi
  rcases h with rfl | ⟨_, h⟩
  · exact this
  · exact hI.closed e.on k this (by unfold Ctx.bit; rw [G.A]; exact h)

theorem ready_not {i : Nat} {listed : Array Bool} (hr : i ∈ Region.ready .any ops listed) : listed.getD i false = false ∧ i < listed.size := by
  have h := (mem_ready.1 hr).1
  have hlt : i < listed.size := by
    rcases Nat.lt_or_ge i listed.size with h' | h'
    · exact h'
    · simp [Array.getElem?_eq_none h'] at h
  refine ⟨?_, hlt⟩
  simp [hlt] at h ⊢
  exact h

/-- What an operation sees. -/
theorem Reg.sees (G : Reg P X ops acc) {m : Nat} (hf : ∀ i, i < m → X.Fact i) {listed : Array Bool} {a : Act} {w : World} (hI : Inv P X ops ρ0 W0 ds m listed a w) {i : Nat} (hr : i ∈ Region.ready .any ops listed) (him : i ≤ m)
    {o : Oper} {ao : AOper} (ho : ops[i]? = some o) (hc : cOper P acc true ops o = some ao) {ρ : Ren}
    (v1 : ∀ (j : Nat) (o : Oper) (t : Tmp), listed.getD j false = true → ops[j]? = some o → o.dst = some t → R ρ w (X.V j) (a.tmps.getD t undef))
    (v2 : ∀ t, (∀ (j : Nat) (o : Oper), listed.getD j false = true → ops[j]? = some o → o.dst ≠ some t) → R ρ w (getE X.e0 t) (a.tmps.getD t undef)) :
    RE ρ w (Ctx.see ao (X.E i)) a.tmps := by
  intro t
  rw [Ctx.see_get]
  split
  · rename_i hmem
    rw [(cOper_some hc).2.2.1, if_pos rfl] at hmem
    obtain ⟨e1, e2⟩ := G.Eval hf t i him
    have hnot := (ready_not hr).1
    by_cases hw : ∃ (j : Nat) (p : Oper), ops[j]? = some p ∧ p.dst = some t
    · obtain ⟨j, p, hp, hd⟩ := hw
      have only : ∀ (k : Nat) (p' : Oper), ops[k]? = some p' → p'.dst = some t → k = j := fun k p' hk hd' => by
        rcases Nat.decEq k j with h | h
        · exact absurd hd' ((drawnOk_spec G.ok).2 j k p p' t hp hk (Ne.symm h) hd).1
        · exact h
      have notbefore : ¬ j < i → listed.getD j false = false → R ρ w (getE (X.E i) t) (a.tmps.getD t undef) := fun hge hnl => by
        rw [e2 fun k p' hk hp' hd' => hge (only k p' hp' hd' ▸ hk)]
        exact v2 t fun k p' hk hp' hd' => by rw [only k p' hp' hd', hnl] at hk; cases hk
      by_cases hji : j = i
      · subst hji
        exact notbefore (Nat.lt_irrefl _) hnot
      · rcases ((drawnOk_spec G.ok).2 j i p o t hp ho hji hd).2 with h | h | h
        · exact absurd hmem h
        · have hl := G.anc_listed hI hr j (by unfold Ctx.bit; rw [G.A]; exact h)
          have hlt : j < i := by
            rcases Nat.lt_or_ge j i with h' | h'
            · exact h'
            · exfalso
              have := anc_lt G.ok i (Array.getElem?_eq_some_iff.1 ho).1 j h
              omega
          rw [e1 j p hlt hp hd]
          exact v1 j p t hl hp hd
        · -- i comes before j
          have hnl : listed.getD j false = false := by
            cases hq : listed.getD j false with
            | false => rfl
            | true =>
              have := hI.closed j i hq (by unfold Ctx.bit; rw [G.A]; exact h)
              rw [hnot] at this; cases this
          by_cases hlt : j < i
          · -- j is before i in the text and after it in every order: not so
            exfalso
            have := anc_lt G.ok j (Array.getElem?_eq_some_iff.1 hp).1 i h
            omega
          · exact notbefore hlt hnl
    · have hno : ∀ (j : Nat) (p : Oper), ops[j]? = some p → p.dst ≠ some t := fun j p hp hd => hw ⟨j, p, hp, hd⟩
      rw [e2 fun j p _ hp => hno j p hp]
      exact v2 t fun j p _ hp => hno j p hp
  · exact .any _

/-- The objects, as an operation finds them that is ready. -/
theorem Reg.found (G : Reg P X ops acc) {m : Nat} (hf : ∀ i, i < m → X.Fact i) {listed : Array Bool} {a : Act} {w : World} (hI : Inv P X ops ρ0 W0 ds m listed a w) {i : Nat} (hr : i ∈ Region.ready .any ops listed) (him : i ≤ m)
    {p : Nat} (hp : p ≤ m) (hloud : ∀ k, k < m → X.q k = false → (listed.getD k false = true ↔ k < p)) (hbefore : ∀ k, k < i → X.q k = false → X.bit i k = true) (hqi : i < m → X.q i = false) : X.S p = X.S i := by
  have hnot := (ready_not hr).1
  rcases Nat.le_total p i with h | h
  · refine (X.S_same G.ext hf i p h him fun k hk hk' => ?_).symm
    cases hq : X.q k with
    | true => rfl
    | false =>
      have := (hloud k (by omega) hq).1 (G.anc_listed hI hr k (hbefore k hk' hq))
      omega
  · refine X.S_same G.ext hf p i h hp fun k hk hk' => ?_
    cases hq : X.q k with
    | true => rfl
    | false =>
      have hl := (hloud k (by omega) hq).2 hk'
      rcases Nat.eq_or_lt_of_le hk with rfl | hik
      · rw [hnot] at hl; cases hl
      · obtain ⟨_, _, _, _, _, _, hB⟩ := hf k (by omega)
        have := hI.closed k i hl ((hB hq).1 i hik (hqi (by omega)))
        rw [hnot] at this; cases this

theorem Reg.one (G : Reg P X ops acc) {m : Nat} (hf : ∀ i, i < m → X.Fact i) {listed : Array Bool} {a : Act} {w : World} (hG : GlobR ρ0 W0 X.glob) (hcd : ρ0.code = codeP P) {ro : Option Nat} (hI : Inv P X ops ρ0 W0 ds m listed a w) {Q : Exit → Act → World → Prop}
    {i : Nat} (hr : i ∈ Region.ready .any ops listed) (him : i < m) : wpOpIn (FR ro) 0 P ops Q i (Inv P X ops ρ0 W0 ds m (listed.setIfInBounds i true)) a w := by
  obtain ⟨ao, hao, hstep, hput, hqa, hquiet, hloudf⟩ := hf i him
  obtain ⟨o, ho, hc⟩ := G.op hao
  obtain ⟨hnot, hsz⟩ := ready_not hr
  obtain ⟨ρ, p, L, hR, hp, hloud, v1, v2⟩ := hI.st
  have hE := G.sees hf hI hr (Nat.le_of_lt him) ho hc v1 v2
  have hdst := (cOper_some hc).2.1
  -- the value, and the objects after it
  have hval : ∃ p', p' ≤ m ∧ X.step ao (Ctx.see ao (X.E i)) (X.S p) = some (.val (X.V i), X.S p') ∧ (∀ k, k < m → X.q k = false → ((k = i ∨ listed.getD k false = true) ↔ k < p')) := by
    cases hq : X.q i with
    | false =>
      have hb := (hloudf hq).1
      refine ⟨i + 1, by omega, ?_, fun k hk hqk => ?_⟩
      · rw [G.found hf hI hr (Nat.le_of_lt him) hp hloud hb (fun _ => hq)]
        exact hstep
      · constructor
        · rintro (rfl | h)
          · omega
          · rcases Nat.lt_or_ge i k with hik | hik
            · obtain ⟨_, _, _, _, _, _, hB⟩ := hf k hk
              have := hI.closed k i h ((hB hqk).1 i hik hq)
              rw [hnot] at this; cases this
            · omega
        · intro hlt
          rcases Nat.eq_or_lt_of_le (Nat.le_of_lt_succ hlt) with rfl | h
          · exact .inl rfl
          · exact .inr (G.anc_listed hI hr k (hb k h hqk))
    | true =>
      have hq' : quietAt X.ext X.glob ao.op (Ctx.see ao (X.E i)) (X.V i) = true := by rw [hqa]; exact hq
      have hbase : X.step ao (Ctx.see ao (X.E i)) (X.S i) = some (.val (X.V i), X.S i) := by
        rw [hstep, X.quiet_S G.ext (hf i him) hq]
      have fin : ∀ y, sameAt X.callf X.glob ao (Ctx.see ao (X.E i)) (X.S y) (X.V i) = true → X.step ao (Ctx.see ao (X.E i)) (X.S y) = some (.val (X.V i), X.S y) := fun y hy => by
        obtain ⟨σ', hs⟩ := sameAt_some hy
        have := quiet_stepVal G.ext hq' hs
        rw [this] at hs
        exact hs
      have down : ∀ d y, y + d = i → p ≤ y → X.step ao (Ctx.see ao (X.E i)) (X.S y) = some (.val (X.V i), X.S y) := by
        intro d
        induction d with
        | zero => intro y hy _; rw [show y = i by omega]; exact hbase
        | succ d ih =>
          intro y hy hpy
          cases hqy : X.q y with
          | true =>
            have h1 := ih (y + 1) (by omega) (by omega)
            rw [X.quiet_S G.ext (hf y (by omega)) hqy] at h1
            exact h1
          | false =>
            rcases hquiet hq y (by omega) hqy with hb | hsame
            · have := (hloud y (by omega) hqy).1 (G.anc_listed hI hr y hb)
              omega
            · exact fin y hsame
      have up : ∀ d, i + 1 + d ≤ p → X.step ao (Ctx.see ao (X.E i)) (X.S (i + 1 + d)) = some (.val (X.V i), X.S (i + 1 + d)) := by
        intro d
        induction d with
        | zero => intro _; rw [Nat.add_zero, X.quiet_S G.ext (hf i him) hq]; exact hbase
        | succ d ih =>
          intro hle
          have h1 := ih (by omega)
          cases hqy : X.q (i + 1 + d) with
          | true =>
            rw [show i + 1 + (d + 1) = i + 1 + d + 1 by omega, X.quiet_S G.ext (hf (i + 1 + d) (by omega)) hqy]
            exact h1
          | false =>
            obtain ⟨_, _, _, _, _, _, hB⟩ := hf (i + 1 + d) (by omega)
            have hl := (hloud (i + 1 + d) (by omega) hqy).2 (by omega)
            rcases (hB hqy).2 i (by omega) hq with hb | ⟨o', ho', hsame⟩
            · have := hI.closed _ i hl hb
              rw [hnot] at this; cases this
            · rw [hao] at ho'; cases ho'
              exact fin _ hsame
      refine ⟨p, hp, ?_, fun k hk hqk => ?_⟩
      · rcases Nat.le_total p i with h | h
        · exact down (i - p) p (by omega) (Nat.le_refl _)
        · rcases Nat.eq_or_lt_of_le h with rfl | h
          · exact hbase
          · have := up (p - (i + 1)) (by omega)
            rw [show i + 1 + (p - (i + 1)) = p by omega] at this
            exact this
      · rw [← hloud k hk hqk]
        constructor
        · rintro (rfl | h)
          · rw [hq] at hqk; cases hqk
          · exact h
        · exact .inr
  obtain ⟨p', hp', hval, hloud'⟩ := hval
  refine oper_sound G.call hR hE (hG.later L) (L.code.trans hcd) hc ho hval (fun ρ' W' v d hd L' hR' hr' => ?_) (fun ρ' W' v d hd => by cases hd)
  cases hd
  refine ⟨by simpa using hI.size, fun j hj => ?_, fun j k hj hb => ?_, ⟨ρ', p', L.trans L', hR', hp', fun k hk hqk => ?_, fun j o' t hj ho' hd' => ?_, fun t ht => ?_⟩, ?_, ?_⟩
  · rcases (getD_set listed i j hsz).1 hj with rfl | h
    · exact him
    · exact hI.lt j h
  · refine (getD_set listed i k hsz).2 (.inr ?_)
    rcases (getD_set listed i j hsz).1 hj with rfl | h
    · exact G.anc_listed hI hr k hb
    · exact hI.closed j k h hb
  · rw [getD_set listed i k hsz]; exact hloud' k hk hqk
  · rcases (getD_set listed i j hsz).1 hj with rfl | h
    · rw [ho] at ho'; cases ho'
      have hlt : t < a.tmps.size := by
        rw [hI.tmps]
        rw [hdst, hd'] at hput
        simp only [putE] at hput
        split at hput
        · assumption
        · cases hput
      have : (a.put o.dst v).tmps.getD t undef = v := by
        simp [Act.put, hd', Array.getD_eq_getD_getElem?, hlt]
      rw [this]; exact hr'
    · have hne : o.dst ≠ some t := by
        intro hdo
        by_cases hji : j = i
        · subst hji; rw [hnot] at h; cases h
        · exact ((drawnOk_spec G.ok).2 j i o' o t ho' ho hji hd').1 hdo
      have : (a.put o.dst v).tmps.getD t undef = a.tmps.getD t undef := by
        cases hd2 : o.dst with
        | none => rfl
        | some s =>
          have : s ≠ t := fun h => hne (by rw [hd2, h])
          simp [Act.put, Array.getD_eq_getD_getElem?, this]
      rw [this]; exact (v1 j o' t h ho' hd').later L'
  · have hne : o.dst ≠ some t := ht i o ((getD_set listed i i hsz).2 (.inl rfl)) ho
    have : (a.put o.dst v).tmps.getD t undef = a.tmps.getD t undef := by
      cases hd2 : o.dst with
      | none => rfl
      | some s =>
        have : s ≠ t := fun h => hne (by rw [hd2, h])
        simp [Act.put, Array.getD_eq_getD_getElem?, this]
    rw [this]
    exact (v2 t fun j o' hj ho' => ht j o' ((getD_set listed i j hsz).2 (.inr hj)) ho').later L'
  · cases o.dst <;> simp [Act.put, hI.tmps]
  · cases o.dst <;> simp [Act.put, hI.defers]

theorem all_listed (hd : drawnOk ops = true) {listed : Array Bool} (hsize : listed.size = ops.size) (h : Region.ready .any ops listed = []) (j : Nat) : j < ops.size → listed.getD j false = true := by
  induction j using Nat.strongRecOn with
  | _ j ih =>
    intro hj
    cases hl : listed.getD j false with
    | true => rfl
    | false =>
      have : j ∈ Region.ready .any ops listed := by
        rw [mem_ready]
        refine ⟨?_, ops[j], Array.getElem?_eq_getElem hj, fun e he hb => ?_⟩
        · have hlt : j < listed.size := by omega
          simp [hlt] at hl ⊢
          exact hl
        · have hlt := (drawnOk_spec hd).1 j _ e (Array.getElem?_eq_getElem hj) he hb
          exact ih e.on hlt (by omega)
      rw [h] at this; cases this

theorem count_set {listed : Array Bool} {i : Nat} (hi : i < listed.size) (h : listed.getD i false = false) :
    (listed.setIfInBounds i true).toList.countP (!·) + 1 = listed.toList.countP (!·) := by
  obtain ⟨l⟩ := listed
  simp only [List.size_toArray] at hi
  have hg : l[i] = false := by simpa [hi] using h
  simp only [List.setIfInBounds_toArray]
  have hp : 0 < l.countP (!·) := List.countP_pos_iff.2 ⟨l[i], List.getElem_mem hi, by simp [hg]⟩
  rw [List.countP_set hi]
  simp [hg]
  omega

/-- All orders. -/
theorem Reg.all (G : Reg P X ops acc) {r : Option D} {e' : Env} {σ' : St} (hG : GlobR ρ0 W0 X.glob) (hcd : ρ0.code = codeP P) {ro : Option Nat}
    (hrun : runDrawn X.callf X.ext X.glob X.n 0 X.os X.A [] [] X.e0 X.s0 = some (r, e', σ')) {Q : Exit → Act → World → Prop}
    (hK : r = none → ∀ ρ' W' a', Later ρ0 W0 ρ' W' → Rel ρ' W' σ' → RE ρ' W' e' a'.tmps → a'.tmps.size = X.n → a'.defers = ds → Q .normal a' W')
    (hQ : ∀ d, r = some d → ∀ ρ' W' a' v, Later ρ0 W0 ρ' W' → Rel ρ' W' σ' → R ρ' W' d v → a'.tmps.size = X.n → a'.defers = ds → Q (.panic [{ v, recovered := false }]) a' W')
    {a : Act} {w : World} (L : Later ρ0 W0 ρ0 w) (hR : Rel ρ0 w X.s0) (hE : RE ρ0 w X.e0 a.tmps) (hn : a.tmps.size = X.n) (hdf : a.defers = ds) :
    wpAnyIn (FR ro) 0 P .any ops Q ops.size (Array.replicate ops.size false) a w := by
  have ht := X.trace G.Alen X.os 0 [] [] X.e0 X.s0 r e' σ' rfl (Nat.zero_le _) rfl (fun i h => by omega) (fun i h => by omega) hrun
  -- one statement for both ends
  obtain ⟨m, hm, hf, hend⟩ : ∃ m, m ≤ X.os.length ∧ (∀ i, i < m → X.Fact i) ∧ ((m = X.os.length ∧ r = none ∧ X.tr m = some (e', σ')) ∨ (∃ d, r = some d ∧ m < X.os.length ∧ X.PanicAt m d σ')) := by
    rcases ht with ⟨h1, h2, h3⟩ | ⟨d, m, h1, _, h3, h4, h5⟩
    · exact ⟨X.os.length, Nat.le_refl _, fun i hi => h2 i (Nat.zero_le _) hi, .inl ⟨rfl, h1, h3⟩⟩
    · exact ⟨m, Nat.le_of_lt h3, fun i hi => h4 i (Nat.zero_le _) hi, .inr ⟨d, h1, h3, h5⟩⟩
  have hI0 : Inv P X ops ρ0 W0 ds m (Array.replicate ops.size false) a w := by
    have no : ∀ j, (Array.replicate ops.size false).getD j false = false := fun j => by
      simp [Array.getD_eq_getD_getElem?, Array.getElem?_replicate]
      split <;> rfl
    refine ⟨by simp, fun j h => (by rw [no] at h; cases h), fun j k h => (by rw [no] at h; cases h), ⟨ρ0, 0, L, by simpa [Ctx.S, Ctx.tr] using hR, Nat.zero_le _, fun k _ _ => ⟨fun h => (by rw [no] at h; cases h), fun h => by omega⟩,
      fun j o t h => (by rw [no] at h; cases h), fun t _ => hE t⟩, hn, hdf⟩
  have main : ∀ fuel listed a w, Inv P X ops ρ0 W0 ds m listed a w → listed.toList.countP (!·) ≤ fuel → wpAnyIn (FR ro) 0 P .any ops Q fuel listed a w := by
    have stop : ∀ listed a w, Inv P X ops ρ0 W0 ds m listed a w → Region.ready .any ops listed = [] → Q .normal a w := by
      intro listed a w hI hr
      have hall := all_listed G.ok hI.size hr
      obtain ⟨ρ, p, L', hR', hp, hloud, v1, v2⟩ := hI.st
      rcases hend with ⟨rfl, hr0, htr⟩ | ⟨d, _, hlt, _⟩
      · refine hK hr0 ρ w a L' ?_ (fun t => ?_) hI.tmps hI.defers
        · have : X.S X.os.length = σ' := by simp [Ctx.S, htr]
          rw [← this]
          rw [X.S_same G.ext hf X.os.length p hp (Nat.le_refl _) fun k hk hk' => ?_]
          · exact hR'
          · cases hq : X.q k with
            | true => rfl
            | false =>
              have := (hloud k hk' hq).1 (hall k (by rw [← G.size]; exact hk'))
              omega
        · obtain ⟨e1, e2⟩ := G.Eval hf t X.os.length (Nat.le_refl _)
          have hEe : X.E X.os.length = e' := by simp [Ctx.E, htr]
          rw [hEe] at e1 e2
          by_cases hw : ∃ (j : Nat) (p : Oper), ops[j]? = some p ∧ p.dst = some t
          · obtain ⟨j, p, hp', hd⟩ := hw
            have hj : j < ops.size := (Array.getElem?_eq_some_iff.1 hp').1
            rw [e1 j p (by rw [G.size]; exact hj) hp' hd]
            exact v1 j p t (hall j hj) hp' hd
          · have hno : ∀ (j : Nat) (p : Oper), ops[j]? = some p → p.dst ≠ some t := fun j p hp hd => hw ⟨j, p, hp, hd⟩
            rw [e2 fun j p _ hp => hno j p hp]
            exact v2 t fun j p _ hp => hno j p hp
      · have := hI.lt m (hall m (by rw [← G.size]; exact hlt))
        omega
    intro fuel
    induction fuel with
    | zero =>
      intro listed a w hI hc
      have hr : Region.ready .any ops listed = [] := by
        cases hrr : Region.ready .any ops listed with
        | nil => rfl
        | cons i l =>
          obtain ⟨h1, h2⟩ := ready_not (i := i) (listed := listed) (ops := ops) (by rw [hrr]; exact List.mem_cons_self)
          have := count_set h2 h1
          omega
      exact ⟨hr, stop listed a w hI hr⟩
    | succ fuel ih =>
      intro listed a w hI hc
      refine ⟨fun hr => stop listed a w hI hr, fun i hr => ?_⟩
      obtain ⟨hnot, hsz⟩ := ready_not hr
      have hcnt := count_set hsz hnot
      rcases Nat.lt_trichotomy i m with him | rfl | him
      · exact wpOpIn_mono (fun a' w' hI' => ih _ a' w' hI' (by omega)) (G.one (Q := Q) hf hG hcd hI hr him)
      · -- the one that panics
        rcases hend with ⟨h1, _, _⟩ | ⟨d, hr0, hlt, o', ho', hs, hb, _⟩
        · have : i < ops.size := by rw [← hI.size]; exact hsz
          rw [← G.size] at this
          omega
        · obtain ⟨o, ho, hc'⟩ := G.op ho'
          obtain ⟨ρ, p, L', hR', hp, hloud, v1, v2⟩ := hI.st
          have hE' := G.sees hf hI hr (Nat.le_refl _) ho hc' v1 v2
          have hsame := G.found hf hI hr (Nat.le_refl _) hp hloud hb (fun h => absurd h (Nat.lt_irrefl _))
          rw [← hsame] at hs
          refine oper_sound G.call hR' hE' (hG.later L') (L'.code.trans hcd) hc' ho hs (fun ρ' W' v d' hd => by cases hd) (fun ρ' W' v d' hd L2 hR2 hr2 => ?_)
          cases hd
          exact hQ d hr0 ρ' W' a v (L'.trans L2) hR2 hr2 hI.tmps hI.defers
      · rcases hend with ⟨h1, _, _⟩ | ⟨d, hr0, hlt, o', ho', hs, hb, hafter⟩
        · have : i < ops.size := by rw [← hI.size]; exact hsz
          rw [← G.size] at this
          omega
        · have : i < ops.size := by rw [← hI.size]; exact hsz
          rw [← G.size] at this
          have := hI.lt m (G.anc_listed hI hr m (hafter i him this))
          omega
  exact main ops.size _ a w hI0 (by
    refine Nat.le_trans (List.countP_le_length) ?_
    simp)

end
end Go.AI

namespace Go.AI
open Go

section
variable {F : Fence} {n : Nat} {P : Program} {Q : Exit → Act → World → Prop}

/-- A loop, by its rounds. -/
theorem wpIn_loop_rounds {c : Code} (I : Nat → Act → World → Prop) {k0 : Nat} {a : Act} {w : World} (h₀ : I k0 a w)
    (round : ∀ j a w, I j a w → c.wpIn F n P (Exit.then (fun a' w' => ∃ j', j' < j ∧ I j' a' w') Q) a w) : (Code.loop c).wpIn F n P Q a w := by
  intro b k cs hro hb hr
  have key : ∀ j a w, I j a w → ∃ e a' w', Q e a' w' ∧ ArrivesIn (Machine.fenced P F) P (lone (b.atR a (.code c :: .inLoop c :: k)) cs w) b k cs e a' w' := by
    intro j
    induction j using Nat.strongRecOn with
    | _ j ih =>
      intro a w hI
      obtain ⟨e, a₁, w₁, hq, harr⟩ := round j a w hI b (.inLoop c :: k) cs hro hb hr
      cases e with
      | normal =>
        obtain ⟨j', hlt, hI₁⟩ := hq
        obtain ⟨e₂, a₂, w₂, hq₂, harr₂⟩ := ih j' hlt a₁ w₁ hI₁
        exact ⟨e₂, a₂, w₂, hq₂, .of_steps (StepsIn.trans harr (.one (fenced_calm hb hr rfl) stepR_inLoop)) harr₂⟩
      | exit id => exact ⟨_, a₁, w₁, hq, .pass (x := .inLoop c) rfl (fun _ _ => .inl (by simp)) harr⟩
      | goto l => exact ⟨_, a₁, w₁, hq, .pass (x := .inLoop c) rfl (fun _ _ => .inl (by simp)) harr⟩
      | ret => exact ⟨_, a₁, w₁, hq, .pass (x := .inLoop c) rfl (fun _ _ => .inl (by simp)) harr⟩
      | panic ch => exact ⟨_, a₁, w₁, hq, .pass (x := .inLoop c) rfl (fun _ _ => .inl (by simp)) harr⟩
      | outgrown => exact ⟨_, a₁, w₁, hq, .pass (x := .inLoop c) rfl (fun _ _ => .inl (by simp)) harr⟩
  obtain ⟨e, a', w', hq, harr⟩ := key k0 a w h₀
  exact ⟨e, a', w', hq, .of_steps (.one (fenced_calm hb hr rfl) stepR_loop) harr⟩

theorem stepR_scope {b : Frame} {a : Act} {k : List Item} {cs : List Frame} {w : World} {c : Code} : step P (lone (b.atR a (.code (.scope c) :: k)) cs w) = .next (lone (b.atR a (.code c :: .inScope c :: k)) cs w) :=
  step_lone_go (by simp [stepG, stepG.exec, Frame.atR])
theorem stepR_inScope {b : Frame} {a : Act} {k : List Item} {cs : List Frame} {w : World} {c : Code} : step P (lone (b.atR a (.inScope c :: k)) cs w) = .next (lone (b.atR a k) cs w) :=
  step_lone_go (by simp [stepG, stepG.exec, Frame.atR])

/-- Out of a scope, but for jumps to its labels. -/
theorem leave_scope {c : Code} {b : Frame} {k : List Item} {cs : List Frame} {m : Machine} {e : Exit} {a : Act} {w : World} (hb : F.fn b.fn) (hr : F.room (cs.length + 1 + n)) (he : ∀ l, e ≠ .goto l)
    (h : ArrivesIn (Machine.fenced P F) P m b (.inScope c :: k) cs e a w) : ArrivesIn (Machine.fenced P F) P m b k cs e a w := by
  cases e with
  | normal => exact StepsIn.trans h (.one (fenced_calm hb hr rfl) stepR_inScope)
  | exit id =>
    have hx : exitTo id (.inScope c :: k) = exitTo id k := by simp [exitTo]
    exact ⟨fun k' hk => h.1 k' (by rw [hx]; exact hk), fun hr' hk => h.2 hr' (by rw [hx]; exact hk)⟩
  | goto l => exact absurd rfl (he l)
  | ret => exact h
  | panic ch => exact h
  | outgrown => exact h

theorem wpIn_scope_straight {c : Code} {a : Act} {w : World} (h : c.wpIn F n P (Exit.noGoto Q) a w) : (Code.scope c).wpIn F n P Q a w := by
  intro b k cs hro hb hr
  obtain ⟨e, a₁, w₁, hq, harr⟩ := h b (.inScope c :: k) cs hro hb hr
  have h1 : ∀ l, e ≠ .goto l := fun l hl => by subst hl; exact hq
  refine ⟨e, a₁, w₁, ?_, .of_steps (.one (fenced_calm hb hr rfl) stepR_scope) (leave_scope hb hr h1 harr)⟩
  cases e <;> first | exact hq | exact absurd rfl (h1 _)

/-- A scope in which jumps go to one label, by its passes. -/
theorem wpIn_scope_passes {c rest : Code} (l : Nat) (J : Nat → Act → World → Prop) {a : Act} {w : World} (hf : findLabel c l = some rest)
    (first : c.wpIn F n P (Exit.jump l (fun a' w' => ∃ j, J j a' w') Q) a w)
    (pass : ∀ j a w, J j a w → rest.wpIn F n P (Exit.jump l (fun a' w' => ∃ j', j' < j ∧ J j' a' w') Q) a w) : (Code.scope c).wpIn F n P Q a w := by
  intro b k cs hro hb hr
  have hg : gotoIn l (.inScope c :: k) = some (.code rest :: .inScope c :: k) := by simp [gotoIn, hf]
  have key : ∀ j a w, J j a w → ∃ e a' w', Q e a' w' ∧ ArrivesIn (Machine.fenced P F) P (lone (b.atR a (.code rest :: .inScope c :: k)) cs w) b k cs e a' w' := by
    intro j
    induction j using Nat.strongRecOn with
    | _ j ih =>
      intro a w hJ
      obtain ⟨e, a₁, w₁, hq, harr⟩ := pass j a w hJ b (.inScope c :: k) cs hro hb hr
      by_cases hgo : ∃ l', e = .goto l'
      · obtain ⟨l', rfl⟩ := hgo
        obtain ⟨rfl, j', hlt, hJ'⟩ := hq
        obtain ⟨e₂, a₂, w₂, hq₂, harr₂⟩ := ih j' hlt a₁ w₁ hJ'
        exact ⟨e₂, a₂, w₂, hq₂, .of_steps (harr.1 _ hg) harr₂⟩
      · have h1 : ∀ l, e ≠ .goto l := fun l hl => hgo ⟨l, hl⟩
        refine ⟨e, a₁, w₁, ?_, leave_scope hb hr h1 harr⟩
        cases e <;> first | exact hq | exact absurd rfl (h1 _)
  obtain ⟨e, a₁, w₁, hq, harr⟩ := first b (.inScope c :: k) cs hro hb hr
  by_cases hgo : ∃ l', e = .goto l'
  · obtain ⟨l', rfl⟩ := hgo
    obtain ⟨rfl, j, hJ'⟩ := hq
    obtain ⟨e₂, a₂, w₂, hq₂, harr₂⟩ := key j a₁ w₁ hJ'
    exact ⟨e₂, a₂, w₂, hq₂, .of_steps (.head (fenced_calm hb hr rfl) stepR_scope (harr.1 _ hg)) harr₂⟩
  · have h1 : ∀ l, e ≠ .goto l := fun l hl => hgo ⟨l, hl⟩
    refine ⟨e, a₁, w₁, ?_, .of_steps (.one (fenced_calm hb hr rfl) stepR_scope) (leave_scope hb hr h1 harr)⟩
    cases e <;> first | exact hq | exact absurd rfl (h1 _)

end

/-- The marks of loops over functions among the deferred calls. -/
def DefR (ρ : Ren) (W : World) (base : Nat) (ds : List Deferred) : Prop :=
  ∃ Ds : List Nat, Ds.Nodup ∧ ds = Ds.map (fun D => { target := .collected D, args := #[] }) ∧
    ∀ D ∈ Ds, base ≤ D ∧ D < W.heap.size ∧ W.heap[D]? = some (.deferred (some [])) ∧ (∀ i v p, ρ.loc i v = some p → p.blk ≠ D) ∧ ¬ρ.fix D

theorem DefR.nil (ρ : Ren) (W : World) (base : Nat) : DefR ρ W base [] := ⟨[], List.nodup_nil, rfl, fun D h => by cases h⟩

theorem DefR.later {ρ ρ' : Ren} {W W' : World} {base : Nat} {ds : List Deferred} (L : Later ρ W ρ' W') (h : DefR ρ W base ds) : DefR ρ' W' base ds := by
  obtain ⟨Ds, h1, h2, h3⟩ := h
  refine ⟨Ds, h1, h2, fun D hD => ?_⟩
  obtain ⟨a, b, c, d, e⟩ := h3 D hD
  refine ⟨a, Nat.lt_of_lt_of_le b L.size, (L.own D b d).trans c, fun i v p hp he => ?_, fun hf => ?_⟩
  · rcases L.new i v p hp with ⟨j, u, q, hq, he'⟩ | hge
    · exact d j u q hq (he'.trans he)
    · omega
  · rcases L.fixnew D hf with hf | ⟨j, u, q, hq, he'⟩ | hge
    · exact e hf
    · exact d j u q hq he'
    · omega

/-- How code ends. -/
def PostR (n base : Nat) (ρ : Ren) (W : World) (x : AExit) (e : Env) (σ : St) : Exit → Act → World → Prop := fun ex a w =>
  ∃ ρ', Later ρ W ρ' w ∧ Rel ρ' w σ ∧ a.tmps.size = n ∧ DefR ρ' w base a.defers ∧ match x, ex with
    | .normal, .normal => RE ρ' w e a.tmps
    | .exit i, .exit j => j = i ∧ RE ρ' w e a.tmps
    | .goto i, .goto j => j = i ∧ RE ρ' w e a.tmps
    | .ret, .ret => RE ρ' w e a.tmps
    | .panic d, .panic ch => ∃ v, ch = [{ v, recovered := false }] ∧ R ρ' w d v
    | _, _ => False

theorem PostR.later {n base : Nat} {ρ ρ' : Ren} {W W' : World} {x : AExit} {e : Env} {σ : St} {ex : Exit} {a : Act} {w : World} (L : Later ρ W ρ' W') (h : PostR n base ρ' W' x e σ ex a w) : PostR n base ρ W x e σ ex a w := by
  obtain ⟨ρ2, L2, h⟩ := h
  exact ⟨ρ2, L.trans L2, h⟩

theorem aFind_none {P : Program} {acc : Nat → Bool} {keep : Nat → Option (List Nat)} : ∀ (c : Code) (ac : ACode) (l : Nat) (rest : Code), cCode P acc keep c = some ac → findLabel c l = some rest → ∃ ar, aFind ac l = some ar
  | .seq a b, ac, l, rest, hc, hf => by
    simp only [cCode, Option.bind_eq_bind, Option.pure_def, Option.bind_eq_some_iff, Option.some.injEq] at hc
    obtain ⟨aa, ha, ab, hb, rfl⟩ := hc
    simp only [findLabel] at hf
    simp only [aFind]
    split at hf
    · rename_i r hr
      obtain ⟨ar, h⟩ := aFind_none a aa l r ha hr
      rw [h]; exact ⟨_, rfl⟩
    · obtain ⟨ar, h⟩ := aFind_none b ab l rest hb hf
      rw [h]
      cases aFind aa l with
      | none => exact ⟨_, rfl⟩
      | some r => exact ⟨_, rfl⟩
  | .label l', ac, l, rest, hc, hf => by
    simp only [cCode, Option.some.injEq] at hc
    subst hc
    simp only [findLabel] at hf
    split at hf
    · rename_i h
      exact ⟨.skip, by simp [aFind, h]⟩
    · cases hf
  | .skip, _, _, _, _, hf | .region .., _, _, _, _, hf | .cond .., _, _, _, _, hf | .block .., _, _, _, _, hf | .loop .., _, _, _, _, hf | .exit .., _, _, _, _, hf
  | .goto .., _, _, _, _, hf | .ret, _, _, _, _, hf | .scope .., _, _, _, _, hf | .rangeFunc .., _, _, _, _, hf | .refuse .., _, _, _, _, hf => by simp [findLabel] at hf

/-- After a label, compiled. -/
theorem aFind_sound {P : Program} {acc : Nat → Bool} {keep : Nat → Option (List Nat)} : ∀ (c : Code) (ac : ACode) (l : Nat) (ar : ACode), cCode P acc keep c = some ac → aFind ac l = some ar →
    ∃ rest, findLabel c l = some rest ∧ cCode P acc keep rest = some ar ∧ SizeOf.sizeOf rest ≤ SizeOf.sizeOf c
  | .seq a b, ac, l, ar, hc, hf => by
    simp only [cCode, Option.bind_eq_bind, Option.pure_def, Option.bind_eq_some_iff, Option.some.injEq] at hc
    obtain ⟨aa, ha, ab, hb, rfl⟩ := hc
    simp only [aFind] at hf
    split at hf
    · rename_i r hr
      cases hf
      obtain ⟨rest, h1, h2, h3⟩ := aFind_sound a aa l r ha hr
      exact ⟨.seq rest b, by simp [findLabel, h1], by simp [cCode, h2, hb], by simp; omega⟩
    · rename_i hr
      obtain ⟨rest, h1, h2, h3⟩ := aFind_sound b ab l ar hb hf
      have hn : findLabel a l = none := by
        cases hq : findLabel a l with
        | none => rfl
        | some x =>
          obtain ⟨_, h⟩ := aFind_none a aa l x ha hq
          rw [hr] at h; cases h
      exact ⟨rest, by simp [findLabel, hn, h1], h2, by simp; omega⟩
  | .label l', ac, l, ar, hc, hf => by
    simp only [cCode, Option.some.injEq] at hc
    subst hc
    simp only [aFind] at hf
    split at hf
    · rename_i h
      cases hf
      exact ⟨.skip, by simp [findLabel, h], rfl, by simp⟩
    · cases hf
  | .skip, ac, l, ar, hc, hf => by simp only [cCode, Option.some.injEq] at hc; subst hc; cases hf
  | .region id ops draw, ac, l, ar, hc, hf => by
    simp only [cCode, Option.bind_eq_bind, Option.bind_eq_some_iff] at hc
    obtain ⟨os, _, hc⟩ := hc
    split at hc
    · split at hc
      · cases hc; cases hf
      · cases hc
    · cases hc; cases hf
  | .cond c a b, ac, l, ar, hc, hf => by
    simp only [cCode, Option.bind_eq_bind, Option.pure_def, Option.bind_eq_some_iff, Option.some.injEq] at hc
    obtain ⟨_, _, _, _, _, _, rfl⟩ := hc
    cases hf
  | .block id b, ac, l, ar, hc, hf => by
    simp only [cCode, Option.bind_eq_bind, Option.pure_def, Option.bind_eq_some_iff, Option.some.injEq] at hc
    obtain ⟨_, _, rfl⟩ := hc
    cases hf
  | .loop b, ac, l, ar, hc, hf => by
    simp only [cCode, Option.bind_eq_bind, Option.pure_def, Option.bind_eq_some_iff, Option.some.injEq] at hc
    obtain ⟨_, _, rfl⟩ := hc
    cases hf
  | .exit id, ac, l, ar, hc, hf => by simp only [cCode, Option.some.injEq] at hc; subst hc; cases hf
  | .goto id, ac, l, ar, hc, hf => by simp only [cCode, Option.some.injEq] at hc; subst hc; cases hf
  | .ret, ac, l, ar, hc, hf => by simp only [cCode, Option.some.injEq] at hc; subst hc; cases hf
  | .scope b, ac, l, ar, hc, hf => by
    simp only [cCode, Option.bind_eq_bind, Option.pure_def, Option.bind_eq_some_iff, Option.some.injEq] at hc
    obtain ⟨_, _, rfl⟩ := hc
    cases hf
  | .rangeFunc .., ac, l, ar, hc, hf => by
    simp only [cCode, Option.bind_eq_bind, Option.pure_def, Option.bind_eq_some_iff, Option.some.injEq] at hc
    obtain ⟨_, _, _, _, _, _, rfl⟩ := hc
    cases hf
  | .refuse _, ac, l, ar, hc, hf => by simp [cCode] at hc


section
variable {P : Program} {callf : CallF} {ext : FuncId → Bool} {glob : Gl} {n k base : Nat} {inR : Bool} {ro : Option Nat} {acc : Nat → Bool} {keep : Nat → Option (List Nat)}

/-- A loop over a function is opened: a block for its deferred calls, and its record. -/
theorem openLoop {ρ : Ren} {W : World} {σ : St} (hR : Rel ρ W σ) {n : Nat} {e : Env} {tmps : Array Value} (hE : RE ρ W e tmps) (hn : tmps.size = n) {ps : Array Tmp} {as bd : Code} {aas abd : ACode} (h1 : ρ.code aas as) (h2 : ρ.code abd bd) (fn : FuncId) :
    ∃ (ρ' : Ren) (p : Pl), p.blk = W.heap.size + 1 ∧ ρ'.loc σ.length 0 = some p ∧
      Later ρ W ρ' ((W.alloc (.deferred (some []))).alloc (.loop { state := .ready, pending := none, fn, tmps, params := ps, assign := as, body := bd, defers := W.heap.size })) ∧
      Rel ρ' ((W.alloc (.deferred (some []))).alloc (.loop { state := .ready, pending := none, fn, tmps, params := ps, assign := as, body := bd, defers := W.heap.size })) (σ ++ [.loop n e ps.toList aas abd .ready none]) ∧
      ∀ (base : Nat) (ds : List Deferred), base ≤ W.heap.size → DefR ρ W base ds →
        DefR ρ' ((W.alloc (.deferred (some []))).alloc (.loop { state := .ready, pending := none, fn, tmps, params := ps, assign := as, body := bd, defers := W.heap.size })) base ({ target := .collected W.heap.size, args := #[] } :: ds) := by
  obtain ⟨L1, hR1⟩ := hR.grow (ρ' := ρ) (W' := W.alloc (.deferred (some []))) (by simp) rfl rfl rfl (fun b hb => heap_alloc_old W _ hb) rfl rfl (fun b h => .inl h) (fun b h => h)
  let p : Pl := ⟨W.heap.size + 1, 1, 0⟩
  let ρ' : Ren := { ρ with loc := fun i v => if i = σ.length then (if v = 0 then some p else none) else ρ.loc i v }
  have hp : ρ'.loc σ.length 0 = some p := by simp [ρ']
  have hpush := hR1.push (ρ' := ρ') (W' := (W.alloc (.deferred (some []))).alloc (.loop { state := .ready, pending := none, fn, tmps, params := ps, assign := as, body := bd, defers := W.heap.size }))
    (o' := .loop n e ps.toList aas abd .ready none) (by simp) rfl rfl rfl
    (fun b hb => heap_alloc_old _ _ hb) (fun j v hj => by simp [ρ', hj]) (fun v q hq => by
      simp only [ρ', if_true] at hq
      split at hq
      · cases hq; simp [p]
      · cases hq) (fun _ => Iff.rfl) rfl
    (fun L => ⟨p, _, hp, by have := heap_alloc_at (W.alloc (.deferred (some []))) (.loop { state := .ready, pending := none, fn, tmps, params := ps, assign := as, body := bd, defers := W.heap.size }); simpa [p] using this,
      rfl, rfl, rfl, h1, h2, hn, fun t => ((hE t).later L1).later L⟩)
  refine ⟨ρ', p, rfl, hp, L1.trans hpush.1, hpush.2, fun base ds hb hd => ?_⟩
  obtain ⟨Ds, d1, d2, d3⟩ := hd
  have hsz : ((W.alloc (.deferred (some []))).alloc (.loop { state := .ready, pending := none, fn, tmps, params := ps, assign := as, body := bd, defers := W.heap.size })).heap.size = W.heap.size + 2 := by simp
  have hnd : W.heap.size ∉ Ds := fun h => by have := (d3 _ h).2.1; omega
  obtain ⟨Ds', e1, e2, e3⟩ := (DefR.later (L1.trans hpush.1) ⟨Ds, d1, d2, d3⟩ : DefR ρ' _ base ds)
  refine ⟨W.heap.size :: Ds, List.nodup_cons.2 ⟨hnd, d1⟩, by simp [d2], fun D hD => ?_⟩
  rcases List.mem_cons.1 hD with rfl | hD
  · refine ⟨hb, by rw [hsz]; omega, ?_, fun i v q hq he => ?_, fun hf => ?_⟩
    · rw [heap_alloc_old _ _ (by simp)]
      exact heap_alloc_at W _
    · simp only [ρ'] at hq
      split at hq
      · split at hq
        · cases hq; simp [p] at he
        · cases hq
      · have := (hR.blk i v q hq).1; omega
    · have := hR.fixlt _ hf; omega
  · obtain ⟨a1, a2, a3, a4, a5⟩ := d3 D hD
    have L := L1.trans hpush.1
    refine ⟨a1, Nat.lt_of_lt_of_le a2 L.size, (L.own D a2 a4).trans a3, fun i v q hq he => ?_, fun hf => a5 hf⟩
    rcases L.new i v q hq with ⟨j, u, q', hq', he'⟩ | hge
    · exact a4 j u q' hq' (he'.trans he)
    · omega

/-- Operations, one after the other. -/
theorem runOps_sound (hcall : CallOK P glob callf) {ops : Array Oper} {os : List AOper} (hos : ops.toList.mapM (cOper P acc false ops) = some os) {ρ0 : Ren} {W0 : World} {ds : List Deferred} (hcd0 : ρ0.code = codeP P) {r : Option D} {e' : Env} {σ' : St} {Q : Exit → Act → World → Prop}
    (hK : r = none → ∀ ρ' W' a', Later ρ0 W0 ρ' W' → Rel ρ' W' σ' → RE ρ' W' e' a'.tmps → a'.tmps.size = n → a'.defers = ds → Q .normal a' W')
    (hQ : ∀ d, r = some d → ∀ ρ' W' a' v, Later ρ0 W0 ρ' W' → Rel ρ' W' σ' → R ρ' W' d v → a'.tmps.size = n → a'.defers = ds → Q (.panic [{ v, recovered := false }]) a' W') :
    ∀ (l : List AOper) (j : Nat), l = os.drop j → j ≤ os.length → ∀ (e : Env) (σ : St) (ρ : Ren) (W : World) (a : Act), runOps callf glob n l e σ = some (r, e', σ') → Later ρ0 W0 ρ W → Rel ρ W σ → GlobR ρ W glob → RE ρ W e a.tmps → a.tmps.size = n → a.defers = ds →
      wpOpsIn (FR ro) 0 P ops Q ((List.range ops.size).drop j) a W
  | [], j, hl, hj, e, σ, ρ, W, a, h, L, hR, hG, hE, hn, hd => by
    have hsz : os.length = ops.size := by rw [(mapM_some hos).1]; simp
    have hle : os.length ≤ j := by
      have := congrArg List.length hl
      simp at this; omega
    simp only [runOps, Option.some.injEq, Prod.mk.injEq] at h
    obtain ⟨rfl, rfl, rfl⟩ := h
    rw [List.drop_eq_nil_of_le (by simp; omega)]
    exact hK rfl ρ W a L hR hE hn hd
  | ao :: l, j, hl, hj, e, σ, ρ, W, a, h, L, hR, hG, hE, hn, hd => by
    have hsz : os.length = ops.size := by rw [(mapM_some hos).1]; simp
    have hlt : j < os.length := by
      have := congrArg List.length hl
      simp at this; omega
    have hoj : os[j]? = some ao := by
      have : (os.drop j)[0]? = some ao := by rw [← hl]; rfl
      simpa using this
    have hl' : l = os.drop (j + 1) := by
      have : (os.drop j).tail = l := by rw [← hl]; rfl
      rw [← this, List.tail_drop]
    have hrange : (List.range ops.size).drop j = j :: (List.range ops.size).drop (j + 1) := by
      have hlt' : j < (List.range ops.size).length := by simp; omega
      rw [List.drop_eq_getElem_cons hlt']
      simp
    obtain ⟨o, hoj', hc⟩ : ∃ o, ops[j]? = some o ∧ cOper P acc false ops o = some ao := by
      obtain ⟨y, hy, hy'⟩ := (mapM_some hos).2 j ops[j] (by simp)
      rw [hoj] at hy'; cases hy'
      exact ⟨ops[j], Array.getElem?_eq_getElem (by omega), hy⟩
    rw [hrange, wpOpsIn_cons]
    have hdst := (cOper_some hc).2.1
    simp only [runOps] at h
    cases hsv : stepVal callf glob ao e σ with
    | none => simp [stepOper, hsv] at h
    | some x =>
      obtain ⟨sv, σ1⟩ := x
      refine oper_sound hcall hR hE hG (L.code.trans hcd0) hc hoj' hsv (fun ρ' W' v d hsd L' hR' hr' => ?_) (fun ρ' W' v d hsd L' hR' hr' => ?_)
      · subst hsd
        cases hput : putE n e ao.dst d with
        | none => simp [stepOper, hsv, hput] at h
        | some e1 =>
          simp only [stepOper, hsv, hput, Option.map_some] at h
          rw [hdst] at hput
          obtain ⟨hE1, hn1⟩ := (hE.later L').put hn hput hr'
          exact runOps_sound hcall hos hcd0 hK hQ l (j + 1) hl' (by omega) e1 σ1 ρ' W' _ h (L.trans L') hR' (hG.later L') hE1 hn1 (by cases o.dst <;> simp [Act.put, hd])
      · subst hsd
        simp only [stepOper, hsv, Option.some.injEq, Prod.mk.injEq] at h
        obtain ⟨rfl, rfl, rfl⟩ := h
        exact hQ d rfl ρ' W' a v (L.trans L') hR' hr' hn hd

theorem code_sound (hcall : CallOK P glob callf) (hext : ExtOK ext callf) (hord : P.follows .mixedOrders = true) (hro : inR = false → ro = none) : ∀ (N : Nat) (c : Code), SizeOf.sizeOf c ≤ N → ∀ (ac : ACode) (e : Env) (σ : St) (x : AExit) (e' : Env) (σ' : St) (ρ : Ren) (W : World) (a : Act),
    cCode P acc keep c = some ac → evalCode callf ext glob n k inR ac e σ = some (x, e', σ') → Rel ρ W σ → GlobR ρ W glob → ρ.code = codeP P → base ≤ W.heap.size → RE ρ W e a.tmps → a.tmps.size = n → DefR ρ W base a.defers → c.wpIn (FR ro) 0 P (PostR n base ρ W x e' σ') a W := by
  intro N
  induction N with
  | zero => intro c hs; cases c <;> simp at hs
  | succ N ih =>
    intro c hs ac e σ x e' σ' ρ W a hc h hR hG hcd hba hE hn hd
    cases c with
    | skip =>
      simp only [cCode, Option.some.injEq] at hc; subst hc
      simp only [evalCode, Option.some.injEq, Prod.mk.injEq] at h
      obtain ⟨rfl, rfl, rfl⟩ := h
      exact wpIn_skip ⟨ρ, .refl _ _, hR, hn, hd, hE⟩
    | label l =>
      simp only [cCode, Option.some.injEq] at hc; subst hc
      simp only [evalCode, Option.some.injEq, Prod.mk.injEq] at h
      obtain ⟨rfl, rfl, rfl⟩ := h
      exact wpIn_label ⟨ρ, .refl _ _, hR, hn, hd, hE⟩
    | exit id =>
      simp only [cCode, Option.some.injEq] at hc; subst hc
      simp only [evalCode, Option.some.injEq, Prod.mk.injEq] at h
      obtain ⟨rfl, rfl, rfl⟩ := h
      exact wpIn_exit ⟨ρ, .refl _ _, hR, hn, hd, rfl, hE⟩
    | goto id =>
      simp only [cCode, Option.some.injEq] at hc; subst hc
      simp only [evalCode, Option.some.injEq, Prod.mk.injEq] at h
      obtain ⟨rfl, rfl, rfl⟩ := h
      exact wpIn_goto ⟨ρ, .refl _ _, hR, hn, hd, rfl, hE⟩
    | ret =>
      simp only [cCode, Option.some.injEq] at hc; subst hc
      simp only [evalCode, Option.some.injEq, Prod.mk.injEq] at h
      obtain ⟨rfl, rfl, rfl⟩ := h
      exact wpIn_ret ⟨ρ, .refl _ _, hR, hn, hd, hE⟩
    | refuse => simp [cCode] at hc
    | seq c1 c2 =>
      simp only [cCode, Option.bind_eq_bind, Option.pure_def, Option.bind_eq_some_iff, Option.some.injEq] at hc
      obtain ⟨a1, h1, a2, h2, rfl⟩ := hc
      have s1 : SizeOf.sizeOf c1 ≤ N := by simp at hs; omega
      have s2 : SizeOf.sizeOf c2 ≤ N := by simp at hs; omega
      simp only [evalCode] at h
      refine wpIn_seq ?_
      split at h
      · rename_i e1 σ1 hev
        refine wpIn_mono (ih c1 s1 a1 e σ _ e1 σ1 ρ W a h1 hev hR hG hcd hba hE hn hd) fun ex a' w' hp => ?_
        obtain ⟨ρ', L, hR', hn', hd', hx⟩ := hp
        cases ex <;> first | exact hx.elim | skip
        exact wpIn_mono (ih c2 s2 a2 e1 σ1 x e' σ' ρ' w' a' h2 h hR' (hG.later L) (L.code.trans hcd) (Nat.le_trans hba L.size) hx hn' hd') fun ex a w hp => hp.later L
      · rename_i y hnot
        refine wpIn_mono (ih c1 s1 a1 e σ x e' σ' ρ W a h1 h hR hG hcd hba hE hn hd) fun ex a' w' hp => ?_
        cases ex with
        | normal =>
          obtain ⟨ρ', L, hR', hn', hd', hx⟩ := hp
          cases x <;> first | exact hx.elim | exact absurd h (hnot _ _)
        | _ => exact hp
    | cond c c1 c2 =>
      simp only [cCode, Option.bind_eq_bind, Option.pure_def, Option.bind_eq_some_iff, Option.some.injEq] at hc
      obtain ⟨ac, h0, a1, h1, a2, h2, rfl⟩ := hc
      have s1 : SizeOf.sizeOf c1 ≤ N := by simp at hs; omega
      have s2 : SizeOf.sizeOf c2 ≤ N := by simp at hs; omega
      have hx := opd_sound hE hG h0
      simp only [evalCode] at h
      split at h
      · rename_i hl
        rw [hl] at hx
        exact wpIn_cond_true hx.bool_inv (ih c1 s1 a1 e σ x e' σ' ρ W a h1 h hR hG hcd hba hE hn hd)
      · rename_i hl
        rw [hl] at hx
        exact wpIn_cond_false hx.bool_inv (ih c2 s2 a2 e σ x e' σ' ρ W a h2 h hR hG hcd hba hE hn hd)
      · cases h
    | block id b =>
      simp only [cCode, Option.bind_eq_bind, Option.pure_def, Option.bind_eq_some_iff, Option.some.injEq] at hc
      obtain ⟨ab, h1, rfl⟩ := hc
      have s1 : SizeOf.sizeOf b ≤ N := by simp at hs; omega
      simp only [evalCode] at h
      refine wpIn_block ?_
      split at h
      · rename_i id' e1 σ1 hev
        refine wpIn_mono (ih b s1 ab e σ _ e1 σ1 ρ W a h1 hev hR hG hcd hba hE hn hd) fun ex a' w' hp => ?_
        obtain ⟨ρ', L, hR', hn', hd', hx⟩ := hp
        cases ex <;> first | exact hx.elim | skip
        obtain ⟨rfl, hx⟩ := hx
        simp only [Exit.inBlock]
        split at h
        · rename_i hid
          rw [if_pos hid]
          cases h
          exact ⟨ρ', L, hR', hn', hd', hx⟩
        · rename_i hid
          rw [if_neg hid]
          cases h
          exact ⟨ρ', L, hR', hn', hd', rfl, hx⟩
      · rename_i y hnot
        refine wpIn_mono (ih b s1 ab e σ x e' σ' ρ W a h1 h hR hG hcd hba hE hn hd) fun ex a' w' hp => ?_
        cases ex with
        | exit j =>
          obtain ⟨ρ', L, hR', hn', hd', hx⟩ := hp
          cases x <;> first | exact hx.elim | exact absurd h (hnot _ _ _)
        | _ => exact hp
    | loop b =>
      simp only [cCode, Option.bind_eq_bind, Option.pure_def, Option.bind_eq_some_iff, Option.some.injEq] at hc
      obtain ⟨ab, h1, rfl⟩ := hc
      have s1 : SizeOf.sizeOf b ≤ N := by simp at hs; omega
      simp only [evalCode] at h
      refine wpIn_loop_rounds (k0 := k) (fun j a' w' => ∃ e1 σ1 ρ1, iter (evalCode callf ext glob n k inR ab) j e1 σ1 = some (x, e', σ') ∧ Later ρ W ρ1 w' ∧ Rel ρ1 w' σ1 ∧ RE ρ1 w' e1 a'.tmps ∧ a'.tmps.size = n ∧ DefR ρ1 w' base a'.defers)
        ⟨e, σ, ρ, h, .refl _ _, hR, hE, hn, hd⟩ ?_
      rintro j a' w' ⟨e1, σ1, ρ1, hit, L1, hR1, hE1, hn1, hd1⟩
      cases j with
      | zero => cases hit
      | succ j =>
        simp only [iter] at hit
        split at hit
        · rename_i e2 σ2 hev
          refine wpIn_mono (ih b s1 ab e1 σ1 _ e2 σ2 ρ1 w' a' h1 hev hR1 (hG.later L1) (L1.code.trans hcd) (Nat.le_trans hba L1.size) hE1 hn1 hd1) fun ex a2 w2 hp => ?_
          obtain ⟨ρ', L, hR', hn', hd', hx⟩ := hp
          cases ex <;> first | exact hx.elim | skip
          exact ⟨j, Nat.lt_succ_self j, e2, σ2, ρ', hit, L1.trans L, hR', hx, hn', hd'⟩
        · rename_i y hnot
          refine wpIn_mono (ih b s1 ab e1 σ1 x e' σ' ρ1 w' a' h1 hit hR1 (hG.later L1) (L1.code.trans hcd) (Nat.le_trans hba L1.size) hE1 hn1 hd1) fun ex a2 w2 hp => ?_
          cases ex with
          | normal =>
            obtain ⟨ρ', L, hR', hn', hd', hx⟩ := hp
            cases x <;> first | exact hx.elim | exact absurd hit (hnot _ _)
          | _ => exact hp.later L1
    | scope b =>
      simp only [cCode, Option.bind_eq_bind, Option.pure_def, Option.bind_eq_some_iff, Option.some.injEq] at hc
      obtain ⟨ab, h1, rfl⟩ := hc
      have s1 : SizeOf.sizeOf b ≤ N := by simp at hs; omega
      cases hj : jumpOf ab with
      | none =>
        rw [hj] at h
        simp only [evalCode] at h
        refine wpIn_scope_straight ?_
        split at h
        · cases h
        · rename_i y hnot
          refine wpIn_mono (ih b s1 ab e σ x e' σ' ρ W a h1 h hR hG hcd hba hE hn hd) fun ex a' w' hp => ?_
          cases ex with
          | goto j =>
            obtain ⟨ρ', L, hR', hn', hd', hx⟩ := hp
            cases x <;> first | exact hx.elim | exact absurd h (hnot _ _ _)
          | _ => exact hp
      | some lr =>
        obtain ⟨l, ar⟩ := lr
        rw [hj] at h
        simp only [evalCode] at h
        have hfind : aFind ab l = some ar := by
          unfold jumpOf at hj
          obtain ⟨l', _, hj⟩ := Option.bind_eq_some_iff.1 hj
          obtain ⟨r, hr, hj⟩ := Option.map_eq_some_iff.1 hj
          cases hj
          exact hr
        obtain ⟨rest, hf1, hf2, hf3⟩ := aFind_sound b ab l ar h1 hfind
        have s2 : SizeOf.sizeOf rest ≤ N := Nat.le_trans hf3 s1
        have pass : ∀ j a' w', (∃ e1 σ1 ρ1, iterG l (evalCode callf ext glob n k inR ar) j e1 σ1 = some (x, e', σ') ∧ Later ρ W ρ1 w' ∧ Rel ρ1 w' σ1 ∧ RE ρ1 w' e1 a'.tmps ∧ a'.tmps.size = n ∧ DefR ρ1 w' base a'.defers) →
            rest.wpIn (FR ro) 0 P (Exit.jump l (fun a2 w2 => ∃ j', j' < j ∧ ∃ e1 σ1 ρ1, iterG l (evalCode callf ext glob n k inR ar) j' e1 σ1 = some (x, e', σ') ∧ Later ρ W ρ1 w2 ∧ Rel ρ1 w2 σ1 ∧ RE ρ1 w2 e1 a2.tmps ∧ a2.tmps.size = n ∧ DefR ρ1 w2 base a2.defers) (PostR n base ρ W x e' σ')) a' w' := by
          rintro j a' w' ⟨e1, σ1, ρ1, hit, L1, hR1, hE1, hn1, hd1⟩
          cases j with
          | zero => cases hit
          | succ j =>
            simp only [iterG] at hit
            split at hit
            · rename_i l' e2 σ2 hev
              split at hit
              · rename_i hl
                subst hl
                refine wpIn_mono (ih rest s2 ar e1 σ1 _ e2 σ2 ρ1 w' a' hf2 hev hR1 (hG.later L1) (L1.code.trans hcd) (Nat.le_trans hba L1.size) hE1 hn1 hd1) fun ex a2 w2 hp => ?_
                obtain ⟨ρ', L, hR', hn', hd', hx⟩ := hp
                cases ex <;> first | exact hx.elim | skip
                obtain ⟨rfl, hx⟩ := hx
                exact ⟨rfl, j, Nat.lt_succ_self j, e2, σ2, ρ', hit, L1.trans L, hR', hx, hn', hd'⟩
              · cases hit
            · rename_i y hnot
              refine wpIn_mono (ih rest s2 ar e1 σ1 x e' σ' ρ1 w' a' hf2 hit hR1 (hG.later L1) (L1.code.trans hcd) (Nat.le_trans hba L1.size) hE1 hn1 hd1) fun ex a2 w2 hp => ?_
              cases ex with
              | goto i =>
                obtain ⟨ρ', L, hR', hn', hd', hx⟩ := hp
                cases x <;> first | exact hx.elim | exact absurd hit (hnot _ _ _)
              | _ => exact hp.later L1
        refine wpIn_scope_passes l _ hf1 ?_ pass
        split at h
        · rename_i l' e1 σ1 hev
          split at h
          · rename_i hl
            subst hl
            refine wpIn_mono (ih b s1 ab e σ _ e1 σ1 ρ W a h1 hev hR hG hcd hba hE hn hd) fun ex a2 w2 hp => ?_
            obtain ⟨ρ', L, hR', hn', hd', hx⟩ := hp
            cases ex <;> first | exact hx.elim | skip
            obtain ⟨rfl, hx⟩ := hx
            exact ⟨rfl, k, e1, σ1, ρ', h, L, hR', hx, hn', hd'⟩
          · cases h
        · rename_i y hnot
          refine wpIn_mono (ih b s1 ab e σ x e' σ' ρ W a h1 h hR hG hcd hba hE hn hd) fun ex a2 w2 hp => ?_
          cases ex with
          | goto i =>
            obtain ⟨ρ', L, hR', hn', hd', hx⟩ := hp
            cases x <;> first | exact hx.elim | exact absurd h (hnot _ _ _)
          | _ => exact hp
    | rangeFunc f ps as bd =>
      simp only [cCode, Option.bind_eq_bind, Option.pure_def, Option.bind_eq_some_iff, Option.some.injEq] at hc
      obtain ⟨af, h0, aas, h1, abd, h2, rfl⟩ := hc
      have hx := opd_sound hE hG h0
      simp only [evalCode] at h
      split at h
      · rename_i g first captured hl
        rw [hl] at hx
        cases inR with
        | true => simp at h
        | false =>
          obtain rfl := hro rfl
          simp only [Bool.false_eq_true, if_false] at h
          generalize hv : a.eval f = v at hx
          cases hx with
          | func hs1 hs2 hf hcap =>
            rename_i fa ca
            have hc1 : ρ.code aas as := by rw [hcd]; exact ⟨acc, keep, h1⟩
            have hc2 : ρ.code abd bd := by rw [hcd]; exact ⟨acc, keep, h2⟩
            refine wpIn_rangeFunc fun fn _ => ?_
            obtain ⟨ρ1, p, hpb, hp, L1, hR1, hD1⟩ := openLoop hR hE hn (ps := ps) hc1 hc2 fn
            obtain ⟨W2, hW2⟩ : ∃ W2, (W.alloc (.deferred (some []))).alloc (.loop { state := .ready, pending := none, fn, tmps := a.tmps, params := ps, assign := as, body := bd, defers := W.heap.size }) = W2 := ⟨_, rfl⟩
            rw [hW2] at L1 hR1 hD1
            -- the call
            have hcd1 : ρ1.code = codeP P := L1.code.trans hcd
            have hargs : Rs ρ1 W2 (first ++ [.yield σ.length] ++ captured) (fa ++ #[.func (.yield p.blk) #[] #[]] ++ ca) :=
              Rs.append (Rs.append (Rs.later L1 ⟨hs1, hf⟩) ⟨rfl, fun j d hd => by
                match j, hd with
                | 0, hd => cases hd; exact .yield hp
                | j + 1, hd => simp at hd⟩) (Rs.later L1 ⟨hs2, hcap⟩)
            have key : ∀ r σ1, callf (.fn g) (first ++ [.yield σ.length] ++ captured) (σ ++ [.loop n e ps.toList aas abd .ready none]) = some (r, σ1) → (∀ en w, EndR ρ1 W2 σ1 r en w → rangePost (FR none) 0 P p.blk (PostR n base ρ W x e' σ') { a with defers := { target := .collected W.heap.size, args := #[] } :: a.defers } en w) →
                ∃ (l : Nat) (mark : List Deferred) (w₁ : World) (d : Deferred) (w₁' : World) (f' : FuncId) (args : Array Value) (w₂ : World),
                  (Instr.enterLoop fn a.tmps ps as bd none).run P W = .ok (l, mark) w₁ ∧ (resolve a.eval (rangeCall f l) 0).run P w₁ = .ok d w₁' ∧ (∀ f'', Target.leads P w₁' d.target d.args = some f'' → (FR none).fn f'') ∧
                  (invoke d.target d.args).run P w₁' = .ok (.enter f' args) w₂ ∧ ((FR none).depth.isSome = true → 1 ≤ 0) ∧
                  CallsIn (FR none) (0 - 1) P f' args w₂ (rangePost (FR none) 0 P l (PostR n base ρ W x e' σ') { a with defers := mark ++ a.defers }) := by
              intro r σ1 hcf hpost
              obtain ⟨⟨gn, hgf, hgb, hgn⟩, hcalls⟩ := hcall.2 (.fn g) _ _ r σ1 hcf
              refine ⟨W.heap.size + 1, [{ target := .collected W.heap.size, args := #[] }], W2, { target := .fn (.func g) ca, args := fa ++ #[.func (.yield (W.heap.size + 1)) #[] #[]] }, W2, g, fa ++ #[.func (.yield (W.heap.size + 1)) #[] #[]] ++ ca, W2,
                by rw [← hW2]; exact run_enterLoop_outer _ _ _ _ _, ?_, fun _ _ => trivial, ?_, fun h => (by cases h), callsIn_FR.2 ?_⟩
              · show (Deferred.ofValue (a.eval f) (#[Operand.const (.func (.yield (W.heap.size + 1)) #[] #[])].map a.eval)).run P W2 = _
                rw [hv]
                rw [show (#[Operand.const (.func (.yield (W.heap.size + 1)) #[] #[])].map a.eval) = #[.func (.yield (W.heap.size + 1)) #[] #[]] by simp [Act.eval]]
                rfl
              · show (callFunc g _).run P _ = _
                rw [callFunc_run hgf hgb hgn]
              · rw [← hpb]
                exact Calls.mono (hcalls ρ1 _ _ hR1 (hG.later L1) hcd1 hargs) fun en w he => hpost en w he
            split at h
            · rename_i d σ1 hcf
              refine key _ _ hcf fun en w he => ?_
              obtain ⟨ρ2, L2, hR2, hr⟩ := he
              cases en with
              | returned v =>
                split at h
                · rename_i m e1 ps1 as1 bd1 st pend hloop
                  split at h
                  · cases h
                  · rename_i hbusy
                    obtain ⟨p', rec, hp', hh, r1, r2, r3, r4, r5, r6, r7⟩ := hR2.obj _ _ hloop
                    rw [L2.loc _ _ _ hp] at hp'
                    cases hp'
                    obtain ⟨rst, rpe, rfn, rtm, rps, ras, rbd, rdf⟩ := rec
                    simp only at r1 r2 r3 r4 r5 r6 r7
                    subst r2
                    have hend := run_endLoop (P := P) hh (by rw [r1]; exact hbusy)
                    obtain ⟨L3, hR3⟩ := setObj_change hR2 hloop rfl (L2.loc _ _ _ hp) (.loop { state := .exhausted, pending := pend.map AJump.code, fn := rfn, tmps := rtm, params := rps, assign := ras, body := rbd, defers := rdf }) (o' := .loop m e1 ps1 as1 bd1 .exhausted pend)
                      (fun L => ⟨p, _, L2.loc _ _ _ hp, heap_set_at hh, rfl, rfl, r3, r4, r5, r6, fun t => (r7 t).later L⟩)
                    have LL := (L1.trans L2).trans L3
                    have hDD := ((hD1 base a.defers hba hd).later L2).later L3
                    refine ⟨pend.map AJump.code, _, hend, ?_⟩
                    cases pend with
                    | none =>
                      cases h
                      exact ⟨ρ2, LL, hR3, hn, hDD, hE.later LL⟩
                    | some j =>
                      cases j with
                      | ret => cases h; exact wpIn_ret ⟨ρ2, LL, hR3, hn, hDD, hE.later LL⟩
                      | exit id => cases h; exact wpIn_exit ⟨ρ2, LL, hR3, hn, hDD, rfl, hE.later LL⟩
                      | goto l => cases h; exact wpIn_goto ⟨ρ2, LL, hR3, hn, hDD, rfl, hE.later LL⟩
                · cases h
              | _ => exact hr.elim
            · rename_i d σ1 hcf
              cases h
              refine key _ _ hcf fun en w he => ?_
              obtain ⟨ρ2, L2, hR2, hr⟩ := he
              cases en with
              | panicked ch => exact ⟨ρ2, L1.trans L2, hR2, hn, (hD1 base a.defers hba hd).later L2, hr⟩
              | _ => exact hr.elim
            · cases h
      · cases h
    | region id ops draw =>
      simp only [cCode, Option.bind_eq_bind, Option.bind_eq_some_iff] at hc
      obtain ⟨os, hos, hc⟩ := hc
      cases draw with
      | false =>
        simp only [Bool.false_eq_true, if_false, Option.pure_def, Option.some.injEq] at hc
        subst hc
        simp only [evalCode] at h
        refine wpIn_region ?_
        cases hr : runOps callf glob n os e σ with
        | none => rw [hr] at h; cases h
        | some y =>
          obtain ⟨r, e1, σ1⟩ := y
          rw [hr] at h
          have := runOps_sound (ρ0 := ρ) (W0 := W) (Q := PostR n base ρ W x e' σ') (ro := ro) (ds := a.defers) hcall hos hcd (r := r) (e' := e1) (σ' := σ1)
            (fun hr0 ρ' W' a' L hR' hE' hn' hd' => by
              subst hr0
              simp only [Option.some.injEq, Prod.mk.injEq] at h
              obtain ⟨rfl, rfl, rfl⟩ := h
              exact ⟨ρ', L, hR', hn', by rw [hd']; exact hd.later L, getE_keepE hE'⟩)
            (fun d hr0 ρ' W' a' v L hR' hv hn' hd' => by
              subst hr0
              simp only [Option.some.injEq, Prod.mk.injEq] at h
              obtain ⟨rfl, rfl, rfl⟩ := h
              exact ⟨ρ', L, hR', hn', by rw [hd']; exact hd.later L, v, rfl, hv⟩) os 0 rfl (Nat.zero_le _) e σ ρ W a hr (.refl _ _) hR hG hE hn rfl
          simpa using this
      | true =>
        simp only [if_true] at hc
        split at hc
        · rename_i hok
          simp only [Option.pure_def, Option.some.injEq] at hc
          subst hc
          simp only [evalCode] at h
          refine wpIn_region_any hord ?_
          cases hr : runDrawn callf ext glob n 0 os (ancs ops.toList) [] [] e σ with
          | none => rw [hr] at h; cases h
          | some y =>
            obtain ⟨r, e1, σ1⟩ := y
            rw [hr] at h
            have L0 : Later ρ W ρ { W with drawn := W.drawn + 1 } := hR.drew.1
            have hR0 : Rel ρ { W with drawn := W.drawn + 1 } σ := hR.drew.2
            exact Reg.all (X := ⟨callf, ext, glob, n, os, ancs ops.toList, e, σ⟩) (ρ0 := ρ) (W0 := W) (ds := a.defers) ⟨hos, rfl, hok, hcall, hext⟩ hG hcd hr
              (fun hr0 ρ' W' a' L hR' hE' hn' hd' => by
                subst hr0
                simp only [Option.some.injEq, Prod.mk.injEq] at h
                obtain ⟨rfl, rfl, rfl⟩ := h
                exact ⟨ρ', L, hR', hn', by rw [hd']; exact hd.later L, getE_keepE hE'⟩)
              (fun d hr0 ρ' W' a' v L hR' hv hn' hd' => by
                subst hr0
                simp only [Option.some.injEq, Prod.mk.injEq] at h
                obtain ⟨rfl, rfl, rfl⟩ := h
                exact ⟨ρ', L, hR', hn', by rw [hd']; exact hd.later L, v, rfl, hv⟩) L0 hR0 (hE.later L0) hn rfl
        · cases hc

end
end Go.AI
