/- Texts of the proof: what functions of the program compute, step by step. No conditions of its own. -/
import Derived.Test.YtgenoggafhhgfaaGreatDoorP10
set_option linter.unusedVariables false
set_option linter.unusedSimpArgs false
namespace Go.AI
open Go Go.Proofs Go.Lx
set_option maxRecDepth 100000

theorem q34 : qI 34 = false := rfl
theorem x34 : XB 34 = false := rfl
/-- The error of a name of an operation. -/
def opErr (p : Prg) (s : Bs) : Int := match findOpL s p.effects 0 with
  | some _ => 0
  | none => if hasS [nPrint, nRead] s then 0 else 6
theorem opD_err (p : Prg) (s : Bs) : ∃ a b : Int, opD s (findOpL s p.effects 0) = .tuple [.int .i64 a, .int .i64 b, .int .i64 (opErr p s)] := by
  unfold opD opErr
  cases findOpL s p.effects 0 with
  | some x => exact ⟨_, _, rfl⟩
  | none =>
    simp only
    have h := indexP_ge [nPrint, nRead] s
    unfold indexP at h
    cases hq : [nPrint, nRead].findIdx? (· == s) with
    | some k =>
      rw [hq] at h
      have : hasS [nPrint, nRead] s = true := by unfold hasS; rw [← h]; simp
      rw [if_pos this]
      exact ⟨_, _, rfl⟩
    | none =>
      rw [hq] at h
      have : hasS [nPrint, nRead] s = false := by unfold hasS; rw [← h]; simp
      rw [if_neg (by rw [this]; simp)]
      exact ⟨_, _, rfl⟩
theorem c146 (p : Prg) (hok : p.ok) (t : Nat) (m : CMap) (x : Ex) (σ : St) (hT : IsT σ t p m) (k n : Int) (s u : Bs) (names : List Bs) (l : List Ex) (arms : List Arm) (hx : x = .mk k n s u names l arms) :
    CI (.fn 146) [.ptr t 0, .agg x.cs] σ = some (outR (opErr p (if k = 13 then u else s)), σ) := by
  subst hx
  obtain ⟨j, hj, _⟩ := hT
  have hpl := p.cs_len
  have hpt := p.cs_take
  have h32 := fun s σ => c32 p hok s σ
  obtain ⟨τ, hτ⟩ : ∃ τ, bodyI CI XB GI af146 [.ptr t 0, .agg (Ex.mk k n s u names l arms).cs] σ = some (outR (opErr p (if k = 13 then u else s)), σ ++ τ) := by
    simp only [Ex.cs, slD]
    refine ⟨[.box [.int .i64 k, .int .i64 n, .str s, .str u, .slice (names.map .str), .slice (exsD l), .slice (armsD arms)]], ?_⟩
    generalize p.cs = pc at *
    generalize names.map D.str = nd at *
    generalize exsD l = ld at *
    generalize armsD arms = ad at *
    by_cases hk : k = 13
    · subst hk
      obtain ⟨a, b, ho⟩ := opD_err p u
      have h32 := h32 u
      rw [ho] at h32
      simp only [if_true]
      generalize opErr p u = e at *
      by_cases he : e = 0
      · subst he
        simp [bodyI, af146, getA0, getO hj, hpl, hpt, h32, c59, outR_zero]
      · simp [bodyI, af146, getA0, getO hj, hpl, hpt, h32, c59, outR_ne he]
    · have hk' : (k == 13) = false := by simpa using hk
      obtain ⟨a, b, ho⟩ := opD_err p s
      have h32 := h32 s
      rw [ho] at h32
      simp only [if_neg hk]
      generalize opErr p s = e at *
      by_cases he : e = 0
      · subst he
        simp [bodyI, af146, getA0, getO hj, hpl, hpt, hk', h32, c59, outR_zero]
      · simp [bodyI, af146, getA0, getO hj, hpl, hpt, hk', h32, c59, outR_ne he]
  exact CI_out tab146 hτ

theorem c148 (p : Prg) (hok : p.ok) (t : Nat) (m : CMap) (x : Ex) (σ : St) (hT : IsT σ t p m) (k n : Int) (s u : Bs) (names : List Bs) (l : List Ex) (arms : List Arm) (hx : x = .mk k n s u names l arms) :
    CI (.fn 148) [.ptr t 0, .agg x.cs] σ = some (outR (findEffE p.effects s), σ) := by
  subst hx
  obtain ⟨j, hj, _⟩ := hT
  have hpl := p.cs_len
  have hpt := p.cs_take
  have h34 := fun σ => c34 p hok.el s σ
  obtain ⟨τ, hτ⟩ : ∃ τ, bodyI CI XB GI af148 [.ptr t 0, .agg (Ex.mk k n s u names l arms).cs] σ = some (outR (findEffE p.effects s), σ ++ τ) := by
    simp only [Ex.cs, slD]
    refine ⟨[.box [.int .i64 k, .int .i64 n, .str s, .str u, .slice (names.map .str), .slice (exsD l), .slice (armsD arms)]], ?_⟩
    generalize p.cs = pc at *
    generalize names.map D.str = nd at *
    generalize exsD l = ld at *
    generalize armsD arms = ad at *
    generalize findEffI p.effects s = fi at *
    generalize findEffE p.effects s = e at *
    by_cases he : e = 0
    · subst he
      simp [bodyI, af148, getA0, getO hj, hpl, hpt, h34, c59, outR_zero, q34, x34, tb63]
    · simp [bodyI, af148, getA0, getO hj, hpl, hpt, h34, c59, outR_ne he, q34, x34, tb63]
  exact CI_out tab148 hτ

def useE (p : Prg) (s : Bs) : Int := if s == nIO then 5 else findEffE p.effects s
def usingErr (p : Prg) (names : List Bs) : Int := firstE (names.tail.map (useE p))
theorem c149 (p : Prg) (hok : p.ok) (t : Nat) (m : CMap) (x : Ex) (σ : St) (hT : IsT σ t p m) (k n : Int) (s u : Bs) (names : List Bs) (l : List Ex) (arms : List Arm) (hx : x = .mk k n s u names l arms) (hn : 0 < names.length) (hnl : names.length ≤ maxL) :
    CI (.fn 149) [.ptr t 0, .agg x.cs] σ = some (outR (usingErr p names), σ) := by
  subst hx
  obtain ⟨τ, hτ⟩ : ∃ τ, bodyI CI XB GI af149 [.ptr t 0, .agg (Ex.mk k n s u names l arms).cs] σ = some (outR (usingErr p names), σ ++ τ) := by
    have hit := loop_seekP (f := evalI CI XB GI 31 false lp149_0) (σ := σ ++ [.box (Ex.mk k n s u names l arms).cs]) names.tail (fun i => [(0, .ptr t 0), (10, slD names.tail), (11, .int .i64 names.tail.length), (12, .int .i64 (i : Nat))]) (useE p) (fun e => .panic (refD e))
      (.exit 0, [(0, .ptr t 0), (10, slD names.tail), (11, .int .i64 names.tail.length), (12, .int .i64 names.tail.length), (13, .bool false)]) (by simp) (by simp)
      (fun i hi τ => by
        have hw := wrap_nat (n := i) (by unfold maxL at hnl; simp at hi; omega)
        obtain ⟨j, hj, _⟩ := (hT.app (τ := [.box (Ex.mk k n s u names l arms).cs])).app (τ := τ)
        have hpl := p.cs_len
        have hpt := p.cs_take
        have h34 := fun σ => c34 p hok.el names.tail[i] σ
        generalize hσ1 : σ ++ [.box (Ex.mk k n s u names l arms).cs] ++ τ = σ1 at *
        unfold useE
        have hget : (names.tail.map D.str)[i]? = some (.str names.tail[i]) := by rw [List.getElem?_map, List.getElem?_eq_getElem hi]; rfl
        have hlen : (names.tail.map D.str).length = names.tail.length := by simp
        simp only [slD]
        generalize names.tail.map D.str = nd at *
        generalize names.tail[i] = s at *
        have h2 : i < nd.length := by omega
        have h3 : nd[i] = .str s := by rw [List.getElem?_eq_getElem h2] at hget; exact Option.some.inj hget
        generalize p.cs = pc at *
        generalize findEffI p.effects s = fi at *
        generalize findEffE p.effects s = e at *
        generalize names.tail.length = nl at *
        cases hs : s == nIO
        · unfold nIO at hs
          simp only [Bool.false_eq_true, if_false]
          by_cases he : e = 0
          · subst he
            refine ⟨τ, [], ?_⟩
            rw [hσ1]
            simp [lp149_0, hi, hw, h2, h3, hs, hj, hpl, hpt, h34, c59, outR_zero]
          · refine ⟨τ, [(0, .ptr t 0), (7, .int .i64 e), (10, .slice nd), (11, .int .i64 nl), (12, .int .i64 i)], ?_⟩
            rw [hσ1]
            simp [lp149_0, hi, hw, h2, h3, hs, hj, hpl, hpt, h34, c59, outR_ne he, he]
        · simp only [if_true]
          unfold nIO at hs
          refine ⟨τ, [(0, .ptr t 0), (5, .str s), (10, .slice nd), (11, .int .i64 nl), (12, .int .i64 i), (17, .bool true)], ?_⟩
          rw [hσ1]
          simp [lp149_0, hi, hw, h2, h3, hs, c58]) (fun τ => ⟨τ, by simp [lp149_0]⟩) []
    obtain ⟨τ, ev, hit⟩ := hit
    rw [List.append_nil, Int.natCast_zero] at hit
    refine ⟨[.box (Ex.mk k n s u names l arms).cs] ++ τ, ?_⟩
    rw [← List.append_assoc]
    have hnd : (names.map D.str).drop 1 = names.tail.map D.str := by cases names <;> simp
    have hndl : (names.map D.str).length = names.length := by simp
    have htl : ((names.length : Nat) : Int) - 1 = names.tail.length := by simp; omega
    have htk : (names.map D.str).take names.length = names.map D.str := List.take_of_length_le (by simp)
    have htm : (names.tail.map D.str).length = names.tail.length := by simp
    have hall : (names.map D.str).all (fun e => e.cells.length == 1) = true := by simp [D.cells]
    have hn1 : (1 : Int) ≤ names.length := by omega
    have hn1' : 1 ≤ names.length := hn
    simp only [D.cells] at hall
    unfold usingErr
    generalize hσ1 : σ ++ [.box (Ex.mk k n s u names l arms).cs] ++ τ = σ1 at *
    simp only [Ex.cs, slD] at *
    generalize names.map D.str = nd at *
    generalize names.tail.map D.str = tl at *
    generalize exsD l = ld at *
    generalize armsD arms = ad at *
    generalize firstE (names.tail.map (useE p)) = e at *
    clear htl
    generalize names.tail.length = nt at *
    by_cases he : e = 0
    · rw [if_pos he] at hit
      subst he
      simp [bodyI, af149, getA0, bound, hndl, htk, hnd, htm, hn1, hn1', hall, hit, outR_zero, -List.all_eq_true]
    · rw [if_neg he] at hit
      rw [outR_ne he]
      simp [bodyI, af149, getA0, bound, hndl, htk, hnd, htm, hn1, hn1', hall, hit, -List.all_eq_true]
  exact CI_out tab149 hτ

/-! Handlers -/
theorem k90 (p : Prg) (hok : p.ok) (s : Bs) (h : findEffE p.effects s = 0) (σ : St) : CI (.fn 90) [.agg p.cs, .int .i64 (findEffI p.effects s)] σ = some (.ret (slD (opNames p (findEffI p.effects s))), σ) ∧ (opNames p (findEffI p.effects s)).length ≤ maxL := by
  unfold findEffE at h
  unfold findEffI
  rcases idxOf_find (fun x : Eff => x.name == s) p.effects with ⟨hneg, _⟩ | ⟨i, hi, hlt, _, _⟩
  · rw [if_neg (by omega)] at h ⊢
    split at h
    · rename_i hs
      rw [if_pos hs]
      exact ⟨c90m p σ, by unfold maxL opNames; simp⟩
    · cases h
  · rw [hi, if_pos (by omega)]
    have e : opNames p i = p.effects[i].ops.map Opn.name := by
      unfold opNames
      rw [if_neg (by omega)]
      simp [hlt]
    rw [e]
    exact ⟨c90 p hok i hlt σ, by simpa using (hok.e _ (List.getElem_mem hlt)).1⟩
theorem p189 (names : List Bs) (arms : List Arm) (hcl : names.length ≤ maxL) (f : Nat) (P : Bs → Arm → Bool) (hf : ∀ c a σ, CI (.fn f) [.str c, .agg a.cs] σ = some (.ret (.bool (P c a)), σ)) (σ : St) :
    CI (.fn 189) [slD names, .slice (armsD arms), .func f [] []] σ = some (.ret (.bool (all2 P names arms)), σ) := by
  have hlc : (names.map D.str).length = names.length := by simp
  have hla := armsD_len arms
  unfold slD
  obtain ⟨τ, hτ⟩ : ∃ τ, bodyI CI XB GI af189 [.slice (names.map .str), .slice (armsD arms), .func f [] []] σ = some (.ret (.bool (all2 P names arms)), σ ++ τ) := by
    by_cases hl : names.length = arms.length
    · obtain ⟨τ, hit⟩ := loop_all2 (f := evalI CI XB GI 32 false lp189_0) (σ := σ) names arms hl P (fun i => [(1, .slice (armsD arms)), (2, .func f [] []), (15, .slice (names.map .str)), (16, .int .i64 names.length), (17, .int .i64 (i : Nat))]) (.ret, [(6, .bool false)])
        (.exit 0, [(1, .slice (armsD arms)), (2, .func f [] []), (15, .slice (names.map .str)), (16, .int .i64 names.length), (17, .int .i64 names.length), (18, .bool false)]) (by simp) (by simp)
        (fun i hi hi' τ => by
          have hw := wrap_nat (n := i) (by unfold maxL at hcl; omega)
          have hgc : (names.map D.str)[i]? = some (.str names[i]) := by simp [hi]
          have hga : (armsD arms)[i]? = some (.agg arms[i].cs) := by rw [armsD_map]; simp [Arm.d, hi']
          generalize names.map D.str = cd at *
          generalize armsD arms = ad at *
          have h2 : i < cd.length := by omega
          have h3 : cd[i] = .str names[i] := by rw [List.getElem?_eq_getElem h2] at hgc; exact Option.some.inj hgc
          have h4 : i < ad.length := by omega
          have h5 : ad[i] = .agg arms[i].cs := by rw [List.getElem?_eq_getElem h4] at hga; exact Option.some.inj hga
          generalize names[i] = c at *
          generalize arms[i] = a at *
          have hc := hf c a
          refine ⟨τ ++ [.box a.cs], ?_⟩
          rw [← List.append_assoc]
          generalize σ ++ τ = σ1 at *
          have y1 := a.cs_len
          have y2 := a.cs_take
          have y3 : a.cs.drop 9 = [] := List.drop_eq_nil_of_le (by simp)
          have y4 := a.cs_all
          generalize a.cs = ac at *
          cases hp : P c a <;> rw [hp] at hc <;> simp [lp189_0, hi, hw, h2, h3, h4, h5, getA0, setA0, y1, y2, y3, y4, putCells, hc])
        (fun τ => ⟨τ, by generalize names.map D.str = cd at *; generalize armsD arms = ad at *; simp [lp189_0]⟩) names.length 0 [] (by omega)
      rw [Int.natCast_zero, List.append_nil, List.drop_zero, List.drop_zero] at hit
      refine ⟨τ, ?_⟩
      have hl' : (names.length : Int) = arms.length := by omega
      generalize names.map D.str = cd at *
      generalize armsD arms = ad at *
      cases ha : all2 P names arms <;> (rw [ha] at hit; simp only [hl'] at hit; simp [bodyI, af189, hlc, hla, hl', hit])
    · refine ⟨[], ?_⟩
      rw [all2_ne hl]
      have hl' : ((names.length : Int) != (arms.length : Int)) = true := by rw [bne_iff_ne]; omega
      generalize names.map D.str = cd at *
      generalize armsD arms = ad at *
      simp [bodyI, af189, hlc, hla, hl']
  exact CI_tree tab189 hτ rfl rfl

def handlerErr (p : Prg) (s : Bs) (arms : List Arm) : Int :=
  if findEffE p.effects s = 0 then (if all2 (fun (o : Bs) (a : Arm) => o == a.op) (opNames p (findEffI p.effects s)) arms.tail then 0 else 9) else findEffE p.effects s
set_option maxHeartbeats 2000000 in
theorem c147 (p : Prg) (hok : p.ok) (t : Nat) (m : CMap) (x : Ex) (σ : St) (hT : IsT σ t p m) (k n : Int) (s u : Bs) (names : List Bs) (l : List Ex) (arms : List Arm) (hx : x = .mk k n s u names l arms) (ha : 0 < arms.length) :
    CI (.fn 147) [.ptr t 0, .agg x.cs] σ = some (outR (handlerErr p s arms), σ) := by
  subst hx
  obtain ⟨j, hj, _⟩ := hT
  have hpl := p.cs_len
  have hpt := p.cs_take
  have h34 := fun σ => c34 p hok.el s σ
  have h90 := fun h σ => (k90 p hok s h σ).1
  have h189 := fun h σ => p189 (opNames p (findEffI p.effects s)) arms.tail (k90 p hok s h []).2 190 (fun o a => o == a.op) c190 σ
  have hall : (armsD arms).all (fun e => e.cells.length == 9) = true := by
    rw [armsD_map, List.all_map]; simp [Arm.d, D.cells]
  have htl : (armsD arms).drop 1 = armsD arms.tail := by cases arms <;> simp [armsD]
  have htk : (armsD arms).take arms.length = armsD arms := List.take_of_length_le (by rw [armsD_len]; exact Nat.le_refl _)
  have hla := armsD_len arms
  have ha1 : (1 : Int) ≤ arms.length := by omega
  have ha2 : 1 ≤ arms.length := ha
  have e1 : eqbL (armsD arms) (armsD arms) = true := eqbL_tree _ (arms_plain _).1
  have e2 : eqbL (armsD arms.tail) (armsD arms.tail) = true := eqbL_tree _ (arms_plain _).1
  have e3 : eqbL p.cs p.cs = true := eqbL_tree _ p.plain.1
  have q90 : qI 90 = false := rfl
  have x90 : XB 90 = false := rfl
  have q189 : qI 189 = false := rfl
  have x189 : XB 189 = false := rfl
  obtain ⟨τ, hτ⟩ : ∃ τ, bodyI CI XB GI af147 [.ptr t 0, .agg (Ex.mk k n s u names l arms).cs] σ = some (outR (handlerErr p s arms), σ ++ τ) := by
    simp only [Ex.cs, slD] at *
    refine ⟨[.box [.int .i64 k, .int .i64 n, .str s, .str u, .slice (names.map .str), .slice (exsD l), .slice (armsD arms)]], ?_⟩
    unfold handlerErr
    simp only [D.cells] at hall
    generalize p.cs = pc at *
    generalize names.map D.str = nd at *
    generalize exsD l = ld at *
    generalize findEffI p.effects s = fi at *
    generalize all2 (fun (o : Bs) (a : Arm) => o == a.op) (opNames p fi) arms.tail = b at *
    generalize (opNames p fi).map D.str = od at *
    generalize armsD arms.tail = atl at *
    generalize armsD arms = ad at *
    generalize findEffE p.effects s = e at *
    by_cases he : e = 0
    · subst he
      have h90 := h90 rfl
      have h189 := h189 rfl
      rw [if_pos rfl]
      cases b <;> simp [bodyI, af147, getA0, getO hj, bound, hpl, hpt, hall, htl, htk, hla, ha1, ha2, e1, e2, e3, h34, h90, h189, c58, c59, outR, q34, x34, q90, x90, q189, x189, Nat.testBit_eq_decide_div_mod_eq, -List.all_eq_true]
    · rw [if_neg he]
      simp [bodyI, af147, getA0, getO hj, hpl, hpt, h34, c59, outR_ne he, q34, x34, Nat.testBit_eq_decide_div_mod_eq]
  exact CI_out tab147 hτ
end Go.AI
namespace Go.AI
open Go Go.Proofs Go.Lx
set_option maxRecDepth 100000

section
variable {β : Type} (step : Ex → β → β ⊕ Int)
mutual
/-- A node, then its parts. -/
def Ex.walk : Ex → β → β ⊕ Int
  | .mk k n s t names l arms, b => match step (.mk k n s t names l arms) b with
    | .inr e => .inr e
    | .inl b1 => match exsWalk l b1 with
      | .inr e => .inr e
      | .inl b2 => armsWalk arms b2
def exsWalk : List Ex → β → β ⊕ Int
  | [], b => .inl b
  | x :: r, b => match x.walk b with
    | .inr e => .inr e
    | .inl b1 => exsWalk r b1
def armsWalk : List Arm → β → β ⊕ Int
  | [], b => .inl b
  | .mk _ _ x :: r, b => match x.walk b with
    | .inr e => .inr e
    | .inl b1 => armsWalk r b1
end
theorem exsWalk_fold : ∀ (l : List Ex) (i : Nat) (b : β), exsWalk step l b = foldS (fun _ x => x.walk step) l i b
  | [], i, b => by simp only [exsWalk, foldS]
  | x :: r, i, b => by
    simp only [exsWalk, foldS]
    cases x.walk step b with
    | inr e => rfl
    | inl b1 => exact exsWalk_fold r (i + 1) b1
theorem armsWalk_fold : ∀ (l : List Arm) (i : Nat) (b : β), armsWalk step l b = foldS (fun _ a => a.body.walk step) l i b
  | [], i, b => by simp only [armsWalk, foldS]
  | .mk _ _ x :: r, i, b => by
    simp only [armsWalk, foldS, Arm.body]
    cases x.walk step b with
    | inr e => rfl
    | inl b1 => exact armsWalk_fold r (i + 1) b1
end

theorem postI_same {q : FuncId → Bool} {f : FuncId} {A A' τ1 : St} {d : D} (hl : A'.length = A.length) (hk : ∀ j, j < A.length → A'[j]? = A[j]? ∨ ∃ o, A'[j]? = some o ∧ o.under A.length) (hd : d.tree = true) (hq : q f = false) :
    postI q f A (some (.ret d, A' ++ τ1)) = some (.ret d.weak, A') := by
  have hK : Keeps A (A' ++ τ1) := fun j hj => by
    rw [List.getElem?_append_left (by omega)]; exact hk j hj
  rw [postI_ret hK (trimV_tree hd) (by simp [hq]), ← hl, List.take_left]
theorem postI_same_panic {q : FuncId → Bool} {f : FuncId} {A A' τ1 : St} {d : D} (hl : A'.length = A.length) (hk : ∀ j, j < A.length → A'[j]? = A[j]? ∨ ∃ o, A'[j]? = some o ∧ o.under A.length) (hd : d.tree = true) :
    postI q f A (some (.panic d, A' ++ τ1)) = some (.panic d, A') := by
  have hK : Keeps A (A' ++ τ1) := fun j hj => by
    rw [List.getElem?_append_left (by omega)]; exact hk j hj
  rw [postI_pan hK hd, ← hl, List.take_left]

section
variable {β : Type} (i2 y s i : Nat) (o : β → Obj) (I : β → Prop) (step : Ex → β → β ⊕ Int) (σ SP : St)
theorem p192 (hi2 : i2 < σ.length) (ho : ∀ b m, σ.length ≤ m → (o b).under m) (hSPl : SP.length = σ.length)
    (hSP : ∀ b j, j < σ.length → SP[j]? = (σ.set i2 (o b))[j]? ∨ ∃ ob, SP[j]? = some ob ∧ ∀ m, σ.length ≤ m → ob.under m)
    (hy : ∀ b, (σ.set i2 (o b))[y]? = some (.box [.yield i])) (hs : ∀ b, (σ.set i2 (o b))[s]? = some (.box [.func 192 [] [.ptr y 0, .ptr s 0]]))
    (G : Ex → Prop) (hG : ∀ e x, G e → x ∈ e.parts → G x) (hI : ∀ e b b', G e → I b → step e b = .inl b' → I b')
    (h : ∀ e, G e → ∀ b τ, I b → ∃ τ', CI (.round i) [.agg e.cs] (σ.set i2 (o b) ++ τ) = some (match step e b with | .inl b' => (.ret (.bool true), σ.set i2 (o b') ++ (τ ++ τ')) | .inr err => (.panic (refD err), SP ++ (τ ++ τ')))) :
    ∀ (e : Ex), e.ok → G e → ∀ (b : β) (τ : St), I b → CI (.fn 192) [.agg e.cs, .ptr y 0, .ptr s 0] (σ.set i2 (o b) ++ τ) = some (match e.walk step b with | .inl b' => (.ret (.bool true), σ.set i2 (o b') ++ τ) | .inr err => (.panic (refD err), SP ++ τ)) ∧ ∀ b', e.walk step b = .inl b' → I b'
  | .mk k n ss u names l arms, hok, hg, b, τ, hb => by
    have hparts := fun x hx => hG (Ex.mk k n ss u names l arms) x hg hx
    obtain ⟨_, hll, hal, hlok, haok⟩ := hok
    simp only [Ex.parts, List.mem_append, List.mem_map] at hparts
    have keepA : ∀ b b' τ j, j < (σ.set i2 (o b) ++ τ).length → (σ.set i2 (o b') ++ τ)[j]? = (σ.set i2 (o b) ++ τ)[j]? ∨ ∃ ob, (σ.set i2 (o b') ++ τ)[j]? = some ob ∧ ob.under (σ.set i2 (o b) ++ τ).length := fun b b' τ j hj => by
      by_cases hjl : j < σ.length
      · rw [List.getElem?_append_left (by simpa using hjl), List.getElem?_append_left (by simpa using hjl)]
        by_cases hji : i2 = j
        · subst hji
          right
          exact ⟨o b', by rw [List.getElem?_set_self hi2], ho _ _ (by simp)⟩
        · left
          rw [List.getElem?_set_ne hji, List.getElem?_set_ne hji]
      · left
        rw [List.getElem?_append_right (by simp; omega), List.getElem?_append_right (by simp; omega)]
        simp
    have keepP : ∀ b τ j, j < (σ.set i2 (o b) ++ τ).length → (SP ++ τ)[j]? = (σ.set i2 (o b) ++ τ)[j]? ∨ ∃ ob, (SP ++ τ)[j]? = some ob ∧ ob.under (σ.set i2 (o b) ++ τ).length := fun b τ j hj => by
      by_cases hjl : j < σ.length
      · rw [List.getElem?_append_left (by omega), List.getElem?_append_left (by simpa using hjl)]
        rcases hSP b j hjl with h | ⟨ob, h1, h2⟩
        · exact .inl h
        · exact .inr ⟨ob, h1, h2 _ (by simp)⟩
      · left
        rw [List.getElem?_append_right (by omega), List.getElem?_append_right (by simp; omega), hSPl]
        simp
    have hpost : ∀ b' τ1, postI qI 192 (σ.set i2 (o b) ++ τ) (some (.ret (.bool true), σ.set i2 (o b') ++ τ ++ τ1)) = some (.ret (.bool true), σ.set i2 (o b') ++ τ) := fun b' τ1 => postI_same (by simp) (keepA b b' τ) rfl rfl
    have hpostP : ∀ err τ1, postI qI 192 (σ.set i2 (o b) ++ τ) (some (.panic (refD err), SP ++ τ ++ τ1)) = some (.panic (refD err), SP ++ τ) := fun err τ1 => postI_same_panic (by simp [hSPl]) (keepP b τ) rfl
    have hexl := exsD_len l
    have harl := armsD_len arms
    have hcs := (Ex.mk k n ss u names l arms).cs_all
    have hcl := (Ex.mk k n ss u names l arms).cs_len
    have hct := (Ex.mk k n ss u names l arms).cs_take
    obtain ⟨τ0, h0⟩ := h _ hg b (τ ++ [.box (Ex.mk k n ss u names l arms).cs]) hb
    have hy0 := getO (τ := τ) (hy b)
    have hsl : ∀ b, (σ.set i2 (o b)).length = σ.length := fun b => by simp
    simp only [Ex.walk]
    cases hst : step (Ex.mk k n ss u names l arms) b with
    | inr err =>
      refine ⟨?_, fun b' hb' => by cases hb'⟩
      rw [hst] at h0
      simp only at h0 ⊢
      refine CI_fn tab192 ?_ (hpostP err ([.box (Ex.mk k n ss u names l arms).cs] ++ τ0))
      simp only [List.append_assoc] at h0 ⊢
      simp only [← List.append_assoc] at h0 ⊢
      generalize SP ++ τ ++ [.box (Ex.mk k n ss u names l arms).cs] ++ τ0 = σ3 at *
      generalize σ.set i2 (o b) ++ τ = σ1 at *
      generalize (Ex.mk k n ss u names l arms).cs = ec at *
      simp [bodyI, af192, getA0, getO hy0, hcs, hcl, hct, h0]
    | inl b1 =>
      rw [hst] at h0
      simp only at h0 ⊢
      have hb1 : I b1 := hI _ _ _ hg hb hst
      have hgq : ∀ b' τ', (σ.set i2 (o b') ++ (τ ++ [.box (Ex.mk k n ss u names l arms).cs]) ++ τ')[σ.length + τ.length]? = some (.box (Ex.mk k n ss u names l arms).cs) := fun b' τ' => by
        rw [List.append_assoc, List.getElem?_append_right (by simp)]
        simp
      have ih := fun x hx (hxo : x.ok) b τ hb => p192 hi2 ho hSPl hSP hy hs G hG hI h x hxo (hparts x hx) b τ hb
      have iw := fun b0 τa => loop_foldP (f := evalI CI XB GI 38 false lp192_0) l (fun j _ => [(2, .ptr s 0), (3, .ptr (σ.length + τ.length) 0), (14, .slice (exsD l)), (15, .int .i64 l.length), (16, .int .i64 (j : Nat))]) (fun b => σ.set i2 (o b) ++ (τ ++ [.box (Ex.mk k n ss u names l arms).cs])) (fun _ b => I b) (fun _ x => x.walk step)
        (fun c => .panic (refD c)) (SP ++ (τ ++ [.box (Ex.mk k n ss u names l arms).cs])) (fun _ => (.exit 0, [(2, .ptr s 0), (3, .ptr (σ.length + τ.length) 0), (14, .slice (exsD l)), (15, .int .i64 l.length), (16, .int .i64 l.length), (17, .bool false)])) (by simp) (by simp)
        (fun j hj b b' hb hw => (ih l[j] (.inl (List.getElem_mem hj)) (exsOk_mem hlok (List.getElem_mem hj)) b [] hb).2 b' hw)
        (fun j hj b τ1 hb => by
          have hw := wrap_nat (n := j) (by unfold maxL at hll; omega)
          have hc := (ih l[j] (.inl (List.getElem_mem hj)) (exsOk_mem hlok (List.getElem_mem hj)) b (τ ++ [.box (Ex.mk k n ss u names l arms).cs] ++ τ1 ++ [.box l[j].cs]) hb).1
          have hget : (exsD l)[j]? = some (.agg l[j].cs) := by rw [exsD_map]; simp [Ex.d, hj]
          have hs1 : (σ.set i2 (o b) ++ (τ ++ [.box (Ex.mk k n ss u names l arms).cs]) ++ τ1)[s]? = some (.box [.func 192 [] [.ptr y 0, .ptr s 0]]) := by rw [List.append_assoc]; exact getO (hs b)
          have hx1 := l[j].cs_all
          have hx2 := l[j].cs_len
          have hx3 := l[j].cs_take
          have hx4 : l[j].cs.drop 7 = [] := List.drop_eq_nil_of_le (by simp)
          generalize exsD l = ld at *
          have h2 : j < ld.length := by omega
          have h3 : ld[j] = .agg l[j].cs := by rw [List.getElem?_eq_getElem h2] at hget; exact Option.some.inj hget
          cases hwk : l[j].walk step b with
          | inl b' =>
            rw [hwk] at hc
            refine ⟨τ1 ++ [.box l[j].cs], [], ?_⟩
            simp only [← List.append_assoc] at hc hs1 ⊢
            generalize l[j].cs = xc at *
            generalize σ.set i2 (o b') ++ τ ++ [.box (Ex.mk k n ss u names l arms).cs] ++ τ1 ++ [.box xc] = σ4 at *
            generalize σ.set i2 (o b) ++ τ ++ [.box (Ex.mk k n ss u names l arms).cs] ++ τ1 = σ3 at *
            simp [lp192_0, hj, hw, h2, h3, getA0, setA0, getO hs1, hx1, hx2, hx3, hx4, putCells, hc]
          | inr err =>
            rw [hwk] at hc
            refine ⟨τ1 ++ [.box l[j].cs], [(2, .ptr s 0), (3, .ptr (σ.length + τ.length) 0), (6, .ptr (σ.set i2 (o b) ++ τ ++ [Obj.box (Ex.mk k n ss u names l arms).cs] ++ τ1).length 0), (14, .slice ld), (15, .int .i64 l.length), (16, .int .i64 (j : Nat)), (20, .func 192 [] [.ptr y 0, .ptr s 0]), (21, .agg l[j].cs)], ?_⟩
            simp only [← List.append_assoc] at hc hs1 ⊢
            generalize l[j].cs = xc at *
            generalize SP ++ τ ++ [.box (Ex.mk k n ss u names l arms).cs] ++ τ1 ++ [.box xc] = σ4 at *
            generalize σ.set i2 (o b) ++ τ ++ [.box (Ex.mk k n ss u names l arms).cs] ++ τ1 = σ3 at *
            simp [lp192_0, hj, hw, h2, h3, getA0, setA0, getO hs1, hx1, hx2, hx3, hx4, putCells, hc])
        (fun b τ1 hb => ⟨τ1, by generalize exsD l = ld at *; simp [lp192_0]⟩) b0 τa
      have iwa := fun b0 τa => loop_foldP (f := evalI CI XB GI 38 false lp192_1) arms (fun j _ => [(2, .ptr s 0), (26, .slice (armsD arms)), (27, .int .i64 arms.length), (28, .int .i64 (j : Nat))]) (fun b => σ.set i2 (o b) ++ (τ ++ [.box (Ex.mk k n ss u names l arms).cs])) (fun _ b => I b) (fun _ x => x.body.walk step)
        (fun c => .panic (refD c)) (SP ++ (τ ++ [.box (Ex.mk k n ss u names l arms).cs])) (fun _ => (.exit 2, [(2, .ptr s 0), (26, .slice (armsD arms)), (27, .int .i64 arms.length), (28, .int .i64 arms.length), (29, .bool false)])) (by simp) (by simp)
        (fun j hj b b' hb hw => (ih arms[j].body (.inr ⟨_, List.getElem_mem hj, rfl⟩) (by have := armsOk_mem haok (List.getElem_mem hj); rcases harm : arms[j] with ⟨a1, a2, a3⟩; rw [harm] at this; exact this.2) b [] hb).2 b' hw)
        (fun j hj b τ1 hb => by
          have hw := wrap_nat (n := j) (by unfold maxL at hal; omega)
          have hc := (ih arms[j].body (.inr ⟨_, List.getElem_mem hj, rfl⟩) (by have := armsOk_mem haok (List.getElem_mem hj); rcases harm : arms[j] with ⟨a1, a2, a3⟩; rw [harm] at this; exact this.2) b (τ ++ [.box (Ex.mk k n ss u names l arms).cs] ++ τ1 ++ [.box arms[j].cs]) hb).1
          have hget : (armsD arms)[j]? = some (.agg arms[j].cs) := by rw [armsD_map]; simp [Arm.d, hj]
          have hs1 : (σ.set i2 (o b) ++ (τ ++ [.box (Ex.mk k n ss u names l arms).cs]) ++ τ1)[s]? = some (.box [.func 192 [] [.ptr y 0, .ptr s 0]]) := by rw [List.append_assoc]; exact getO (hs b)
          have hx1 := arms[j].body.cs_all
          have hx2 := arms[j].body.cs_len
          have hx3 := arms[j].body.cs_take
          have hx4 : arms[j].body.cs.drop 7 = [] := List.drop_eq_nil_of_le (by simp)
          rw [Arm.cs_eq] at hget hc
          generalize armsD arms = ld at *
          have h2 : j < ld.length := by omega
          have h3 : ld[j] = .agg (.str arms[j].op :: slD arms[j].names :: arms[j].body.cs) := by rw [List.getElem?_eq_getElem h2] at hget; exact Option.some.inj hget
          unfold slD at *
          generalize arms[j].names.map D.str = nd at *
          generalize arms[j].op = aop at *
          cases hwk : arms[j].body.walk step b with
          | inl b' =>
            rw [hwk] at hc
            refine ⟨τ1 ++ [.box (.str aop :: .slice nd :: arms[j].body.cs)], [], ?_⟩
            simp only [← List.append_assoc] at hc hs1 ⊢
            generalize arms[j].body.cs = xc at *
            generalize σ.set i2 (o b') ++ τ ++ [.box (Ex.mk k n ss u names l arms).cs] ++ τ1 ++ [.box (.str aop :: .slice nd :: xc)] = σ4 at *
            generalize σ.set i2 (o b) ++ τ ++ [.box (Ex.mk k n ss u names l arms).cs] ++ τ1 = σ3 at *
            simp [lp192_1, hj, hw, h2, h3, getA0, setA0, getO hs1, hx1, hx2, hx3, hx4, putCells, hc]
          | inr err =>
            rw [hwk] at hc
            refine ⟨τ1 ++ [.box (.str aop :: .slice nd :: arms[j].body.cs)], [(2, .ptr s 0), (8, .ptr (σ.set i2 (o b) ++ τ ++ [Obj.box (Ex.mk k n ss u names l arms).cs] ++ τ1).length 0), (26, .slice ld), (27, .int .i64 arms.length), (28, .int .i64 (j : Nat)), (32, .func 192 [] [.ptr y 0, .ptr s 0]), (33, .ptr (σ.set i2 (o b) ++ τ ++ [Obj.box (Ex.mk k n ss u names l arms).cs] ++ τ1).length 2), (34, .agg arms[j].body.cs)], ?_⟩
            simp only [← List.append_assoc] at hc hs1 ⊢
            generalize arms[j].body.cs = xc at *
            generalize SP ++ τ ++ [.box (Ex.mk k n ss u names l arms).cs] ++ τ1 ++ [.box (.str aop :: .slice nd :: xc)] = σ4 at *
            generalize σ.set i2 (o b) ++ τ ++ [.box (Ex.mk k n ss u names l arms).cs] ++ τ1 = σ3 at *
            simp [lp192_1, hj, hw, h2, h3, getA0, setA0, getO hs1, hx1, hx2, hx3, hx4, putCells, hc])
        (fun b τ1 hb => ⟨τ1, by generalize armsD arms = ld at *; simp [lp192_1]⟩) b0 τa
      rw [exsWalk_fold step l 0]
      obtain ⟨τ1, ev1, hit1⟩ := iw b1 τ0 hb1
      simp only [Int.natCast_zero] at hit1
      have hlq : (σ.set i2 (o b) ++ τ).length = σ.length + τ.length := by simp
      have hgq1 := hgq b1 τ0
      cases hw1 : foldS (fun _ x => x.walk step) l 0 b1 with
      | inr err =>
        refine ⟨?_, fun b' hb' => by cases hb'⟩
        rw [hw1] at hit1
        simp only at hit1 ⊢
        refine CI_fn tab192 ?_ (hpostP err ([.box (Ex.mk k n ss u names l arms).cs] ++ τ1))
        simp only [← List.append_assoc] at h0 hit1 hgq1 ⊢
        generalize SP ++ τ ++ [.box (Ex.mk k n ss u names l arms).cs] ++ τ1 = σ5 at *
        generalize σ.set i2 (o b1) ++ τ ++ [.box (Ex.mk k n ss u names l arms).cs] ++ τ0 = σ3 at *
        rw [← hlq] at hgq1 hit1
        generalize σ.set i2 (o b) ++ τ = σ1 at *
        simp only [Ex.cs] at *
        generalize exsD l = ld at *
        generalize armsD arms = ad at *
        unfold slD at *
        generalize names.map D.str = nd at *
        simp [bodyI, af192, getA0, getO hy0, h0, hgq1, hexl, hit1]
      | inl b2 =>
        rw [hw1] at hit1
        simp only at hit1 ⊢
        rw [armsWalk_fold step arms 0]
        have hb2 : I b2 := foldS_inv (I := I) l (fun a ha j b b' hb hw => (ih a (.inl ha) (exsOk_mem hlok ha) b [] hb).2 b' hw) 0 b1 b2 hb1 hw1
        obtain ⟨τ2, ev2, hit2⟩ := iwa b2 τ1 hb2
        simp only [Int.natCast_zero] at hit2
        have hgq2 := hgq b2 τ1
        cases hw2 : foldS (fun _ (a : Arm) => a.body.walk step) arms 0 b2 with
        | inr err =>
          refine ⟨?_, fun b' hb' => by cases hb'⟩
          rw [hw2] at hit2
          simp only at hit2 ⊢
          refine CI_fn tab192 ?_ (hpostP err ([.box (Ex.mk k n ss u names l arms).cs] ++ τ2))
          simp only [← List.append_assoc] at h0 hit1 hit2 hgq1 hgq2 ⊢
          generalize SP ++ τ ++ [.box (Ex.mk k n ss u names l arms).cs] ++ τ2 = σ5 at *
          generalize σ.set i2 (o b1) ++ τ ++ [.box (Ex.mk k n ss u names l arms).cs] ++ τ0 = σ3 at *
          generalize σ.set i2 (o b2) ++ τ ++ [.box (Ex.mk k n ss u names l arms).cs] ++ τ1 = σ4 at *
          rw [← hlq] at hgq1 hgq2 hit1
          generalize σ.set i2 (o b) ++ τ = σ1 at *
          simp only [Ex.cs] at *
          generalize exsD l = ld at *
          generalize armsD arms = ad at *
          unfold slD at *
          generalize names.map D.str = nd at *
          simp [bodyI, af192, getA0, getO hy0, h0, hgq1, hgq2, hexl, harl, hit1, hit2]
        | inl b3 =>
          refine ⟨?_, fun b' hb' => ?_⟩
          · rw [hw2] at hit2
            simp only at hit2 ⊢
            refine CI_fn tab192 ?_ (hpost b3 ([.box (Ex.mk k n ss u names l arms).cs] ++ τ2))
            simp only [← List.append_assoc] at h0 hit1 hit2 hgq1 hgq2 ⊢
            generalize σ.set i2 (o b3) ++ τ ++ [.box (Ex.mk k n ss u names l arms).cs] ++ τ2 = σ5 at *
            generalize σ.set i2 (o b1) ++ τ ++ [.box (Ex.mk k n ss u names l arms).cs] ++ τ0 = σ3 at *
            generalize σ.set i2 (o b2) ++ τ ++ [.box (Ex.mk k n ss u names l arms).cs] ++ τ1 = σ4 at *
            rw [← hlq] at hgq1 hgq2 hit1
            generalize σ.set i2 (o b) ++ τ = σ1 at *
            simp only [Ex.cs] at *
            generalize exsD l = ld at *
            generalize armsD arms = ad at *
            unfold slD at *
            generalize names.map D.str = nd at *
            simp [bodyI, af192, getA0, getO hy0, h0, hgq1, hgq2, hexl, harl, hit1, hit2]
          · cases hb'
            exact foldS_inv (I := I) arms (fun a ha j b b' hb hw => (ih a.body (.inr ⟨_, ha, rfl⟩) (by have := armsOk_mem haok ha; rcases a with ⟨a1, a2, a3⟩; exact this.2) b [] hb).2 b' hw) 0 b2 b3 hb2 hw2
termination_by e => SizeOf.sizeOf e
decreasing_by exact Ex.parts_lt (by simp only [Ex.parts, List.mem_append, List.mem_map]; exact hx)
end
end Go.AI
namespace Go.AI
open Go Go.Proofs Go.Lx
set_option maxRecDepth 100000

/-- The error of a node in a program. -/
def Ex.ordErr (p : Prg) : Ex → Int
  | .mk k _ s t names l arms => if k = 10 then conErr p s l.length else if k = 11 then matchErr p arms else if k = 12 then opErr p s else if k = 13 then opErr p t
    else if k = 14 then handlerErr p s arms else if k = 15 then handlerErr p s arms else if k = 16 then findEffE p.effects s else if k = 17 then usingErr p names else 0
/-- What is asked of a kind of node. -/
def askOf (t : Nat) (k : Int) : Option D :=
  if k = 10 then some (.func 144 [.ptr t 0] []) else if k = 11 then some (.func 145 [.ptr t 0] []) else if k = 12 then some (.func 146 [.ptr t 0] []) else if k = 13 then some (.func 146 [.ptr t 0] [])
  else if k = 14 then some (.func 147 [.ptr t 0] []) else if k = 15 then some (.func 147 [.ptr t 0] []) else if k = 16 then some (.func 148 [.ptr t 0] []) else if k = 17 then some (.func 149 [.ptr t 0] []) else none
def askM (t : Nat) : List (D × D) := [(.int .i64 10, .func 144 [.ptr t 0] []), (.int .i64 11, .func 145 [.ptr t 0] []), (.int .i64 12, .func 146 [.ptr t 0] []), (.int .i64 13, .func 146 [.ptr t 0] []),
  (.int .i64 14, .func 147 [.ptr t 0] []), (.int .i64 15, .func 147 [.ptr t 0] []), (.int .i64 16, .func 148 [.ptr t 0] []), (.int .i64 17, .func 149 [.ptr t 0] [])]
theorem ask_find (t : Nat) (k : Int) : mapFind 1 (.int .i64 k) (askM t) = some (askOf t k) := by
  unfold askM askOf
  simp only [mapFind, D.kindEq, if_true]
  by_cases h0 : k = 10
  · subst h0; simp
  by_cases h1 : k = 11
  · subst h1; simp
  by_cases h2 : k = 12
  · subst h2; simp
  by_cases h3 : k = 13
  · subst h3; simp
  by_cases h4 : k = 14
  · subst h4; simp
  by_cases h5 : k = 15
  · subst h5; simp
  by_cases h6 : k = 16
  · subst h6; simp
  by_cases h7 : k = 17
  · subst h7; simp
  have b0 : (k == 10) = false := by simpa using h0
  have b1 : (k == 11) = false := by simpa using h1
  have b2 : (k == 12) = false := by simpa using h2
  have b3 : (k == 13) = false := by simpa using h3
  have b4 : (k == 14) = false := by simpa using h4
  have b5 : (k == 15) = false := by simpa using h5
  have b6 : (k == 16) = false := by simpa using h6
  have b7 : (k == 17) = false := by simpa using h7
  simp [h0, h1, h2, h3, h4, h5, h6, h7, b0, b1, b2, b3, b4, b5, b6, b7]

theorem nodeE_arms {k n : Int} {s t : Bs} {names : List Bs} {nl : Nat} {arms : List Arm} (h : nodeE k n s t names nl arms = 0) (hk : k = 14 ∨ k = 15) : 0 < arms.length := by
  have ha : (shapeOf k).a = true := by rcases hk with rfl | rfl <;> rfl
  have h11 : (k != 11) = true := by rcases hk with rfl | rfl <;> rfl
  have h17 : ¬ k = 17 := by omega
  cases arms with
  | cons a r => simp
  | nil =>
    exfalso
    unfold nodeE at h
    simp only [if_neg h17, armsE, ha, h11, List.length_nil, decide_true, Bool.and_self, if_true] at h
    generalize distE (names.take names.length) 1 = d1 at *
    generalize distE (names.drop names.length) 2 = d2 at *
    repeat' split at h
    all_goals first | omega | contradiction
theorem nodeE_names {n : Int} {s t : Bs} {names : List Bs} {nl : Nat} {arms : List Arm} (h : nodeE 17 n s t names nl arms = 0) : 0 < names.length := by
  have hn : (shapeOf 17).n = 1 := rfl
  cases names with
  | cons a r => simp
  | nil =>
    exfalso
    unfold nodeE at h
    have hz : inR ((([] : List Bs).length : Nat) : Int) (shapeOf 17).n ((shapeOf 17).n + (shapeOf 17).m) = false := by
      rw [hn]; unfold inR; simp
    simp only [hz, Bool.false_and, Bool.false_eq_true, if_false] at h
    repeat' split at h
    all_goals first | omega | contradiction

theorem ask_fn (p : Prg) (hok : p.ok) (t : Nat) (x : Ex) (hx : x.ok) (k n : Int) (s u : Bs) (names : List Bs) (l : List Ex) (arms : List Arm) (he : x = .mk k n s u names l arms) (hn : nodeE k n s u names l.length arms = 0) :
    (askOf t k = none ∧ x.ordErr p = 0) ∨ ∃ f, askOf t k = some (.func f [.ptr t 0] []) ∧ ∀ σ, IsT σ t p p.cm → CI (.fn f) [.ptr t 0, .agg x.cs] σ = some (outR (x.ordErr p), σ) := by
  have hnl : names.length ≤ maxL := by subst he; exact hx.1
  by_cases h0 : k = 10
  · subst h0
    exact .inr ⟨144, rfl, fun σ hT => by rw [c144 p hok t x σ hT 10 n s u names l arms he]; subst he; rfl⟩
  by_cases h1 : k = 11
  · subst h1
    exact .inr ⟨145, rfl, fun σ hT => by rw [c145 p hok t x σ hT 11 n s u names l arms he]; subst he; rfl⟩
  by_cases h2 : k = 12
  · subst h2
    exact .inr ⟨146, rfl, fun σ hT => by rw [c146 p hok t _ x σ hT 12 n s u names l arms he]; subst he; rfl⟩
  by_cases h3 : k = 13
  · subst h3
    exact .inr ⟨146, rfl, fun σ hT => by rw [c146 p hok t _ x σ hT 13 n s u names l arms he]; subst he; rfl⟩
  by_cases h4 : k = 14
  · subst h4
    exact .inr ⟨147, rfl, fun σ hT => by rw [c147 p hok t _ x σ hT 14 n s u names l arms he (nodeE_arms hn (.inl rfl))]; subst he; rfl⟩
  by_cases h5 : k = 15
  · subst h5
    exact .inr ⟨147, rfl, fun σ hT => by rw [c147 p hok t _ x σ hT 15 n s u names l arms he (nodeE_arms hn (.inr rfl))]; subst he; rfl⟩
  by_cases h6 : k = 16
  · subst h6
    exact .inr ⟨148, rfl, fun σ hT => by rw [c148 p hok t _ x σ hT 16 n s u names l arms he]; subst he; rfl⟩
  by_cases h7 : k = 17
  · subst h7
    exact .inr ⟨149, rfl, fun σ hT => by rw [c149 p hok t _ x σ hT 17 n s u names l arms he (nodeE_names hn) hnl]; subst he; rfl⟩
  exact .inl ⟨by unfold askOf; simp [h0, h1, h2, h3, h4, h5, h6, h7], by subst he; unfold Ex.ordErr; simp [h0, h1, h2, h3, h4, h5, h6, h7]⟩

/-- The loop over all nodes. -/
def loop96 (qm : Nat) (fd : D) (st : LoopState) : Obj := .loop 40 [(4, .ptr qm 0), (27, fd), (28, .any)] [28] as96_0 bd96_1 st none
theorem IsT.set {σ : St} {t : Nat} {p : Prg} {m : CMap} {i qm : Nat} {fd : D} {st : LoopState} {o : Obj} (h : IsT σ t p m) (hi : σ[i]? = some (loop96 qm fd st)) : IsT (σ.set i o) t p m := by
  obtain ⟨j, h1, h2⟩ := h
  have n1 : i ≠ t := fun he => by rw [he, h1] at hi; unfold loop96 at hi; cases hi
  have n2 : i ≠ j := fun he => by rw [he, h2] at hi; unfold loop96 at hi; cases hi
  exact ⟨j, by rw [List.getElem?_set_ne n1]; exact h1, by rw [List.getElem?_set_ne n2]; exact h2⟩

theorem rnd96 (p : Prg) (hok : p.ok) (t i qm jm : Nat) (fd : D) (σ : St) (x : Ex) (hx : x.ok) (hw : x.e = 0) (hi : σ[i]? = some (loop96 qm fd .ready)) (hq : σ[qm]? = some (.box [.map jm])) (hj : σ[jm]? = some (.map (askM t))) (hT : IsT σ t p p.cm) (τ : St) :
    ∃ τ', CI (.round i) [.agg x.cs] (σ ++ τ) = some (if x.ordErr p = 0 then (.ret (.bool true), σ ++ (τ ++ τ')) else (.panic (refD (x.ordErr p)), σ.set i (loop96 qm fd .busy) ++ (τ ++ τ'))) := by
  refine ⟨[Obj.box x.cs], callI_round postN ?_⟩
  have hil := lt_of_get hi
  have n1 : i ≠ qm := fun he => by rw [he, hq] at hi; unfold loop96 at hi; cases hi
  have n2 : i ≠ jm := fun he => by rw [he, hj] at hi; unfold loop96 at hi; cases hi
  have hTs := (hT.set (o := loop96 qm fd .busy) hi).app (τ := τ ++ [Obj.box x.cs])
  have hq' : (σ.set i (loop96 qm fd .busy))[qm]? = some (.box [.map jm]) := by rw [List.getElem?_set_ne n1]; exact hq
  have hj' : (σ.set i (loop96 qm fd .busy))[jm]? = some (.map (askM t)) := by rw [List.getElem?_set_ne n2]; exact hj
  have hi1 : (σ ++ τ)[i]? = some (loop96 qm fd .ready) := getO hi
  have hcs := x.cs_all
  have hcl := x.cs_len
  have hct := x.cs_take
  have hcd : x.cs.drop 7 = [] := List.drop_eq_nil_of_le (by simp)
  obtain ⟨k, n, s, u, names, l, arms, he⟩ : ∃ k n s u names l arms, x = .mk k n s u names l arms := by rcases x with ⟨k, n, s, u, names, l, arms⟩; exact ⟨_, _, _, _, _, _, _, rfl⟩
  have hn : nodeE k n s u names l.length arms = 0 := by
    subst he
    rw [Ex.e_eq] at hw
    by_cases hz : nodeE k n s u names l.length arms = 0
    · exact hz
    · rw [if_neg hz] at hw; exact absurd hw hz
  have hhd : x.cs.head? = some (.int .i64 k) := by subst he; rfl
  have hask := ask_fn p hok t x hx k n s u names l arms he hn
  have hfind := ask_find t k
  generalize x.ordErr p = e at *
  clear he
  generalize x.cs = xc at *
  have hsr : (σ ++ (τ ++ [Obj.box xc])).set i (loop96 qm fd .busy) = σ.set i (loop96 qm fd .busy) ++ (τ ++ [Obj.box xc]) := setO hil
  have hbl : (σ.set i (loop96 qm fd .busy) ++ (τ ++ [Obj.box xc]))[i]? = some (loop96 qm fd .busy) := getSs hil
  have hback : (σ.set i (loop96 qm fd .busy) ++ (τ ++ [Obj.box xc])).set i (loop96 qm fd .ready) = σ ++ (τ ++ [Obj.box xc]) := by
    rw [setSs hil]
    congr 1
    rw [← (List.getElem?_eq_some_iff.1 hi).2]; exact List.set_getElem_self _
  have hgL : (σ.set i (loop96 qm fd .busy) ++ (τ ++ [Obj.box xc]))[σ.length + τ.length]? = some (.box xc) := by
    rw [List.getElem?_append_right (by simp), List.getElem?_append_right (by simp)]; simp
  have hq2 := getO (τ := τ ++ [Obj.box xc]) hq'
  have hj2 := getO (τ := τ ++ [Obj.box xc]) hj'
  generalize askM t = am at *
  have has : evalI CI XB GI 40 true as96_0 [(4, .ptr qm 0), (27, fd), (28, .agg xc)] (σ ++ τ) = some (.normal, [(4, .ptr qm 0), (5, .ptr (σ.length + τ.length) 0)], σ ++ (τ ++ [Obj.box xc])) := by
    have hlen : (σ ++ τ).length = σ.length + τ.length := by simp
    rw [← List.append_assoc, ← hlen]
    generalize σ ++ τ = σ6 at *
    simp [as96_0, getA0, setA0, hcs, hcl, hct, hcd, putCells]
  have hi2 : (σ ++ (τ ++ [Obj.box xc]))[i]? = some (loop96 qm fd .ready) := getO hi
  have hnoRet : ∀ e', (∃ y, evalI CI XB GI 40 true bd96_1 [(4, .ptr qm 0), (5, .ptr (σ.length + τ.length) 0)] (σ.set i (loop96 qm fd .busy) ++ (τ ++ [Obj.box xc])) = some (.normal, y, σ.set i (loop96 qm fd .busy) ++ (τ ++ [Obj.box xc]))) ∧ e' = 0 ∨
      (∃ y, evalI CI XB GI 40 true bd96_1 [(4, .ptr qm 0), (5, .ptr (σ.length + τ.length) 0)] (σ.set i (loop96 qm fd .busy) ++ (τ ++ [Obj.box xc])) = some (.panic (refD e'), y, σ.set i (loop96 qm fd .busy) ++ (τ ++ [Obj.box xc]))) ∧ e' ≠ 0 →
      roundI CI XB GI i [.agg xc] (σ ++ τ) = some (if e' = 0 then (.ret (.bool true), σ ++ (τ ++ [Obj.box xc])) else (.panic (refD e'), σ.set i (loop96 qm fd .busy) ++ (τ ++ [Obj.box xc]))) := by
    intro e' hcase
    unfold roundI evalRound
    rw [hi1]
    simp only [loop96, putParams, putE, setE] at *
    simp only [show (28 : Nat) < 40 by omega, if_true]
    simp only [Nat.reduceEqDiff, if_false, reduceCtorEq]
    erw [has]
    simp only [hi2, hsr]
    rcases hcase with ⟨⟨y, hb⟩, rfl⟩ | ⟨⟨y, hb⟩, hne⟩
    · simp [hb, endR, hbl, hback]
    · simp [hb, hne]
  rcases hask with ⟨ha, he0⟩ | ⟨f, ha, hf⟩
  · rw [ha] at hfind
    refine hnoRet e (.inl ⟨⟨[(5, .ptr (σ.length + τ.length) 0), (6, .nilfunc), (36, .bool false)], ?_⟩, he0⟩)
    generalize σ.set i (loop96 qm fd .busy) ++ (τ ++ [Obj.box xc]) = σ5 at *
    simp [bd96_1, hq2, hgL, hhd, hj2, hfind, D.kindEq]
  · rw [ha] at hfind
    have hf := hf _ hTs
    by_cases he0 : e = 0
    · subst he0
      refine hnoRet 0 (.inl ⟨⟨[], ?_⟩, rfl⟩)
      rw [outR_zero] at hf
      generalize σ.set i (loop96 qm fd .busy) ++ (τ ++ [Obj.box xc]) = σ5 at *
      simp [bd96_1, hq2, hgL, hhd, hj2, hfind, hcl, hct, hf, D.kindEq]
    · refine hnoRet e (.inr ⟨⟨[(5, .ptr (σ.length + τ.length) 0), (6, .func f [.ptr t 0] []), (36, .bool true), (38, .agg xc)], ?_⟩, he0⟩)
      rw [outR_ne he0] at hf
      generalize σ.set i (loop96 qm fd .busy) ++ (τ ++ [Obj.box xc]) = σ5 at *
      simp [bd96_1, hq2, hgL, hhd, hj2, hfind, hcl, hct, hf, D.kindEq]
end Go.AI
namespace Go.AI
open Go Go.Proofs Go.Lx
set_option maxRecDepth 100000

/-- One node's step. -/
def ordStep (p : Prg) (x : Ex) (_ : Unit) : Unit ⊕ Int := if x.ordErr p = 0 then .inl () else .inr (x.ordErr p)
/-- The first error of the nodes of an expression in a program. -/
def Ex.ordE (p : Prg) (e : Ex) : Int := match e.walk (ordStep p) () with | .inl _ => 0 | .inr err => err

theorem Ex.e_node {k n : Int} {s t : Bs} {names : List Bs} {l : List Ex} {arms : List Arm} (h : (Ex.mk k n s t names l arms).e = 0) : nodeE k n s t names l.length arms = 0 ∧ exsE (Ex.mk k n s t names l arms).parts = 0 := by
  rw [Ex.e_eq] at h
  by_cases hz : nodeE k n s t names l.length arms = 0
  · rw [if_pos hz] at h; exact ⟨hz, h⟩
  · rw [if_neg hz] at h; exact absurd h hz
theorem exsE_mem : ∀ {l : List Ex} {x : Ex}, exsE l = 0 → x ∈ l → x.e = 0
  | [], x, _, h => by cases h
  | a :: r, x, h, hx => by
    simp only [exsE] at h
    by_cases hz : a.e = 0
    · rw [if_pos hz] at h
      cases hx with
      | head => exact hz
      | tail _ hx => exact exsE_mem h hx
    · rw [if_neg hz] at h; exact absurd h hz
theorem Ex.parts_e {e x : Ex} (h : e.e = 0) (hx : x ∈ e.parts) : x.e = 0 := by
  rcases e with ⟨k, n, s, t, names, l, arms⟩
  exact exsE_mem (Ex.e_node h).2 hx

section
variable {β : Type} {step : Ex → β → β ⊕ Int}
mutual
theorem Ex.walk_inr (h : ∀ x b c, step x b = .inr c → c ≠ 0) : ∀ (e : Ex) (b : β) (c : Int), e.walk step b = .inr c → c ≠ 0
  | .mk k n s t names l arms, b, c, hc => by
    simp only [Ex.walk] at hc
    split at hc
    · rename_i e he; cases hc; exact h _ _ _ he
    · rename_i b1 _
      split at hc
      · rename_i e he; cases hc; exact exsWalk_inr h l _ _ he
      · exact armsWalk_inr h arms _ _ hc
theorem exsWalk_inr (h : ∀ x b c, step x b = .inr c → c ≠ 0) : ∀ (l : List Ex) (b : β) (c : Int), exsWalk step l b = .inr c → c ≠ 0
  | [], b, c, hc => by simp only [exsWalk] at hc; cases hc
  | x :: r, b, c, hc => by
    simp only [exsWalk] at hc
    split at hc
    · rename_i e he; cases hc; exact Ex.walk_inr h x _ _ he
    · exact exsWalk_inr h r _ _ hc
theorem armsWalk_inr (h : ∀ x b c, step x b = .inr c → c ≠ 0) : ∀ (l : List Arm) (b : β) (c : Int), armsWalk step l b = .inr c → c ≠ 0
  | [], b, c, hc => by simp only [armsWalk] at hc; cases hc
  | .mk _ _ x :: r, b, c, hc => by
    simp only [armsWalk] at hc
    split at hc
    · rename_i e he; cases hc; exact Ex.walk_inr h x _ _ he
    · exact armsWalk_inr h r _ _ hc
end
end
theorem ordStep_ne {p : Prg} {x : Ex} {b : Unit} {c : Int} (h : ordStep p x b = .inr c) : c ≠ 0 := by
  unfold ordStep at h
  split at h
  · cases h
  · rename_i hz; cases h; exact hz

theorem c150 (x : Ex) (σ : St) : CI (.fn 150) [.agg x.cs] σ = some (.ret (.func 191 [] [.ptr σ.length 0]), σ ++ [.box x.cs]) := by
  have hall := x.cs_all
  have hτ : bodyI CI XB GI af150 [.agg x.cs] σ = some (.ret (.func 191 [] [.ptr σ.length 0]), σ ++ [.box x.cs]) := by
    generalize x.cs = xc at *
    simp [bodyI, af150, hall]
  refine CI_fn tab150 hτ ?_
  have ht : trim σ (some (.ret (.func 191 [] [.ptr σ.length 0]), σ ++ [.box x.cs])) = some (.ret (.func 191 [] [.ptr σ.length 0]), σ ++ [.box x.cs]) := by
    unfold trim
    have : trimV σ.length (σ ++ [.box x.cs]) (.ret (.func 191 [] [.ptr σ.length 0])) = none := by simp [trimV, strip, D.tree, treeL, D.under, underL]
    simp only [this, if_pos keeps_app]
  unfold postI
  rw [ht]
  rfl

theorem c191 (p : Prg) (hok : p.ok) (t i qm jm pe : Nat) (fd : D) (σ : St) (x : Ex) (hx : x.ok) (hw : x.e = 0) (hi : σ[i]? = some (loop96 qm fd .ready)) (hq : σ[qm]? = some (.box [.map jm])) (hj : σ[jm]? = some (.map (askM t))) (hT : IsT σ t p p.cm)
    (hpe : σ[pe]? = some (.box x.cs)) (hfd : ∀ m, σ.length ≤ m → fd.under m = true) :
    CI (.fn 191) [.yield i, .ptr pe 0] σ = some (match x.walk (ordStep p) () with | .inl _ => (.ret (.tuple []), σ) | .inr err => (.panic (refD err), σ.set i (loop96 qm fd .busy))) := by
  have hil := lt_of_get hi
  have hql := lt_of_get hq
  have hset : ∀ σ0 : St, σ0 = σ ++ [Obj.box [.yield i], .box [.func 192 [] [.ptr σ.length 0, .ptr (σ.length + 1) 0]]] → σ0.set σ.length (.box [.yield i]) = σ0 := fun σ0 h => by
    subst h; rw [setA0]; rfl
  have hunder : ∀ m, σ.length ≤ m → (loop96 qm fd .busy).under m := fun m hm u => by
    show (getE [(4, .ptr qm 0), (27, fd), (28, .any)] u).under m = true
    simp only [getE]
    split
    · simp [D.under]; omega
    · split
      · exact hfd m hm
      · split <;> rfl
  have h192 := (p192 (β := Unit) σ.length σ.length (σ.length + 1) i (fun _ => .box [.yield i]) (fun _ => True) (ordStep p) (σ ++ [Obj.box [.yield i], .box [.func 192 [] [.ptr σ.length 0, .ptr (σ.length + 1) 0]]])
    (σ.set i (loop96 qm fd .busy) ++ [Obj.box [.yield i], .box [.func 192 [] [.ptr σ.length 0, .ptr (σ.length + 1) 0]]])
    (by simp) (fun _ m hm => by simp at hm; simp [Obj.under, underL, D.under]; omega) (by simp)
    (fun _ j hjl => by
      rw [hset _ rfl]
      by_cases hji : i = j
      · subst hji
        right
        exact ⟨_, getSs hil, fun m hm => hunder m (by simp at hm; omega)⟩
      · left
        rw [← setO hil, List.getElem?_set_ne hji])
    (fun _ => by rw [hset _ rfl]; exact getA0) (fun _ => by rw [hset _ rfl]; exact getA)
    (fun y => y.ok ∧ y.e = 0) (fun e y he hy => ⟨Ex.parts_ok he.1 hy, Ex.parts_e he.2 hy⟩) (fun _ _ _ _ _ _ => trivial)
    (fun e he b τ _ => by
      obtain ⟨τ', h⟩ := rnd96 p hok t i qm jm fd (σ ++ [Obj.box [.yield i], .box [.func 192 [] [.ptr σ.length 0, .ptr (σ.length + 1) 0]]]) e he.1 he.2 (getO hi) (getO hq) (getO hj) hT.app τ
      refine ⟨τ', ?_⟩
      rw [hset _ rfl, h]
      unfold ordStep
      by_cases hz : e.ordErr p = 0
      · simp only [if_pos hz, hset _ rfl]
      · simp only [if_neg hz, setO hil])
    x hx ⟨hx, hw⟩ () [] trivial).1
  rw [hset _ rfl, List.append_nil] at h192
  have hall := x.cs_all
  have hcl := x.cs_len
  have hct := x.cs_take
  cases hwk : x.walk (ordStep p) () with
  | inl b =>
    rw [hwk] at h192
    simp only [hset _ rfl, List.append_nil] at h192 ⊢
    have hτ : bodyI CI XB GI af191 [.yield i, .ptr pe 0] σ = some (.ret (.tuple []), σ ++ [Obj.box [.yield i], .box [.func 192 [] [.ptr σ.length 0, .ptr (σ.length + 1) 0]]]) := by
      generalize x.cs = xc at *
      simp [bodyI, af191, getA0, getA, setA, getO hpe, hcl, hct, putCells, h192]
    exact CI_tree tab191 hτ rfl rfl
  | inr err =>
    rw [hwk] at h192
    simp only [List.append_nil] at h192 ⊢
    have hτ : bodyI CI XB GI af191 [.yield i, .ptr pe 0] σ = some (.panic (refD err), σ.set i (loop96 qm fd .busy) ++ [Obj.box [.yield i], .box [.func 192 [] [.ptr σ.length 0, .ptr (σ.length + 1) 0]]]) := by
      generalize x.cs = xc at *
      generalize σ.set i (loop96 qm fd .busy) ++ [Obj.box [.yield i], .box [.func 192 [] [.ptr σ.length 0, .ptr (σ.length + 1) 0]]] = σ5 at *
      simp [bodyI, af191, getA0, getA, setA, getO hpe, hcl, hct, putCells, h192]
    exact CI_fn tab191 hτ (postI_same_panic (by simp) (fun j hjl => by
      by_cases hji : i = j
      · subst hji
        right
        exact ⟨_, List.getElem?_set_self hil, hunder _ (Nat.le_refl _)⟩
      · left
        rw [List.getElem?_set_ne hji]) rfl)
theorem evI_rf_ret {n : Nat} {f : AOpd} {ps : List Nat} {as' bd : ACode} {e : Env} {σ σ' : St} {g : FuncId} {first captured : List D} {d : D} {m : Nat} {e1 : Env} {ps1 : List Nat} {as1 bd1 : ACode} (hf : lookA GI e f = .func g first captured)
    (h : CI (.fn g) (first ++ [.yield σ.length] ++ captured) (σ ++ [.loop n e ps as' bd .ready none]) = some (.ret d, σ')) (hl : σ'[σ.length]? = some (.loop m e1 ps1 as1 bd1 .ready none)) :
    evalI CI XB GI n false (.rangeFunc f ps as' bd) e σ = some (.normal, e, σ'.set σ.length (.loop m e1 ps1 as1 bd1 .exhausted none)) := by
  rw [evalI]
  simp only [hf, Bool.false_eq_true, if_false, h, hl]
  rfl
theorem evI_rf_panic {n : Nat} {f : AOpd} {ps : List Nat} {as' bd : ACode} {e : Env} {σ σ' : St} {g : FuncId} {first captured : List D} {d : D} (hf : lookA GI e f = .func g first captured)
    (h : CI (.fn g) (first ++ [.yield σ.length] ++ captured) (σ ++ [.loop n e ps as' bd .ready none]) = some (.panic d, σ')) :
    evalI CI XB GI n false (.rangeFunc f ps as' bd) e σ = some (.panic d, e, σ') := by
  rw [evalI]
  simp only [hf, Bool.false_eq_true, if_false, h]
set_option maxHeartbeats 1000000 in
theorem c96 (p : Prg) (hok : p.ok) (t : Nat) (σ : St) (x : Ex) (hx : x.ok) (hw : x.e = 0) (hT : IsT σ t p p.cm) : CI (.fn 96) [.ptr t 0, .agg x.cs] σ = some (outR (x.ordE p), σ) := by
  obtain ⟨τ, hτ⟩ : ∃ τ, bodyI CI XB GI af96 [.ptr t 0, .agg x.cs] σ = some (outR (x.ordE p), σ ++ τ) := by
    have h150 := c150 x (σ ++ [Obj.box x.cs, .map (askM t), .box [.map (σ.length + 1)]])
    have hl3 : (σ ++ [Obj.box x.cs, .map (askM t), .box [.map (σ.length + 1)]]).length = σ.length + 3 := by simp
    have hl4 : (σ ++ [Obj.box x.cs, .map (askM t), .box [.map (σ.length + 1)]] ++ [Obj.box x.cs]).length = σ.length + 4 := by simp
    rw [hl3] at h150
    have h191 := c191 p hok t (σ.length + 4) (σ.length + 2) (σ.length + 1) (σ.length + 3) (.func 191 [] [.ptr (σ.length + 3) 0]) (σ ++ [Obj.box x.cs, .map (askM t), .box [.map (σ.length + 1)]] ++ [Obj.box x.cs] ++ [loop96 (σ.length + 2) (.func 191 [] [.ptr (σ.length + 3) 0]) .ready]) x hx hw
      (by rw [← hl4]; exact getA0) (by simp only [List.append_assoc]; exact getA) (by simp only [List.append_assoc]; exact getA) hT.app.app.app (by rw [← hl3]; simp only [List.append_assoc]; rw [← List.append_assoc σ]; exact getA0)
      (fun m hm => by simp at hm; simp [D.under, underL]; omega)
    have hall := x.cs_all
    have hcl := x.cs_len
    have hct := x.cs_take
    unfold Ex.ordE
    cases hwk : x.walk (ordStep p) () with
    | inl b =>
      rw [hwk] at h191
      have hrf := evI_rf_ret (n := 40) (f := .tmp 27) (ps := [28]) (as' := as96_0) (bd := bd96_1) (e := [(4, .ptr (σ.length + 2) 0), (27, .func 191 [] [.ptr (σ.length + 3) 0]), (28, .any)]) (first := []) rfl (by rw [hl4]; exact h191) (by rw [getA0]; rfl)
      refine ⟨[Obj.box x.cs, .map (askM t), .box [.map (σ.length + 1)]] ++ [Obj.box x.cs] ++ [loop96 (σ.length + 2) (.func 191 [] [.ptr (σ.length + 3) 0]) .exhausted], ?_⟩
      rw [setA0] at hrf
      have e1 : σ ++ ([Obj.box x.cs, .map (askM t), .box [.map (σ.length + 1)]] ++ [Obj.box x.cs] ++ [loop96 (σ.length + 2) (.func 191 [] [.ptr (σ.length + 3) 0]) .exhausted]) = σ ++ [Obj.box x.cs, .map (askM t), .box [.map (σ.length + 1)]] ++ [Obj.box x.cs] ++ [loop96 (σ.length + 2) (.func 191 [] [.ptr (σ.length + 3) 0]) .exhausted] := by simp only [List.append_assoc]
      rw [e1]
      unfold loop96
      simp only [List.set] at hrf
      generalize hσ5 : σ ++ [Obj.box x.cs, .map (askM t), .box [.map (σ.length + 1)]] ++ [Obj.box x.cs] ++ [Obj.loop 40 [(4, .ptr (σ.length + 2) 0), (27, .func 191 [] [.ptr (σ.length + 3) 0]), (28, .any)] [28] as96_0 bd96_1 .exhausted none] = σ5 at *
      simp only [askM] at h150 hrf
      generalize x.cs = xc at *
      simp only [List.append_assoc, List.cons_append, List.nil_append] at h150 hrf
      simp [bodyI, af96, getA0, getA, setA0, setA, hall, hcl, hct, putCells, mapSet, D.kindEq, h150, hrf, outR_zero]
    | inr err =>
      rw [hwk] at h191
      have hne : err ≠ 0 := Ex.walk_inr (fun _ _ _ h => ordStep_ne h) x _ _ hwk
      have hrf := evI_rf_panic (n := 40) (f := .tmp 27) (ps := [28]) (as' := as96_0) (bd := bd96_1) (e := [(4, .ptr (σ.length + 2) 0), (27, .func 191 [] [.ptr (σ.length + 3) 0]), (28, .any)]) (first := []) rfl (by rw [hl4]; exact h191)
      refine ⟨[Obj.box x.cs, .map (askM t), .box [.map (σ.length + 1)]] ++ [Obj.box x.cs] ++ [loop96 (σ.length + 2) (.func 191 [] [.ptr (σ.length + 3) 0]) .busy], ?_⟩
      rw [← hl4, setA0] at hrf
      have e1 : σ ++ ([Obj.box x.cs, .map (askM t), .box [.map (σ.length + 1)]] ++ [Obj.box x.cs] ++ [loop96 (σ.length + 2) (.func 191 [] [.ptr (σ.length + 3) 0]) .busy]) = σ ++ [Obj.box x.cs, .map (askM t), .box [.map (σ.length + 1)]] ++ [Obj.box x.cs] ++ [loop96 (σ.length + 2) (.func 191 [] [.ptr (σ.length + 3) 0]) .busy] := by simp only [List.append_assoc]
      rw [e1]
      simp only [outR_ne hne]
      unfold loop96 at *
      simp only [List.set] at hrf
      generalize hσ5 : σ ++ [Obj.box x.cs, .map (askM t), .box [.map (σ.length + 1)]] ++ [Obj.box x.cs] ++ [Obj.loop 40 [(4, .ptr (σ.length + 2) 0), (27, .func 191 [] [.ptr (σ.length + 3) 0]), (28, .any)] [28] as96_0 bd96_1 .busy none] = σ5 at *
      simp only [askM] at h150 hrf
      generalize x.cs = xc at *
      simp only [List.append_assoc, List.cons_append, List.nil_append] at h150 hrf
      simp [bodyI, af96, getA0, getA, setA0, setA, hall, hcl, hct, putCells, mapSet, D.kindEq, h150, hrf]
  exact CI_out tab96 hτ
end Go.AI
namespace Go.AI
open Go Go.Proofs Go.Lx
set_option maxRecDepth 100000

/-- The error of an expression's syntax. -/
def Ex.chk (e : Ex) : Int := if (e.take 1 (3000, 0)).1 then e.e else 3
set_option maxHeartbeats 1000000 in
theorem c82 (e : Ex) (hok : e.ok) (σ : St) : CI (.fn 82) [.agg e.cs] σ = some (.ret (.tuple [.agg [.int .i64 (e.take 1 (3000, 0)).2.1, .int .i64 (e.take 1 (3000, 0)).2.2], .int .i64 e.chk]), σ) := by
  have h130 := fun i σ h => c130 e hok 1 (3000, 0) i σ ⟨by simp, by simp⟩ (by omega) (by omega) h
  have h131 := fun σ => c131 e hok σ
  have q131 : qI 131 = false := rfl
  have x131 : XB 131 = false := rfl
  obtain ⟨τ, hτ⟩ : ∃ τ, bodyI CI XB GI af82 [.agg e.cs] σ = some (.ret (.tuple [.agg [.int .i64 (e.take 1 (3000, 0)).2.1, .int .i64 (e.take 1 (3000, 0)).2.2], .int .i64 e.chk]), σ ++ τ) := by
    unfold Ex.chk
    have hall := e.cs_all
    have hcl := e.cs_len
    have hct := e.cs_take
    have hee : eqbL e.cs e.cs = true := eqbL_tree _ e.plain.1
    have h := h130 (σ.length + 2) (σ ++ [.box e.cs, .box z2, .box [.int .i64 3000, .int .i64 0]]) (by rw [getA]; rfl)
    rw [setA] at h
    generalize e.take 1 (3000, 0) = q at *
    simp only [mBox, List.set] at h
    refine ⟨[.box e.cs, .box [.int .i64 q.2.1, .int .i64 q.2.2], .box [.int .i64 q.2.1, .int .i64 q.2.2]], ?_⟩
    generalize e.cs = ec at *
    simp only [z2] at h
    cases hq : q.1
    · rw [hq] at h
      simp [bodyI, af82, getA0, getA, setA, setA0, hall, hcl, hct, fillD, putCells, h]
    · rw [hq] at h
      simp [bodyI, af82, getA0, getA, setA, setA0, hall, hcl, hct, hee, fillD, putCells, h, h131, q131, x131, Nat.testBit_eq_decide_div_mod_eq]
  exact CI_tree tab82 hτ rfl rfl
theorem c80 (e : Ex) (hok : e.ok) (σ : St) : CI (.fn 80) [.agg e.cs] σ = some (.ret (.int .i64 e.chk), σ) := by
  have h82 := fun σ => c82 e hok σ
  have hτ : bodyI CI XB GI af80 [.agg e.cs] σ = some (.ret (.int .i64 e.chk), σ ++ [.box e.cs, .box [.int .i64 (e.take 1 (3000, 0)).2.1, .int .i64 (e.take 1 (3000, 0)).2.2]]) := by
    have hall := e.cs_all
    have hcl := e.cs_len
    have hct := e.cs_take
    generalize e.cs = ec at *
    generalize (e.take 1 (3000, 0)).2 = q at *
    simp [bodyI, af80, getA0, getA, setA, hall, hcl, hct, putCells, h82]
  exact CI_tree tab80 hτ rfl rfl
theorem Ex.chk_e {e : Ex} (h : e.chk = 0) : e.e = 0 ∧ (e.take 1 (3000, 0)).1 = true := by
  unfold Ex.chk at h
  split at h
  · rename_i ht; exact ⟨h, ht⟩
  · cases h

/-- The error of an expression in a program. -/
def Prg.exprE (p : Prg) (x : Ex) : Int := orE p.decls (orE x.chk (x.ordE p))
theorem c98 (p : Prg) (hok : p.ok) (x : Ex) (hx : x.ok) (a b : Nat) (σ : St) (ha : σ[a]? = some (.box p.cs)) (hb : σ[b]? = some (.box x.cs)) : CI (.fn 98) [.ptr a 0, .ptr b 0] σ = some (outR (p.exprE x), σ) := by
  obtain ⟨τ1, h55⟩ := c55 p hok.dl hok.d σ
  have hT := lookS_T p σ τ1
  have e1 : lookS p σ p.cm ++ τ1 = σ ++ ([.box p.cs, .map (kvs p.cm), .box (p.cs ++ [.map (σ.length + 1)])] ++ τ1) := by unfold lookS; rw [List.append_assoc]
  have hb2 : (lookS p σ p.cm ++ τ1)[b]? = some (.box x.cs) := by rw [e1]; exact getO hb
  have h56 := c56 p p.cm hok _ _ hT
  have h80 := fun σ => c80 x hx σ
  have h96 := fun h => c96 p hok (σ.length + 2) (lookS p σ p.cm ++ τ1) x hx h hT
  have hpl := p.cs_len
  have hpt := p.cs_take
  have hcl := x.cs_len
  have hct := x.cs_take
  refine CI_out tab98 (τ := [.box p.cs, .map (kvs p.cm), .box (p.cs ++ [.map (σ.length + 1)])] ++ τ1) ?_
  rw [← e1]
  generalize lookS p σ p.cm ++ τ1 = σ2 at *
  clear e1
  unfold Prg.exprE orE
  generalize p.cs = pc at *
  generalize x.cs = xc at *
  by_cases h1 : p.decls = 0
  · rw [h1, outR_zero] at h56
    by_cases h2 : x.chk = 0
    · have h96 := h96 (Ex.chk_e h2).1
      rw [h2] at h80
      rw [if_pos h1, if_pos h2]
      generalize x.ordE p = e at *
      by_cases h3 : e = 0
      · subst h3
        rw [outR_zero] at h96
        simp [bodyI, af98, ha, hb2, hpl, hpt, hcl, hct, h55, h56, h80, h96, c59, outR_zero]
      · rw [outR_ne h3] at h96
        simp [bodyI, af98, ha, hb2, hpl, hpt, hcl, hct, h55, h56, h80, h96, c59, outR_zero, outR_ne h3]
    · rw [if_pos h1, if_neg h2]
      generalize x.chk = e at *
      simp [bodyI, af98, ha, hb2, hpl, hpt, hcl, hct, h55, h56, h80, c59, outR_ne h2]
  · rw [if_neg h1]
    rw [outR_ne h1] at h56
    simp [bodyI, af98, ha, hpl, hpt, h55, h56, outR_ne h1]
theorem c38 (p : Prg) (hok : p.ok) (x : Ex) (hx : x.ok) (σ : St) : CI (.fn 38) [.agg p.cs, .agg x.cs] σ = some (.ret (.int .i64 (p.exprE x)), σ) := by
  have h98 := c98 p hok x hx σ.length (σ.length + 1) (σ ++ [.box p.cs, .box x.cs] ++ [.box [.int .i64 0]]) (by rw [List.append_assoc]; exact getA0) (by rw [List.append_assoc]; exact getA)
  have h54 := c54 98 [] [.ptr σ.length 0, .ptr (σ.length + 1) 0] _ (σ ++ [Obj.box p.cs, Obj.box x.cs]) h98
  have hτ : bodyI CI XB GI af38 [.agg p.cs, .agg x.cs] σ = some (.ret (.int .i64 (p.exprE x)), σ ++ [.box p.cs, .box x.cs]) := by
    have h1 := p.cs_all
    have h2 := x.cs_all
    generalize p.exprE x = e at *
    generalize p.cs = pc at *
    generalize x.cs = xc at *
    simp [bodyI, af38, h1, h2, h54]
  exact CI_tree tab38 hτ rfl rfl

/-- The error of a program. -/
def Prg.chk (p : Prg) : Int := orE p.syn (orE p.decls (orE (firstE (p.defs.map fun d => d.body.ordE p)) (p.main.ordE p)))
theorem Prg.syn_e {p : Prg} (h : p.syn = 0) : (∀ d ∈ p.defs, d.body.e = 0) ∧ p.main.e = 0 := by
  obtain ⟨_, _, _, _, _, _, h7, h8⟩ := Prg.syn_data h
  refine ⟨fun d hd => ?_, h8⟩
  have := h7 d hd
  unfold dfnE at this
  split at this
  · exact this
  · cases this
set_option maxHeartbeats 1000000 in
theorem c94 (p : Prg) (hok : p.ok) (a : Nat) (σ : St) (ha : σ[a]? = some (.box p.cs)) : CI (.fn 94) [.ptr a 0] σ = some (outR p.chk, σ) := by
  obtain ⟨τ1, h55⟩ := c55 p hok.dl hok.d σ
  have hT := lookS_T p σ τ1
  have e1 : lookS p σ p.cm ++ τ1 = σ ++ ([.box p.cs, .map (kvs p.cm), .box (p.cs ++ [.map (σ.length + 1)])] ++ τ1) := by unfold lookS; rw [List.append_assoc]
  have ha2 : (lookS p σ p.cm ++ τ1)[a]? = some (.box p.cs) := by rw [e1]; exact getO ha
  have h56 := c56 p p.cm hok _ _ hT
  have h95 := fun σ => c95 p hok σ
  have hpl := p.cs_len
  have hpt := p.cs_take
  obtain ⟨τ, hτ⟩ : ∃ τ, bodyI CI XB GI af94 [.ptr a 0] σ = some (outR p.chk, σ ++ τ) := by
    unfold Prg.chk orE
    by_cases h0 : p.syn = 0
    · rw [if_pos h0]
      obtain ⟨hd0, hm0⟩ := Prg.syn_e h0
      rw [h0] at h95
      by_cases h1 : p.decls = 0
      · rw [if_pos h1]
        rw [h1, outR_zero] at h56
        have hfl := hok.fl
        obtain ⟨τ2, ev, hit⟩ := loop_seekP (f := evalI CI XB GI 27 false lp94_0) (σ := lookS p σ p.cm ++ τ1) p.defs (fun i => [(0, .ptr a 0), (1, .ptr (σ.length + 2) 0), (12, .slice (p.defs.map Dfn.d)), (13, .int .i64 p.defs.length), (14, .int .i64 (i : Nat))]) (fun d => d.body.ordE p) (fun e => .panic (refD e))
          (.exit 0, [(0, .ptr a 0), (1, .ptr (σ.length + 2) 0), (12, .slice (p.defs.map Dfn.d)), (13, .int .i64 p.defs.length), (14, .int .i64 p.defs.length), (15, .bool false)]) (by simp) (by simp)
          (fun i hi τ => by
            have hw := wrap_nat (n := i) (by unfold maxL at hfl; omega)
            have h96 := c96 p hok (σ.length + 2) (lookS p σ p.cm ++ τ1 ++ τ ++ [Obj.box p.defs[i].cs]) p.defs[i].body (hok.f _ (List.getElem_mem hi)) (hd0 _ (List.getElem_mem hi)) hT.app.app
            have hget : (p.defs.map Dfn.d)[i]? = some (Dfn.d p.defs[i]) := by simp [hi]
            have hlen : (p.defs.map Dfn.d).length = p.defs.length := by simp
            refine ⟨τ ++ [.box p.defs[i].cs], [(0, .ptr a 0), (1, .ptr (σ.length + 2) 0), (3, .ptr (lookS p σ p.cm ++ τ1 ++ τ).length 0), (12, .slice (p.defs.map Dfn.d)), (13, .int .i64 p.defs.length), (14, .int .i64 (i : Nat)), (19, .ptr (lookS p σ p.cm ++ τ1 ++ τ).length 1), (20, .agg p.defs[i].body.cs)], ?_⟩
            rw [← List.append_assoc]
            generalize lookS p σ p.cm ++ τ1 ++ τ = σ3 at *
            generalize p.defs.map Dfn.d = ld at *
            have h2 : i < ld.length := by omega
            have h3 : ld[i] = Dfn.d p.defs[i] := by rw [List.getElem?_eq_getElem h2] at hget; exact Option.some.inj hget
            generalize p.defs[i] = d at *
            rcases d with ⟨dn, body⟩
            have hx1 := body.cs_all
            have hx2 := body.cs_len
            have hx3 := body.cs_take
            have hx4 : body.cs.drop 7 = [] := List.drop_eq_nil_of_le (by simp)
            simp only [Dfn.d, Dfn.cs] at *
            generalize body.ordE p = e at *
            generalize body.cs = bc at *
            by_cases he : e = 0
            · rw [if_pos he]
              subst he
              rw [outR_zero] at h96
              simp [lp94_0, hi, hw, h2, h3, getA0, setA0, hx1, hx2, hx3, hx4, putCells, h96]
            · rw [if_neg he]
              rw [outR_ne he] at h96
              simp [lp94_0, hi, hw, h2, h3, getA0, setA0, hx1, hx2, hx3, hx4, putCells, h96]) (fun τ => ⟨τ, by generalize p.defs.map Dfn.d = ld at *; simp [lp94_0]⟩) []
        rw [List.append_nil, Int.natCast_zero] at hit
        have hh : p.cs[2]? = some (.slice (p.defs.map Dfn.d)) := by rw [p.cs_eq]; rfl
        have hh2 : ∀ h : 2 < p.cs.length, p.cs[2] = .slice (p.defs.map Dfn.d) := fun h => by rw [List.getElem?_eq_getElem h] at hh; exact Option.some.inj hh
        have hd3 : (p.cs.drop 3).take 7 = p.main.cs := by rw [p.cs_eq]; simp
        have hd3' : p.cs.drop 3 = p.main.cs := by rw [p.cs_eq]; simp
        have hm1 := p.main.cs_len
        have hm2 := p.main.cs_take
        have hlen : (p.defs.map Dfn.d).length = p.defs.length := by simp
        refine ⟨[.box p.cs, .map (kvs p.cm), .box (p.cs ++ [.map (σ.length + 1)])] ++ τ1 ++ τ2, ?_⟩
        have e2 : σ ++ ([.box p.cs, .map (kvs p.cm), .box (p.cs ++ [.map (σ.length + 1)])] ++ τ1 ++ τ2) = lookS p σ p.cm ++ τ1 ++ τ2 := by rw [e1]; simp only [List.append_assoc]
        rw [e2]
        have ha3 := getO (τ := τ2) ha2
        have h96 := c96 p hok (σ.length + 2) (lookS p σ p.cm ++ τ1 ++ τ2) p.main hok.m hm0 hT.app
        generalize lookS p σ p.cm ++ τ1 ++ τ2 = σ3 at *
        generalize lookS p σ p.cm ++ τ1 = σ2 at *
        clear e1 e2
        generalize p.defs.map Dfn.d = ld at *
        generalize firstE (p.defs.map fun d => d.body.ordE p) = e1 at *
        generalize p.main.ordE p = e2 at *
        generalize p.main.cs = mc at *
        generalize p.cs = pc at *
        by_cases hf : e1 = 0
        · rw [if_pos hf] at hit ⊢
          by_cases hm : e2 = 0
          · subst hm
            rw [outR_zero] at h96
            simp [bodyI, af94, ha, ha2, ha3, hpl, hpt, hh2, hd3, hd3', hm1, hm2, hlen, h95, h55, h56, h96, hit, c59, outR_zero]
          · rw [outR_ne hm] at h96
            simp [bodyI, af94, ha, ha2, ha3, hpl, hpt, hh2, hd3, hd3', hm1, hm2, hlen, h95, h55, h56, h96, hit, c59, outR_zero, outR_ne hm]
        · rw [if_neg hf] at hit ⊢
          simp [bodyI, af94, ha, ha2, ha3, hpl, hpt, hh2, hlen, h95, h55, h56, hit, c59, outR_zero, outR_ne hf]
      · rw [if_neg h1]
        refine ⟨[.box p.cs, .map (kvs p.cm), .box (p.cs ++ [.map (σ.length + 1)])] ++ τ1, ?_⟩
        rw [← e1]
        rw [outR_ne h1] at h56
        generalize lookS p σ p.cm ++ τ1 = σ2 at *
        clear e1
        generalize p.cs = pc at *
        simp [bodyI, af94, ha, hpl, hpt, h95, h55, h56, c59, outR_zero, outR_ne h1]
    · rw [if_neg h0]
      refine ⟨[], ?_⟩
      generalize p.cs = pc at *
      simp [bodyI, af94, ha, hpl, hpt, h95, c59, outR_ne h0]
  exact CI_out tab94 hτ
theorem c36 (p : Prg) (hok : p.ok) (σ : St) : CI (.fn 36) [.agg p.cs] σ = some (.ret (.int .i64 p.chk), σ) := by
  have h94 := c94 p hok σ.length (σ ++ [.box p.cs] ++ [.box [.int .i64 0]]) (by rw [List.append_assoc]; exact getA0)
  have h54 := c54 94 [] [.ptr σ.length 0] _ (σ ++ [Obj.box p.cs]) h94
  have hτ : bodyI CI XB GI af36 [.agg p.cs] σ = some (.ret (.int .i64 p.chk), σ ++ [.box p.cs]) := by
    have h1 := p.cs_all
    generalize p.chk = e at *
    generalize p.cs = pc at *
    simp [bodyI, af36, h1, h54]
  exact CI_tree tab36 hτ rfl rfl
end Go.AI
namespace Go.AI
open Go Go.Proofs Go.Lx

/-- With more room it does as well. -/
theorem foldB_more {step step' : Ex → Int × Int → Bool × (Int × Int)} : ∀ (l : List Ex) (_ : ∀ x ∈ l, ∀ b b' : Int × Int, b.1 ≤ b'.1 → (step x b).1 = true → (step' x b').1 = true ∧ (step x b).2.1 ≤ (step' x b').2.1) (b b' : Int × Int), b.1 ≤ b'.1 → (foldB step l b).1 = true →
    (foldB step' l b').1 = true ∧ (foldB step l b).2.1 ≤ (foldB step' l b').2.1
  | [], _, b, b', hb, _ => ⟨rfl, hb⟩
  | x :: r, h, b, b', hb, ht => by
    simp only [foldB] at ht ⊢
    split at ht
    · rename_i hs
      obtain ⟨h1, h2⟩ := h x List.mem_cons_self b b' hb hs
      rw [if_pos hs, if_pos h1]
      exact foldB_more r (fun y hy => h y (List.mem_cons_of_mem _ hy)) _ _ h2 ht
    · cases ht
theorem Ex.take_more : ∀ (e : Ex) (d d' : Int) (b b' : Int × Int), d' ≤ d → b.1 ≤ b'.1 → (e.take d b).1 = true → (e.take d' b').1 = true ∧ (e.take d b).2.1 ≤ (e.take d' b').2.1
  | e, d, d', b, b', hd, hb, h => by
    rw [Ex.take_eq e d b] at h ⊢
    rw [Ex.take_eq e d' b']
    by_cases h0 : b.1 - 1 < 0 ∨ 200 < d
    · rw [if_pos h0] at h; cases h
    · rw [if_neg h0] at h ⊢
      rw [if_neg (by omega)]
      exact foldB_more e.parts (fun x hx b b' hb hs => Ex.take_more x (d + 1) (d' + 1) b b' (by omega) hb hs) _ _ (by simp only; omega) h
termination_by e => SizeOf.sizeOf e
decreasing_by exact Ex.parts_lt hx
theorem foldB_each {step : Ex → Int × Int → Bool × (Int × Int)} {B : Int} : ∀ (l : List Ex) (_ : ∀ x ∈ l, ∀ b : Int × Int, b.1 ≤ B → (step x b).1 = true → (step x b).2.1 ≤ B) (b : Int × Int), b.1 ≤ B → (foldB step l b).1 = true → ∀ x ∈ l, ∃ b', b'.1 ≤ B ∧ (step x b').1 = true
  | [], _, b, hb, ht, x, hx => by cases hx
  | a :: r, h, b, hb, ht, x, hx => by
    simp only [foldB] at ht
    split at ht
    · rename_i hs
      cases hx with
      | head => exact ⟨b, hb, hs⟩
      | tail _ hx => exact foldB_each r (fun y hy => h y (List.mem_cons_of_mem _ hy)) _ (h a List.mem_cons_self b hb hs) ht x hx
    · cases ht
theorem Ex.take_le (B : Int) : ∀ (e : Ex) (d : Int) (b : Int × Int), b.1 ≤ B → (e.take d b).1 = true → (e.take d b).2.1 ≤ B
  | e, d, b, hb, h => by
    rw [Ex.take_eq] at h ⊢
    by_cases h0 : b.1 - 1 < 0 ∨ 200 < d
    · rw [if_pos h0] at h; cases h
    · rw [if_neg h0] at h ⊢
      exact foldB_inv (I := fun b : Int × Int => b.1 ≤ B) e.parts (fun x hx b hb hs => Ex.take_le B x (d + 1) b hb hs) _ (by simp only; omega) h
termination_by e => SizeOf.sizeOf e
decreasing_by exact Ex.parts_lt hx
theorem Ex.take_part {e x : Ex} {d : Int} {b : Int × Int} (hd : 0 ≤ d) (hb : b.1 ≤ 3000) (h : (e.take d b).1 = true) (hx : x ∈ e.parts) : ∃ b', b'.1 ≤ 3000 ∧ (x.take (d + 1) b').1 = true := by
  rw [Ex.take_eq] at h
  by_cases h0 : b.1 - 1 < 0 ∨ 200 < d
  · rw [if_pos h0] at h; cases h
  · rw [if_neg h0] at h
    exact foldB_each (B := 3000) e.parts (fun y hy b hb hs => Ex.take_le 3000 y (d + 1) b hb hs) _ (by simp only; omega) h x hx
theorem Ex.take_whole {x : Ex} {d : Int} {b : Int × Int} (hd : 1 ≤ d) (hb : b.1 ≤ 3000) (h : (x.take d b).1 = true) : (x.take 1 (3000, 0)).1 = true :=
  (Ex.take_more x d 1 b (3000, 0) hd hb h).1
theorem Ex.chk_zero {e : Ex} (h1 : (e.take 1 (3000, 0)).1 = true) (h2 : e.e = 0) : e.chk = 0 := by unfold Ex.chk; rw [if_pos h1]; exact h2
theorem Ex.parts_chk {e x : Ex} (h : e.chk = 0) (hx : x ∈ e.parts) : x.chk = 0 := by
  obtain ⟨h1, h2⟩ := Ex.chk_e h
  obtain ⟨b', hb', ht⟩ := Ex.take_part (by omega) (by simp) h2 hx
  exact Ex.chk_zero (Ex.take_whole (by omega) hb' ht) (Ex.parts_e h1 hx)

theorem exsWalk_mem {p : Prg} : ∀ {l : List Ex}, exsWalk (ordStep p) l () = .inl () → ∀ x ∈ l, x.walk (ordStep p) () = .inl ()
  | [], _, x, hx => by cases hx
  | a :: r, h, x, hx => by
    simp only [exsWalk] at h
    cases ha : a.walk (ordStep p) () with
    | inr e => rw [ha] at h; cases h
    | inl u =>
      rw [ha] at h
      cases hx with
      | head => exact ha
      | tail _ hx => exact exsWalk_mem h x hx
theorem armsWalk_mem {p : Prg} : ∀ {l : List Arm}, armsWalk (ordStep p) l () = .inl () → ∀ a ∈ l, a.body.walk (ordStep p) () = .inl ()
  | [], _, x, hx => by cases hx
  | .mk op names b :: r, h, x, hx => by
    simp only [armsWalk] at h
    cases ha : b.walk (ordStep p) () with
    | inr e => rw [ha] at h; cases h
    | inl u =>
      rw [ha] at h
      cases hx with
      | head => exact ha
      | tail _ hx => exact armsWalk_mem h x hx
theorem Ex.ordE_zero {p : Prg} {e : Ex} : e.ordE p = 0 ↔ e.walk (ordStep p) () = .inl () := by
  unfold Ex.ordE
  cases h : e.walk (ordStep p) () with
  | inl u => simp
  | inr c =>
    have := Ex.walk_inr (fun _ _ _ h => ordStep_ne h) e _ _ h
    simp [this]
theorem Ex.parts_ord {p : Prg} {e x : Ex} (h : e.ordE p = 0) (hx : x ∈ e.parts) : x.ordE p = 0 := by
  rw [Ex.ordE_zero] at h ⊢
  rcases e with ⟨k, n, s, t, names, l, arms⟩
  simp only [Ex.walk] at h
  split at h
  · cases h
  · split at h
    · cases h
    · rename_i u h1 v h2
      simp only [Ex.parts, List.mem_append, List.mem_map] at hx
      rcases hx with hx | ⟨a, ha, rfl⟩
      · exact exsWalk_mem h2 x hx
      · exact armsWalk_mem h a ha
theorem Prg.exprE_parts {p : Prg} {e x : Ex} (h : p.exprE e = 0) (hx : x ∈ e.parts) : p.exprE x = 0 := by
  obtain ⟨h1, h2⟩ := orE_zero.1 h
  obtain ⟨h2, h3⟩ := orE_zero.1 h2
  exact orE_zero.2 ⟨h1, orE_zero.2 ⟨Ex.parts_chk h2 hx, Ex.parts_ord h3 hx⟩⟩

theorem nest_take {m : Ex} : ∀ {l : List Dfn} {d : Int} {b : Int × Int}, 1 ≤ d → b.1 ≤ 3000 → ((nestE l m).take d b).1 = true → (∀ f ∈ l, (f.body.take 1 (3000, 0)).1 = true) ∧ (m.take 1 (3000, 0)).1 = true
  | [], d, b, hd, hb, h => ⟨fun f hf => (by cases hf), Ex.take_whole hd hb h⟩
  | f :: r, d, b, hd, hb, h => by
    have hp : (nestE (f :: r) m).parts = [f.body, nestE r m] := rfl
    obtain ⟨b1, hb1, h1⟩ := Ex.take_part (x := f.body) (by omega) hb h (by rw [hp]; simp)
    obtain ⟨b2, hb2, h2⟩ := Ex.take_part (x := nestE r m) (by omega) hb h (by rw [hp]; simp)
    obtain ⟨i1, i2⟩ := nest_take (l := r) (by omega) hb2 h2
    refine ⟨fun g hg => ?_, i2⟩
    cases hg with
    | head => exact Ex.take_whole (by omega) hb1 h1
    | tail _ hg => exact i1 g hg
theorem Prg.chk_parts {p : Prg} (h : p.chk = 0) : p.decls = 0 ∧ (∀ d ∈ p.defs, p.exprE d.body = 0) ∧ p.exprE p.main = 0 := by
  obtain ⟨h1, h2⟩ := orE_zero.1 h
  obtain ⟨h2, h3⟩ := orE_zero.1 h2
  obtain ⟨h3, h4⟩ := orE_zero.1 h3
  obtain ⟨_, _, _, _, _, ht, _, _⟩ := Prg.syn_data h1
  obtain ⟨he1, he2⟩ := Prg.syn_e h1
  obtain ⟨n1, n2⟩ := nest_take (by omega) (by simp) ht
  rw [firstE_zero] at h3
  simp only [List.forall_mem_map] at h3
  exact ⟨h2, fun d hd => orE_zero.2 ⟨h2, orE_zero.2 ⟨Ex.chk_zero (n1 d hd) (he1 d hd), h3 d hd⟩⟩, orE_zero.2 ⟨h2, orE_zero.2 ⟨Ex.chk_zero n2 he2, h4⟩⟩⟩
end Go.AI
namespace Go.AI
open Go Go.Proofs Go.Lx
set_option maxRecDepth 100000

theorem k16 (σ : St) : CI (.fn 16) [] σ = some (.ret (.bool true), σ) := by
  exact callI_ext postN (g := fun a => g16 (weakL a)) rfl rfl
theorem find_none {α : Type} (l : List α) : l.findIdx? (fun _ => false) = none := by
  rw [List.findIdx?_eq_none_iff]; intros; rfl

end Go.AI
namespace Go.AI
open Go Go.Proofs Go.Lx
set_option maxRecDepth 100000

theorem exsD_app (a b : List Ex) : exsD (a ++ b) = exsD a ++ exsD b := by simp only [exsD_map, List.map_append]
theorem foldS_body : ∀ (l : List Arm) (i : Nat) (b : List Ex), foldS (γ := Unit) (fun _ (a : Arm) b => .inl (b ++ [a.body])) l i b = .inl (b ++ l.map Arm.body)
  | [], i, b => by simp [foldS]
  | a :: r, i, b => by simp only [foldS, foldS_body r]; simp
set_option maxHeartbeats 1000000 in
theorem c52 (k n : Int) (s t : Bs) (names : List Bs) (l : List Ex) (arms : List Arm) (hb : l.length + arms.length ≤ 1000000) (σ : St) :
    CI (.fn 52) [.agg (Ex.mk k n s t names l arms).cs] σ = some (.ret (.slice (exsD (Ex.mk k n s t names l arms).parts)), σ) := by
  have hel := exsD_len l
  have hal := armsD_len arms
  obtain ⟨τ, hit⟩ := loop_foldS (γ := Unit) (f := evalI CI XB GI 26 false lp52_0) arms (fun j b => [(1, .ptr σ.length 0), (3, .arr (σ.length + 1) b.length 0 b.length), (4, .int .i64 (j : Nat))])
    (fun b => σ ++ [.box (Ex.mk k n s t names l arms).cs, .row 7 (exsD b) 0]) (fun j b => b.length = l.length + j) (fun _ (a : Arm) b => .inl (b ++ [a.body])) (fun _ => (.ret, [])) (fun _ => []) (fun b => (.exit 0, [(1, .ptr σ.length 0), (3, .arr (σ.length + 1) b.length 0 b.length), (4, .int .i64 arms.length), (13, .bool false)]))
    (by simp) (by simp) (fun j hj b b' hb hs => by cases hs; simp [hb]; omega)
    (fun j hj b τ hbl => by
      have hw := wrap_nat (n := j) (by omega)
      have hget : (armsD arms)[j]? = some (.agg arms[j].cs) := by rw [armsD_map]; simp [Arm.d, hj]
      have hg0 : (σ ++ [.box (Ex.mk k n s t names l arms).cs, .row 7 (exsD b) 0] ++ τ)[σ.length]? = some (.box [.int .i64 k, .int .i64 n, .str s, .str t, slD names, .slice (exsD l), .slice (armsD arms)]) := by rw [List.append_assoc]; exact getA0
      have hg1 : (σ ++ [.box (Ex.mk k n s t names l arms).cs, .row 7 (exsD b) 0] ++ τ)[σ.length + 1]? = some (.row 7 (exsD b) 0) := by rw [List.append_assoc]; exact getA
      have hs1 : (σ ++ [Obj.box (Ex.mk k n s t names l arms).cs, Obj.row 7 (exsD b) 0] ++ τ).set (σ.length + 1) (Obj.row 7 (exsD b ++ [D.agg arms[j].body.cs]) 0) = σ ++ [.box (Ex.mk k n s t names l arms).cs, .row 7 (exsD (b ++ [arms[j].body])) 0] ++ τ := by
        rw [List.append_assoc, setA, exsD_app]; simp [exsD]
      have hbl2 := exsD_len b
      refine ⟨τ, ?_⟩
      rw [Arm.cs_eq] at hget
      have hx1 := arms[j].body.cs_all
      have hx2 := arms[j].body.cs_len
      have hx3 := arms[j].body.cs_take
      simp only
      rw [← hs1]
      generalize σ ++ [.box (Ex.mk k n s t names l arms).cs, .row 7 (exsD b) 0] ++ τ = σ1 at *
      generalize exsD b = bd at *
      generalize armsD arms = ad at *
      have h2 : j < ad.length := by omega
      have h3 : ad[j] = .agg (.str arms[j].op :: slD arms[j].names :: arms[j].body.cs) := by rw [List.getElem?_eq_getElem h2] at hget; exact Option.some.inj hget
      unfold slD at *
      generalize arms[j].names.map D.str = nd at *
      generalize arms[j].op = aop at *
      generalize arms[j].body.cs = bc at *
      generalize names.map D.str = nmd at *
      generalize exsD l = ld at *
      have hba : (b.length + 1) * 120 ≤ 140737488355328 := by omega
      simp [lp52_0, hj, hw, hal, h2, h3, hg0, hg1, hbl2, hba, rowOf, fillRow, hx1, hx2, hx3])
    (fun b τ hb => ⟨τ, by
      have hg0 : (σ ++ [.box (Ex.mk k n s t names l arms).cs, .row 7 (exsD b) 0] ++ τ)[σ.length]? = some (.box [.int .i64 k, .int .i64 n, .str s, .str t, slD names, .slice (exsD l), .slice (armsD arms)]) := by rw [List.append_assoc]; exact getA0
      generalize σ ++ [.box (Ex.mk k n s t names l arms).cs, .row 7 (exsD b) 0] ++ τ = σ1 at *
      generalize armsD arms = ad at *
      simp [lp52_0, hg0, hal]⟩) l [] rfl
  rw [foldS_body, List.append_nil, Int.natCast_zero] at hit
  have hparts : (Ex.mk k n s t names l arms).parts = l ++ arms.map Arm.body := rfl
  rw [hparts]
  simp only at hit
  have hall : (exsD l).all (fun e => e.cells.length == 7 && e.cells.all D.one) = true := by
    rw [exsD_map, List.all_map]; simp [Ex.d, D.cells, Ex.cs_all]
  have hτ : bodyI CI XB GI af52 [.agg (Ex.mk k n s t names l arms).cs] σ = some (.ret (.arr (σ.length + 1) (l ++ arms.map Arm.body).length 0 (l ++ arms.map Arm.body).length), σ ++ ([.box (Ex.mk k n s t names l arms).cs, .row 7 (exsD (l ++ arms.map Arm.body)) 0] ++ τ)) := by
    rw [← List.append_assoc]
    generalize σ ++ [.box (Ex.mk k n s t names l arms).cs, .row 7 (exsD (l ++ arms.map Arm.body)) 0] ++ τ = σ2 at *
    generalize (l ++ arms.map Arm.body).length = pl at *
    simp only [Ex.cs, slD] at *
    generalize names.map D.str = nmd at *
    generalize exsD l = ld at *
    generalize armsD arms = ad at *
    simp only [D.cells] at hall
    have hba : l.length * 120 ≤ 140737488355328 := by omega
    simp [bodyI, af52, getA0, getA, setA, fillRow, rowOf, hall, hel, hba, hit, -List.all_eq_true]
  refine CI_fn tab52 hτ ?_
  have hl : (l ++ arms.map Arm.body).length = (exsD (l ++ arms.map Arm.body)).length := (exsD_len _).symm
  rw [hl, postI_row (sz := 7) (since := 0) (by rw [getA]; rfl) (by omega) (by omega) (exs_plain _).1]
  rw [(exs_plain _).2]

/-- A well-formed node has few parts. -/
theorem nodeE_few {k n : Int} {s t : Bs} {names : List Bs} {nl : Nat} {arms : List Arm} (h : nodeE k n s t names nl arms = 0) : nl ≤ 4 ∧ arms.length ≤ 9 := by
  unfold nodeE at h
  split at h
  · rename_i hk
    have hk' : 0 ≤ k ∧ k ≤ 19 := by unfold inR at hk; simpa using hk
    have hpq : (shapeOf k).p + (shapeOf k).q ≤ 4 := by
      have : k = 0 ∨ k = 1 ∨ k = 2 ∨ k = 3 ∨ k = 4 ∨ k = 5 ∨ k = 6 ∨ k = 7 ∨ k = 8 ∨ k = 9 ∨ k = 10 ∨ k = 11 ∨ k = 12 ∨ k = 13 ∨ k = 14 ∨ k = 15 ∨ k = 16 ∨ k = 17 ∨ k = 18 ∨ k = 19 := by omega
      rcases this with rfl | rfl | rfl | rfl | rfl | rfl | rfl | rfl | rfl | rfl | rfl | rfl | rfl | rfl | rfl | rfl | rfl | rfl | rfl | rfl <;> decide
    split at h
    · split at h
      · split at h
        · rename_i hr
          simp only [Bool.and_eq_true, inR, decide_eq_true_eq] at hr
          split at h
          · cases h
          · rename_i ha
            simp only [Bool.or_eq_true, Bool.and_eq_true, Bool.not_eq_true', decide_eq_true_eq, not_or] at ha
            exact ⟨by omega, by omega⟩
        · cases h
      · cases h
    · cases h
  · cases h
theorem k52 (e : Ex) (h : e.e = 0) (σ : St) : CI (.fn 52) [.agg e.cs] σ = some (.ret (.slice (exsD e.parts)), σ) := by
  rcases e with ⟨k, n, s, t, names, l, arms⟩
  obtain ⟨h1, h2⟩ := nodeE_few (Ex.e_node h).1
  exact c52 k n s t names l arms (by omega) σ

/-- The law DeclParts. -/
theorem law11 (p : Prg) (hok : p.ok) (x : Ex) (hx : x.ok) (σ : St) : CI (.fn 11) [.agg p.cs, .agg x.cs] σ = some (.ret (.bool true), σ) := by
  have h38 := fun y hy σ => c38 p hok y hy σ
  have h36 := fun σ => c36 p hok σ
  have h14 := fun σ => c14 p hok σ
  have h16 := k16
  have q38 : qI 38 = false := rfl
  have x38 : XB 38 = false := rfl
  have hpl := p.cs_len
  have hpt := p.cs_take
  have hpa := p.cs_all
  have hq0 : ∀ τ, (σ ++ [Obj.box p.cs, .box x.cs] ++ τ)[σ.length]? = some (.box p.cs) := fun τ => by rw [List.append_assoc]; exact getA0
  have hit1 : p.exprE x = 0 → x.parts.length ≤ 1000000 → iterI (evalI CI XB GI 60 false lp11_0) [(2, .ptr σ.length 0), (5, .slice (exsD x.parts)), (6, .int .i64 0)] (σ ++ [Obj.box p.cs, .box x.cs]) =
      some (.exit 0, [(2, .ptr σ.length 0), (5, .slice (exsD x.parts)), (6, .int .i64 x.parts.length), (17, .bool false)], σ ++ [Obj.box p.cs, .box x.cs]) := fun he hln => by
    have hel := exsD_len x.parts
    have hq := hq0 []
    rw [List.append_nil] at hq
    generalize σ ++ [Obj.box p.cs, .box x.cs] = σ1 at *
    have := loop_find (f := evalI CI XB GI 60 false lp11_0) (σ := σ1) x.parts (fun i => [(2, .ptr σ.length 0), (5, .slice (exsD x.parts)), (6, .int .i64 (i : Nat))]) (fun _ => false) (fun _ => (.ret, [], σ1)) (.exit 0, [(2, .ptr σ.length 0), (5, .slice (exsD x.parts)), (6, .int .i64 x.parts.length), (17, .bool false)], σ1) (by simp) (by simp)
      (fun i hi => by
        have hw := wrap_nat (n := i) (by omega)
        have hc := fun σ => h38 x.parts[i] (Ex.parts_ok hx (List.getElem_mem hi)) σ
        rw [Prg.exprE_parts he (List.getElem_mem hi)] at hc
        have hget : (exsD x.parts)[i]? = some (.agg x.parts[i].cs) := by rw [exsD_map]; simp [Ex.d, hi]
        have hy1 := x.parts[i].cs_len
        have hy2 := x.parts[i].cs_take
        generalize x.parts[i].cs = yc at *
        generalize exsD x.parts = ld at *
        have h2 : i < ld.length := by omega
        have h3 : ld[i] = .agg yc := by rw [List.getElem?_eq_getElem h2] at hget; exact Option.some.inj hget
        generalize p.cs = pc at *
        generalize x.parts.length = nl at *
        simp [lp11_0, hi, hw, hel, h2, h3, hq, hpl, hpt, hy1, hy2, hc, q38, x38, Nat.testBit_eq_decide_div_mod_eq])
      (by generalize exsD x.parts = ld at *; simp [lp11_0, hel])
    rw [find_none, Int.natCast_zero] at this
    exact this
  have hit2 : p.chk = 0 → iterI (evalI CI XB GI 60 false lp11_1) [(2, .ptr σ.length 0), (7, .int .i64 0)] (σ ++ [Obj.box p.cs, .box x.cs]) = some (.exit 2, [(2, .ptr σ.length 0), (7, .int .i64 p.defs.length), (35, .bool false)], σ ++ [Obj.box p.cs, .box x.cs]) := fun he => by
    obtain ⟨_, hd, _⟩ := Prg.chk_parts he
    have hq := hq0 []
    rw [List.append_nil] at hq
    generalize σ ++ [Obj.box p.cs, .box x.cs] = σ1 at *
    have hfl := hok.fl
    have hh : p.cs[2]? = some (.slice (p.defs.map Dfn.d)) := by rw [p.cs_eq]; rfl
    have hh2 : ∀ h : 2 < p.cs.length, p.cs[2] = .slice (p.defs.map Dfn.d) := fun h => by rw [List.getElem?_eq_getElem h] at hh; exact Option.some.inj hh
    have hlen : (p.defs.map Dfn.d).length = p.defs.length := by simp
    have := loop_find (f := evalI CI XB GI 60 false lp11_1) (σ := σ1) p.defs (fun i => [(2, .ptr σ.length 0), (7, .int .i64 (i : Nat))]) (fun _ => false) (fun _ => (.ret, [], σ1)) (.exit 2, [(2, .ptr σ.length 0), (7, .int .i64 p.defs.length), (35, .bool false)], σ1) (by simp) (by simp)
      (fun i hi => by
        have hw := wrap_nat (n := i) (by unfold maxL at hfl; omega)
        have hc := fun σ => h38 p.defs[i].body (hok.f _ (List.getElem_mem hi)) σ
        rw [hd _ (List.getElem_mem hi)] at hc
        have hget : (p.defs.map Dfn.d)[i]? = some (Dfn.d p.defs[i]) := by simp [hi]
        generalize p.defs.map Dfn.d = ld at *
        have h2 : i < ld.length := by omega
        have h3 : ld[i] = Dfn.d p.defs[i] := by rw [List.getElem?_eq_getElem h2] at hget; exact Option.some.inj hget
        generalize p.defs[i] = d at *
        rcases d with ⟨dn, body⟩
        have hy1 := body.cs_len
        have hy2 := body.cs_take
        simp only [Dfn.d, Dfn.cs] at *
        generalize body.cs = yc at *
        generalize p.cs = pc at *
        simp [lp11_1, hi, hw, hlen, h2, h3, hq, hh2, hpl, hpt, hy1, hy2, hc, q38, x38, Nat.testBit_eq_decide_div_mod_eq])
      (by generalize p.defs.map Dfn.d = ld at *; generalize p.cs = pc at *; simp [lp11_1, hq, hpl, hh2, hlen])
    rw [find_none, Int.natCast_zero] at this
    exact this
  have hτ : bodyI CI XB GI af11 [.agg p.cs, .agg x.cs] σ = some (.ret (.bool true), σ ++ [Obj.box p.cs, .box x.cs]) := by
    have hx1 := x.cs_len
    have hx2 := x.cs_take
    have hx3 := x.cs_all
    have hd3 : (p.cs.drop 3).take 7 = p.main.cs := by rw [p.cs_eq]; simp
    have hd3' : p.cs.drop 3 = p.main.cs := by rw [p.cs_eq]; simp
    have hm1 := p.main.cs_len
    have hm2 := p.main.cs_take
    have hx38 := fun σ => h38 x hx σ
    have hm38 := fun σ => h38 p.main hok.m σ
    have h52 := fun h σ => k52 x h σ
    by_cases hA : p.exprE x = 0
    · obtain ⟨_, hA2⟩ := orE_zero.1 hA
      have hxe := (Ex.chk_e (orE_zero.1 hA2).1).1
      have h52 := h52 hxe
      have hln : x.parts.length ≤ 1000000 := by
        rcases x with ⟨k, n, s, t, names, l, arms⟩
        obtain ⟨a1, a2⟩ := nodeE_few (Ex.e_node hxe).1
        simp [Ex.parts]; omega
      have hit1 := hit1 hA hln
      rw [hA] at hx38
      by_cases hB : p.chk = 0
      · have hit2 := hit2 hB
        obtain ⟨hdc, _, hmn⟩ := Prg.chk_parts hB
        rw [hB] at h36
        rw [hdc] at h14
        rw [hmn] at hm38
        clear hq0 h38
        generalize exsD x.parts = ld at *
        generalize p.main.cs = mc at *
        generalize p.cs = pc at *
        generalize x.cs = xc at *
        simp [bodyI, af11, getA0, getA, hpl, hpt, hpa, hx1, hx2, hx3, hd3, hd3', hm1, hm2, hx38, hm38, h52, h36, h14, h16, hit1, hit2]
      · have hb : (p.chk != 0) = true := by simpa using hB
        clear hq0 h38
        generalize exsD x.parts = ld at *
        generalize p.cs = pc at *
        generalize x.cs = xc at *
        simp [bodyI, af11, getA0, getA, hpl, hpt, hpa, hx1, hx2, hx3, hx38, h52, h36, h16, hit1, hb]
    · have hb1 : (p.exprE x == 0) = false := by simpa using hA
      by_cases hB : p.chk = 0
      · have hit2 := hit2 hB
        obtain ⟨hdc, _, hmn⟩ := Prg.chk_parts hB
        rw [hB] at h36
        rw [hdc] at h14
        rw [hmn] at hm38
        clear hq0 h38 hit1
        generalize p.exprE x = ee at *
        generalize p.main.cs = mc at *
        generalize p.cs = pc at *
        generalize x.cs = xc at *
        simp [bodyI, af11, getA0, getA, hpl, hpt, hpa, hx1, hx2, hx3, hd3, hd3', hm1, hm2, hx38, hm38, h36, h14, h16, hb1, hit2]
      · have hb : (p.chk != 0) = true := by simpa using hB
        clear hq0 h38 hit1 hit2
        generalize p.exprE x = ee at *
        generalize p.cs = pc at *
        generalize x.cs = xc at *
        simp [bodyI, af11, getA0, getA, hpl, hpt, hpa, hx1, hx2, hx3, hx38, h36, h16, hb1, hb]
  exact CI_tree tab11 hτ rfl rfl
end Go.AI

