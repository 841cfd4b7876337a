/- What functions of the lexer compute: bytes, names. No conditions of its own. -/
import Derived.Test.YtlbnennpefkpgaaDoorLxL
import Derived.Lib.MapLaws
set_option linter.unusedVariables false
set_option linter.unusedSimpArgs false
namespace Go.AI
open Go Go.Lx
set_option maxRecDepth 100000

@[simp] theorem G0_nat (f : FuncId) : G0.nat f = natT f := rfl
attribute [simp] natT

/-! In -/
def g34 : List D → Option D
  | [.int .i64 n, .int .i64 a, .int .i64 b] => some (.bool (decide (a ≤ n) && decide (n ≤ b)))
  | _ => none
theorem c34 {X : Ext} (h : X 34 = none) (args : List D) (r : D) (hg : g34 args = some r) : Comp tabT X G0 34 args r := by
  unfold g34 at hg
  split at hg
  · rename_i n a b
    cases hg
    refine comp_runF 1 h tab34 ⟨rfl, by decide⟩ ?_
    by_cases h1 : a ≤ n <;> simp [runF, af34, h1]
  · cases hg
theorem k34 {X : Ext} {k : Nat} {σ : St} (h : X 34 = some (wk g34)) (n a b : Int) :
    evalFn tabT X G0 (k + 1) (.fn 34) [.int .i64 n, .int .i64 a, .int .i64 b] σ = some (.ret (.bool (decide (a ≤ n) && decide (n ≤ b))), σ) := call_ext h rfl rfl rfl

/-! The kind of a byte -/
def kindI (n : Int) : Int := if (n == 32) || (n == 9) || (n == 10) then 1 else if (n == 95) || (decide (97 ≤ n) && decide (n ≤ 122)) then 2 else if decide (65 ≤ n) && decide (n ≤ 90) then 3
  else if decide (48 ≤ n) && decide (n ≤ 57) then 4 else 0
def g67 : List D → Option D
  | [.int .u8 n] => some (.int .i64 (kindI n))
  | _ => none
theorem c67 {X : Ext} (h : X 67 = none) (args : List D) (r : D) (hg : g67 args = some r) : Comp tabT X G0 67 args r := by
  unfold g67 at hg
  split at hg
  · rename_i n
    cases hg
    refine comp_runF 1 h tab67 ⟨rfl, by decide⟩ ?_
    unfold kindI
    cases h1 : n == 32
    · cases h2 : n == 9
      · cases h3 : n == 10
        · cases h4 : n == 95
          · by_cases h5 : 97 ≤ n
            · by_cases h6 : n ≤ 122
              · simp [runF, af67, h1, h2, h3, h4, h5, h6]
              · have h7 : ¬ n ≤ 90 := by omega
                have h8 : ¬ n ≤ 57 := by omega
                have h9 : 65 ≤ n := by omega
                have h10 : 48 ≤ n := by omega
                simp [runF, af67, h1, h2, h3, h4, h5, h6, h7, h8, h9, h10]
            · by_cases h6 : 65 ≤ n
              · by_cases h7 : n ≤ 90
                · simp [runF, af67, h1, h2, h3, h4, h5, h6, h7]
                · have h8 : ¬ n ≤ 57 := by omega
                  have h10 : 48 ≤ n := by omega
                  simp [runF, af67, h1, h2, h3, h4, h5, h6, h7, h8, h10]
              · by_cases h7 : 48 ≤ n
                · by_cases h8 : n ≤ 57
                  · simp [runF, af67, h1, h2, h3, h4, h5, h6, h7, h8]
                  · simp [runF, af67, h1, h2, h3, h4, h5, h6, h7, h8]
                · simp [runF, af67, h1, h2, h3, h4, h5, h6, h7]
          · simp [runF, af67, h1, h2, h3, h4]
        · simp [runF, af67, h1, h2, h3]
      · simp [runF, af67, h1, h2]
    · simp [runF, af67, h1]
  · cases hg
theorem k67 {X : Ext} {k : Nat} {σ : St} (h : X 67 = some (wk g67)) (n : Int) : evalFn tabT X G0 (k + 1) (.fn 67) [.int .u8 n] σ = some (.ret (.int .i64 (kindI n)), σ) := call_ext h rfl rfl rfl

/-! letter, digit, blank -/
def letterI (n : Int) : Bool := (decide (97 ≤ n) && decide (n ≤ 122)) || ((decide (65 ≤ n) && decide (n ≤ 90)) || (n == 95))
def g69 : List D → Option D
  | [.int .u8 n] => some (.bool (letterI n))
  | _ => none
theorem c69 {X : Ext} (h : X 69 = none) (args : List D) (r : D) (hg : g69 args = some r) : Comp tabT X G0 69 args r := by
  unfold g69 at hg
  split at hg
  · rename_i n
    cases hg
    refine comp_runF 1 h tab69 ⟨rfl, by decide⟩ ?_
    unfold letterI
    by_cases h1 : 97 ≤ n
    · by_cases h2 : n ≤ 122
      · simp [runF, af69, h1, h2]
      · have h3 : 65 ≤ n := by omega
        have h4 : ¬ n ≤ 90 := by omega
        simp [runF, af69, h1, h2, h3, h4]
    · by_cases h3 : 65 ≤ n
      · by_cases h4 : n ≤ 90 <;> simp [runF, af69, h1, h3, h4]
      · simp [runF, af69, h1, h3]
  · cases hg
theorem k69 {X : Ext} {k : Nat} {σ : St} (h : X 69 = some (wk g69)) (n : Int) : evalFn tabT X G0 (k + 1) (.fn 69) [.int .u8 n] σ = some (.ret (.bool (letterI n)), σ) := call_ext h rfl rfl rfl

def digitI (n : Int) : Bool := decide (48 ≤ n) && decide (n ≤ 57)
def g70 : List D → Option D
  | [.int .u8 n] => some (.bool (digitI n))
  | _ => none
theorem c70 {X : Ext} (h : X 70 = none) (args : List D) (r : D) (hg : g70 args = some r) : Comp tabT X G0 70 args r := by
  unfold g70 at hg
  split at hg
  · rename_i n
    cases hg
    refine comp_runF 1 h tab70 ⟨rfl, by decide⟩ ?_
    unfold digitI
    by_cases h1 : 48 ≤ n <;> simp [runF, af70, h1]
  · cases hg
theorem k70 {X : Ext} {k : Nat} {σ : St} (h : X 70 = some (wk g70)) (n : Int) : evalFn tabT X G0 (k + 1) (.fn 70) [.int .u8 n] σ = some (.ret (.bool (digitI n)), σ) := call_ext h rfl rfl rfl

def blankI (n : Int) : Bool := (n == 32) || ((n == 9) || (n == 10))
def g51 : List D → Option D
  | [.int .u8 n] => some (.bool (blankI n))
  | _ => none
theorem c51 {X : Ext} (h : X 51 = none) (args : List D) (r : D) (hg : g51 args = some r) : Comp tabT X G0 51 args r := by
  unfold g51 at hg
  split at hg
  · rename_i n
    cases hg
    refine comp_runF 1 h tab51 ⟨rfl, by decide⟩ ?_
    unfold blankI
    cases h1 : n == 32
    · cases h2 : n == 9 <;> simp [runF, af51, h1, h2]
    · simp [runF, af51, h1]
  · cases hg
theorem k51 {X : Ext} {k : Nat} {σ : St} (h : X 51 = some (wk g51)) (n : Int) : evalFn tabT X G0 (k + 1) (.fn 51) [.int .u8 n] σ = some (.ret (.bool (blankI n)), σ) := call_ext h rfl rfl rfl

/-! Keywords, symbols -/
def g32 : List D → Option D
  | [] => some (slD kws)
  | _ => none
theorem c32 {X : Ext} (h : X 32 = none) (args : List D) (r : D) (hg : g32 args = some r) : Comp tabT X G0 32 args r := by
  unfold g32 at hg
  split at hg
  · cases hg
    exact comp_runF 1 h tab32 ⟨rfl, by decide⟩ (by kernel_rfl)
  · cases hg
theorem k32 {X : Ext} {k : Nat} {σ : St} (h : X 32 = some (wk g32)) : evalFn tabT X G0 (k + 1) (.fn 32) [] σ = some (.ret (slD kws), σ) := call_ext h rfl rfl rfl
def g57 : List D → Option D
  | [] => some (slD syms)
  | _ => none
theorem c57 {X : Ext} (h : X 57 = none) (args : List D) (r : D) (hg : g57 args = some r) : Comp tabT X G0 57 args r := by
  unfold g57 at hg
  split at hg
  · cases hg
    exact comp_runF 1 h tab57 ⟨rfl, by decide⟩ (by kernel_rfl)
  · cases hg
theorem k57 {X : Ext} {k : Nat} {σ : St} (h : X 57 = some (wk g57)) : evalFn tabT X G0 (k + 1) (.fn 57) [] σ = some (.ret (slD syms), σ) := call_ext h rfl rfl rfl
end Go.AI

namespace Go.AI
open Go Go.Lx
set_option maxRecDepth 100000

theorem wrap_i64 {n : Int} (h0 : -9223372036854775808 ≤ n) (h1 : n ≤ 9223372036854775807) : IntKind.i64.wrap n = n := by
  simp only [IntKind.wrap, IntKind.bits, IntKind.signed]
  simp
  omega

theorem iter_next {f : Env → St → Option (AExit × Env × St)} {k : Nat} {e e' : Env} {σ σ' : St} (h : f e σ = some (.normal, e', σ')) : iter f (k + 1) e σ = iter f k e' σ' := by
  simp only [iter, h]
theorem iter_exit {f : Env → St → Option (AExit × Env × St)} {k i : Nat} {e e' : Env} {σ σ' : St} (h : f e σ = some (.exit i, e', σ')) : iter f (k + 1) e σ = some (.exit i, e', σ') := by
  simp only [iter, h]
theorem iter_ret {f : Env → St → Option (AExit × Env × St)} {k : Nat} {e e' : Env} {σ σ' : St} (h : f e σ = some (.ret, e', σ')) : iter f (k + 1) e σ = some (.ret, e', σ') := by
  simp only [iter, h]

/-! Index -/
theorem lp50 {cf : CallF} {x : FuncId → Bool} {k : Nat} {l : List Bs} {s : Bs} {σ : St} (i : Nat) (hi : i < l.length) (hl : l.length ≤ 9223372036854775806) :
    evalCode cf x G0 19 k false lp50_0 [(0, slD l), (1, .str s), (5, .int .i64 i)] σ =
      if l[i] == s then some (.ret, [(4, .int .i64 i)], σ) else some (.normal, [(0, slD l), (1, .str s), (5, .int .i64 ((i + 1 : Nat) : Int))], σ) := by
  have hw : IntKind.i64.wrap ((i : Int) + 1) = i + 1 := wrap_i64 (by omega) (by omega)
  cases h : l[i] == s <;> simp [lp50_0, hi, h, hw]
theorem lp50e {cf : CallF} {x : FuncId → Bool} {k : Nat} {l : List Bs} {s : Bs} {σ : St} :
    evalCode cf x G0 19 k false lp50_0 [(0, slD l), (1, .str s), (5, .int .i64 l.length)] σ =
      some (.exit 0, [(0, slD l), (1, .str s), (5, .int .i64 l.length), (9, .bool false)], σ) := by
  simp [lp50_0]
theorem it50 {cf : CallF} {x : FuncId → Bool} {k m : Nat} {l : List Bs} {s : Bs} {σ : St} (hl : l.length ≤ 9223372036854775806) : ∀ (r pre : List Bs), l = pre ++ r →
    iter (evalCode cf x G0 19 k false lp50_0) (m + r.length + 1) [(0, slD l), (1, .str s), (5, .int .i64 pre.length)] σ =
      match r.findIdx? (· == s) with
      | some j => some (.ret, [(4, .int .i64 ((pre.length + j : Nat) : Int))], σ)
      | none => some (.exit 0, [(0, slD l), (1, .str s), (5, .int .i64 l.length), (9, .bool false)], σ)
  | [], pre, h => by
    have : pre.length = l.length := by rw [h]; simp
    rw [this]
    exact iter_exit lp50e
  | a :: r, pre, h => by
    have hi : pre.length < l.length := by rw [h]; simp
    have hb := lp50 (cf := cf) (x := x) (k := k) (s := s) (σ := σ) pre.length hi hl
    have ha : l[pre.length] = a := by simp [h]
    rw [ha] at hb
    rw [List.findIdx?_cons]
    cases hs : a == s
    · rw [hs] at hb
      have := it50 (m := m) hl (s := s) (σ := σ) (cf := cf) (x := x) (k := k) r (pre ++ [a]) (by rw [h]; simp)
      simp only [List.length_append, List.length_cons, List.length_nil, Nat.zero_add] at this
      rw [show m + (a :: r).length + 1 = (m + r.length + 1) + 1 by simp; omega, iter_next hb, this]
      cases r.findIdx? (· == s) with
      | none => simp
      | some j => simp; omega
    · rw [hs] at hb
      simp only [if_true]
      exact iter_ret hb

def g50 : List D → Option D
  | [.slice es, .str s] => match unstrs es with
    | some l => if l.length ≤ 9223372036854775806 then some (.int .i64 (indexP l s)) else none
    | none => none
  | _ => none
theorem c50 {X : Ext} (h : X 50 = none) (args : List D) (r : D) (hg : g50 args = some r) : Comp tabT X G0 50 args r := by
  unfold g50 at hg
  split at hg
  · rename_i es s
    split at hg
    · rename_i l hl
      split at hg
      · rename_i hlen
        cases hg
        rw [unstrs_some hl]
        refine comp_runF (l.length + 1) h tab50 ⟨rfl, by decide⟩ ?_
        have hit := it50 (cf := evalFn tabT X G0 (l.length + 1)) (x := fun f => (X f).isSome) (k := l.length + 1) (m := 0) (s := s) (σ := []) hlen l [] rfl
        unfold indexP
        cases hf : l.findIdx? (· == s) with
        | none =>
          rw [hf] at hit
          simp only [List.length_nil, Int.natCast_zero, Nat.zero_add] at hit
          simp [runF, af50, hit]
        | some j =>
          rw [hf] at hit
          simp only [List.length_nil, Int.natCast_zero, Nat.zero_add] at hit
          simp [runF, af50, hit]
      · cases hg
    · cases hg
  · cases hg
theorem k50 {X : Ext} {k : Nat} {σ : St} (h : X 50 = some (wk g50)) (l : List Bs) (s : Bs) (hl : l.length ≤ 9223372036854775806) :
    evalFn tabT X G0 (k + 1) (.fn 50) [slD l, .str s] σ = some (.ret (.int .i64 (indexP l s)), σ) :=
  call_ext h (by simp [treeL, D.tree]) (by simp [weakL, D.weak]) (by simp [g50, unstrs_map, hl])
end Go.AI

namespace Go.AI
open Go Go.Lx
set_option maxRecDepth 100000
set_option linter.unusedSimpArgs false

/-! Has -/
def g31 : List D → Option D
  | [.slice es, .str s] => match unstrs es with
    | some l => if l.length ≤ 9223372036854775806 then some (.bool (decide (0 ≤ indexP l s))) else none
    | none => none
  | _ => none
theorem c31 {X : Ext} (h50 : X 50 = some (wk g50)) (h : X 31 = none) (args : List D) (r : D) (hg : g31 args = some r) : Comp tabT X G0 31 args r := by
  unfold g31 at hg
  split at hg
  · rename_i es s
    split at hg
    · rename_i l hl
      split at hg
      · rename_i hlen
        cases hg
        rw [unstrs_some hl]
        refine comp_runF 1 h tab31 ⟨rfl, by decide⟩ ?_
        have hk := k50 (k := 0) (σ := []) h50 l s hlen
        simp only [Nat.zero_add] at hk
        simp [runF, af31, hk]
      · cases hg
    · cases hg
  · cases hg
theorem k31 {X : Ext} {k : Nat} {σ : St} (h : X 31 = some (wk g31)) (l : List Bs) (s : Bs) (hl : l.length ≤ 9223372036854775806) :
    evalFn tabT X G0 (k + 1) (.fn 31) [slD l, .str s] σ = some (.ret (.bool (decide (0 ≤ indexP l s))), σ) :=
  call_ext h (by simp [treeL, D.tree]) (by simp [weakL, D.weak]) (by simp [g31, unstrs_map, hl])

theorem indexP_ge (l : List Bs) (s : Bs) : decide (0 ≤ indexP l s) = l.contains s := by
  unfold indexP
  rw [Bool.eq_iff_iff]
  cases h : l.findIdx? (· == s) with
  | none =>
    rw [List.findIdx?_eq_none_iff] at h
    simp only [decide_eq_true_eq, List.contains_iff_mem]
    constructor
    · intro h; omega
    · intro hm; have := h s hm; simp at this
  | some i =>
    simp only [decide_eq_true_eq, List.contains_iff_mem]
    constructor
    · intro _
      obtain ⟨hi, h1, _⟩ := List.findIdx?_eq_some_iff_getElem.1 h
      have : l[i] = s := by simpa using h1
      rw [← this]; exact List.getElem_mem hi
    · intro _; omega

/-! word of the reference -/
def isWI (n : Int) : Bool := (decide (n ≥ 97) && decide (n ≤ 122)) || ((decide (n ≥ 65) && decide (n ≤ 90)) || ((decide (n ≥ 48) && decide (n ≤ 57)) || (n == 95)))

theorem lp48 {cf : CallF} {x : FuncId → Bool} {k : Nat} {l : Bs} {σ : St} (i : Nat) (hi : i < l.length) (hl : l.length ≤ 9223372036854775806) :
    evalCode cf x G0 72 k false lp48_0 [(0, .str l), (9, .int .i64 i)] σ =
      if isWI l[i].toNat then some (.normal, [(0, .str l), (9, .int .i64 ((i + 1 : Nat) : Int))], σ) else some (.ret, [(8, .bool false)], σ) := by
  have hw : IntKind.i64.wrap ((i : Int) + 1) = i + 1 := wrap_i64 (by omega) (by omega)
  obtain ⟨n, hn⟩ : ∃ n : Int, (l[i].toNat : Int) = n := ⟨_, rfl⟩
  rw [hn]
  unfold isWI
  by_cases h1 : 97 ≤ n
  · by_cases h2 : n ≤ 122
    · simp [lp48_0, hi, hn, hw, h1, h2]
    · have h4 : ¬ n ≤ 90 := by omega
      have h6 : ¬ n ≤ 57 := by omega
      have h7 : (n == 95) = false := by simp; omega
      have h3 : 65 ≤ n := by omega
      have h5 : 48 ≤ n := by omega
      simp [lp48_0, hi, hn, hw, h1, h2, h3, h4, h5, h6, h7]
  · by_cases h3 : 65 ≤ n
    · by_cases h4 : n ≤ 90
      · simp [lp48_0, hi, hn, hw, h1, h3, h4]
      · have h6 : ¬ n ≤ 57 := by omega
        have h5 : 48 ≤ n := by omega
        cases h7 : n == 95 <;> simp [lp48_0, hi, hn, hw, h1, h3, h4, h5, h6, h7]
    · by_cases h5 : 48 ≤ n
      · by_cases h6 : n ≤ 57
        · simp [lp48_0, hi, hn, hw, h1, h3, h5, h6]
        · cases h7 : n == 95 <;> simp [lp48_0, hi, hn, hw, h1, h3, h5, h6, h7]
      · have h7 : (n == 95) = false := by simp; omega
        simp [lp48_0, hi, hn, hw, h1, h3, h5, h7]
theorem lp48e {cf : CallF} {x : FuncId → Bool} {k : Nat} {l : Bs} {σ : St} :
    evalCode cf x G0 72 k false lp48_0 [(0, .str l), (9, .int .i64 l.length)] σ = some (.exit 0, [(0, .str l), (9, .int .i64 l.length), (39, .bool false)], σ) := by
  simp [lp48_0]
theorem it48 {cf : CallF} {x : FuncId → Bool} {k m : Nat} {l : Bs} {σ : St} (hl : l.length ≤ 9223372036854775806) : ∀ (r pre : Bs), l = pre ++ r →
    iter (evalCode cf x G0 72 k false lp48_0) (m + r.length + 1) [(0, .str l), (9, .int .i64 pre.length)] σ =
      if r.all (fun c => isWI c.toNat) then some (.exit 0, [(0, .str l), (9, .int .i64 l.length), (39, .bool false)], σ) else some (.ret, [(8, .bool false)], σ)
  | [], pre, h => by
    have : pre.length = l.length := by rw [h]; simp
    rw [this]
    exact iter_exit lp48e
  | a :: r, pre, h => by
    have hi : pre.length < l.length := by rw [h]; simp
    have hb := lp48 (cf := cf) (x := x) (k := k) (σ := σ) pre.length hi hl
    have ha : l[pre.length] = a := by simp [h]
    rw [ha] at hb
    cases hs : isWI a.toNat
    · rw [hs] at hb
      simp only [List.all_cons, hs, Bool.false_and]
      exact iter_ret hb
    · rw [hs] at hb
      have := it48 (m := m) hl (σ := σ) (cf := cf) (x := x) (k := k) r (pre ++ [a]) (by rw [h]; simp)
      simp only [List.length_append, List.length_cons, List.length_nil, Nat.zero_add] at this
      rw [show m + (a :: r).length + 1 = (m + r.length + 1) + 1 by simp; omega, iter_next hb, this]
      simp only [List.all_cons, hs, Bool.true_and]

def wordI (lo hi : Int) (un : Bool) (s : Bs) : Bool := match s with
  | [] => false
  | c :: r => decide (r.length < 12) && ((decide ((c.toNat : Int) ≥ lo) && decide ((c.toNat : Int) ≤ hi)) || (un && ((c.toNat : Int) == 95))) && (c :: r).all (fun c => isWI c.toNat)
def g48 : List D → Option D
  | [.str s, .int .u8 lo, .int .u8 hi, .bool un] => some (.bool (wordI lo hi un s))
  | _ => none
theorem c48 {X : Ext} (h34 : X 34 = some (wk g34)) (h : X 48 = none) (args : List D) (r : D) (hg : g48 args = some r) : Comp tabT X G0 48 args r := by
  unfold g48 at hg
  split at hg
  · rename_i s lo hi un
    cases hg
    refine comp_runF (s.length + 1) h tab48 ⟨rfl, by decide⟩ ?_
    by_cases h12 : s.length ≤ 12
    · cases s with
      | nil => simp [runF, af48, k34 h34, wordI]
      | cons c t =>
        have hit := it48 (l := c :: t) (cf := evalFn tabT X G0 ((c :: t).length + 1)) (x := fun f => (X f).isSome) (k := (c :: t).length + 1) (m := 0) (σ := []) (by omega) (c :: t) [] rfl
        simp only [List.length_nil, Int.natCast_zero, Nat.zero_add] at hit
        generalize hl : c :: t = l at *
        have e1 : 1 ≤ (l.length : Int) := by rw [← hl]; simp; omega
        have e2 : (l.length : Int) ≤ 12 := by omega
        have e3 : (0 : Int) < l.length := by omega
        have e5 : decide (t.length < 12) = true := by rw [← hl] at h12; simp at h12; simp; omega
        have e6 : 0 < l.length := by omega
        have e4 : l[0] = c := by simp [← hl]
        have hs : wordI lo hi un l = (((decide ((c.toNat : Int) ≥ lo) && decide ((c.toNat : Int) ≤ hi)) || (un && ((c.toNat : Int) == 95))) && l.all (fun c => isWI c.toNat)) := by
          rw [← hl]; simp only [wordI, e5, Bool.true_and]
        rw [hs]
        generalize hn : (c.toNat : Int) = n at *
        by_cases hA : lo ≤ n
        · by_cases hB : n ≤ hi
          · cases hall : l.all (fun c => isWI c.toNat)
            · rw [hall] at hit
              simp [runF, af48, k34 h34, e1, e2, e3, e4, e6, hn, hA, hB, hit]
            · rw [hall] at hit
              simp [runF, af48, k34 h34, e1, e2, e3, e4, e6, hn, hA, hB, hit]
          · cases un
            · simp [runF, af48, k34 h34, e1, e2, e3, e4, e6, hn, hA, hB]
            · cases h95 : n == 95
              · simp [runF, af48, k34 h34, e1, e2, e3, e4, e6, hn, hA, hB, h95]
              · cases hall : l.all (fun c => isWI c.toNat)
                · rw [hall] at hit
                  simp [runF, af48, k34 h34, e1, e2, e3, e4, e6, hn, hA, hB, h95, hit]
                · rw [hall] at hit
                  simp [runF, af48, k34 h34, e1, e2, e3, e4, e6, hn, hA, hB, h95, hit]
        · cases un
          · simp [runF, af48, k34 h34, e1, e2, e3, e4, e6, hn, hA]
          · cases h95 : n == 95
            · simp [runF, af48, k34 h34, e1, e2, e3, e4, e6, hn, hA, h95]
            · cases hall : l.all (fun c => isWI c.toNat)
              · rw [hall] at hit
                simp [runF, af48, k34 h34, e1, e2, e3, e4, e6, hn, hA, h95, hit]
              · rw [hall] at hit
                simp [runF, af48, k34 h34, e1, e2, e3, e4, e6, hn, hA, h95, hit]
    · have hs : wordI lo hi un s = false := by
        cases s with
        | nil => rfl
        | cons c t => simp at h12; simp [wordI]; intros; omega
      have e2 : ¬ (s.length : Int) ≤ 12 := by omega
      rw [hs]
      simp [runF, af48, k34 h34, e2]
  · cases hg
end Go.AI

namespace Go.AI
open Go Go.Lx
set_option maxRecDepth 100000
set_option linter.unusedSimpArgs false

theorem all_bytes_Int {p : Int → UInt8 → Prop} (h : ∀ n : Fin 256, p n.val (UInt8.ofNat n.val)) (c : UInt8) : p c.toNat c := by
  have := h ⟨c.toNat, c.toNat_lt⟩
  simpa using this

theorem isWI_eq (c : UInt8) : isWI c.toNat = isW c := all_bytes_Int (p := fun n c => isWI n = isW c) (by decide +kernel) c
theorem kindI_eq (c : UInt8) : kindI c.toNat = kind c := all_bytes_Int (p := fun n c => kindI n = kind c) (by decide +kernel) c
theorem lowI_eq (c : UInt8) : ((decide ((c.toNat : Int) ≥ 97) && decide ((c.toNat : Int) ≤ 122)) || (true && ((c.toNat : Int) == 95))) = isLow c :=
  all_bytes_Int (p := fun n c => ((decide (n ≥ 97) && decide (n ≤ 122)) || (true && (n == 95))) = isLow c) (by decide +kernel) c
theorem upI_eq (c : UInt8) : ((decide ((c.toNat : Int) ≥ 65) && decide ((c.toNat : Int) ≤ 90)) || (false && ((c.toNat : Int) == 95))) = isUp c :=
  all_bytes_Int (p := fun n c => ((decide (n ≥ 65) && decide (n ≤ 90)) || (false && (n == 95))) = isUp c) (by decide +kernel) c
theorem kindW_eq (c : UInt8) : (decide ((c.toNat : Int) < 128) && decide (2 ≤ kindI c.toNat)) = isW c :=
  all_bytes_Int (p := fun n c => (decide (n < 128) && decide (2 ≤ kindI n)) = isW c) (by decide +kernel) c
theorem digI_eq (c : UInt8) : digitI c.toNat = isDig c := all_bytes_Int (p := fun n c => digitI n = isDig c) (by decide +kernel) c
theorem letI_eq (c : UInt8) : letterI c.toNat = (isLow c || isUp c) := all_bytes_Int (p := fun n c => letterI n = (isLow c || isUp c)) (by decide +kernel) c
theorem blankI_eq (c : UInt8) : blankI c.toNat = isBlank c := all_bytes_Int (p := fun n c => blankI n = isBlank c) (by decide +kernel) c

theorem wordI_low (s : Bs) : wordI 97 122 true s = wordOf isLow s := by
  cases s with
  | nil => rfl
  | cons c r => simp only [wordI, wordOf, lowI_eq, isWI_eq]
theorem wordI_up (s : Bs) : wordI 65 90 false s = wordOf isUp s := by
  cases s with
  | nil => rfl
  | cons c r => simp only [wordI, wordOf, upI_eq, isWI_eq]

theorem decode_ascii (l : Bs) (i : Nat) (hi : i < l.length) (h : (l[i].toNat : Int) < 128) : Utf8.decode ⟨l.toArray⟩ i = (l[i].toNat, 1) := by
  rw [Lib.decode_at]
  have hg : (ByteArray.get! ⟨l.toArray⟩ i) = l[i] := by
    simp [ByteArray.get!, hi]
  rw [hg]
  unfold Lib.decodeN
  rw [if_pos (by omega)]
theorem decode_big (l : Bs) (i : Nat) (hi : i < l.length) (h : ¬ (l[i].toNat : Int) < 128) : 128 ≤ (Utf8.decode ⟨l.toArray⟩ i).1 := by
  rw [Lib.decode_at]
  have hg : (ByteArray.get! ⟨l.toArray⟩ i) = l[i] := by
    simp [ByteArray.get!, hi]
  rw [hg]
  rcases Lib.decodeN_shape ((ByteArray.size ⟨l.toArray⟩) - i) l[i].toNat (ByteArray.get! ⟨l.toArray⟩ (i + 1)).toNat (ByteArray.get! ⟨l.toArray⟩ (i + 2)).toNat (ByteArray.get! ⟨l.toArray⟩ (i + 3)).toNat with h1 | h1 | h1 | h1 | h1
  · omega
  · rw [h1.2.2.2.2]; exact h1.2.2.2.1
  · rw [h1.2.2.2.2.2.2]; show 128 ≤ _; omega
  · rw [h1.2.2.2.2.2.2.2]; show 128 ≤ _; omega
  · rw [h1]; show 128 ≤ 65533; omega

/-! IsVar, IsUpper of the reference -/
def g27 : List D → Option D
  | [.str s] => some (.bool (varW s))
  | _ => none
theorem key_eq (s : Bs) : decide (0 ≤ indexP kws s) = isKey s := indexP_ge kws s
theorem c27 {X : Ext} (h48 : X 48 = some (wk g48)) (h32 : X 32 = some (wk g32)) (h31 : X 31 = some (wk g31)) (h : X 27 = none) (args : List D) (r : D) (hg : g27 args = some r) : Comp tabT X G0 27 args r := by
  unfold g27 at hg
  split at hg
  · rename_i s
    cases hg
    refine comp_runF 1 h tab27 ⟨rfl, by decide⟩ ?_
    have k48 : ∀ σ, evalFn tabT X G0 1 (.fn 48) [.str s, .int .u8 97, .int .u8 122, .bool true] σ = some (.ret (.bool (wordOf isLow s)), σ) := fun σ => by
      rw [call_ext (k := 0) (r := .bool (wordI 97 122 true s)) h48 rfl rfl rfl, wordI_low]
    have k31' : ∀ σ, evalFn tabT X G0 1 (.fn 31) [slD kws, .str s] σ = some (.ret (.bool (isKey s)), σ) := fun σ => by
      rw [k31 (k := 0) h31 kws s (by decide), key_eq]
    have k32' := fun σ => k32 (k := 0) (σ := σ) h32
    unfold varW
    generalize slD kws = kk at k31' k32'
    cases hw : wordOf isLow s
    · rw [hw] at k48
      simp [runF, af27, k48]
    · rw [hw] at k48
      simp [runF, af27, k48, k31', k32']
  · cases hg
theorem k27 {X : Ext} {k : Nat} {σ : St} (h : X 27 = some (wk g27)) (s : Bs) : evalFn tabT X G0 (k + 1) (.fn 27) [.str s] σ = some (.ret (.bool (varW s)), σ) := call_ext h rfl rfl rfl
def g29 : List D → Option D
  | [.str s] => some (.bool (upW s))
  | _ => none
theorem c29 {X : Ext} (h48 : X 48 = some (wk g48)) (h : X 29 = none) (args : List D) (r : D) (hg : g29 args = some r) : Comp tabT X G0 29 args r := by
  unfold g29 at hg
  split at hg
  · rename_i s
    cases hg
    refine comp_runF 1 h tab29 ⟨rfl, by decide⟩ ?_
    have k48 : ∀ σ, evalFn tabT X G0 1 (.fn 48) [.str s, .int .u8 65, .int .u8 90, .bool false] σ = some (.ret (.bool (wordOf isUp s)), σ) := fun σ => by
      rw [call_ext (k := 0) (r := .bool (wordI 65 90 false s)) h48 rfl rfl rfl, wordI_up]
    unfold upW
    simp [runF, af29, k48]
  · cases hg
theorem k29 {X : Ext} {k : Nat} {σ : St} (h : X 29 = some (wk g29)) (s : Bs) : evalFn tabT X G0 (k + 1) (.fn 29) [.str s] σ = some (.ret (.bool (upW s)), σ) := call_ext h rfl rfl rfl

/-! word of the lexer -/
theorem lp47 {X : Ext} {k : Nat} (h67 : X 67 = some (wk g67)) {l : Bs} (i : Nat) (hi : i < l.length) {tl : Env} (htl : tl = [] ∨ tl = [(33, .bool false)]) :
    (isW l[i] = true → evalCode (evalFn tabT X G0 (k + 1)) (fun f => (X f).isSome) G0 34 (k + 1) false lp47_0 ((22, .ptr 0 0) :: tl) [.siter l i] = some (.normal, [(22, .ptr 0 0), (33, .bool false)], [.siter l (i + 1)])) ∧
    (isW l[i] = false → ∃ σ', evalCode (evalFn tabT X G0 (k + 1)) (fun f => (X f).isSome) G0 34 (k + 1) false lp47_0 ((22, .ptr 0 0) :: tl) [.siter l i] = some (.ret, [(4, .bool false)], σ')) := by
  by_cases h : (l[i].toNat : Int) < 128
  · have hd := decode_ascii l i hi h
    have hk := kindW_eq l[i]
    have hw : IntKind.u8.wrap (l[i].toNat : Int) = l[i].toNat := by simp [IntKind.wrap, IntKind.bits, IntKind.signed]; have := l[i].toNat_lt; omega
    obtain ⟨n, hn⟩ : ∃ n : Int, (l[i].toNat : Int) = n := ⟨_, rfl⟩
    rw [hn] at hk hw h
    have h2 : ¬ (127 : Int) < n := by omega
    have h2' : n ≤ 127 := by omega
    constructor
    · intro hW
      rw [hW] at hk
      simp only [Bool.and_eq_true, decide_eq_true_eq] at hk
      have h3 : ¬ kindI n < 2 := by omega
      rcases htl with rfl | rfl <;> simp [lp47_0, hi, hd, hn, hw, h2, h2', h3, k67 h67]
    · intro hW
      rw [hW] at hk
      have h3 : kindI n < 2 := by
        have : decide (n < 128) = true := decide_eq_true h
        rw [this] at hk
        simp at hk; omega
      exact ⟨[.siter l (i + 1)], by rcases htl with rfl | rfl <;> simp [lp47_0, hi, hd, hn, hw, h2, h2', h3, k67 h67]⟩
  · have hd := decode_big l i hi h
    have hk := kindW_eq l[i]
    constructor
    · intro hW
      rw [hW] at hk
      simp only [Bool.and_eq_true, decide_eq_true_eq] at hk
      exact absurd hk.1 h
    · intro _
      obtain ⟨⟨r, w⟩, hr⟩ : ∃ p, Utf8.decode ⟨l.toArray⟩ i = p := ⟨_, rfl⟩
      rw [hr] at hd
      have h2 : (127 : Int) < (r : Int) := by have : 128 ≤ r := hd; omega
      have h2' : 127 < r := by omega
      exact ⟨[.siter l (i + w)], by rcases htl with rfl | rfl <;> simp [lp47_0, hi, hr, h2, h2']⟩
theorem lp47e {cf : CallF} {x : FuncId → Bool} {k : Nat} {l : Bs} {tl : Env} (htl : tl = [] ∨ tl = [(33, .bool false)]) :
    evalCode cf x G0 34 k false lp47_0 ((22, .ptr 0 0) :: tl) [.siter l l.length] = some (.exit 0, [(22, .ptr 0 0), (23, .tuple [.bool false]), (24, .bool false)], [.siter l l.length]) := by
  rcases htl with rfl | rfl <;> simp [lp47_0]
theorem it47 {X : Ext} {k m : Nat} (h67 : X 67 = some (wk g67)) {l : Bs} : ∀ (r pre : Bs), l = pre ++ r → ∀ tl, (tl = [] ∨ tl = [(33, .bool false)]) →
    ∃ σ', iter (evalCode (evalFn tabT X G0 (k + 1)) (fun f => (X f).isSome) G0 34 (k + 1) false lp47_0) (m + r.length + 1) ((22, .ptr 0 0) :: tl) [.siter l pre.length] =
      if r.all isW then some (.exit 0, [(22, .ptr 0 0), (23, .tuple [.bool false]), (24, .bool false)], σ') else some (.ret, [(4, .bool false)], σ')
  | [], pre, h, tl, htl => by
    have : pre.length = l.length := by rw [h]; simp
    rw [this]
    exact ⟨_, iter_exit (lp47e htl)⟩
  | a :: r, pre, h, tl, htl => by
    have hi : pre.length < l.length := by rw [h]; simp
    have hb := lp47 (k := k) h67 pre.length hi htl
    have ha : l[pre.length] = a := by simp [h]
    rw [ha] at hb
    cases hs : isW a
    · obtain ⟨σ', hσ⟩ := hb.2 hs
      refine ⟨σ', ?_⟩
      simp only [List.all_cons, hs, Bool.false_and]
      exact iter_ret hσ
    · have hb := hb.1 hs
      obtain ⟨σ', this⟩ := it47 (l := l) (m := m) (k := k) h67 r (pre ++ [a]) (by rw [h]; simp) [(33, .bool false)] (.inr rfl)
      simp only [List.length_append, List.length_cons, List.length_nil, Nat.zero_add] at this
      refine ⟨σ', ?_⟩
      rw [show m + (a :: r).length + 1 = (m + r.length + 1) + 1 by simp; omega, iter_next hb, this]
      simp only [List.all_cons, hs, Bool.true_and]

def lwordI (k : Int) (s : Bs) : Bool := match s with
  | [] => false
  | c :: r => decide (r.length < 12) && (kind c == k) && (c :: r).all isW
def g47 : List D → Option D
  | [.str s, .int .i64 k] => some (.bool (lwordI k s))
  | _ => none
theorem c47 {X : Ext} (h67 : X 67 = some (wk g67)) (h : X 47 = none) (args : List D) (r : D) (hg : g47 args = some r) : Comp tabT X G0 47 args r := by
  unfold g47 at hg
  split at hg
  · rename_i s kd
    cases hg
    refine comp_runF (s.length + 1) h tab47 ⟨rfl, by decide⟩ ?_
    cases s with
    | nil => simp [runF, af47, lwordI]
    | cons c t =>
      by_cases h12 : t.length < 12
      · obtain ⟨σ', hit⟩ := it47 (l := c :: t) (k := (c :: t).length) (m := 0) h67 (c :: t) [] rfl [] (.inl rfl)
        simp only [List.length_nil, Nat.zero_add] at hit
        generalize hl : c :: t = l at *
        have e2 : ¬ (12 : Int) < l.length := by rw [← hl]; simp; omega
        have e2' : ¬ 12 < l.length := by rw [← hl]; simp; omega
        have e6 : 0 < l.length := by rw [← hl]; simp
        have e7 : (l == ([] : Bs)) = false := by rw [← hl]; rfl
        have e4 : l[0] = c := by simp [← hl]
        have hk := kindI_eq c
        have hs : lwordI kd l = ((kind c == kd) && l.all isW) := by
          rw [← hl]; simp only [lwordI, decide_eq_true h12, Bool.true_and]
        rw [hs]
        cases hkd : kind c == kd
        · have hb : (kind c != kd) = true := by simp only [bne, hkd]; rfl
          simp [runF, af47, k67 h67, e2, e2', e4, e6, e7, hk, hb]
        · have hb : (kind c != kd) = false := by simp only [bne, hkd]; rfl
          cases hall : l.all isW
          · rw [hall] at hit
            simp [runF, af47, k67 h67, e2, e2', e4, e6, e7, hk, hb, hit]
          · rw [hall] at hit
            simp [runF, af47, k67 h67, e2, e2', e4, e6, e7, hk, hb, hit]
      · have hs : lwordI kd (c :: t) = false := by simp only [lwordI, decide_eq_false h12, Bool.false_and]
        rw [hs]
        generalize hl : c :: t = l at *
        have e2 : (12 : Int) < l.length := by rw [← hl]; simp; omega
        have e2' : 12 < l.length := by rw [← hl]; simp; omega
        have e7 : (l == ([] : Bs)) = false := by rw [← hl]; rfl
        simp [runF, af47, e2, e2', e7]
  · cases hg
end Go.AI

namespace Go.AI
open Go Go.Lx
set_option maxRecDepth 100000
set_option linter.unusedSimpArgs false

theorem kw_obj : evalFn tabT (extOf X0) G0 30 (.fn 49) [] [] = some (.ret (.map 0), [.map (kws.map fun w => (.str w, .int .i64 1))]) := by kernel_rfl
theorem mapFind_str (s : Bs) (v : D) : ∀ (l : List Bs), mapFind 2 (.str s) (l.map fun w => (.str w, v)) = some (if l.contains s then some v else none)
  | [] => rfl
  | a :: r => by
    simp only [List.map_cons, mapFind, D.kindEq, List.contains_cons]
    cases h : s == a
    · simp only [mapFind_str s v r, Bool.false_or]
    · simp
def g30 : List D → Option D
  | [.str s] => some (.bool (isKey s))
  | _ => none
theorem c30 (args : List D) (r : D) (hg : g30 args = some r) : Comp tabT (extOf X0) G0 30 args r := by
  unfold g30 at hg
  split at hg
  · rename_i s
    cases hg
    refine comp_runF 30 rfl tab30 ⟨rfl, by decide⟩ ?_
    have hm := mapFind_str s (.int .i64 1) kws
    have hkw := kw_obj
    unfold isKey
    generalize kws.map (fun w => (D.str w, D.int IntKind.i64 1)) = kk at hm hkw
    cases h : kws.contains s
    · rw [h] at hm
      simp [runF, af30, hkw, hm, D.kindEq]
    · rw [h] at hm
      simp [runF, af30, hkw, hm, D.kindEq]
  · cases hg
theorem k30 {X : Ext} {k : Nat} {σ : St} (h : X 30 = some (wk g30)) (s : Bs) : evalFn tabT X G0 (k + 1) (.fn 30) [.str s] σ = some (.ret (.bool (isKey s)), σ) := call_ext h rfl rfl rfl

theorem kindLow_eq (c : UInt8) : (kind c == 2) = isLow c := all_bytes_Int (p := fun _ c => (kind c == 2) = isLow c) (by decide +kernel) c
theorem kindUp_eq (c : UInt8) : (kind c == 3) = isUp c := all_bytes_Int (p := fun _ c => (kind c == 3) = isUp c) (by decide +kernel) c
theorem lwordI_low (s : Bs) : lwordI 2 s = wordOf isLow s := by
  cases s with
  | nil => rfl
  | cons c r => simp only [lwordI, wordOf, kindLow_eq]
theorem lwordI_up (s : Bs) : lwordI 3 s = wordOf isUp s := by
  cases s with
  | nil => rfl
  | cons c r => simp only [lwordI, wordOf, kindUp_eq]
theorem k47l {X : Ext} {k : Nat} {σ : St} (h : X 47 = some (wk g47)) (s : Bs) : evalFn tabT X G0 (k + 1) (.fn 47) [.str s, .int .i64 2] σ = some (.ret (.bool (wordOf isLow s)), σ) := by
  rw [← lwordI_low]; exact call_ext h rfl rfl rfl
theorem k47u {X : Ext} {k : Nat} {σ : St} (h : X 47 = some (wk g47)) (s : Bs) : evalFn tabT X G0 (k + 1) (.fn 47) [.str s, .int .i64 3] σ = some (.ret (.bool (wordOf isUp s)), σ) := by
  rw [← lwordI_up]; exact call_ext h rfl rfl rfl

def g26 : List D → Option D := g27
theorem c26 {X : Ext} (h47 : X 47 = some (wk g47)) (h30 : X 30 = some (wk g30)) (h : X 26 = none) (args : List D) (r : D) (hg : g26 args = some r) : Comp tabT X G0 26 args r := by
  unfold g26 g27 at hg
  split at hg
  · rename_i s
    cases hg
    refine comp_runF 1 h tab26 ⟨rfl, by decide⟩ ?_
    unfold varW
    have hl := fun σ => k47l (k := 0) (σ := σ) h47 s
    cases hw : wordOf isLow s
    · rw [hw] at hl
      simp [runF, af26, hl, k30 h30]
    · rw [hw] at hl
      simp [runF, af26, hl, k30 h30]
  · cases hg
theorem k26 {X : Ext} {k : Nat} {σ : St} (h : X 26 = some (wk g26)) (s : Bs) : evalFn tabT X G0 (k + 1) (.fn 26) [.str s] σ = some (.ret (.bool (varW s)), σ) := call_ext h rfl rfl rfl
def g28 : List D → Option D := g29
theorem c28 {X : Ext} (h47 : X 47 = some (wk g47)) (h : X 28 = none) (args : List D) (r : D) (hg : g28 args = some r) : Comp tabT X G0 28 args r := by
  unfold g28 g29 at hg
  split at hg
  · rename_i s
    cases hg
    refine comp_runF 1 h tab28 ⟨rfl, by decide⟩ ?_
    unfold upW
    simp [runF, af28, k47u h47]
  · cases hg
theorem k28 {X : Ext} {k : Nat} {σ : St} (h : X 28 = some (wk g28)) (s : Bs) : evalFn tabT X G0 (k + 1) (.fn 28) [.str s] σ = some (.ret (.bool (upW s)), σ) := call_ext h rfl rfl rfl
end Go.AI
