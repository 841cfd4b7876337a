/- What functions of the lexer compute: numbers, tokens. No conditions of its own. -/
import Derived.Test.YtlbnennpefkpgaaDoorLxA
import Derived.Test.YtlbnennpefkpgaaDoorLxP
set_option linter.unusedVariables false
set_option linter.unusedSimpArgs false
namespace Go.AI
open Go Go.Lx
set_option maxRecDepth 100000
set_option linter.unusedSimpArgs false

/-! Wrap -/
def g22 : List D → Option D
  | [.int .i64 n] => some (.int .i64 (wrapT n))
  | _ => none
theorem tmod_bound (n : Int) : -1999999999 < n.tmod 1999999999 ∧ n.tmod 1999999999 < 1999999999 := by
  rcases Int.lt_or_le n 0 with h | h
  · have := Int.tmod_neg n 1999999999
    have h2 : n.tmod 1999999999 = -((-n).tmod 1999999999) := by rw [← Int.neg_tmod]; simp
    have h3 : 0 ≤ (-n).tmod 1999999999 := Int.tmod_nonneg _ (by omega)
    have h4 : (-n).tmod 1999999999 < 1999999999 := Int.tmod_lt_of_pos _ (by omega)
    omega
  · exact ⟨by have := Int.tmod_nonneg 1999999999 h; omega, Int.tmod_lt_of_pos _ (by omega)⟩
theorem c22 {X : Ext} (h : X 22 = none) (args : List D) (r : D) (hg : g22 args = some r) : Comp tabT X G0 22 args r := by
  unfold g22 at hg
  split at hg
  · rename_i n
    cases hg
    refine comp_runF 1 h tab22 ⟨rfl, by decide⟩ ?_
    have hb := tmod_bound n
    unfold wrapT
    obtain ⟨m, hm⟩ : ∃ m, n.tmod 1999999999 = m := ⟨_, rfl⟩
    rw [hm] at hb ⊢
    by_cases h1 : m < -999999999
    · have hw : IntKind.i64.wrap (m + 1999999999) = m + 1999999999 := wrap_i64 (by omega) (by omega)
      simp [runF, af22, hm, h1, hw]
    · by_cases h2 : 999999999 < m
      · have hw : IntKind.i64.wrap (m - 1999999999) = m - 1999999999 := wrap_i64 (by omega) (by omega)
        simp [runF, af22, hm, h1, h2, hw]
      · simp [runF, af22, hm, h1, h2]
  · cases hg
theorem k22 {X : Ext} {k : Nat} {σ : St} (h : X 22 = some (wk g22)) (n : Int) : evalFn tabT X G0 (k + 1) (.fn 22) [.int .i64 n] σ = some (.ret (.int .i64 (wrapT n)), σ) := call_ext h rfl rfl rfl
theorem c23 {X : Ext} (h : X 23 = none) (args : List D) (r : D) (hg : g22 args = some r) : Comp tabT X G0 23 args r := by
  unfold g22 at hg
  split at hg
  · rename_i n
    cases hg
    refine comp_runF 1 h tab23 ⟨rfl, by decide⟩ ?_
    have hb := tmod_bound n
    unfold wrapT
    obtain ⟨m, hm⟩ : ∃ m, n.tmod 1999999999 = m := ⟨_, rfl⟩
    rw [hm] at hb ⊢
    by_cases h1 : m < -999999999
    · have hw : IntKind.i64.wrap (m + 1999999999) = m + 1999999999 := wrap_i64 (by omega) (by omega)
      have h2 : ¬ 999999999 < m := by omega
      simp [runF, af23, hm, h1, h2, hw]
    · by_cases h2 : 999999999 < m
      · have hw : IntKind.i64.wrap (m - 1999999999) = m - 1999999999 := wrap_i64 (by omega) (by omega)
        simp [runF, af23, hm, h1, h2, hw]
      · simp [runF, af23, hm, h1, h2]
  · cases hg
theorem k23 {X : Ext} {k : Nat} {σ : St} (h : X 23 = some (wk g22)) (n : Int) : evalFn tabT X G0 (k + 1) (.fn 23) [.int .i64 n] σ = some (.ret (.int .i64 (wrapT n)), σ) := call_ext h rfl rfl rfl

/-! Digits -/
theorem k46 {X : Ext} {k : Nat} {σ : St} (h : X 46 = some (wk g46)) {n : Int} (hn : -9223372036854775808 ≤ n ∧ n ≤ 9223372036854775807) :
    evalFn tabT X G0 (k + 1) (.fn 46) [.int .i64 n] σ = some (.ret (.str (itoa n)), σ) := call_ext h rfl rfl (by simp [g46, hn])
theorem c24 {X : Ext} (h46 : X 46 = some (wk g46)) (h : X 24 = none) (args : List D) (r : D) (hg : g46 args = some r) : Comp tabT X G0 24 args r := by
  unfold g46 at hg
  split at hg
  · rename_i n
    split at hg
    · rename_i hn
      cases hg
      refine comp_runF 1 h tab24 ⟨rfl, by decide⟩ ?_
      simp [runF, af24, k46 h46 hn]
    · cases hg
  · cases hg
theorem k24 {X : Ext} {k : Nat} {σ : St} (h : X 24 = some (wk g46)) {n : Int} (hn : -9223372036854775808 ≤ n ∧ n ≤ 9223372036854775807) :
    evalFn tabT X G0 (k + 1) (.fn 24) [.int .i64 n] σ = some (.ret (.str (itoa n)), σ) := call_ext h rfl rfl (by simp [g46, hn])

theorem digsF_length : ∀ (f n : Nat), (digsF f n).length ≤ f
  | 0, _ => by simp [digsF]
  | f + 1, n => by
    rw [digsF]
    split
    · simp
    · have := digsF_length f (n / 10)
      simp; omega
theorem digsF_small {f n : Nat} (h : n < 10) : digsF (f + 1) n = [UInt8.ofNat (48 + n)] := by rw [digsF, if_pos h]

theorem ev25_small {X : Ext} {k : Nat} {σ : St} (h25 : X 25 = none) (n : Nat) (h : n < 10) :
    evalFn tabT X G0 (k + 1) (.fn 25) [.int .i64 n] σ = some (.ret (.str [UInt8.ofNat (48 + n)]), σ) := by
  have h1 : ¬ (n : Int) < 0 := by omega
  have h2 : (n : Int) < 10 := by omega
  have hw1 : IntKind.i64.wrap (48 + (n : Int)) = 48 + n := wrap_i64 (by omega) (by omega)
  have hw2 : IntKind.i32.wrap (48 + (n : Int)) = 48 + n := by simp [IntKind.wrap, IntKind.bits, IntKind.signed]; omega
  have h3 : 0 ≤ 48 + (n : Int) ∧ 48 + (n : Int) < 128 := by omega
  have h4 : (48 + (n : Int)).toNat = 48 + n := by omega
  simp only [evalFn, h25, tab25]
  simp [af25, h1, h2, hw1, hw2, h3, h4]
theorem ev25 {X : Ext} (h25 : X 25 = none) : ∀ (f : Nat) (n k : Nat) (σ : St), n < 10 ^ (f + 1) → n ≤ 9223372036854775807 → f ≤ 30 →
    evalFn tabT X G0 (k + f + 2) (.fn 25) [.int .i64 n] σ = some (.ret (.str (digsF (f + 1) n)), σ)
  | 0, n, k, σ, h, _, _ => by
    simp only [Nat.zero_add, Nat.pow_one] at h
    rw [digsF_small h]
    exact ev25_small (k := k + 1) h25 n h
  | f + 1, n, k, σ, h, hn, hf => by
    by_cases h10 : n < 10
    · rw [digsF_small h10]
      exact ev25_small (k := k + (f + 1) + 1) h25 n h10
    · have ih := fun σ => ev25 h25 f (n / 10) k σ (by rw [Nat.pow_succ] at h; omega) (by omega) (by omega)
      have hs := fun σ => ev25_small (k := k + f + 1) (σ := σ) h25 (n % 10) (by omega)
      rw [digsF, if_neg h10]
      have h1 : ¬ (n : Int) < 0 := by omega
      have h2 : ¬ (n : Int) < 10 := by omega
      have hq : (n : Int).tdiv 10 = ((n / 10 : Nat) : Int) := by rw [Int.tdiv_eq_ediv_of_nonneg (by omega)]; rfl
      have hr : (n : Int).tmod 10 = ((n % 10 : Nat) : Int) := by rw [Int.tmod_eq_emod_of_nonneg (by omega)]; rfl
      have hw : IntKind.i64.wrap ((n / 10 : Nat) : Int) = ((n / 10 : Nat) : Int) := wrap_i64 (by omega) (by omega)
      have hlen : (digsF (f + 1) (n / 10)).length + 1 ≤ 9223372036854775807 := by have := digsF_length (f + 1) (n / 10); omega
      generalize n / 10 = q at *
      generalize n % 10 = m at *
      generalize digsF (f + 1) q = dq at *
      rw [show k + (f + 1) + 2 = (k + f + 2) + 1 by omega]
      simp only [evalFn, h25, tab25]
      simp [af25, h1, h2, hq, hr, hw, ih, hs, hlen]
theorem ev25n {X : Ext} (h25 : X 25 = none) : ∀ (f : Nat) (n k : Nat) (σ : St), 0 < n → n < 10 ^ (f + 1) → n ≤ 9223372036854775808 → f ≤ 30 →
    evalFn tabT X G0 (k + f + 3) (.fn 25) [.int .i64 (-(n : Int))] σ = some (.ret (.str (45 :: digsF (f + 1) n)), σ)
  | f, n, k, σ, h0, h, hn, hf => by
    have h1 : -(n : Int) < 0 := by omega
    by_cases h10 : n < 10
    · rw [digsF_small h10]
      have hs := fun σ => ev25_small (k := k + f + 1) (σ := σ) h25 n h10
      have h2 : -10 < -(n : Int) := by omega
      have hw : IntKind.i64.wrap (0 - -(n : Int)) = n := by rw [show (0 - -(n : Int)) = n by omega]; exact wrap_i64 (by omega) (by omega)
      have hw' : IntKind.i64.wrap (n : Int) = n := wrap_i64 (by omega) (by omega)
      rw [show k + f + 3 = (k + f + 1 + 1) + 1 by omega]
      simp only [evalFn, h25, tab25]
      simp [af25, h0, h10, h1, h2, hw, hw', hs]
    · cases f with
      | zero => simp at h; omega
      | succ f =>
        have ih := fun σ => ev25n h25 f (n / 10) k σ (by omega) (by rw [Nat.pow_succ] at h; omega) (by omega) (by omega)
        have hs := fun σ => ev25_small (k := k + f + 2) (σ := σ) h25 (n % 10) (by omega)
        rw [digsF, if_neg h10]
        have h2 : ¬ -10 < -(n : Int) := by omega
        have h0' : 0 < n := by omega
        have hq : (-(n : Int)).tdiv 10 = -((n / 10 : Nat) : Int) := by rw [Int.neg_tdiv, Int.tdiv_eq_ediv_of_nonneg (by omega)]; rfl
        have hr : (-(n : Int)).tmod 10 = -((n % 10 : Nat) : Int) := by rw [Int.neg_tmod, Int.tmod_eq_emod_of_nonneg (by omega)]; rfl
        have hq' : (n : Int).tdiv 10 = ((n / 10 : Nat) : Int) := by rw [Int.tdiv_eq_ediv_of_nonneg (by omega)]; rfl
        have hr' : (n : Int).tmod 10 = ((n % 10 : Nat) : Int) := by rw [Int.tmod_eq_emod_of_nonneg (by omega)]; rfl
        have hw : IntKind.i64.wrap (-((n / 10 : Nat) : Int)) = -((n / 10 : Nat) : Int) := wrap_i64 (by omega) (by omega)
        have hw2 : IntKind.i64.wrap (0 - -((n % 10 : Nat) : Int)) = ((n % 10 : Nat) : Int) := by rw [show (0 - -((n % 10 : Nat) : Int)) = ((n % 10 : Nat) : Int) by omega]; exact wrap_i64 (by omega) (by omega)
        have hw3 : IntKind.i64.wrap ((n % 10 : Nat) : Int) = ((n % 10 : Nat) : Int) := wrap_i64 (by omega) (by omega)
        have hlen : (digsF (f + 1) (n / 10)).length + 1 + 1 ≤ 9223372036854775807 := by have := digsF_length (f + 1) (n / 10); omega
        rw [show k + f + 3 = k + (f + 1) + 1 + 1 by omega] at ih
        rw [show k + f + 2 + 1 = k + (f + 1) + 1 + 1 by omega] at hs
        generalize hqn : n / 10 = q at *
        generalize hmn : n % 10 = m at *
        generalize digsF (f + 1) q = dq at *
        rw [show k + (f + 1) + 3 = (k + (f + 1) + 1 + 1) + 1 by omega]
        simp only [evalFn, h25, tab25]
        simp [af25, h0', h10, h1, h2, hq, hr, hq', hr', hw, hw2, hw3, ih, hs, hlen]
theorem c25 {X : Ext} (h : X 25 = none) (args : List D) (r : D) (hg : g46 args = some r) : Comp tabT X G0 25 args r := by
  unfold g46 at hg
  split at hg
  · rename_i n
    split at hg
    · rename_i hn
      cases hg
      refine ⟨22, .str (itoa n), ?_, rfl⟩
      unfold fnTree itoa digs
      by_cases h0 : n < 0
      · obtain ⟨m, rfl⟩ : ∃ m : Nat, n = -(m : Int) := ⟨n.natAbs, by omega⟩
        rw [ev25n (k := 0) h 19 m (σ := []) (by omega) (by omega) (by omega) (by omega), if_pos h0]
        have : (-(m : Int)).natAbs = m := by omega
        rw [this]; rfl
      · obtain ⟨m, rfl⟩ : ∃ m : Nat, n = (m : Int) := ⟨n.toNat, by omega⟩
        rw [show 22 = 1 + 19 + 2 from rfl, ev25 h 19 m 1 [] (by omega) (by omega) (by omega), if_neg h0]
        rfl
    · cases hg
  · cases hg
theorem k25 {X : Ext} {k : Nat} {σ : St} (h : X 25 = some (wk g46)) {n : Int} (hn : -9223372036854775808 ≤ n ∧ n ≤ 9223372036854775807) :
    evalFn tabT X G0 (k + 1) (.fn 25) [.int .i64 n] σ = some (.ret (.str (itoa n)), σ) := call_ext h rfl rfl (by simp [g46, hn])
end Go.AI

namespace Go.AI
open Go Go.Lx
set_option maxRecDepth 100000
set_option linter.unusedSimpArgs false

theorem isDig_not {c : UInt8} (h : isDig c = false) : (c.toNat : Int) < 48 ∨ 57 < (c.toNat : Int) := by
  rw [← digI_eq] at h
  simp only [digitI] at h
  by_cases h1 : 48 ≤ (c.toNat : Int)
  · by_cases h2 : (c.toNat : Int) ≤ 57
    · simp [h1, h2] at h
    · omega
  · omega

/-! integer of the lexer -/
theorem lp59 {cf : CallF} {x : FuncId → Bool} {k : Nat} {l : Bs} (i : Nat) (hi : i < l.length) (n : Nat) (hn : n < 1000000000) :
    (isDig l[i] = true → evalCode cf x G0 42 k false lp59_0 [(4, .int .i64 n), (25, .ptr 0 0)] [.siter l i] =
      some (.normal, [(4, .int .i64 ((10 * n + (l[i].toNat - 48) : Nat) : Int)), (25, .ptr 0 0)], [.siter l (i + 1)])) ∧
    (isDig l[i] = false → ∃ σ', evalCode cf x G0 42 k false lp59_0 [(4, .int .i64 n), (25, .ptr 0 0)] [.siter l i] = some (.ret, [(2, .int .i64 0), (3, .bool false)], σ')) := by
  constructor
  · intro hd
    have hb := dig_bounds hd
    have hdec := decode_ascii l i hi (by omega)
    obtain ⟨m, hm⟩ : ∃ m : Nat, l[i].toNat = m := ⟨_, rfl⟩
    rw [hm] at hb hdec
    have h1 : ¬ (m : Int) < 48 := by omega
    have h2 : ¬ 57 < (m : Int) := by omega
    have h1' : 48 ≤ (m : Int) := by omega
    have h2' : (m : Int) ≤ 57 := by omega
    have hw1 : IntKind.i64.wrap (10 * (n : Int)) = 10 * n := wrap_i64 (by omega) (by omega)
    have hw2 : IntKind.i32.wrap ((m : Int) - 48) = ((m - 48 : Nat) : Int) := by simp [IntKind.wrap, IntKind.bits, IntKind.signed]; omega
    have hw3 : IntKind.i64.wrap (((m - 48 : Nat) : Int)) = ((m - 48 : Nat) : Int) := wrap_i64 (by omega) (by omega)
    have hw4 : IntKind.i64.wrap (10 * (n : Int) + ((m - 48 : Nat) : Int)) = 10 * (n : Int) + ((m - 48 : Nat) : Int) := wrap_i64 (by omega) (by omega)
    simp [lp59_0, hi, hdec, hm, h1, h2, h1', h2', hw1, hw2, hw3, hw4]
  · intro hd
    have hb := isDig_not hd
    by_cases h : (l[i].toNat : Int) < 128
    · have hdec := decode_ascii l i hi h
      refine ⟨[.siter l (i + 1)], ?_⟩
      obtain ⟨m, hm⟩ : ∃ m : Nat, l[i].toNat = m := ⟨_, rfl⟩
      rw [hm] at hb hdec
      by_cases h1 : (m : Int) < 48
      · simp [lp59_0, hi, hdec, hm, h1]
      · have h2 : 57 < (m : Int) := by omega
        have h1' : 48 ≤ (m : Int) := by omega
        simp [lp59_0, hi, hdec, hm, h1, h1', h2]
    · have hdec := decode_big l i hi h
      obtain ⟨⟨r, w⟩, hr⟩ : ∃ p, Utf8.decode ⟨l.toArray⟩ i = p := ⟨_, rfl⟩
      rw [hr] at hdec
      have hdec : 128 ≤ r := hdec
      refine ⟨[.siter l (i + w)], ?_⟩
      have h1 : ¬ (r : Int) < 48 := by omega
      have h1' : 48 ≤ (r : Int) := by omega
      have h2 : 57 < (r : Int) := by omega
      simp [lp59_0, hi, hr, h1, h1', h2]
theorem lp59e {cf : CallF} {x : FuncId → Bool} {k : Nat} {l : Bs} (n : Int) :
    evalCode cf x G0 42 k false lp59_0 [(4, .int .i64 n), (25, .ptr 0 0)] [.siter l l.length] =
      some (.exit 0, [(4, .int .i64 n), (25, .ptr 0 0), (26, .tuple [.bool false]), (27, .bool false)], [.siter l l.length]) := by
  simp [lp59_0]
theorem it59 {cf : CallF} {x : FuncId → Bool} {k m : Nat} {l : Bs} (hl : l.length ≤ 9) : ∀ (r pre : Bs), l = pre ++ r → pre.all isDig = true →
    ∃ σ', iter (evalCode cf x G0 42 k false lp59_0) (m + r.length + 1) [(4, .int .i64 (numV pre)), (25, .ptr 0 0)] [.siter l pre.length] =
      if l.all isDig then some (.exit 0, [(4, .int .i64 (numV l)), (25, .ptr 0 0), (26, .tuple [.bool false]), (27, .bool false)], σ') else some (.ret, [(2, .int .i64 0), (3, .bool false)], σ')
  | [], pre, h, hp => by
    have hpl : pre = l := by rw [h]; simp
    rw [hpl] at hp ⊢
    refine ⟨[.siter l l.length], ?_⟩
    rw [hp]
    exact iter_exit (lp59e (cf := cf) (x := x) (k := k) (l := l) (numV l))
  | a :: r, pre, h, hp => by
    have hi : pre.length < l.length := by rw [h]; simp
    have hv := numV_lt pre hp
    have hv9 : 10 ^ pre.length ≤ 10 ^ 9 := Nat.pow_le_pow_right (by omega) (by omega)
    have hb := lp59 (cf := cf) (x := x) (k := k) pre.length hi (numV pre) (by omega)
    have ha : l[pre.length] = a := by simp [h]
    rw [ha] at hb
    cases hs : isDig a
    · obtain ⟨σ', hσ⟩ := hb.2 hs
      refine ⟨σ', ?_⟩
      have : l.all isDig = false := by rw [h]; simp [hs]
      rw [this]
      exact iter_ret hσ
    · have hb := hb.1 hs
      rw [← numV_append] at hb
      obtain ⟨σ', this⟩ := it59 (l := l) (m := m) (k := k) (cf := cf) (x := x) hl r (pre ++ [a]) (by rw [h]; simp) (by simp [hp, hs])
      simp only [List.length_append, List.length_cons, List.length_nil, Nat.zero_add] at this
      refine ⟨σ', ?_⟩
      rw [show m + (a :: r).length + 1 = (m + r.length + 1) + 1 by simp; omega, iter_next hb, this]

def g59 : List D → Option D
  | [.str s] => some (.tuple [.int .i64 (if isInt s then numV s else 0), .bool (isInt s)])
  | _ => none
theorem c59 {X : Ext} (h : X 59 = none) (args : List D) (r : D) (hg : g59 args = some r) : Comp tabT X G0 59 args r := by
  unfold g59 at hg
  split at hg
  · rename_i s
    cases hg
    refine comp_runF (s.length + 1) h tab59 ⟨rfl, by decide⟩ ?_
    cases s with
    | nil => simp [runF, af59, isInt]
    | cons c t =>
      by_cases h9 : t.length < 9
      · obtain ⟨σ', hit⟩ := it59 (l := c :: t) (cf := evalFn tabT X G0 ((c :: t).length + 1)) (x := fun f => (X f).isSome) (k := (c :: t).length + 1) (m := 0) (by simp; omega) (c :: t) [] rfl rfl
        simp only [List.length_nil, Nat.zero_add, numV, List.foldl_nil, Int.natCast_zero] at hit
        have hII : isInt (c :: t) = ((t.isEmpty || c != 48) && (c :: t).all isDig) := by
          simp only [isInt, decide_eq_true h9, Bool.true_and]; rw [Bool.and_comm]
        have hc48 : (c != 48) = ((c.toNat : Int) != 48) := all_bytes_Int (p := fun n c => (c != 48) = (n != 48)) (by decide +kernel) c
        have hem : t.isEmpty = !decide (0 < t.length) := by cases t <;> simp
        rw [hII, hc48, hem]
        generalize hl : c :: t = l at *
        have e2 : ¬ (9 : Int) < l.length := by rw [← hl]; simp; omega
        have e2' : (l.length : Int) ≤ 9 := by omega
        have e6 : 0 < l.length := by rw [← hl]; simp
        have e7 : (l == ([] : Bs)) = false := by rw [← hl]; rfl
        have e4 : l[0] = c := by simp [← hl]
        have e8 : (1 < (l.length : Int)) = (0 < t.length) := by rw [← hl]; simp; omega
        obtain ⟨n, hn⟩ : ∃ n : Int, (c.toNat : Int) = n := ⟨_, rfl⟩
        rw [hn]
        by_cases h1 : 0 < t.length
        · cases h48 : n == 48
          · have hb : (n != 48) = true := by simp only [bne, h48]; rfl
            cases hall : l.all isDig
            · rw [hall] at hit
              simp [runF, af59, e2, e2', e4, e6, e7, e8, h1, hn, h48, hb, hit]
            · rw [hall] at hit
              simp [runF, af59, e2, e2', e4, e6, e7, e8, h1, hn, h48, hb, hit, numV]
          · have hb : (n != 48) = false := by simp only [bne, h48]; rfl
            simp [runF, af59, e2, e2', e4, e6, e7, e8, h1, hn, h48, hb]
        · cases hall : l.all isDig
          · rw [hall] at hit
            simp [runF, af59, e2, e2', e4, e6, e7, e8, h1, hn, hit]
          · rw [hall] at hit
            simp [runF, af59, e2, e2', e4, e6, e7, e8, h1, hn, hit, numV]
      · have hII : isInt (c :: t) = false := by simp only [isInt, decide_eq_false h9, Bool.false_and]
        rw [hII]
        generalize hl : c :: t = l at *
        have e2 : (9 : Int) < l.length := by rw [← hl]; simp; omega
        have e7 : (l == ([] : Bs)) = false := by rw [← hl]; rfl
        simp [runF, af59, e2, e7]
  · cases hg
theorem k59 {X : Ext} {k : Nat} {σ : St} (h : X 59 = some (wk g59)) (s : Bs) :
    evalFn tabT X G0 (k + 1) (.fn 59) [.str s] σ = some (.ret (.tuple [.int .i64 (if isInt s then numV s else 0), .bool (isInt s)]), σ) := call_ext h rfl rfl rfl
end Go.AI

namespace Go.AI
open Go Go.Lx
set_option maxRecDepth 100000
set_option linter.unusedSimpArgs false

/-! Integer of the reference -/
theorem itoa9 : (itoa 999999999).length = 9 := by decide +kernel
theorem lp58 {X : Ext} {k : Nat} {σ : St} (h70 : X 70 = some (wk g70)) (h25 : X 25 = some (wk g46)) {l : Bs} (i : Nat) (hi : i < l.length) (hi9 : i ≤ 9) (n : Nat) (hn : n < 1000000000) :
    evalCode (evalFn tabT X G0 (k + 1)) (fun f => (X f).isSome) G0 39 (k + 1) false lp58_0 [(0, .str l), (3, .int .i64 n), (4, .int .i64 i)] σ =
      if isDig l[i] then some (.normal, [(0, .str l), (3, .int .i64 ((10 * n + (l[i].toNat - 48) : Nat) : Int)), (4, .int .i64 ((i + 1 : Nat) : Int))], σ) else some (.ret, [(2, .int .i64 (-1))], σ) := by
  have hdi := digI_eq l[i]
  have hk := fun σ => k25 (X := X) (k := k) (σ := σ) h25 (n := 999999999) (by omega)
  have h9 := itoa9
  generalize itoa 999999999 = it9 at hk h9
  have hw : IntKind.i64.wrap ((i : Int) + 1) = i + 1 := wrap_i64 (by omega) (by omega)
  have hi9' : (i : Int) ≤ 9 := by omega
  cases hd : isDig l[i]
  · rw [hd] at hdi
    simp [lp58_0, hi, hk, h9, hi9, hi9', k70 h70, hdi]
  · rw [hd] at hdi
    have hb := dig_bounds hd
    obtain ⟨m, hm⟩ : ∃ m : Nat, l[i].toNat = m := ⟨_, rfl⟩
    rw [hm] at hb hdi ⊢
    have hw1 : IntKind.i64.wrap (10 * (n : Int)) = 10 * n := wrap_i64 (by omega) (by omega)
    have hw2 : IntKind.u8.wrap ((m : Int) - 48) = ((m - 48 : Nat) : Int) := by simp [IntKind.wrap, IntKind.bits, IntKind.signed]; omega
    have hw3 : IntKind.i64.wrap (((m - 48 : Nat) : Int)) = ((m - 48 : Nat) : Int) := wrap_i64 (by omega) (by omega)
    have hw4 : IntKind.i64.wrap (10 * (n : Int) + ((m - 48 : Nat) : Int)) = 10 * (n : Int) + ((m - 48 : Nat) : Int) := wrap_i64 (by omega) (by omega)
    simp [lp58_0, hi, hk, h9, hi9, hi9', k70 h70, hdi, hm, hw, hw1, hw2, hw3, hw4]
theorem lp58e {X : Ext} {k : Nat} {σ : St} {l : Bs} (n : Int) :
    evalCode (evalFn tabT X G0 (k + 1)) (fun f => (X f).isSome) G0 39 (k + 1) false lp58_0 [(0, .str l), (3, .int .i64 n), (4, .int .i64 l.length)] σ =
      some (.exit 0, [(0, .str l), (3, .int .i64 n), (4, .int .i64 l.length), (14, .bool false)], σ) := by
  simp [lp58_0]
theorem lp58f {X : Ext} {k : Nat} {σ : St} (h25 : X 25 = some (wk g46)) {l : Bs} (n : Int) (h10 : 10 ≤ l.length) :
    evalCode (evalFn tabT X G0 (k + 1)) (fun f => (X f).isSome) G0 39 (k + 1) false lp58_0 [(0, .str l), (3, .int .i64 n), (4, .int .i64 10)] σ =
      some (.exit 0, [(0, .str l), (3, .int .i64 n), (4, .int .i64 10), (14, .bool false)], σ) := by
  have hk := fun σ => k25 (X := X) (k := k) (σ := σ) h25 (n := 999999999) (by omega)
  have h9 := itoa9
  generalize itoa 999999999 = it9 at hk h9
  by_cases h : (10 : Int) < l.length
  · simp [lp58_0, hk, h9, h]
  · simp [lp58_0, hk, h9, h]
theorem it58 {X : Ext} {k m : Nat} {σ : St} (h70 : X 70 = some (wk g70)) (h25 : X 25 = some (wk g46)) {l : Bs} : ∀ (r pre : Bs), l.take 10 = pre ++ r → pre.all isDig = true →
    iter (evalCode (evalFn tabT X G0 (k + 1)) (fun f => (X f).isSome) G0 39 (k + 1) false lp58_0) (m + r.length + 1) [(0, .str l), (3, .int .i64 (numV pre)), (4, .int .i64 pre.length)] σ =
      if (l.take 10).all isDig then some (.exit 0, [(0, .str l), (3, .int .i64 (numV (l.take 10))), (4, .int .i64 (l.take 10).length), (14, .bool false)], σ) else some (.ret, [(2, .int .i64 (-1))], σ)
  | [], pre, h, hp => by
    have hpl : pre = l.take 10 := by rw [h]; simp
    rw [← hpl, hp]
    refine iter_exit ?_
    by_cases h10 : 10 ≤ l.length
    · have : pre.length = 10 := by rw [hpl]; simp; omega
      rw [this]
      exact lp58f h25 _ h10
    · have : pre.length = l.length := by rw [hpl]; simp; omega
      rw [this]
      exact lp58e _
  | a :: r, pre, h, hp => by
    have hlt : pre.length < (l.take 10).length := by rw [h]; simp
    have hi : pre.length < l.length := by simp at hlt; omega
    have hi9 : pre.length ≤ 9 := by simp at hlt; omega
    have hv := numV_lt pre hp
    have hv9 : 10 ^ pre.length ≤ 10 ^ 9 := Nat.pow_le_pow_right (by omega) (by omega)
    have hb := lp58 (X := X) (k := k) (σ := σ) h70 h25 pre.length hi hi9 (numV pre) (by omega)
    have ha : l[pre.length] = a := by
      have : (l.take 10)[pre.length] = a := by simp only [h]; simp
      simpa using this
    rw [ha] at hb
    cases hs : isDig a
    · rw [hs] at hb
      have : (l.take 10).all isDig = false := by rw [h]; simp [hs]
      rw [this]
      exact iter_ret hb
    · rw [hs, ← numV_append] at hb
      have := it58 (X := X) (k := k) (m := m) (σ := σ) h70 h25 (l := l) r (pre ++ [a]) (by rw [h]; simp) (by simp [hp, hs])
      simp only [List.length_append, List.length_cons, List.length_nil, Nat.zero_add] at this
      rw [show m + (a :: r).length + 1 = (m + r.length + 1) + 1 by simp; omega, iter_next hb, this]

def intI (s : Bs) : Int := if isInt s then numV s else -1
/-- As the reference tells it. -/
theorem intI_eq (s : Bs) : intI s = if (s.take 10).all isDig then (if (999999999 : Int) < numV (s.take 10) ∨ (itoa (numV (s.take 10)) == s) = false then -1 else (numV (s.take 10) : Int)) else -1 := by
  unfold intI
  rw [isInt_eq]
  by_cases h9 : s.length ≤ 9
  · have ht : s.take 10 = s := List.take_of_length_le (by omega)
    rw [ht]
    cases hd : s.all isDig
    · simp
    · have hv := numV_lt s hd
      have hv9 : 10 ^ s.length ≤ 10 ^ 9 := Nat.pow_le_pow_right (by omega) h9
      rw [itoa_val s hd h9, decide_eq_true h9]
      cases noLead s
      · simp
      · have : ¬ (999999999 : Int) < numV s := by omega
        simp [this]
  · rw [decide_eq_false h9]
    simp only [Bool.and_false, Bool.false_eq_true, if_false]
    split
    · rename_i hd
      rw [if_pos]
      by_cases hv : (999999999 : Int) < numV (s.take 10)
      · exact .inl hv
      · refine .inr ?_
        rw [beq_eq_false_iff_ne]
        intro he
        have h1 : itoa (numV (s.take 10) : Int) = digsF 20 (numV (s.take 10)) := by
          unfold itoa
          rw [if_neg (by omega)]
          simp [digs]
        have hnot : (digsF 9 (numV (s.take 10))).length ≤ 9 := digsF_length 9 _
        have h2 : digsF 20 (numV (s.take 10)) = digsF 9 (numV (s.take 10)) := by
          rw [digs_eq 19 _ (by omega), digs_eq 8 _ (by omega)]
        rw [h1, h2] at he
        rw [he] at hnot
        exact h9 hnot
    · rfl
def g58 : List D → Option D
  | [.str s] => some (.int .i64 (intI s))
  | _ => none
theorem c58 {X : Ext} (h70 : X 70 = some (wk g70)) (h25 : X 25 = some (wk g46)) (h : X 58 = none) (args : List D) (r : D) (hg : g58 args = some r) : Comp tabT X G0 58 args r := by
  unfold g58 at hg
  split at hg
  · rename_i s
    cases hg
    refine comp_runF ((s.take 10).length + 1) h tab58 ⟨rfl, by decide⟩ ?_
    have hit := it58 (X := X) (k := (s.take 10).length) (m := 0) (σ := []) h70 h25 (l := s) (s.take 10) [] rfl rfl
    simp only [List.length_nil, Nat.zero_add, numV, List.foldl_nil, Int.natCast_zero] at hit
    rw [intI_eq]
    have hv := numV_lt (s.take 10)
    have hN : (s.take 10).foldl (fun n c => 10 * n + (c.toNat - 48)) 0 = numV (s.take 10) := rfl
    rw [hN] at hit
    have hlen : (s.take 10).length ≤ 10 := by simp; omega
    cases hd : (s.take 10).all isDig
    · rw [hd] at hit
      generalize (s.take 10).length = len at *
      simp [runF, af58, hit]
    · rw [hd] at hit
      have hv := hv hd
      have hv9 : 10 ^ (s.take 10).length ≤ 10 ^ 10 := Nat.pow_le_pow_right (by omega) hlen
      generalize (s.take 10).length = len at *
      generalize numV (s.take 10) = n at *
      have hk := fun σ => k25 (X := X) (k := len) (σ := σ) h25 (n := (n : Int)) (by omega)
      by_cases h1 : (999999999 : Int) < n
      · simp [runF, af58, hit, h1]
      · cases h2 : itoa (n : Int) == s
        · have h2' : (itoa (n : Int) != s) = true := by simp only [bne, h2]; rfl
          simp [runF, af58, hit, h1, hk, h2, h2']
        · have h2' : (itoa (n : Int) != s) = false := by simp only [bne, h2]; rfl
          simp [runF, af58, hit, h1, hk, h2, h2']
  · cases hg
theorem k58 {X : Ext} {k : Nat} {σ : St} (h : X 58 = some (wk g58)) (s : Bs) : evalFn tabT X G0 (k + 1) (.fn 58) [.str s] σ = some (.ret (.int .i64 (intI s)), σ) := call_ext h rfl rfl rfl

/-! HasPrefix, IndexByte -/
def prefB (s p : Bs) : Bool := decide (p.length ≤ s.length) && (s.take p.length == p)
def g80 : List D → Option D
  | [.str s, .str p] => some (.bool (prefB s p))
  | _ => none
theorem c80 {X : Ext} (h : X 80 = none) (args : List D) (r : D) (hg : g80 args = some r) : Comp tabT X G0 80 args r := by
  unfold g80 at hg
  split at hg
  · rename_i s p
    cases hg
    refine comp_runF 1 h tab80 ⟨rfl, by decide⟩ ?_
    unfold prefB
    by_cases h1 : p.length ≤ s.length
    · have h1' : (p.length : Int) ≤ s.length := by omega
      simp [runF, af80, h1, h1', bound]
    · have h1' : ¬ (p.length : Int) ≤ s.length := by omega
      simp [runF, af80, h1, h1', bound]
  · cases hg
theorem k80 {X : Ext} {k : Nat} {σ : St} (h : X 80 = some (wk g80)) (s p : Bs) : evalFn tabT X G0 (k + 1) (.fn 80) [.str s, .str p] σ = some (.ret (.bool (prefB s p)), σ) := call_ext h rfl rfl rfl
theorem c71 {X : Ext} (h80 : X 80 = some (wk g80)) (h : X 71 = none) (args : List D) (r : D) (hg : g80 args = some r) : Comp tabT X G0 71 args r := by
  unfold g80 at hg
  split at hg
  · rename_i s p
    cases hg
    refine comp_runF 1 h tab71 ⟨rfl, by decide⟩ ?_
    simp [runF, af71, k80 h80]
  · cases hg
theorem k71 {X : Ext} {k : Nat} {σ : St} (h : X 71 = some (wk g80)) (s p : Bs) : evalFn tabT X G0 (k + 1) (.fn 71) [.str s, .str p] σ = some (.ret (.bool (prefB s p)), σ) := call_ext h rfl rfl rfl
def g81 : List D → Option D
  | [.str s, .int .u8 c] => some (.int .i64 (Lib.indexByte s c.toNat.toUInt8))
  | _ => none
theorem c81 {X : Ext} (h : X 81 = none) (args : List D) (r : D) (hg : g81 args = some r) : Comp tabT X G0 81 args r := by
  unfold g81 at hg
  split at hg
  · rename_i s p
    cases hg
    refine comp_runF 1 h tab81 ⟨rfl, by decide⟩ ?_
    simp [runF, af81, natIdx]
  · cases hg
theorem k81 {X : Ext} {k : Nat} {σ : St} (h : X 81 = some (wk g81)) (s : Bs) (c : Int) : evalFn tabT X G0 (k + 1) (.fn 81) [.str s, .int .u8 c] σ = some (.ret (.int .i64 (Lib.indexByte s c.toNat.toUInt8)), σ) := call_ext h rfl rfl rfl
theorem c72 {X : Ext} (h81 : X 81 = some (wk g81)) (h : X 72 = none) (args : List D) (r : D) (hg : g81 args = some r) : Comp tabT X G0 72 args r := by
  unfold g81 at hg
  split at hg
  · rename_i s p
    cases hg
    refine comp_runF 1 h tab72 ⟨rfl, by decide⟩ ?_
    simp [runF, af72, k81 h81]
  · cases hg
theorem k72 {X : Ext} {k : Nat} {σ : St} (h : X 72 = some (wk g81)) (s : Bs) (c : Int) : evalFn tabT X G0 (k + 1) (.fn 72) [.str s, .int .u8 c] σ = some (.ret (.int .i64 (Lib.indexByte s c.toNat.toUInt8)), σ) := call_ext h rfl rfl rfl
end Go.AI

namespace Go.AI
open Go Go.Lx
set_option maxRecDepth 100000
set_option linter.unusedSimpArgs false

/-! symbol -/
theorem symB_eq (c : UInt8) : decide (0 ≤ Lib.indexByte symB ((c.toNat : Int).toNat.toUInt8)) = symB.contains c :=
  all_bytes_Int (p := fun n c => decide (0 ≤ Lib.indexByte symB (n.toNat.toUInt8)) = symB.contains c) (by decide +kernel) c
def g60 : List D → Option D
  | [.str s] => some (.str (symAt s))
  | _ => none
theorem pref2 (c d : UInt8) (s : Bs) : prefB s [c, d] = (decide (2 ≤ s.length) && (s.take 2 == [c, d])) := rfl
theorem c60 {X : Ext} (h71 : X 71 = some (wk g80)) (h72 : X 72 = some (wk g81)) (h : X 60 = none) (args : List D) (r : D) (hg : g60 args = some r) : Comp tabT X G0 60 args r := by
  unfold g60 at hg
  split at hg
  · rename_i s
    cases hg
    refine comp_runF 1 h tab60 ⟨rfl, by decide⟩ ?_
    cases s with
    | nil => simp [runF, af60, k71 h71, prefB, symAt]
    | cons c t =>
      have hp : (prefB (c :: t) [61, 61] || prefB (c :: t) [45, 62]) = decide (c = 61 ∧ t.head? = some 61 ∨ c = 45 ∧ t.head? = some 62) := by
        rw [pref2, pref2]
        cases t with
        | nil => simp
        | cons d r =>
          rw [Bool.eq_iff_iff]
          simp
      have hsy : symAt (c :: t) = if prefB (c :: t) [61, 61] || prefB (c :: t) [45, 62] then (c :: t).take 2 else if decide (0 ≤ Lib.indexByte symB ((c.toNat : Int).toNat.toUInt8)) then (c :: t).take 1 else [] := by
        rw [hp, symB_eq]
        simp only [symAt, decide_eq_true_eq]
        rfl
      have h2 : (prefB (c :: t) [61, 61] || prefB (c :: t) [45, 62]) = true → 2 ≤ (c :: t).length := by
        rw [pref2, pref2]
        intro h
        by_cases h2 : 2 ≤ (c :: t).length
        · exact h2
        · rw [decide_eq_false h2] at h; simp at h
      rw [hsy]
      generalize hl : c :: t = l at *
      have e6 : 0 < l.length := by rw [← hl]; simp
      have e1 : 1 ≤ (l.length : Int) := by omega
      have e7 : (l != ([] : Bs)) = true := by rw [← hl]; rfl
      have e7' : (l == ([] : Bs)) = false := by rw [← hl]; rfl
      have e4 : l[0] = c := by simp [← hl]
      obtain ⟨n, hn⟩ : ∃ n : Int, (c.toNat : Int) = n := ⟨_, rfl⟩
      rw [hn]
      have hsb : ([40, 41, 123, 125, 91, 93, 44, 59, 46, 58, 61, 60, 62, 124, 64, 43, 45, 42] : List UInt8) = symB := rfl
      cases hA : prefB l [61, 61]
      · cases hB : prefB l [45, 62]
        · by_cases hx : 0 ≤ Lib.indexByte symB n.toNat.toUInt8
          · simp [runF, af60, k71 h71, k72 h72, hA, hB, e1, e4, e6, e7, e7', hn, hsb, hx, bound]
          · simp [runF, af60, k71 h71, k72 h72, hA, hB, e1, e4, e6, e7, e7', hn, hsb, hx, bound]
        · rw [hA, hB] at h2
          have h2 := h2 rfl
          have h2' : (2 : Int) ≤ l.length := by omega
          simp [runF, af60, k71 h71, hA, hB, h2, h2', bound]
      · rw [hA] at h2
        have h2 := h2 rfl
        have h2' : (2 : Int) ≤ l.length := by omega
        simp [runF, af60, k71 h71, hA, h2, h2', bound]
  · cases hg
theorem k60 {X : Ext} {k : Nat} {σ : St} (h : X 60 = some (wk g60)) (s : Bs) : evalFn tabT X G0 (k + 1) (.fn 60) [.str s] σ = some (.ret (.str (symAt s)), σ) := call_ext h rfl rfl rfl

/-! token of the lexer -/
def tokB (s : Bs) : D := match tokOf s with
  | some t => .tuple [tokD t, .bool true]
  | none => .tuple [tokD ⟨0, [], 0, 0⟩, .bool false]
def g41 : List D → Option D
  | [.str s] => some (tokB s)
  | _ => none
theorem c41 {X : Ext} (h59 : X 59 = some (wk g59)) (h30 : X 30 = some (wk g30)) (h26 : X 26 = some (wk g26)) (h28 : X 28 = some (wk g28)) (h60 : X 60 = some (wk g60)) (h : X 41 = none) (args : List D) (r : D) (hg : g41 args = some r) : Comp tabT X G0 41 args r := by
  unfold g41 at hg
  split at hg
  · rename_i s
    cases hg
    refine comp_runF 1 h tab41 ⟨rfl, by decide⟩ ?_
    unfold tokB tokOf
    have k59 := fun σ => k59 (X := X) (k := 0) (σ := σ) h59 s
    cases hi : isInt s
    · rw [hi] at k59
      cases hk : isKey s
      · cases hv : varW s
        · cases hu : upW s
          · rw [isSym_eq]
            cases s with
            | nil => simp [runF, af41, k59, k30 h30, hk, k26 h26, hv, k28 h28, hu, fillD]
            | cons c t =>
              have e7 : ((c :: t) != ([] : Bs)) = true := rfl
              have e7' : ((c :: t) == ([] : Bs)) = false := rfl
              have e8 : (!(c :: t).isEmpty && symAt (c :: t) == (c :: t)) = (symAt (c :: t) == (c :: t)) := by simp
              rw [e8]
              generalize c :: t = l at *
              cases hs : symAt l == l
              · simp [runF, af41, k59, k30 h30, hk, k26 h26, hv, k28 h28, hu, k60 h60, e7, e7', hs, fillD]
              · simp [runF, af41, k59, k30 h30, hk, k26 h26, hv, k28 h28, hu, k60 h60, e7, e7', hs, fillD]
          · simp [runF, af41, k59, k30 h30, hk, k26 h26, hv, k28 h28, hu, fillD]
        · simp [runF, af41, k59, k30 h30, hk, k26 h26, hv, fillD]
      · simp [runF, af41, k59, k30 h30, hk, fillD]
    · rw [hi] at k59
      generalize numV s = n at *
      simp [runF, af41, k59, fillD]
  · cases hg
theorem tokB_tree (s : Bs) : (tokB s).tree = true := by unfold tokB; split <;> rfl
theorem k41 {X : Ext} {k : Nat} {σ : St} (h : X 41 = some (wk g41)) (s : Bs) : evalFn tabT X G0 (k + 1) (.fn 41) [.str s] σ = some (.ret (tokB s), σ) := call_ext h rfl rfl rfl

/-! Token, Text, valid of the reference -/
def g39 : List D → Option D
  | [.str s] => some (tokD (tokR s))
  | _ => none
theorem c39 {X : Ext} (h27 : X 27 = some (wk g27)) (h32 : X 32 = some (wk g32)) (h31 : X 31 = some (wk g31)) (h29 : X 29 = some (wk g29)) (h58 : X 58 = some (wk g58)) (h57 : X 57 = some (wk g57)) (h : X 39 = none)
    (args : List D) (r : D) (hg : g39 args = some r) : Comp tabT X G0 39 args r := by
  unfold g39 at hg
  split at hg
  · rename_i s
    cases hg
    refine comp_runF 1 h tab39 ⟨rfl, by decide⟩ ?_
    have hkey : ∀ σ, evalFn tabT X G0 1 (.fn 31) [slD kws, .str s] σ = some (.ret (.bool (isKey s)), σ) := fun σ => by rw [k31 (k := 0) h31 kws s (by decide), key_eq]
    have hsym : ∀ σ, evalFn tabT X G0 1 (.fn 31) [slD syms, .str s] σ = some (.ret (.bool (isSym s)), σ) := fun σ => by rw [k31 (k := 0) h31 syms s (by decide), indexP_ge]; rfl
    have hk32 := fun σ => k32 (k := 0) (σ := σ) h32
    have hk57 := fun σ => k57 (k := 0) (σ := σ) h57
    have hk58 := fun σ => k58 (k := 0) (σ := σ) h58 s
    generalize slD kws = kk at hkey hk32
    generalize slD syms = ss at hsym hk57
    rw [tokR_eq]
    unfold intI at hk58
    cases hv : varW s
    · cases hk : isKey s
      · cases hu : upW s
        · cases hi : isInt s
          · rw [hi] at hk58
            cases hs : isSym s
            · simp [runF, af39, k27 h27, hv, hk32, hkey, hk, k29 h29, hu, hk58, hk57, hsym, hs, fillD]
            · simp [runF, af39, k27 h27, hv, hk32, hkey, hk, k29 h29, hu, hk58, hk57, hsym, hs, fillD]
          · rw [hi] at hk58
            generalize numV s = n at *
            have h0 : (0 : Int) ≤ n := by omega
            simp [runF, af39, k27 h27, hv, hk32, hkey, hk, k29 h29, hu, hk58, h0, fillD]
        · simp [runF, af39, k27 h27, hv, hk32, hkey, hk, k29 h29, hu, fillD]
      · simp [runF, af39, k27 h27, hv, hk32, hkey, hk, fillD]
    · simp [runF, af39, k27 h27, hv, fillD]
  · cases hg
theorem k39 {X : Ext} {k : Nat} {σ : St} (h : X 39 = some (wk g39)) (s : Bs) : evalFn tabT X G0 (k + 1) (.fn 39) [.str s] σ = some (.ret (tokD (tokR s)), σ) := call_ext h rfl rfl rfl
end Go.AI
