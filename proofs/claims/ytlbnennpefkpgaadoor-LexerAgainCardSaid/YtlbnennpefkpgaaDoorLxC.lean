/- What functions of the lexer compute: the reference. No conditions of its own. -/
import Derived.Test.YtlbnennpefkpgaaDoorLxB
set_option linter.unusedVariables false
set_option linter.unusedSimpArgs false
namespace Go.AI
open Go Go.Lx
set_option maxRecDepth 100000
set_option linter.unusedSimpArgs false
attribute [simp] runDrawn quietAt AOp.quiet hasN

def untok : D → Option Tok
  | .agg [.int .i64 k, .str s, .int .i64 n, .int .i64 a] => some ⟨k, s, n, a⟩
  | _ => none
def untoks : List D → Option (List Tok)
  | [] => some []
  | d :: r => match untok d, untoks r with
    | some t, some l => some (t :: l)
    | _, _ => none
theorem untok_tokD (t : Tok) : untok (tokD t) = some t := rfl
theorem untok_some {d : D} {t : Tok} (h : untok d = some t) : d = tokD t := by
  unfold untok at h
  split at h
  · cases h; rfl
  · cases h
theorem untoks_map (l : List Tok) : untoks (l.map tokD) = some l := by
  induction l with
  | nil => rfl
  | cons a r ih => simp only [List.map_cons, untoks, ih, untok_tokD]
theorem untoks_some : ∀ {es : List D} {l : List Tok}, untoks es = some l → es = l.map tokD
  | [], l, h => by cases h; rfl
  | d :: r, l, h => by
    simp only [untoks] at h
    split at h
    · rename_i t l' ht hl
      cases h
      rw [untok_some ht, untoks_some hl]; rfl
    · cases h

/-! Text, valid -/
def inR (n : Int) : Prop := -9223372036854775808 ≤ n ∧ n ≤ 9223372036854775807
instance (n : Int) : Decidable (inR n) := inferInstanceAs (Decidable (_ ∧ _))
def g35 : List D → Option D
  | [d] => match untok d with
    | some t => if inR t.n then some (.str (textOf t)) else none
    | none => none
  | _ => none
theorem c35 {X : Ext} (h25 : X 25 = some (wk g46)) (h : X 35 = none) (args : List D) (r : D) (hg : g35 args = some r) : Comp tabT X G0 35 args r := by
  unfold g35 at hg
  split at hg
  · rename_i d
    split at hg
    · rename_i t ht
      split at hg
      · rename_i hn
        cases hg
        rw [untok_some ht]
        obtain ⟨k, s, n, a⟩ := t
        refine comp_runF 1 h tab35 ⟨rfl, by decide⟩ ?_
        have hk := fun σ => k25 (X := X) (k := 0) (σ := σ) h25 hn
        simp only at hk hn
        unfold textOf
        simp only
        by_cases h3 : k = 3
        · simp [runF, af35, h3, hk]
        · have h3' : (k == 3) = false := by simpa using h3
          simp [runF, af35, h3, h3', hk]
      · cases hg
    · cases hg
  · cases hg
theorem k35 {X : Ext} {k : Nat} {σ : St} (h : X 35 = some (wk g35)) (t : Tok) (hn : inR t.n) : evalFn tabT X G0 (k + 1) (.fn 35) [tokD t] σ = some (.ret (.str (textOf t)), σ) :=
  call_ext h rfl rfl (by show (match untok (tokD t) with | some t => if inR t.n then some (D.str (textOf t)) else none | none => none) = _; rw [untok_tokD]; simp [hn])
def g43 : List D → Option D
  | [d] => match untok d with
    | some t => if inR t.n then some (.bool (validT t)) else none
    | none => none
  | _ => none
theorem c43 {X : Ext} (h35 : X 35 = some (wk g35)) (h39 : X 39 = some (wk g39)) (h : X 43 = none) (args : List D) (r : D) (hg : g43 args = some r) : Comp tabT X G0 43 args r := by
  unfold g43 at hg
  split at hg
  · rename_i d
    split at hg
    · rename_i t ht
      split at hg
      · rename_i hn
        cases hg
        rw [untok_some ht, validT_eq]
        refine comp_runF 1 h tab43 ⟨rfl, by decide⟩ ?_
        have hk := fun σ => k35 (X := X) (k := 0) (σ := σ) h35 t hn
        obtain ⟨u, hu⟩ : ∃ u, tokR (textOf t) = u := ⟨_, rfl⟩
        have hk9 := fun σ => k39 (X := X) (k := 0) (σ := σ) h39 (textOf t)
        rw [hu] at hk9 ⊢
        generalize textOf t = tx at *
        obtain ⟨k, s, n, a⟩ := t
        obtain ⟨k', s', n', a'⟩ := u
        simp only at hk hk9 ⊢
        by_cases h0 : 0 ≤ k
        · cases h1 : k' == k
          · simp [runF, af43, hk, hk9, h0, h1]
          · cases h2 : s' == s
            · simp [runF, af43, hk, hk9, h0, h1, h2]
            · simp [runF, af43, hk, hk9, h0, h1, h2]
        · simp [runF, af43, hk, hk9, h0]
      · cases hg
    · cases hg
  · cases hg
theorem k43 {X : Ext} {k : Nat} {σ : St} (h : X 43 = some (wk g43)) (t : Tok) (hn : inR t.n) : evalFn tabT X G0 (k + 1) (.fn 43) [tokD t] σ = some (.ret (.bool (validT t)), σ) :=
  call_ext h rfl rfl (by show (match untok (tokD t) with | some t => if inR t.n then some (D.bool (validT t)) else none | none => none) = _; rw [untok_tokD]; simp [hn])

/-! Same, Alike -/
def tokEqB (a b : Tok) : Bool := a.k == b.k && (a.s == b.s && (a.n == b.n && a.a == b.a))
theorem tokEqB_eq (a b : Tok) : tokEqB a b = decide (a = b) := by
  obtain ⟨k, s, n, a⟩ := a
  obtain ⟨k', s', n', a'⟩ := b
  rw [Bool.eq_iff_iff]
  simp [tokEqB]
theorem lp16 {cf : CallF} {x : FuncId → Bool} {k : Nat} {a b : List Tok} {σ : St} (i : Nat) (ha : i < a.length) (hb : i < b.length) (hl : a.length ≤ 9223372036854775806) :
    evalCode cf x G0 31 k false lp16_0 [(0, toksD a), (1, toksD b), (5, .bool true), (6, .int .i64 i)] σ =
      some (.normal, [(0, toksD a), (1, toksD b), (5, .bool (tokEqB a[i] b[i])), (6, .int .i64 ((i + 1 : Nat) : Int))], σ) := by
  have hw : IntKind.i64.wrap ((i : Int) + 1) = i + 1 := wrap_i64 (by omega) (by omega)
  unfold tokEqB
  simp [lp16_0, ha, hb, hw, flatEqs, D.kindEq, eqD]
theorem lp16f {cf : CallF} {x : FuncId → Bool} {k : Nat} {a b : List Tok} {σ : St} (i : Nat) :
    evalCode cf x G0 31 k false lp16_0 [(0, toksD a), (1, toksD b), (5, .bool false), (6, .int .i64 i)] σ =
      some (.exit 0, [(0, toksD a), (1, toksD b), (5, .bool false), (6, .int .i64 i), (18, .bool false)], σ) := by
  by_cases h : (i : Int) < a.length <;> simp [lp16_0, h]
theorem lp16e {cf : CallF} {x : FuncId → Bool} {k : Nat} {a b : List Tok} {σ : St} :
    evalCode cf x G0 31 k false lp16_0 [(0, toksD a), (1, toksD b), (5, .bool true), (6, .int .i64 a.length)] σ =
      some (.exit 0, [(0, toksD a), (1, toksD b), (5, .bool true), (6, .int .i64 a.length), (18, .bool false)], σ) := by
  simp [lp16_0]
theorem it16 {cf : CallF} {x : FuncId → Bool} {k m : Nat} {σ : St} {a b : List Tok} (hl : a.length ≤ 9223372036854775806) : ∀ (r pre r' pre' : List Tok), a = pre ++ r → b = pre' ++ r' → pre.length = pre'.length → r.length = r'.length →
    ∃ j : Nat, iter (evalCode cf x G0 31 k false lp16_0) (m + r.length + 1) [(0, toksD a), (1, toksD b), (5, .bool true), (6, .int .i64 pre.length)] σ =
      some (.exit 0, [(0, toksD a), (1, toksD b), (5, .bool (decide (r = r'))), (6, .int .i64 j), (18, .bool false)], σ)
  | [], pre, r', pre', h, h', hp, hr => by
    have : r' = [] := List.length_eq_zero_iff.1 hr.symm
    subst this
    have : pre.length = a.length := by rw [h]; simp
    rw [this]
    exact ⟨_, iter_exit lp16e⟩
  | c :: r, pre, [], pre', h, h', hp, hr => by simp at hr
  | c :: r, pre, d :: r', pre', h, h', hp, hr => by
    have hi : pre.length < a.length := by rw [h]; simp
    have hi' : pre.length < b.length := by rw [h', hp]; simp
    have hb := lp16 (cf := cf) (x := x) (k := k) (σ := σ) pre.length hi hi' hl
    have ha : a[pre.length] = c := by simp [h]
    have hd : b[pre.length] = d := by simp [h', hp]
    rw [ha, hd, tokEqB_eq] at hb
    by_cases hcd : c = d
    · subst hcd
      rw [decide_eq_true rfl] at hb
      obtain ⟨j, this⟩ := it16 (b := b) (m := m) hl (σ := σ) (cf := cf) (x := x) (k := k) r (pre ++ [c]) r' (pre' ++ [c]) (by rw [h]; simp) (by rw [h']; simp) (by simp [hp]) (by simpa using hr)
      simp only [List.length_append, List.length_cons, List.length_nil, Nat.zero_add] at this
      refine ⟨j, ?_⟩
      rw [show m + (c :: r).length + 1 = (m + r.length + 1) + 1 by simp; omega, iter_next hb, this]
      simp
    · rw [decide_eq_false hcd] at hb
      refine ⟨pre.length + 1, ?_⟩
      rw [show m + (c :: r).length + 1 = (m + r.length + 1) + 1 by simp; omega, iter_next hb, iter_exit (lp16f _)]
      simp [hcd]
def g16 : List D → Option D
  | [.slice es, .slice fs] => match untoks es, untoks fs with
    | some a, some b => if a.length ≤ 9223372036854775806 then some (.bool (decide (a = b))) else none
    | _, _ => none
  | _ => none
theorem c16 {X : Ext} (h : X 16 = none) (args : List D) (r : D) (hg : g16 args = some r) : Comp tabT X G0 16 args r := by
  unfold g16 at hg
  split at hg
  · rename_i es fs
    split at hg
    · rename_i a b ha hb
      split at hg
      · rename_i hlen
        cases hg
        rw [untoks_some ha, untoks_some hb]
        refine comp_runF (a.length + 1) h tab16 ⟨rfl, by decide⟩ ?_
        by_cases hab : a.length = b.length
        · obtain ⟨j, hit⟩ := it16 (a := a) (b := b) (cf := evalFn tabT X G0 (a.length + 1)) (x := fun f => (X f).isSome) (k := a.length + 1) (m := 0) (σ := []) hlen a [] b [] rfl rfl rfl hab
          simp only [List.length_nil, Int.natCast_zero, Nat.zero_add] at hit
          have hab' : ((a.length : Int) == b.length) = true := by simp [hab]
          rw [hab] at hit hab' ⊢
          simp [runF, af16, hab, hab', hit]
        · have hab' : ((a.length : Int) == b.length) = false := by simp; omega
          have hne : a ≠ b := fun h => hab (by rw [h])
          have hf := lp16f (cf := evalFn tabT X G0 (a.length + 1)) (x := fun f => (X f).isSome) (k := a.length + 1) (σ := []) (a := a) (b := b) 0
          have hit := iter_exit (k := a.length) hf
          simp only [Int.natCast_zero] at hit
          simp [runF, af16, hab', hit, hne]
      · cases hg
    · cases hg
  · cases hg
theorem k16 {X : Ext} {k : Nat} {σ : St} (h : X 16 = some (wk g16)) (a b : List Tok) (hl : a.length ≤ 9223372036854775806) :
    evalFn tabT X G0 (k + 1) (.fn 16) [toksD a, toksD b] σ = some (.ret (.bool (decide (a = b))), σ) :=
  call_ext h (by simp [treeL, D.tree]) (by simp [weakL, D.weak]) (by simp only [g16, untoks_map]; rw [if_pos hl])
end Go.AI

namespace Go.AI
open Go Go.Lx
set_option maxRecDepth 100000
set_option linter.unusedSimpArgs false

theorem drop_get {l pre r : Bs} {p : Nat} {a : UInt8} (h : l.drop p = pre ++ a :: r) : ∃ hi : p + pre.length < l.length, l[p + pre.length] = a := by
  have h1 : (l.drop p)[pre.length]? = some a := by rw [h]; simp
  rw [List.getElem?_drop] at h1
  obtain ⟨hi, h2⟩ := List.getElem?_eq_some_iff.1 h1
  exact ⟨hi, h2⟩
theorem drop_len {l pre : Bs} {p : Nat} (hp : p ≤ l.length) (h : l.drop p = pre) : p + pre.length = l.length := by
  rw [← h]; simp; omega

/-! long -/
theorem lp56 {X : Ext} {k : Nat} {σ : St} (h69 : X 69 = some (wk g69)) (h70 : X 70 = some (wk g70)) {l : Bs} (p n q : Nat) (hq : q = p + n) (hi : q < l.length) (hl : l.length ≤ 9223372036854775806) :
    evalCode (evalFn tabT X G0 (k + 1)) (fun f => (X f).isSome) G0 31 (k + 1) false lp56_0 [(0, .str l), (1, .int .i64 p), (5, .int .i64 n)] σ =
      if isW l[q] then some (.normal, [(0, .str l), (1, .int .i64 p), (5, .int .i64 ((n + 1 : Nat) : Int))], σ) else some (.exit 0, [(0, .str l), (1, .int .i64 p), (5, .int .i64 n), (27, .bool false)], σ) := by
  have hw : IntKind.i64.wrap ((n : Int) + 1) = n + 1 := wrap_i64 (by omega) (by omega)
  have hw2 : IntKind.i64.wrap ((p : Int) + n) = q := by rw [show (p : Int) + n = q by omega]; exact wrap_i64 (by omega) (by omega)
  have hlet := letI_eq l[q]
  have hdig := digI_eq l[q]
  have hW : isW l[q] = ((isLow l[q] || isUp l[q]) || isDig l[q]) := rfl
  rw [hW, ← hlet, ← hdig]
  cases h1 : letterI l[q].toNat
  · cases h2 : digitI l[q].toNat
    · simp [lp56_0, hi, hw, hw2, k69 h69, k70 h70, h1, h2]
    · simp [lp56_0, hi, hw, hw2, k69 h69, k70 h70, h1, h2]
  · simp [lp56_0, hi, hw, hw2, k69 h69, k70 h70, h1]
theorem lp56e {cf : CallF} {x : FuncId → Bool} {k : Nat} {σ : St} {l : Bs} (p n : Nat) (hq : l.length = p + n) (hl : l.length ≤ 9223372036854775806) :
    evalCode cf x G0 31 k false lp56_0 [(0, .str l), (1, .int .i64 p), (5, .int .i64 n)] σ = some (.exit 0, [(0, .str l), (1, .int .i64 p), (5, .int .i64 n), (27, .bool false)], σ) := by
  have hw2 : IntKind.i64.wrap ((p : Int) + n) = l.length := by rw [show (p : Int) + n = l.length by omega]; exact wrap_i64 (by omega) (by omega)
  simp [lp56_0, hw2]
theorem it56 {X : Ext} {k m : Nat} {σ : St} (h69 : X 69 = some (wk g69)) (h70 : X 70 = some (wk g70)) {l : Bs} {p : Nat} (hp : p ≤ l.length) (hl : l.length ≤ 9223372036854775806) : ∀ (r pre : Bs), l.drop p = pre ++ r →
    iter (evalCode (evalFn tabT X G0 (k + 1)) (fun f => (X f).isSome) G0 31 (k + 1) false lp56_0) (m + r.length + 1) [(0, .str l), (1, .int .i64 p), (5, .int .i64 pre.length)] σ =
      some (.exit 0, [(0, .str l), (1, .int .i64 p), (5, .int .i64 ((pre.length + (r.takeWhile isW).length : Nat) : Int)), (27, .bool false)], σ)
  | [], pre, h => by
    have := drop_len hp h
    simp only [List.append_nil] at this
    exact iter_exit (lp56e p pre.length this.symm hl)
  | a :: r, pre, h => by
    obtain ⟨hi, ha⟩ := drop_get h
    have hb := lp56 (X := X) (k := k) (σ := σ) h69 h70 p pre.length _ rfl hi hl
    rw [ha] at hb
    cases hs : isW a
    · rw [hs] at hb
      rw [List.takeWhile_cons, hs]
      exact iter_exit hb
    · rw [hs] at hb
      have := it56 (X := X) (k := k) (m := m) (σ := σ) h69 h70 hp hl r (pre ++ [a]) (by rw [h]; simp)
      simp only [List.length_append, List.length_cons, List.length_nil, Nat.zero_add] at this
      rw [show m + (a :: r).length + 1 = (m + r.length + 1) + 1 by simp; omega, iter_next hb, this, List.takeWhile_cons, hs]
      simp only [if_true, List.length_cons]
      rw [show pre.length + 1 + (r.takeWhile isW).length = pre.length + ((r.takeWhile isW).length + 1) by omega]

/-- A place in a text. -/
def okAt (l : Bs) (p : Int) : Prop := 0 ≤ p ∧ p ≤ l.length ∧ l.length ≤ 9223372036854775806
instance (l : Bs) (p : Int) : Decidable (okAt l p) := inferInstanceAs (Decidable (_ ∧ _))
def g56 : List D → Option D
  | [.str l, .int .i64 p] => if okAt l p then some (.int .i64 ((l.drop p.toNat).takeWhile isW).length) else none
  | _ => none
theorem c56 {X : Ext} (h69 : X 69 = some (wk g69)) (h70 : X 70 = some (wk g70)) (h : X 56 = none) (args : List D) (r : D) (hg : g56 args = some r) : Comp tabT X G0 56 args r := by
  unfold g56 at hg
  split at hg
  · rename_i l p
    split at hg
    · rename_i hp
      cases hg
      obtain ⟨h0, h1, h2⟩ := hp
      obtain ⟨p, rfl⟩ : ∃ n : Nat, p = (n : Int) := ⟨p.toNat, by omega⟩
      simp only [Int.toNat_natCast]
      refine comp_runF ((l.drop p).length + 1) h tab56 ⟨rfl, by decide⟩ ?_
      have hit := it56 (X := X) (k := (l.drop p).length) (m := 0) (σ := []) h69 h70 (l := l) (p := p) (by omega) h2 (l.drop p) [] rfl
      simp only [List.length_nil, Nat.zero_add, Int.natCast_zero] at hit
      generalize ((l.drop p).takeWhile isW).length = w at *
      generalize (l.drop p).length = len at *
      simp [runF, af56, hit]
    · cases hg
  · cases hg
theorem k56 {X : Ext} {k : Nat} {σ : St} (h : X 56 = some (wk g56)) (l : Bs) (p : Nat) (hp : p ≤ l.length) (hl : l.length ≤ 9223372036854775806) :
    evalFn tabT X G0 (k + 1) (.fn 56) [.str l, .int .i64 p] σ = some (.ret (.int .i64 ((l.drop p).takeWhile isW).length), σ) :=
  call_ext h rfl rfl (by simp only [g56]; rw [if_pos ⟨by omega, by omega, hl⟩]; simp)

/-! Space -/
theorem lp36 {X : Ext} {k : Nat} {σ : St} (h51 : X 51 = some (wk g51)) {l : Bs} (com : Bool) (p n q : Nat) (hq : q = p + n) (hi : q < l.length) (hl : l.length ≤ 9223372036854775806) :
    evalCode (evalFn tabT X G0 (k + 1)) (fun f => (X f).isSome) G0 39 (k + 1) false lp36_0 [(0, .str l), (1, .int .i64 p), (5, .int .i64 n), (6, .bool com)] σ =
      if !(l[q] != 10 && (com || l[q] == 35)) && !isBlank l[q] then some (.ret, [(4, .int .i64 n)], σ)
      else some (.normal, [(0, .str l), (1, .int .i64 p), (5, .int .i64 ((n + 1 : Nat) : Int)), (6, .bool (l[q] != 10 && (com || l[q] == 35)))], σ) := by
  have hw : IntKind.i64.wrap ((n : Int) + 1) = n + 1 := wrap_i64 (by omega) (by omega)
  have hw2 : IntKind.i64.wrap ((p : Int) + n) = q := by rw [show (p : Int) + n = q by omega]; exact wrap_i64 (by omega) (by omega)
  have hbl := blankI_eq l[q]
  have h10 : (l[q] != 10) = ((l[q].toNat : Int) != 10) := all_bytes_Int (p := fun n c => (c != 10) = (n != 10)) (by decide +kernel) l[q]
  have h35 : (l[q] == 35) = ((l[q].toNat : Int) == 35) := all_bytes_Int (p := fun n c => (c == 35) = (n == 35)) (by decide +kernel) l[q]
  rw [h10, h35, ← hbl]
  have hb10 : blankI 10 = true := by decide
  obtain ⟨c, hc⟩ : ∃ c : Int, (l[q].toNat : Int) = c := ⟨_, rfl⟩
  rw [hc]
  cases h1 : c == 10
  · have h1' : (c != 10) = true := by simp only [bne, h1]; rfl
    cases com
    · cases h2 : c == 35
      · cases h3 : blankI c
        · simp [lp36_0, hi, hw, hw2, hc, k51 h51, h1, h1', h2, h3]
        · simp [lp36_0, hi, hw, hw2, hc, k51 h51, h1, h1', h2, h3]
      · simp [lp36_0, hi, hw, hw2, hc, k51 h51, h1, h1', h2]
    · simp [lp36_0, hi, hw, hw2, hc, k51 h51, h1, h1']
  · have h1' : (c != 10) = false := by simp only [bne, h1]; rfl
    have h3 : blankI c = true := by simp at h1; rw [h1]; exact hb10
    simp [lp36_0, hi, hw, hw2, hc, k51 h51, h1, h1', h3]
theorem lp36e {cf : CallF} {x : FuncId → Bool} {k : Nat} {σ : St} {l : Bs} (com : Bool) (p n : Nat) (hq : l.length = p + n) (hl : l.length ≤ 9223372036854775806) :
    evalCode cf x G0 39 k false lp36_0 [(0, .str l), (1, .int .i64 p), (5, .int .i64 n), (6, .bool com)] σ = some (.exit 0, [(0, .str l), (1, .int .i64 p), (5, .int .i64 n), (6, .bool com), (13, .bool false)], σ) := by
  have hw2 : IntKind.i64.wrap ((p : Int) + n) = l.length := by rw [show (p : Int) + n = l.length by omega]; exact wrap_i64 (by omega) (by omega)
  simp [lp36_0, hw2]
theorem it36 {X : Ext} {k m : Nat} {σ : St} (h51 : X 51 = some (wk g51)) {l : Bs} {p : Nat} (hp : p ≤ l.length) (hl : l.length ≤ 9223372036854775806) : ∀ (r pre : Bs) (com : Bool), l.drop p = pre ++ r →
    (iter (evalCode (evalFn tabT X G0 (k + 1)) (fun f => (X f).isSome) G0 39 (k + 1) false lp36_0) (m + r.length + 1) [(0, .str l), (1, .int .i64 p), (5, .int .i64 pre.length), (6, .bool com)] σ =
      some (.ret, [(4, .int .i64 ((pre.length + spaceLen com r : Nat) : Int))], σ)) ∨
    ∃ com', (iter (evalCode (evalFn tabT X G0 (k + 1)) (fun f => (X f).isSome) G0 39 (k + 1) false lp36_0) (m + r.length + 1) [(0, .str l), (1, .int .i64 p), (5, .int .i64 pre.length), (6, .bool com)] σ =
      some (.exit 0, [(0, .str l), (1, .int .i64 p), (5, .int .i64 ((pre.length + spaceLen com r : Nat) : Int)), (6, .bool com'), (13, .bool false)], σ))
  | [], pre, com, h => by
    have := drop_len hp h
    simp only [List.append_nil] at this
    exact .inr ⟨com, iter_exit (lp36e com p pre.length this.symm hl)⟩
  | a :: r, pre, com, h => by
    obtain ⟨hi, ha⟩ := drop_get h
    have hb := lp36 (X := X) (k := k) (σ := σ) h51 com p pre.length _ rfl hi hl
    rw [ha] at hb
    rw [spaceLen]
    cases hs : !(a != 10 && (com || a == 35)) && !isBlank a
    · rw [hs] at hb
      have := it36 (X := X) (k := k) (m := m) (σ := σ) h51 hp hl r (pre ++ [a]) (a != 10 && (com || a == 35)) (by rw [h]; simp)
      simp only [List.length_append, List.length_cons, List.length_nil, Nat.zero_add] at this
      rw [show m + (a :: r).length + 1 = (m + r.length + 1) + 1 by simp; omega, iter_next hb]
      simp only [Bool.false_eq_true, if_false]
      rw [show pre.length + (spaceLen (a != 10 && (com || a == 35)) r + 1) = pre.length + 1 + spaceLen (a != 10 && (com || a == 35)) r by omega]
      exact this
    · rw [hs] at hb
      exact .inl (iter_ret hb)
def g36 : List D → Option D
  | [.str l, .int .i64 p] => if okAt l p then some (.int .i64 (spaceLen false (l.drop p.toNat))) else none
  | _ => none
theorem c36 {X : Ext} (h51 : X 51 = some (wk g51)) (h : X 36 = none) (args : List D) (r : D) (hg : g36 args = some r) : Comp tabT X G0 36 args r := by
  unfold g36 at hg
  split at hg
  · rename_i l p
    split at hg
    · rename_i hp
      cases hg
      obtain ⟨h0, h1, h2⟩ := hp
      obtain ⟨p, rfl⟩ : ∃ n : Nat, p = (n : Int) := ⟨p.toNat, by omega⟩
      simp only [Int.toNat_natCast]
      refine comp_runF ((l.drop p).length + 1) h tab36 ⟨rfl, by decide⟩ ?_
      have hit := it36 (X := X) (k := (l.drop p).length) (m := 0) (σ := []) h51 (l := l) (p := p) (by omega) h2 (l.drop p) [] false rfl
      simp only [List.length_nil, Nat.zero_add, Int.natCast_zero] at hit
      generalize spaceLen false (l.drop p) = w at *
      generalize (l.drop p).length = len at *
      rcases hit with hit | ⟨com', hit⟩
      · simp [runF, af36, hit]
      · simp [runF, af36, hit]
    · cases hg
  · cases hg
theorem k36 {X : Ext} {k : Nat} {σ : St} (h : X 36 = some (wk g36)) (l : Bs) (p : Nat) (hp : p ≤ l.length) (hl : l.length ≤ 9223372036854775806) :
    evalFn tabT X G0 (k + 1) (.fn 36) [.str l, .int .i64 p] σ = some (.ret (.int .i64 (spaceLen false (l.drop p))), σ) :=
  call_ext h rfl rfl (by simp only [g36]; rw [if_pos ⟨by omega, by omega, hl⟩]; simp)
end Go.AI

namespace Go.AI
open Go Go.Lx
set_option maxRecDepth 100000
set_option linter.unusedSimpArgs false

def prefAt (l : Bs) (p : Nat) (s : Bs) : Bool := decide (p + s.length ≤ l.length) && ((l.take (p + s.length)).drop p == s)
theorem lp38 {cf : CallF} {x : FuncId → Bool} {k : Nat} {σ : St} {l : Bs} {ss : List Bs} (p i : Nat) (hi : i < ss.length) (hl : l.length ≤ 9223372036854775806) (hp : p ≤ l.length) (hs : ss.length ≤ 100) (hsl : ss[i].length ≤ 100) (hl2 : l.length ≤ 9223372036854775000) :
    evalCode cf x G0 57 k false lp38_0 [(0, .str l), (1, .int .i64 p), (6, slD ss), (7, .int .i64 i)] σ =
      if prefAt l p ss[i] then some (.ret, [(4, .str ss[i])], σ) else some (.normal, [(0, .str l), (1, .int .i64 p), (6, slD ss), (7, .int .i64 ((i + 1 : Nat) : Int))], σ) := by
  have hw : IntKind.i64.wrap ((i : Int) + 1) = i + 1 := wrap_i64 (by omega) (by omega)
  obtain ⟨q, hq⟩ : ∃ q, p + ss[i].length = q := ⟨_, rfl⟩
  have hw2 : IntKind.i64.wrap ((p : Int) + ss[i].length) = q := by rw [show (p : Int) + ss[i].length = q by omega]; exact wrap_i64 (by omega) (by omega)
  have hpq : (p : Int) ≤ q := by omega
  have hpq' : p ≤ q := by omega
  unfold prefAt
  rw [hq]
  by_cases h1 : q ≤ l.length
  · have h1' : (q : Int) ≤ l.length := by omega
    cases h2 : (l.take q).drop p == ss[i]
    · simp [lp38_0, hi, hw, hw2, h1, h1', h2, hpq, hpq', bound]
    · simp [lp38_0, hi, hw, hw2, h1, h1', h2, hpq, hpq', bound]
  · have h1' : ¬ (q : Int) ≤ l.length := by omega
    simp [lp38_0, hi, hw, hw2, h1, h1']
theorem lp38e {cf : CallF} {x : FuncId → Bool} {k : Nat} {σ : St} {l : Bs} {ss : List Bs} (p : Nat) :
    evalCode cf x G0 57 k false lp38_0 [(0, .str l), (1, .int .i64 p), (6, slD ss), (7, .int .i64 ss.length)] σ =
      some (.exit 0, [(0, .str l), (1, .int .i64 p), (6, slD ss), (7, .int .i64 ss.length), (23, .bool false)], σ) := by
  simp [lp38_0]
theorem it38 {cf : CallF} {x : FuncId → Bool} {k m : Nat} {σ : St} {l : Bs} {ss : List Bs} {p : Nat} (hp : p ≤ l.length) (hs : ss.length ≤ 100) (hsl : ∀ s ∈ ss, s.length ≤ 100) (hl : l.length ≤ 9223372036854775000) : ∀ (r pre : List Bs), ss = pre ++ r →
    iter (evalCode cf x G0 57 k false lp38_0) (m + r.length + 1) [(0, .str l), (1, .int .i64 p), (6, slD ss), (7, .int .i64 pre.length)] σ =
      match r.find? (prefAt l p) with
      | some s => some (.ret, [(4, .str s)], σ)
      | none => some (.exit 0, [(0, .str l), (1, .int .i64 p), (6, slD ss), (7, .int .i64 ss.length), (23, .bool false)], σ)
  | [], pre, h => by
    have : pre.length = ss.length := by rw [h]; simp
    rw [this]
    exact iter_exit (lp38e p)
  | a :: r, pre, h => by
    have hi : pre.length < ss.length := by rw [h]; simp
    have ha : ss[pre.length] = a := by simp [h]
    have hb := lp38 (cf := cf) (x := x) (k := k) (σ := σ) (l := l) p pre.length hi (by omega) hp hs (hsl _ (List.getElem_mem hi)) hl
    rw [ha] at hb
    rw [List.find?_cons]
    cases hs' : prefAt l p a
    · rw [hs'] at hb
      have := it38 (m := m) (σ := σ) (cf := cf) (x := x) (k := k) (ss := ss) hp hs hsl hl r (pre ++ [a]) (by rw [h]; simp)
      simp only [List.length_append, List.length_cons, List.length_nil, Nat.zero_add] at this
      rw [show m + (a :: r).length + 1 = (m + r.length + 1) + 1 by simp; omega, iter_next hb, this]
    · rw [hs'] at hb
      exact iter_ret hb

theorem prefAt_eq {l : Bs} {p : Nat} (hp : p ≤ l.length) (s : Bs) : prefAt l p s = s.isPrefixOf (l.drop p) := by
  unfold prefAt
  rw [Bool.eq_iff_iff]
  simp only [Bool.and_eq_true, decide_eq_true_eq, beq_iff_eq, List.isPrefixOf_iff_prefix]
  rw [List.drop_take, show p + s.length - p = s.length by omega]
  constructor
  · rintro ⟨_, h⟩
    rw [← h]; exact List.take_prefix _ _
  · intro h
    have := h.length_le
    refine ⟨by simp at this; omega, ?_⟩
    exact (List.prefix_iff_eq_take.1 h).symm
theorem find_sing (c : UInt8) (r : Bs) : ∀ (l : Bs), (l.map fun c => [c]).find? (fun s => s.isPrefixOf (c :: r)) = if l.contains c then some [c] else none
  | [] => rfl
  | a :: l => by
    simp only [List.map_cons, List.find?_cons, List.contains_cons]
    cases h : a == c
    · have h' : (c == a) = false := by simp at h ⊢; exact fun x => h x.symm
      simp only [List.isPrefixOf, h, Bool.false_and, h', Bool.false_or]
      exact find_sing c r l
    · have h' : (c == a) = true := by simp at h ⊢; exact h.symm
      simp only [beq_iff_eq] at h
      subst h
      simp [List.isPrefixOf]
theorem find_syms (t : Bs) : (syms.find? fun s => s.isPrefixOf t).getD [] = symAt t := by
  unfold syms
  cases t with
  | nil => decide
  | cons c r =>
    simp only [List.cons_append, List.nil_append, List.find?_cons]
    cases r with
    | nil =>
      have h1 : ([61, 61] : Bs).isPrefixOf [c] = false := by simp [List.isPrefixOf]
      have h2 : ([45, 62] : Bs).isPrefixOf [c] = false := by simp [List.isPrefixOf]
      have hn : ¬ (c = 61 ∧ ([] : Bs).head? = some 61 ∨ c = 45 ∧ ([] : Bs).head? = some 62) := by simp
      rw [h1, h2, find_sing]
      simp only [symAt, if_neg hn]
      split <;> rfl
    | cons d r =>
      by_cases h : c = 61 ∧ d = 61
      · obtain ⟨rfl, rfl⟩ := h
        simp [List.isPrefixOf, symAt]
      · have h1 : ([61, 61] : Bs).isPrefixOf (c :: d :: r) = false := by
          rw [Bool.eq_false_iff]; intro hh; simp [List.isPrefixOf] at hh; exact h ⟨hh.1.symm, hh.2.symm⟩
        rw [h1]
        by_cases h' : c = 45 ∧ d = 62
        · obtain ⟨rfl, rfl⟩ := h'
          simp [List.isPrefixOf, symAt]
        · have h2 : ([45, 62] : Bs).isPrefixOf (c :: d :: r) = false := by
            rw [Bool.eq_false_iff]; intro hh; simp [List.isPrefixOf] at hh; exact h' ⟨hh.1.symm, hh.2.symm⟩
          have hn : ¬ (c = 61 ∧ d = 61 ∨ c = 45 ∧ d = 62) := fun hh => hh.elim h h'
          rw [h2, find_sing]
          simp only [symAt, List.head?_cons, Option.some.injEq, if_neg hn]
          split <;> rfl

def okAt' (l : Bs) (p : Int) : Prop := 0 ≤ p ∧ p ≤ l.length ∧ l.length ≤ 9223372036854775000
instance (l : Bs) (p : Int) : Decidable (okAt' l p) := inferInstanceAs (Decidable (_ ∧ _))
def g38 : List D → Option D
  | [.str l, .int .i64 p] => if okAt' l p then some (.str (begins (l.drop p.toNat))) else none
  | _ => none
theorem c38 {X : Ext} (h56 : X 56 = some (wk g56)) (h57 : X 57 = some (wk g57)) (h : X 38 = none) (args : List D) (r : D) (hg : g38 args = some r) : Comp tabT X G0 38 args r := by
  unfold g38 at hg
  split at hg
  · rename_i l p
    split at hg
    · rename_i hp
      cases hg
      obtain ⟨h0, h1, h2⟩ := hp
      obtain ⟨p, rfl⟩ : ∃ n : Nat, p = (n : Int) := ⟨p.toNat, by omega⟩
      have hp : p ≤ l.length := by omega
      simp only [Int.toNat_natCast]
      refine comp_runF 21 h tab38 ⟨rfl, by decide⟩ ?_
      have hk := fun σ => k56 (X := X) (k := 20) (σ := σ) h56 l p hp (by omega)
      have hk7 := fun σ => k57 (X := X) (k := 20) (σ := σ) h57
      unfold begins
      by_cases hw : (l.drop p).takeWhile isW = []
      · rw [if_pos hw]
        rw [hw] at hk
        have hit := it38 (cf := evalFn tabT X G0 21) (x := fun f => (X f).isSome) (k := 21) (m := 0) (σ := []) (l := l) (ss := syms) hp (by decide) (by decide) h2 syms [] rfl
        have hfs := find_syms (l.drop p)
        have hfe : (prefAt l p) = fun s => s.isPrefixOf (l.drop p) := funext fun s => prefAt_eq hp s
        rw [hfe] at hit
        simp only [List.length_nil, Nat.zero_add, Int.natCast_zero, show syms.length + 1 = 21 from rfl] at hit
        rw [← hfs]
        generalize hss : slD syms = sd at *
        cases hf : syms.find? (fun s => s.isPrefixOf (l.drop p)) with
        | none =>
          rw [hf] at hit
          simp [runF, af38, hk, hk7, hit]
        | some s =>
          rw [hf] at hit
          simp [runF, af38, hk, hk7, hit]
      · rw [if_neg hw]
        have hlen := (List.takeWhile_prefix isW (l := l.drop p)).length_le
        have hpos : 0 < ((l.drop p).takeWhile isW).length := List.length_pos_iff.2 hw
        have htake : (l.take (p + ((l.drop p).takeWhile isW).length)).drop p = (l.drop p).takeWhile isW := by
          rw [List.drop_take, show p + ((l.drop p).takeWhile isW).length - p = ((l.drop p).takeWhile isW).length by omega]
          exact (List.prefix_iff_eq_take.1 (List.takeWhile_prefix isW)).symm
        have hle : p + ((l.drop p).takeWhile isW).length ≤ l.length := by simp at hlen; omega
        generalize (l.drop p).takeWhile isW = w at *
        obtain ⟨q, hq⟩ : ∃ q, p + w.length = q := ⟨_, rfl⟩
        rw [hq] at htake hle
        have hw2 : IntKind.i64.wrap ((p : Int) + w.length) = q := by rw [show (p : Int) + w.length = q by omega]; exact wrap_i64 (by omega) (by omega)
        have h3 : (0 : Int) < w.length := by omega
        have h4 : (q : Int) ≤ l.length := by omega
        have h5 : (p : Int) ≤ q := by omega
        simp [runF, af38, hk, hw2, h3, hpos, h4, h5, bound, htake]
    · cases hg
  · cases hg
theorem k38 {X : Ext} {k : Nat} {σ : St} (h : X 38 = some (wk g38)) (l : Bs) (p : Nat) (hp : p ≤ l.length) (hl : l.length ≤ 9223372036854775000) :
    evalFn tabT X G0 (k + 1) (.fn 38) [.str l, .int .i64 p] σ = some (.ret (.str (begins (l.drop p))), σ) :=
  call_ext h rfl rfl (by simp only [g38]; rw [if_pos ⟨by omega, by omega, hl⟩]; simp)
end Go.AI

namespace Go.AI
open Go Go.Lx
set_option maxRecDepth 100000
set_option linter.unusedSimpArgs false

theorem begins_len (t : Bs) : (begins t).length ≤ t.length := by
  unfold begins
  split
  · rw [symAt_take]; simp; omega
  · exact (List.takeWhile_prefix isW).length_le
theorem spaceLen_le : ∀ (com : Bool) (t : Bs), spaceLen com t ≤ t.length
  | _, [] => by simp [spaceLen]
  | com, c :: r => by
    rw [spaceLen]
    split
    · omega
    · have := spaceLen_le (c != 10 && (com || c == 35)) r
      simp; omega
theorem tokOf_nil : tokOf [] = none := by decide
theorem set_concat {α : Type} (g : List α) (b c : α) : (g ++ [b]).set g.length c = g ++ [c] := by
  rw [List.set_append_right _ _ (Nat.le_refl _)]; simp

/-- A text that is read from a place on. -/
theorem lp15 {X : Ext} {k : Nat} (h38 : X 38 = some (wk g38)) (h39 : X 39 = some (wk g39)) (h36 : X 36 = some (wk g36)) {l : Bs} (hl : l.length ≤ 30000) (p : Nat) (hp : p < l.length) (ts : List Tok) (hts : ts.length ≤ 30000) (g : St) :
    (∀ t, tokOf (begins (l.drop p)) = some t → evalCode (evalFn tabT X G0 (k + 1)) (fun f => (X f).isSome) G0 43 (k + 1) false lp15_0 [(0, .str l), (5, .arr 0 ts.length 0 ts.length), (6, .int .i64 p)] (.row 4 (ts.map tokD) 0 :: g) =
      some (.normal, [(0, .str l), (5, .arr 0 (ts.length + 1) 0 (ts.length + 1)), (6, .int .i64 ((p + (begins (l.drop p)).length + spaceLen false (l.drop (p + (begins (l.drop p)).length)) : Nat) : Int))],
        .row 4 ((ts ++ [{ t with a := (p : Int) }]).map tokD) 0 :: (g ++ [.box [.int .i64 t.k, .str t.s, .int .i64 t.n, .int .i64 p]]))) ∧
    (tokOf (begins (l.drop p)) = none → ∃ σ', evalCode (evalFn tabT X G0 (k + 1)) (fun f => (X f).isSome) G0 43 (k + 1) false lp15_0 [(0, .str l), (5, .arr 0 ts.length 0 ts.length), (6, .int .i64 p)] (.row 4 (ts.map tokD) 0 :: g) =
      some (.ret, [(2, .empty), (3, .int .i64 p), (4, .int .i64 2)], σ')) := by
  have hk := fun σ => k38 (X := X) (k := k) (σ := σ) h38 l p (by omega) (by omega)
  have hk9 := fun σ => k39 (X := X) (k := k) (σ := σ) h39 (begins (l.drop p))
  have hbl := begins_len (l.drop p)
  have hbl' : p + (begins (l.drop p)).length ≤ l.length := by simp at hbl; omega
  have hk6 := fun σ => k36 (X := X) (k := k) (σ := σ) h36 l (p + (begins (l.drop p)).length) hbl' (by omega)
  have hsp := spaceLen_le false (l.drop (p + (begins (l.drop p)).length))
  constructor
  · intro t ht
    have htR : tokR (begins (l.drop p)) = t := by unfold tokR; rw [ht]
    rw [htR] at hk9
    obtain ⟨hk0, _, _, _⟩ := tokOf_some ht
    generalize begins (l.drop p) = w at *
    obtain ⟨q, hq⟩ : ∃ q, p + w.length = q := ⟨_, rfl⟩
    rw [hq] at hbl' hk6 hsp ⊢
    have hw1 : IntKind.i64.wrap ((p : Int) + w.length) = q := by rw [show (p : Int) + w.length = q by omega]; exact wrap_i64 (by omega) (by omega)
    generalize spaceLen false (l.drop q) = sp at *
    have hsp' : sp ≤ 30000 := by simp at hsp; omega
    have hw2 : IntKind.i64.wrap ((q : Int) + sp) = q + sp := wrap_i64 (by omega) (by omega)
    obtain ⟨tk, tse, tn, ta⟩ := t
    simp only at hk0 hk9 ⊢
    have hneg : ¬ tk < 0 := by omega
    have hlen : ((ts.length : Nat) + 1) * 40 ≤ 140737488355328 := by omega
    simp [lp15_0, hp, hk, hk9, hk6, hw1, hw2, hneg, set_concat, fillRow, rowOf, hlen]
  · intro ht
    have htR : tokR (begins (l.drop p)) = ⟨-1, [], 0, 0⟩ := by unfold tokR; rw [ht]
    rw [htR] at hk9
    generalize begins (l.drop p) = w at *
    refine ⟨.row 4 (ts.map tokD) 0 :: (g ++ [.box [.int .i64 (-1), .str [], .int .i64 0, .int .i64 0]]), ?_⟩
    simp [lp15_0, hp, hk, hk9, set_concat]
theorem lp15e {cf : CallF} {x : FuncId → Bool} {k : Nat} {l : Bs} {d : D} {σ : St} :
    evalCode cf x G0 43 k false lp15_0 [(0, .str l), (5, d), (6, .int .i64 l.length)] σ = some (.exit 0, [(0, .str l), (5, d), (6, .int .i64 l.length), (17, .bool false)], σ) := by
  simp [lp15_0]

/-- What a loop over tokens leaves. -/
theorem it15 {X : Ext} {k m : Nat} (h38 : X 38 = some (wk g38)) (h39 : X 39 = some (wk g39)) (h36 : X 36 = some (wk g36)) {l : Bs} (hl : l.length ≤ 30000) : ∀ (f r : Nat) (ts : List Tok) (g : St), r ≤ l.length → l.length - r < f → ts.length ≤ r →
    match lexR f (l.drop r) r with
    | .ok us => (ts ++ us).length ≤ l.length ∧ ∃ g', iter (evalCode (evalFn tabT X G0 (k + 1)) (fun f => (X f).isSome) G0 43 (k + 1) false lp15_0) (m + f) [(0, .str l), (5, .arr 0 ts.length 0 ts.length), (6, .int .i64 ((r + spaceLen false (l.drop r) : Nat) : Int))] (.row 4 (ts.map tokD) 0 :: g) =
        some (.exit 0, [(0, .str l), (5, .arr 0 (ts ++ us).length 0 (ts ++ us).length), (6, .int .i64 l.length), (17, .bool false)], .row 4 ((ts ++ us).map tokD) 0 :: g')
    | .error e => ∃ σ', iter (evalCode (evalFn tabT X G0 (k + 1)) (fun f => (X f).isSome) G0 43 (k + 1) false lp15_0) (m + f) [(0, .str l), (5, .arr 0 ts.length 0 ts.length), (6, .int .i64 ((r + spaceLen false (l.drop r) : Nat) : Int))] (.row 4 (ts.map tokD) 0 :: g) =
        some (.ret, [(2, .empty), (3, .int .i64 e), (4, .int .i64 2)], σ')
  | 0, r, ts, g, hr, hf, hts => by omega
  | f + 1, r, ts, g, hr, hf, hts => by
    rw [lexR]
    have hsp := spaceLen_le false (l.drop r)
    rw [List.length_drop] at hsp
    rw [List.drop_drop]
    generalize hp : r + spaceLen false (l.drop r) = p at *
    by_cases hend : l.drop p = []
    · rw [if_pos hend]
      have hpl : p = l.length := by
        have : (l.drop p).length = 0 := by rw [hend]; rfl
        rw [List.length_drop] at this; omega
      simp only [List.append_nil]
      refine ⟨by omega, g, ?_⟩
      rw [show m + (f + 1) = (m + f) + 1 from rfl, hpl]
      exact iter_exit lp15e
    · rw [if_neg hend]
      have hlt : p < l.length := by
        rcases Nat.lt_or_ge p l.length with h | h
        · exact h
        · exact absurd (List.drop_eq_nil_of_le h) hend
      have hb := lp15 (X := X) (k := k) h38 h39 h36 hl p hlt ts (by omega) g
      have hbl := begins_len (l.drop p)
      rw [List.length_drop] at hbl
      cases ht : tokOf (begins (l.drop p)) with
      | none =>
        obtain ⟨σ', hσ⟩ := hb.2 ht
        exact ⟨σ', iter_ret hσ⟩
      | some t =>
        have hb := hb.1 t ht
        have hne : 1 ≤ (begins (l.drop p)).length := by
          rcases Nat.eq_zero_or_pos (begins (l.drop p)).length with h | h
          · rw [List.length_eq_zero_iff.1 h, tokOf_nil] at ht; cases ht
          · exact h
        simp only
        rw [List.drop_drop]
        generalize (begins (l.drop p)).length = w at *
        have ih := it15 (X := X) (k := k) (m := m) h38 h39 h36 hl f (p + w) (ts ++ [{ t with a := (p : Int) }]) (g ++ [.box [.int .i64 t.k, .str t.s, .int .i64 t.n, .int .i64 p]]) (by omega) (by omega) (by simp; omega)
        rw [show m + (f + 1) = (m + f) + 1 from rfl]
        have hlen1 : (ts ++ [{ t with a := (p : Int) }]).length = ts.length + 1 := by simp
        cases hx : lexR f (l.drop (p + w)) (p + w) with
        | ok us =>
          rw [hx] at ih
          obtain ⟨h1, g', h2⟩ := ih
          rw [hlen1] at h2
          rw [List.append_assoc] at h1 h2
          refine ⟨h1, g', ?_⟩
          rw [iter_next hb]
          exact h2
        | error e =>
          rw [hx] at ih
          obtain ⟨σ', h2⟩ := ih
          rw [hlen1] at h2
          refine ⟨σ', ?_⟩
          rw [iter_next hb]
          exact h2

def lexD (t : Bs) : D := .tuple [toksD (lexT t).1, .int .i64 (lexT t).2.1, .int .i64 (lexT t).2.2]
def g15 : List D → Option D
  | [.str l] => if l.length ≤ 9223372036854775000 then some (lexD l) else none
  | _ => none
theorem weakL_toks (l : List Tok) : weakL (l.map tokD) = l.map tokD := weakL_tok l
theorem mapM_strip (n : Nat) (σ : St) : ∀ (l : List Tok), (l.map tokD).mapM (strip n σ) = some (l.map tokD)
  | [] => rfl
  | a :: r => by
    rw [List.map_cons, List.mapM_cons, mapM_strip n σ r, strip_of_tree (by rfl)]
    rfl
theorem c15 {X : Ext} (h38 : X 38 = some (wk g38)) (h39 : X 39 = some (wk g39)) (h36 : X 36 = some (wk g36)) (h : X 15 = none) (args : List D) (r : D) (hg : g15 args = some r) : Comp tabT X G0 15 args r := by
  unfold g15 at hg
  split at hg
  · rename_i l
    split at hg
    · rename_i hlen
      cases hg
      unfold lexD lexT
      by_cases hl : l.length ≤ 30000
      · rw [if_neg (by omega)]
        refine comp_runF (l.length + 1) h tab15 ⟨rfl, by decide⟩ ?_
        have hl1 : ¬ (30000 : Int) < l.length := by omega
        have hit := it15 (X := X) (k := l.length) (m := 0) h38 h39 h36 hl (l.length + 1) 0 [] [] (by omega) (by omega) (by simp)
        have hk6 := fun σ => k36 (X := X) (k := l.length) (σ := σ) h36 l 0 (by omega) (by omega)
        simp only [List.drop_zero, Nat.zero_add, List.length_nil, List.map_nil, List.nil_append, Int.natCast_zero] at hit hk6
        generalize spaceLen false l = sp at *
        cases hx : lexR (l.length + 1) l 0 with
        | ok us =>
          rw [hx] at hit
          obtain ⟨hu, g', hit⟩ := hit
          have hms := fun n => mapM_strip n (.row 4 (us.map tokD) 0 :: g') us
          have htk : List.take us.length (us.map tokD) = us.map tokD := List.take_of_length_le (by simp)
          simp [runF, af15, hl1, hk6, hit, rowOf, hms, htk]
        | error e =>
          rw [hx] at hit
          obtain ⟨σ', hit⟩ := hit
          simp [runF, af15, hl1, hk6, hit]
      · rw [if_pos (by omega)]
        refine comp_runF 1 h tab15 ⟨rfl, by decide⟩ ?_
        have hl1 : (30000 : Int) < l.length := by omega
        simp [runF, af15, hl1]
    · cases hg
  · cases hg
theorem lexD_tree (t : Bs) : (lexD t).tree = true := by simp [lexD, D.tree, treeL]
theorem k15 {X : Ext} {k : Nat} {σ : St} (h : X 15 = some (wk g15)) (l : Bs) (hl : l.length ≤ 9223372036854775000) :
    evalFn tabT X G0 (k + 1) (.fn 15) [.str l] σ = some (.ret (lexD l), σ) :=
  call_ext h rfl rfl (by simp only [g15]; rw [if_pos hl])
end Go.AI
