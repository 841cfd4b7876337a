/- What functions of the lexer compute: Lex. No conditions of its own. -/
import Derived.Test.YtlbnennpefkpgaaDoorLxC
set_option linter.unusedVariables false
set_option linter.unusedSimpArgs false
namespace Go.AI
open Go Go.Lx
set_option maxRecDepth 100000
set_option linter.unusedSimpArgs false

/-- All of a line. -/
def notNl (c : UInt8) : Bool := c != 10
theorem space_line : ∀ (t : Bs), spaceLen true t = (t.takeWhile notNl).length + spaceLen false (t.dropWhile notNl)
  | [] => rfl
  | c :: r => by
    cases h : c != 10
    · have : c = 10 := by simpa using h
      subst this
      simp [spaceLen, notNl, isBlank]
    · rw [spaceLen, List.takeWhile_cons, List.dropWhile_cons]
      simp only [notNl, h, Bool.true_and, Bool.true_or, Bool.not_true, Bool.false_and, Bool.false_eq_true, if_false, if_true, List.length_cons]
      rw [space_line r]
      have : (r.takeWhile fun c => c != 10).length = (r.takeWhile notNl).length := rfl
      have : (r.dropWhile fun c => c != 10) = r.dropWhile notNl := rfl
      omega
theorem space_hash (r : Bs) : spaceLen false (35 :: r) = ((35 :: r : Bs).takeWhile notNl).length + spaceLen false ((35 :: r : Bs).dropWhile notNl) := by
  rw [← space_line]
  simp [spaceLen]

theorem drop_tw {f : UInt8 → Bool} : ∀ (t : Bs), t.dropWhile f = t.drop (t.takeWhile f).length
  | [] => rfl
  | a :: r => by
    rw [List.takeWhile_cons, List.dropWhile_cons]
    split
    · simp [drop_tw r]
    · simp

/-- The reader's object, fifth in memory. -/
abbrev rd (o0 o1 o2 o3 : Obj) (l : Bs) (p : Nat) (g : St) : St := o0 :: o1 :: o2 :: o3 :: .box [.str l, .int .i64 p] :: g
section
variable {o0 o1 o2 o3 : Obj} {g : St}

/-! space -/
theorem lp55_in {cf : CallF} {x : FuncId → Bool} {k : Nat} {l : Bs} (p : Nat) (hp : p < l.length) (hl : l.length ≤ 30000) {tl : Env} (htl : tl = [] ∨ tl = [(12, .bool true)]) :
    evalCode cf x G0 71 k false lp55_0 ((0, .ptr 4 0) :: tl) (rd o0 o1 o2 o3 l p g) =
      if notNl l[p] then some (.normal, [(0, .ptr 4 0)], rd o0 o1 o2 o3 l (p + 1) g) else some (.exit 3, [(0, .ptr 4 0), (44, .bool false)], rd o0 o1 o2 o3 l p g) := by
  have hw : IntKind.i64.wrap ((p : Int) + 1) = p + 1 := wrap_i64 (by omega) (by omega)
  have h10 : notNl l[p] = ((l[p].toNat : Int) != 10) := all_bytes_Int (p := fun n c => notNl c = (n != 10)) (by decide +kernel) l[p]
  obtain ⟨c, hc⟩ : ∃ c : Int, (l[p].toNat : Int) = c := ⟨_, rfl⟩
  rw [h10, hc]
  have hpp : ((p : Int)).toNat = p := by simp
  cases h : c == 10
  · have h' : (c != 10) = true := by simp only [bne, h]; rfl
    rcases htl with rfl | rfl
    · simp [lp55_0, hp, hc, h, h', hw]
    · simp [lp55_0, hp, hc, h, h', hw]
  · have h' : (c != 10) = false := by simp only [bne, h]; rfl
    rcases htl with rfl | rfl
    · simp [lp55_0, hp, hc, h, h', hw]
    · simp [lp55_0, hp, hc, h, h', hw]
theorem lp55_ine {cf : CallF} {x : FuncId → Bool} {k : Nat} {l : Bs} {tl : Env} (htl : tl = [] ∨ tl = [(12, .bool true)]) :
    evalCode cf x G0 71 k false lp55_0 ((0, .ptr 4 0) :: tl) (rd o0 o1 o2 o3 l l.length g) = some (.exit 3, [(0, .ptr 4 0), (44, .bool false)], rd o0 o1 o2 o3 l l.length g) := by
  rcases htl with rfl | rfl
  · simp [lp55_0]
  · simp [lp55_0]
theorem it55_in {cf : CallF} {x : FuncId → Bool} {k m : Nat} {l : Bs} (hl : l.length ≤ 30000) : ∀ (r : Bs) (p : Nat) (tl : Env), p ≤ l.length → l.drop p = r → (tl = [] ∨ tl = [(12, .bool true)]) →
    iter (evalCode cf x G0 71 k false lp55_0) (m + r.length + 1) ((0, .ptr 4 0) :: tl) (rd o0 o1 o2 o3 l p g) =
      some (.exit 3, [(0, .ptr 4 0), (44, .bool false)], rd o0 o1 o2 o3 l (p + (r.takeWhile notNl).length) g)
  | [], p, tl, hp, h, htl => by
    have hpl := drop_len hp h
    simp only [List.length_nil, Nat.add_zero] at hpl
    subst hpl
    exact iter_exit (lp55_ine htl)
  | a :: r, p, tl, hp, h, htl => by
    obtain ⟨hi, ha⟩ := drop_get (pre := []) h
    simp only [List.length_nil, Nat.add_zero] at hi ha
    have hb := lp55_in (cf := cf) (x := x) (k := k) (o0 := o0) (o1 := o1) (o2 := o2) (o3 := o3) (g := g) p hi hl htl
    rw [ha] at hb
    rw [List.takeWhile_cons]
    cases hs : notNl a
    · rw [hs] at hb
      exact iter_exit hb
    · rw [hs] at hb
      have := it55_in (cf := cf) (x := x) (k := k) (m := m) hl r (p + 1) [] (by omega) (by rw [← List.drop_drop, h]; simp) (.inl rfl)
      rw [show m + (a :: r).length + 1 = (m + r.length + 1) + 1 by simp; omega, iter_next hb, this]
      simp only [if_true, List.length_cons]
      rw [show p + 1 + (r.takeWhile notNl).length = p + ((r.takeWhile notNl).length + 1) by omega]

theorem lp55_out {X : Ext} {k : Nat} (h67 : X 67 = some (wk g67)) {l : Bs} (p : Nat) (hp : p < l.length) (hl : l.length ≤ 30000) (hk : l.length < k) {tl : Env} (htl : tl = [] ∨ tl = [(44, .bool false)]) :
    (l[p] = 35 → evalCode (evalFn tabT X G0 (k + 1)) (fun f => (X f).isSome) G0 71 (k + 1) false lp55_1 ((0, .ptr 4 0) :: tl) (rd o0 o1 o2 o3 l p g) =
      some (.normal, [(0, .ptr 4 0), (44, .bool false)], rd o0 o1 o2 o3 l (p + ((l.drop p).takeWhile notNl).length) g)) ∧
    (l[p] ≠ 35 → evalCode (evalFn tabT X G0 (k + 1)) (fun f => (X f).isSome) G0 71 (k + 1) false lp55_1 ((0, .ptr 4 0) :: tl) (rd o0 o1 o2 o3 l p g) =
      if isBlank l[p] then some (.normal, [(0, .ptr 4 0)], rd o0 o1 o2 o3 l (p + 1) g) else some (.ret, [(0, .ptr 4 0), (52, .bool false)], rd o0 o1 o2 o3 l p g)) := by
  have hw : IntKind.i64.wrap ((p : Int) + 1) = p + 1 := wrap_i64 (by omega) (by omega)
  have h35 : (l[p] == 35) = ((l[p].toNat : Int) == 35) := all_bytes_Int (p := fun n c => (c == 35) = (n == 35)) (by decide +kernel) l[p]
  have hbl : isBlank l[p] = (kindI l[p].toNat == 1) := all_bytes_Int (p := fun n c => isBlank c = (kindI n == 1)) (by decide +kernel) l[p]
  have hit := it55_in (cf := evalFn tabT X G0 (k + 1)) (x := fun f => (X f).isSome) (k := k + 1) (m := k - (l.drop p).length) (o0 := o0) (o1 := o1) (o2 := o2) (o3 := o3) (g := g) hl (l.drop p) p [(12, .bool true)] (by omega) rfl (.inr rfl)
  rw [show k - (l.drop p).length + (l.drop p).length + 1 = k + 1 by rw [List.length_drop]; omega] at hit
  rw [hbl]
  constructor
  · intro hc
    have hc1 : (l[p].toNat : Int) = 35 := by rw [hc]; rfl
    generalize p + ((l.drop p).takeWhile notNl).length = q at *
    rcases htl with rfl | rfl
    · simp [lp55_1, hp, hc1, hit]
    · simp [lp55_1, hp, hc1, hit]
  · intro hc
    have hc0 : (l[p] == 35) = false := by simpa using hc
    rw [hc0] at h35
    clear hit hc hc0
    obtain ⟨c, hc⟩ : ∃ c : Int, (l[p].toNat : Int) = c := ⟨_, rfl⟩
    rw [hc] at h35 ⊢
    cases hb : kindI c == 1
    · rcases htl with rfl | rfl
      · simp [lp55_1, hp, hc, ← h35, h35.symm, h67, k67 h67, hb]
      · simp [lp55_1, hp, hc, ← h35, h35.symm, h67, k67 h67, hb]
    · rcases htl with rfl | rfl
      · simp [lp55_1, hp, hc, ← h35, h35.symm, h67, k67 h67, hb, hw]
      · simp [lp55_1, hp, hc, ← h35, h35.symm, h67, k67 h67, hb, hw]
theorem lp55_oute {cf : CallF} {x : FuncId → Bool} {k : Nat} {l : Bs} {tl : Env} (htl : tl = [] ∨ tl = [(44, .bool false)]) :
    evalCode cf x G0 71 k false lp55_1 ((0, .ptr 4 0) :: tl) (rd o0 o1 o2 o3 l l.length g) = some (.exit 0, [(0, .ptr 4 0), (11, .bool false)], rd o0 o1 o2 o3 l l.length g) := by
  rcases htl with rfl | rfl
  · simp [lp55_1]
  · simp [lp55_1]
theorem it55_out {X : Ext} {k : Nat} (h67 : X 67 = some (wk g67)) {l : Bs} (hl : l.length ≤ 30000) (hk : l.length < k) : ∀ (d p m : Nat) (tl : Env), p ≤ l.length → l.length - p ≤ d → (tl = [] ∨ tl = [(44, .bool false)]) →
    ∃ x e, (x = .exit 0 ∨ x = .ret) ∧ iter (evalCode (evalFn tabT X G0 (k + 1)) (fun f => (X f).isSome) G0 71 (k + 1) false lp55_1) (m + d + 1) ((0, .ptr 4 0) :: tl) (rd o0 o1 o2 o3 l p g) =
      some (x, e, rd o0 o1 o2 o3 l (p + spaceLen false (l.drop p)) g)
  | 0, p, m, tl, hp, hd, htl => by
    have : p = l.length := by omega
    subst this
    refine ⟨.exit 0, [(0, .ptr 4 0), (11, .bool false)], .inl rfl, ?_⟩
    rw [List.drop_length]
    exact iter_exit (lp55_oute htl)
  | d + 1, p, m, tl, hp, hd, htl => by
    by_cases hlt : p < l.length
    · have hb := lp55_out (X := X) (o0 := o0) (o1 := o1) (o2 := o2) (o3 := o3) (g := g) h67 p hlt hl hk htl
      have hcons : l.drop p = l[p] :: l.drop (p + 1) := List.drop_eq_getElem_cons hlt
      by_cases h35 : l[p] = 35
      · have hb := hb.1 h35
        rw [hcons, h35] at hb ⊢
        rw [space_hash]
        have hpos : 1 ≤ ((35 :: l.drop (p + 1) : Bs).takeWhile notNl).length := by rw [List.takeWhile_cons]; simp [notNl]
        have hle := (List.takeWhile_prefix notNl (l := (35 :: l.drop (p + 1) : Bs))).length_le
        have hsplit : (35 :: l.drop (p + 1) : Bs).dropWhile notNl = l.drop (p + ((35 :: l.drop (p + 1) : Bs).takeWhile notNl).length) := by
          have hl' : l.drop p = 35 :: l.drop (p + 1) := by rw [hcons, h35]
          rw [drop_tw, ← hl', List.drop_drop]
        rw [hsplit]
        have hcl : (35 :: l.drop (p + 1) : Bs).length = l.length - p := by simp; omega
        generalize ((35 :: l.drop (p + 1) : Bs).takeWhile notNl).length = w at *
        obtain ⟨x, e, hx, h⟩ := it55_out (k := k) h67 hl hk d (p + w) m [(44, .bool false)] (by omega) (by omega) (.inr rfl)
        refine ⟨x, e, hx, ?_⟩
        rw [show m + (d + 1) + 1 = (m + d + 1) + 1 by omega, iter_next hb, h, Nat.add_assoc]
      · have hb := hb.2 h35
        rw [hcons, spaceLen]
        have h35' : (l[p] == 35) = false := by simpa using h35
        cases hbl : isBlank l[p]
        · rw [hbl] at hb
          have h10 : l[p] ≠ 10 := by intro h; rw [h] at hbl; simp [isBlank] at hbl
          simp only [Bool.false_or, h35', Bool.and_false, Bool.not_false, Bool.and_self, if_true, Nat.add_zero]
          exact ⟨.ret, [(0, .ptr 4 0), (52, .bool false)], .inr rfl, iter_ret hb⟩
        · rw [hbl] at hb
          simp only [Bool.false_or, h35', Bool.and_false, Bool.not_false, Bool.not_true, Bool.false_eq_true, if_false]
          obtain ⟨x, e, hx, h⟩ := it55_out (k := k) h67 hl hk d (p + 1) m [] (by omega) (by omega) (.inl rfl)
          refine ⟨x, e, hx, ?_⟩
          rw [show m + (d + 1) + 1 = (m + d + 1) + 1 by omega, iter_next hb, h]
          congr 4
          omega
    · have : p = l.length := by omega
      subst this
      refine ⟨.exit 0, [(0, .ptr 4 0), (11, .bool false)], .inl rfl, ?_⟩
      rw [List.drop_length]
      exact iter_exit (lp55_oute htl)
/-- Space is skipped. -/
theorem ev55 {X : Ext} {k : Nat} (h67 : X 67 = some (wk g67)) (h55 : X 55 = none) {l : Bs} (p : Nat) (hp : p ≤ l.length) (hl : l.length ≤ 30000) (hk : l.length < k) :
    evalFn tabT X G0 (k + 2) (.fn 55) [.ptr 4 0] (rd o0 o1 o2 o3 l p g) = some (.ret (.tuple []), rd o0 o1 o2 o3 l (p + spaceLen false (l.drop p)) g) := by
  obtain ⟨x, e, hx, h⟩ := it55_out (k := k) (o0 := o0) (o1 := o1) (o2 := o2) (o3 := o3) (g := g) h67 hl hk l.length p (k - l.length) [] hp (by omega) (.inl rfl)
  rw [show k - l.length + l.length + 1 = k + 1 by omega] at h
  generalize p + spaceLen false (l.drop p) = q at *
  simp only [evalFn, h55, tab55]
  rcases hx with rfl | rfl
  · simp [af55, h]
  · simp [af55, h]
end
end Go.AI

namespace Go.AI
open Go Go.Lx
set_option maxRecDepth 100000
set_option linter.unusedSimpArgs false
attribute [simp] Nat.testBit sameAt D.eqb eqbL evalRound putParams endR

section
variable {o0 o1 o2 o3 : Obj} {g : St}
/-! word -/
theorem lp53 {X : Ext} {k : Nat} (h67 : X 67 = some (wk g67)) {l : Bs} (p n : Nat) (hn : n < l.length) (hl : l.length ≤ 30000) :
    evalCode (evalFn tabT X G0 (k + 1)) (fun f => (X f).isSome) G0 37 (k + 1) false lp53_0 [(0, .ptr 4 0), (3, .int .i64 n)] (rd o0 o1 o2 o3 l p g) =
      if isW l[n] then some (.normal, [(0, .ptr 4 0), (3, .int .i64 ((n + 1 : Nat) : Int))], rd o0 o1 o2 o3 l p g) else some (.exit 0, [(0, .ptr 4 0), (3, .int .i64 n), (24, .bool false)], rd o0 o1 o2 o3 l p g) := by
  have hw : IntKind.i64.wrap ((n : Int) + 1) = n + 1 := wrap_i64 (by omega) (by omega)
  have hW : isW l[n] = decide (2 ≤ kindI l[n].toNat) := all_bytes_Int (p := fun n c => isW c = decide (2 ≤ kindI n)) (by decide +kernel) l[n]
  rw [hW]
  obtain ⟨c, hc⟩ : ∃ c : Int, (l[n].toNat : Int) = c := ⟨_, rfl⟩
  rw [hc]
  by_cases h2 : 2 ≤ kindI c
  · simp [lp53_0, hn, hc, k67 h67, h2, hw]
  · simp [lp53_0, hn, hc, k67 h67, h2]
theorem lp53e {cf : CallF} {x : FuncId → Bool} {k : Nat} {l : Bs} (p : Nat) :
    evalCode cf x G0 37 k false lp53_0 [(0, .ptr 4 0), (3, .int .i64 l.length)] (rd o0 o1 o2 o3 l p g) = some (.exit 0, [(0, .ptr 4 0), (3, .int .i64 l.length), (24, .bool false)], rd o0 o1 o2 o3 l p g) := by
  simp [lp53_0]
theorem it53 {X : Ext} {k m : Nat} (h67 : X 67 = some (wk g67)) {l : Bs} {p : Nat} (hl : l.length ≤ 30000) : ∀ (r : Bs) (n : Nat), n ≤ l.length → l.drop n = r →
    iter (evalCode (evalFn tabT X G0 (k + 1)) (fun f => (X f).isSome) G0 37 (k + 1) false lp53_0) (m + r.length + 1) [(0, .ptr 4 0), (3, .int .i64 n)] (rd o0 o1 o2 o3 l p g) =
      some (.exit 0, [(0, .ptr 4 0), (3, .int .i64 ((n + (r.takeWhile isW).length : Nat) : Int)), (24, .bool false)], rd o0 o1 o2 o3 l p g)
  | [], n, hn, h => by
    have hpl := drop_len hn h
    simp only [List.length_nil, Nat.add_zero] at hpl
    subst hpl
    exact iter_exit (lp53e p)
  | a :: r, n, hn, h => by
    obtain ⟨hi, ha⟩ := drop_get (pre := []) h
    simp only [List.length_nil, Nat.add_zero] at hi ha
    have hb := lp53 (X := X) (k := k) (o0 := o0) (o1 := o1) (o2 := o2) (o3 := o3) (g := g) h67 p n hi hl
    rw [ha] at hb
    rw [List.takeWhile_cons]
    cases hs : isW a
    · rw [hs] at hb
      exact iter_exit hb
    · rw [hs] at hb
      have := it53 (X := X) (k := k) (m := m) (p := p) h67 hl r (n + 1) (by omega) (by rw [← List.drop_drop, h]; simp)
      rw [show m + (a :: r).length + 1 = (m + r.length + 1) + 1 by simp; omega, iter_next hb, this]
      simp only [if_true, List.length_cons]
      rw [show n + 1 + (r.takeWhile isW).length = n + ((r.takeWhile isW).length + 1) by omega]
theorem ev53 {X : Ext} {k : Nat} (h67 : X 67 = some (wk g67)) (h53 : X 53 = none) {l : Bs} (p : Nat) (hp : p ≤ l.length) (hl : l.length ≤ 30000) (hk : l.length < k) :
    evalFn tabT X G0 (k + 2) (.fn 53) [.ptr 4 0] (rd o0 o1 o2 o3 l p g) = some (.ret (.str ((l.drop p).takeWhile isW)), rd o0 o1 o2 o3 l p g) := by
  have h := it53 (X := X) (k := k) (m := k - (l.drop p).length) (o0 := o0) (o1 := o1) (o2 := o2) (o3 := o3) (g := g) (p := p) h67 hl (l.drop p) p hp rfl
  rw [show k - (l.drop p).length + (l.drop p).length + 1 = k + 1 by rw [List.length_drop]; omega] at h
  have htake : (l.take (p + ((l.drop p).takeWhile isW).length)).drop p = (l.drop p).takeWhile isW := by
    rw [List.drop_take, show p + ((l.drop p).takeWhile isW).length - p = ((l.drop p).takeWhile isW).length by omega]
    exact (List.prefix_iff_eq_take.1 (List.takeWhile_prefix isW)).symm
  have hlen := (List.takeWhile_prefix isW (l := l.drop p)).length_le
  rw [List.length_drop] at hlen
  generalize (l.drop p).takeWhile isW = w at *
  obtain ⟨q, hq⟩ : ∃ q, p + w.length = q := ⟨_, rfl⟩
  rw [hq] at h htake
  have h4 : (q : Int) ≤ l.length := by omega
  have h5 : (p : Int) ≤ q := by omega
  have h6 : q ≤ l.length := by omega
  have h7 : p ≤ q := by omega
  simp only [evalFn, h53, tab53]
  simp [af53, h, bound, h4, h5, h6, h7, htake]
/-! symbol -/
theorem ev54 {X : Ext} {k : Nat} (h60 : X 60 = some (wk g60)) (h54 : X 54 = none) {l : Bs} (p : Nat) (hp : p ≤ l.length) :
    evalFn tabT X G0 (k + 2) (.fn 54) [.ptr 4 0] (rd o0 o1 o2 o3 l p g) = some (.ret (.str (symAt (l.drop p))), rd o0 o1 o2 o3 l p g) := by
  have h5 : (p : Int) ≤ l.length := by omega
  simp only [evalFn, h54, tab54]
  simp [af54, bound, h5, hp, k60 h60, h60]
end

/-! a round -/
abbrev env14 : Env := [(2, .ptr 1 0), (3, .ptr 2 0), (4, .ptr 3 0), (16, .func 52 [] [.ptr 5 0]), (17, .any), (18, .any)]
abbrev lpO (st : LoopState) (pend : Option AJump) : Obj := .loop 28 env14 [17, 18] as14_0 bd14_1 st pend
abbrev mem (ts : List Tok) (l : Bs) (p : Int) (g : St) : St :=
  .row 4 (ts.map tokD) 0 :: .box [.arr 0 ts.length 0 ts.length] :: .box [.int .i64 0] :: .box [.int .i64 0] :: .box [.str l, .int .i64 p] :: .box [.ptr 4 0] :: lpO .ready none :: g
abbrev memB (ts : List Tok) (l : Bs) (p e : Int) (g : St) : St :=
  .row 4 (ts.map tokD) 0 :: .box [.empty] :: .box [.int .i64 e] :: .box [.int .i64 2] :: .box [.str l, .int .i64 p] :: .box [.ptr 4 0] :: lpO .done (some .ret) :: g
theorem round_ok {X : Ext} {k : Nat} (t : Tok) (ts : List Tok) (hts : ts.length ≤ 30000) (l : Bs) (p : Int) (g : St) :
    evalFn tabT X G0 (k + 1) (.round 6) [tokD t, .bool true] (mem ts l p g) = some (.ret (.bool true), mem (ts ++ [t]) l p (g ++ [.box [.int .i64 t.k, .str t.s, .int .i64 t.n, .int .i64 t.a]])) := by
  have hlen : ((ts.length : Nat) + 1) * 40 ≤ 140737488355328 := by omega
  simp [evalFn, as14_0, bd14_1, set_concat, fillRow, rowOf, hlen]
theorem round_bad {X : Ext} {k : Nat} (t : Tok) (ts : List Tok) (l : Bs) (p : Int) (g : St) :
    evalFn tabT X G0 (k + 1) (.round 6) [tokD t, .bool false] (mem ts l p g) = some (.ret (.bool false), memB ts l p t.a (g ++ [.box [.int .i64 t.k, .str t.s, .int .i64 t.n, .int .i64 t.a]])) := by
  simp [evalFn, as14_0, bd14_1, set_concat]
end Go.AI

namespace Go.AI
open Go Go.Lx
set_option maxRecDepth 100000
set_option linter.unusedSimpArgs false

abbrev rdrs : D := .slice [.func 53 [.ptr 4 0] [], .func 54 [.ptr 4 0] []]
abbrev env52 (i : Int) : Env := [(0, .yield 6), (1, .ptr 5 0), (3, rdrs), (38, rdrs), (39, .int .i64 2), (40, .int .i64 i)]
/-- What a reader does with what it has read. -/
structure ReadsTok (X : Ext) (k : Nat) (i : Int) (s : Bs) (ts : List Tok) (l : Bs) (p : Nat) (g : St) : Prop where
  none' : s = [] → evalCode (evalFn tabT X G0 (k + 2)) (fun f => (X f).isSome) G0 88 (k + 2) false lp52_0 (env52 i) (mem ts l p g) = some (.normal, env52 (i + 1), mem ts l p g)
  tok : ∀ t, tokOf s = some t → ∃ g', evalCode (evalFn tabT X G0 (k + 2)) (fun f => (X f).isSome) G0 88 (k + 2) false lp52_0 (env52 i) (mem ts l p g) =
    some (.exit 1, [(0, .yield 6), (1, .ptr 5 0), (3, rdrs)], mem (ts ++ [{ t with a := (p : Int) }]) l ((p + s.length : Nat) : Int) g')
  bad : s ≠ [] → tokOf s = none → ∃ e g', evalCode (evalFn tabT X G0 (k + 2)) (fun f => (X f).isSome) G0 88 (k + 2) false lp52_0 (env52 i) (mem ts l p g) = some (.ret, e, memB ts l p p g')

theorem reads53 {X : Ext} {k : Nat} (h67 : X 67 = some (wk g67)) (h53 : X 53 = none) (h41 : X 41 = some (wk g41)) {l : Bs} (p : Nat) (hp : p ≤ l.length) (hl : l.length ≤ 30000) (hk : l.length < k) (ts : List Tok) (hts : ts.length ≤ 30000) (g : St) :
    ReadsTok X k 0 ((l.drop p).takeWhile isW) ts l p g := by
  have hr := fun o0 o1 o2 o3 g => ev53 (X := X) (k := k) (o0 := o0) (o1 := o1) (o2 := o2) (o3 := o3) (g := g) h67 h53 p hp hl hk
  have hlen := (List.takeWhile_prefix isW (l := l.drop p)).length_le
  rw [List.length_drop] at hlen
  generalize (l.drop p).takeWhile isW = s at *
  have hw : IntKind.i64.wrap ((p : Int) + s.length) = p + s.length := wrap_i64 (by omega) (by omega)
  have hw1 : IntKind.i64.wrap 1 = 1 := by decide
  refine ⟨fun h => ?_, fun t ht => ?_, fun hne ht => ?_⟩
  · subst h
    simp [lp52_0, hr, hw1]
  · have hne : (s == ([] : Bs)) = false := by
      cases s with
      | nil => rw [tokOf_nil] at ht; cases ht
      | cons => rfl
    have ht41 := fun σ => k41 (X := X) (k := k + 1) (σ := σ) h41 s
    unfold tokB at ht41
    rw [ht] at ht41
    have hrd := fun g => round_ok (X := X) (k := k + 1) ⟨t.k, t.s, t.n, p⟩ ts hts l p g
    simp only at hrd ht41
    obtain ⟨tk, tse, tn, ta⟩ := t
    simp only at hrd ht41 ⊢
    refine ⟨?g, ?_⟩
    case g => exact (g ++ [.box [.int .i64 tk, .str tse, .int .i64 tn, .int .i64 p]]) ++ [.box [.int .i64 tk, .str tse, .int .i64 tn, .int .i64 p]]
    simp [lp52_0, hr, hne, ht41, set_concat, hrd, hw]
  · have hne' : (s == ([] : Bs)) = false := by
      cases s with
      | nil => exact absurd rfl hne
      | cons => rfl
    have ht41 := fun σ => k41 (X := X) (k := k + 1) (σ := σ) h41 s
    unfold tokB at ht41
    rw [ht] at ht41
    have hrd := fun g => round_bad (X := X) (k := k + 1) ⟨0, [], 0, p⟩ ts l p g
    simp only at hrd ht41
    refine ⟨?e, ?g, ?_⟩
    case g => exact (g ++ [.box [.int .i64 0, .str [], .int .i64 0, .int .i64 p]]) ++ [.box [.int .i64 0, .str [], .int .i64 0, .int .i64 p]]
    case e => exact [(0, .yield 6), (1, .ptr 5 0), (3, rdrs), (6, .str s), (67, .bool true)]
    simp [lp52_0, hr, hne', ht41, set_concat, hrd]
theorem reads54 {X : Ext} {k : Nat} (h60 : X 60 = some (wk g60)) (h54 : X 54 = none) (h41 : X 41 = some (wk g41)) {l : Bs} (p : Nat) (hp : p ≤ l.length) (hl : l.length ≤ 30000) (ts : List Tok) (hts : ts.length ≤ 30000) (g : St) :
    ReadsTok X k 1 (symAt (l.drop p)) ts l p g := by
  have hr := fun o0 o1 o2 o3 g => ev54 (X := X) (k := k) (o0 := o0) (o1 := o1) (o2 := o2) (o3 := o3) (g := g) h60 h54 p hp
  have hlen : (symAt (l.drop p)).length ≤ l.length := by rw [symAt_take]; simp; omega
  generalize symAt (l.drop p) = s at *
  have hw : IntKind.i64.wrap ((p : Int) + s.length) = p + s.length := wrap_i64 (by omega) (by omega)
  have hw1 : IntKind.i64.wrap 2 = 2 := by decide
  refine ⟨fun h => ?_, fun t ht => ?_, fun hne ht => ?_⟩
  · subst h
    simp [lp52_0, hr, hw1]
  · have hne : (s == ([] : Bs)) = false := by
      cases s with
      | nil => rw [tokOf_nil] at ht; cases ht
      | cons => rfl
    have ht41 := fun σ => k41 (X := X) (k := k + 1) (σ := σ) h41 s
    unfold tokB at ht41
    rw [ht] at ht41
    have hrd := fun g => round_ok (X := X) (k := k + 1) ⟨t.k, t.s, t.n, p⟩ ts hts l p g
    simp only at hrd ht41
    obtain ⟨tk, tse, tn, ta⟩ := t
    simp only at hrd ht41 ⊢
    refine ⟨?g, ?_⟩
    case g => exact (g ++ [.box [.int .i64 tk, .str tse, .int .i64 tn, .int .i64 p]]) ++ [.box [.int .i64 tk, .str tse, .int .i64 tn, .int .i64 p]]
    simp [lp52_0, hr, hne, ht41, set_concat, hrd, hw]
  · have hne' : (s == ([] : Bs)) = false := by
      cases s with
      | nil => exact absurd rfl hne
      | cons => rfl
    have ht41 := fun σ => k41 (X := X) (k := k + 1) (σ := σ) h41 s
    unfold tokB at ht41
    rw [ht] at ht41
    have hrd := fun g => round_bad (X := X) (k := k + 1) ⟨0, [], 0, p⟩ ts l p g
    simp only at hrd ht41
    refine ⟨?e, ?g, ?_⟩
    case g => exact (g ++ [.box [.int .i64 0, .str [], .int .i64 0, .int .i64 p]]) ++ [.box [.int .i64 0, .str [], .int .i64 0, .int .i64 p]]
    case e => exact [(0, .yield 6), (1, .ptr 5 0), (3, rdrs), (6, .str s), (67, .bool true)]
    simp [lp52_0, hr, hne', ht41, set_concat, hrd]

abbrev env3 : Env := [(0, .yield 6), (1, .ptr 5 0), (3, rdrs)]
theorem lp52_0e {cf : CallF} {x : FuncId → Bool} {k : Nat} {σ : St} :
    evalCode cf x G0 88 k false lp52_0 (env52 2) σ = some (.exit 2, env52 2 ++ [(41, .bool false)], σ) := by
  simp [lp52_0]
/-- What the readers do, one after the other. -/
theorem it52_0 {X : Ext} {k : Nat} (h67 : X 67 = some (wk g67)) (h53 : X 53 = none) (h60 : X 60 = some (wk g60)) (h54 : X 54 = none) (h41 : X 41 = some (wk g41)) {l : Bs} (p : Nat) (hp : p ≤ l.length) (hl : l.length ≤ 30000) (hk : l.length < k)
    (ts : List Tok) (hts : ts.length ≤ 30000) (g : St) :
    (∀ t, tokOf (begins (l.drop p)) = some t → ∃ g', iter (evalCode (evalFn tabT X G0 (k + 2)) (fun f => (X f).isSome) G0 88 (k + 2) false lp52_0) (k + 2) (env52 0) (mem ts l p g) =
      some (.exit 1, env3, mem (ts ++ [{ t with a := (p : Int) }]) l ((p + (begins (l.drop p)).length : Nat) : Int) g')) ∧
    (tokOf (begins (l.drop p)) = none → (∃ e g', iter (evalCode (evalFn tabT X G0 (k + 2)) (fun f => (X f).isSome) G0 88 (k + 2) false lp52_0) (k + 2) (env52 0) (mem ts l p g) = some (.ret, e, memB ts l p p g')) ∨
      iter (evalCode (evalFn tabT X G0 (k + 2)) (fun f => (X f).isSome) G0 88 (k + 2) false lp52_0) (k + 2) (env52 0) (mem ts l p g) = some (.exit 2, env52 2 ++ [(41, .bool false)], mem ts l p g)) := by
  have r1 := reads53 h67 h53 h41 p hp hl hk ts hts g
  have r2 := reads54 (k := k) h60 h54 h41 p hp hl ts hts g
  obtain ⟨k, rfl⟩ : ∃ j, k = j + 1 := ⟨k - 1, by omega⟩
  unfold begins
  by_cases hw : (l.drop p).takeWhile isW = []
  · rw [if_pos hw]
    rw [hw] at r1
    have h1 := r1.none' rfl
    rw [show (0 : Int) + 1 = 1 from rfl] at h1
    constructor
    · intro t ht
      obtain ⟨g', h2⟩ := r2.tok t ht
      refine ⟨g', ?_⟩
      rw [iter_next h1, iter_exit h2]
    · intro ht
      by_cases hs : symAt (l.drop p) = []
      · have h2 := r2.none' hs
        rw [show (1 : Int) + 1 = 2 from rfl] at h2
        refine .inr ?_
        rw [iter_next h1, iter_next h2]
        exact iter_exit lp52_0e
      · obtain ⟨e, g', h2⟩ := r2.bad hs ht
        refine .inl ⟨e, g', ?_⟩
        rw [iter_next h1, iter_ret h2]
  · rw [if_neg hw]
    constructor
    · intro t ht
      obtain ⟨g', h2⟩ := r1.tok t ht
      exact ⟨g', iter_exit h2⟩
    · intro ht
      obtain ⟨e, g', h2⟩ := r1.bad hw ht
      exact .inl ⟨e, g', iter_ret h2⟩
theorem lp52 {X : Ext} {k : Nat} (h67 : X 67 = some (wk g67)) (h53 : X 53 = none) (h60 : X 60 = some (wk g60)) (h54 : X 54 = none) (h41 : X 41 = some (wk g41)) (h55 : X 55 = none) {l : Bs} (p : Nat) (hp : p < l.length) (hl : l.length ≤ 30000) (hk : l.length < k)
    (ts : List Tok) (hts : ts.length ≤ 30000) (g : St) :
    (∀ t, tokOf (begins (l.drop p)) = some t → ∃ g', evalCode (evalFn tabT X G0 (k + 2)) (fun f => (X f).isSome) G0 88 (k + 2) false lp52_1 env3 (mem ts l p g) =
      some (.normal, env3, mem (ts ++ [{ t with a := (p : Int) }]) l ((p + (begins (l.drop p)).length + spaceLen false (l.drop (p + (begins (l.drop p)).length)) : Nat) : Int) g')) ∧
    (tokOf (begins (l.drop p)) = none → ∃ e g', evalCode (evalFn tabT X G0 (k + 2)) (fun f => (X f).isSome) G0 88 (k + 2) false lp52_1 env3 (mem ts l p g) = some (.ret, e, memB ts l p p g')) := by
  have hit := it52_0 (X := X) (k := k) h67 h53 h60 h54 h41 p (by omega) hl hk ts hts g
  have hbl := begins_len (l.drop p)
  rw [List.length_drop] at hbl
  constructor
  · intro t ht
    obtain ⟨g', h⟩ := hit.1 t ht
    refine ⟨g', ?_⟩
    generalize (begins (l.drop p)).length = w at *
    obtain ⟨q, hq⟩ : ∃ q, p + w = q := ⟨_, rfl⟩
    rw [hq] at h ⊢
    have hs := fun o0 o1 o2 o3 g => ev55 (X := X) (k := k) (o0 := o0) (o1 := o1) (o2 := o2) (o3 := o3) (g := g) h67 h55 (l := l) q (by omega) hl hk
    generalize q + spaceLen false (l.drop q) = r at *
    simp [lp52_1, hp, h, hs]
  · intro ht
    rcases hit.2 ht with ⟨e, g', h⟩ | h
    · exact ⟨e, g', by simp [lp52_1, hp, h]⟩
    · have hrd := fun g => round_bad (X := X) (k := k + 1) ⟨0, [], 0, p⟩ ts l p g
      simp only at hrd
      refine ⟨[], ?g, ?_⟩
      case g => exact g ++ [.box [.int .i64 0, .str [], .int .i64 0, .int .i64 p]]
      simp [lp52_1, hp, h, hrd, fillD]
theorem lp52e {cf : CallF} {x : FuncId → Bool} {k : Nat} {l : Bs} {ts : List Tok} {g : St} :
    evalCode cf x G0 88 k false lp52_1 env3 (mem ts l l.length g) = some (.exit 0, env3 ++ [(33, .bool false)], mem ts l l.length g) := by
  simp [lp52_1]
theorem it52 {X : Ext} {k m : Nat} (h67 : X 67 = some (wk g67)) (h53 : X 53 = none) (h60 : X 60 = some (wk g60)) (h54 : X 54 = none) (h41 : X 41 = some (wk g41)) (h55 : X 55 = none) {l : Bs} (hl : l.length ≤ 30000) (hk : l.length < k) :
    ∀ (f r : Nat) (ts : List Tok) (g : St), r ≤ l.length → l.length - r < f → ts.length ≤ r →
    match lexR f (l.drop r) r with
    | .ok us => (ts ++ us).length ≤ l.length ∧ ∃ g', iter (evalCode (evalFn tabT X G0 (k + 2)) (fun f => (X f).isSome) G0 88 (k + 2) false lp52_1) (m + f) env3 (mem ts l ((r + spaceLen false (l.drop r) : Nat) : Int) g) =
        some (.exit 0, env3 ++ [(33, .bool false)], mem (ts ++ us) l l.length g')
    | .error e => ∃ e' vs p g', iter (evalCode (evalFn tabT X G0 (k + 2)) (fun f => (X f).isSome) G0 88 (k + 2) false lp52_1) (m + f) env3 (mem ts l ((r + spaceLen false (l.drop r) : Nat) : Int) g) =
        some (.ret, e', memB vs l p e g')
  | 0, r, ts, g, hr, hf, hts => by omega
  | f + 1, r, ts, g, hr, hf, hts => by
    rw [lexR]
    have hsp := spaceLen_le false (l.drop r)
    rw [List.length_drop] at hsp
    rw [List.drop_drop]
    generalize hp : r + spaceLen false (l.drop r) = p at *
    by_cases hend : l.drop p = []
    · rw [if_pos hend]
      have hpl : p = l.length := by
        have : (l.drop p).length = 0 := by rw [hend]; rfl
        rw [List.length_drop] at this; omega
      simp only [List.append_nil]
      refine ⟨by omega, g, ?_⟩
      rw [show m + (f + 1) = (m + f) + 1 from rfl, hpl]
      exact iter_exit lp52e
    · rw [if_neg hend]
      have hlt : p < l.length := by
        rcases Nat.lt_or_ge p l.length with h | h
        · exact h
        · exact absurd (List.drop_eq_nil_of_le h) hend
      have hb := lp52 (X := X) (k := k) h67 h53 h60 h54 h41 h55 p hlt hl hk ts (by omega) g
      have hbl := begins_len (l.drop p)
      rw [List.length_drop] at hbl
      cases ht : tokOf (begins (l.drop p)) with
      | none =>
        obtain ⟨e, g', hσ⟩ := hb.2 ht
        exact ⟨e, ts, p, g', iter_ret hσ⟩
      | some t =>
        obtain ⟨g1, hb⟩ := hb.1 t ht
        have hne : 1 ≤ (begins (l.drop p)).length := by
          rcases Nat.eq_zero_or_pos (begins (l.drop p)).length with h | h
          · rw [List.length_eq_zero_iff.1 h, tokOf_nil] at ht; cases ht
          · exact h
        simp only
        rw [List.drop_drop]
        generalize (begins (l.drop p)).length = w at *
        have ih := it52 (X := X) (k := k) (m := m) h67 h53 h60 h54 h41 h55 hl hk f (p + w) (ts ++ [{ t with a := (p : Int) }]) g1 (by omega) (by omega) (by simp; omega)
        rw [show m + (f + 1) = (m + f) + 1 from rfl]
        cases hx : lexR f (l.drop (p + w)) (p + w) with
        | ok us =>
          rw [hx] at ih
          obtain ⟨h1, g', h2⟩ := ih
          rw [List.append_assoc] at h1 h2
          refine ⟨h1, g', ?_⟩
          rw [iter_next hb]
          exact h2
        | error e =>
          rw [hx] at ih
          obtain ⟨e', vs, p', g', h2⟩ := ih
          refine ⟨e', vs, p', g', ?_⟩
          rw [iter_next hb]
          exact h2
/-- All tokens. -/
theorem ev52 {X : Ext} {k : Nat} (h67 : X 67 = some (wk g67)) (h53 : X 53 = none) (h60 : X 60 = some (wk g60)) (h54 : X 54 = none) (h41 : X 41 = some (wk g41)) (h55 : X 55 = none) (h52 : X 52 = none) {l : Bs} (hl : l.length ≤ 30000) (hk : l.length < k) :
    match lexR (l.length + 1) l 0 with
    | .ok us => us.length ≤ l.length ∧ ∃ g', evalFn tabT X G0 (k + 3) (.fn 52) [.yield 6, .ptr 5 0] (mem [] l 0 []) = some (.ret (.tuple []), mem us l l.length g')
    | .error e => ∃ vs p g', evalFn tabT X G0 (k + 3) (.fn 52) [.yield 6, .ptr 5 0] (mem [] l 0 []) = some (.ret (.tuple []), memB vs l p e g') := by
  have hit := it52 (X := X) (k := k) (m := k + 1 - l.length) h67 h53 h60 h54 h41 h55 hl hk (l.length + 1) 0 [] [] (by omega) (by omega) (by simp)
  have hs : ∀ (o0 o1 o2 o3 : Obj) (g : St), evalFn tabT X G0 (k + 2) (.fn 55) [.ptr 4 0] (o0 :: o1 :: o2 :: o3 :: .box [.str l, .int .i64 0] :: g) =
      some (.ret (.tuple []), o0 :: o1 :: o2 :: o3 :: .box [.str l, .int .i64 ((0 + spaceLen false (l.drop 0) : Nat) : Int)] :: g) := fun o0 o1 o2 o3 g => ev55 (X := X) (k := k) (o0 := o0) (o1 := o1) (o2 := o2) (o3 := o3) (g := g) h67 h55 (l := l) 0 (by omega) hl hk
  rw [show k + 1 - l.length + (l.length + 1) = k + 2 by omega] at hit
  simp only [List.drop_zero, Nat.zero_add, Int.natCast_zero, List.nil_append] at hit hs
  generalize spaceLen false l = sp at *
  cases hx : lexR (l.length + 1) l 0 with
  | ok us =>
    rw [hx] at hit
    obtain ⟨h1, g', h⟩ := hit
    refine ⟨h1, g', ?_⟩
    change iter _ _ _ [.row 4 [] 0, .box [.arr 0 0 0 0], .box [.int .i64 0], .box [.int .i64 0], .box [.str l, .int .i64 sp], .box [.ptr 4 0], lpO .ready none] = _ at h
    simp only [evalFn, h52, tab52]
    simp [af52, hs, h, fillRow]
  | error e =>
    rw [hx] at hit
    obtain ⟨e', vs, p, g', h⟩ := hit
    refine ⟨vs, p, g', ?_⟩
    change iter _ _ _ [.row 4 [] 0, .box [.arr 0 0 0 0], .box [.int .i64 0], .box [.int .i64 0], .box [.str l, .int .i64 sp], .box [.ptr 4 0], lpO .ready none] = _ at h
    simp only [evalFn, h52, tab52]
    simp [af52, hs, h, fillRow]

/-- Lex. -/
theorem c14 {X : Ext} (h67 : X 67 = some (wk g67)) (h53 : X 53 = none) (h60 : X 60 = some (wk g60)) (h54 : X 54 = none) (h41 : X 41 = some (wk g41)) (h55 : X 55 = none) (h52 : X 52 = none) (h37 : X 37 = none) (h : X 14 = none)
    (args : List D) (r : D) (hg : g15 args = some r) : Comp tabT X G0 14 args r := by
  unfold g15 at hg
  split at hg
  · rename_i l
    split at hg
    · rename_i hlen
      cases hg
      unfold lexD lexT
      by_cases hl : l.length ≤ 30000
      · rw [if_neg (by omega)]
        refine comp_runF (l.length + 4) h tab14 ⟨rfl, by decide⟩ ?_
        have hl1 : ¬ (30000 : Int) < l.length := by omega
        have h52 := ev52 (X := X) (k := l.length + 1) h67 h53 h60 h54 h41 h55 h52 hl (by omega)
        have h37 : ∀ σ, evalFn tabT X G0 (l.length + 4) (.fn 37) [.ptr 4 0] σ = some (.ret (.func 52 [] [.ptr σ.length 0]), σ ++ [.box [.ptr 4 0]]) := fun σ => by
          simp only [evalFn, h37, tab37]
          simp [af37]
        cases hx : lexR (l.length + 1) l 0 with
        | ok us =>
          rw [hx] at h52
          obtain ⟨hu, g', h52⟩ := h52
          change evalFn _ _ _ _ _ _ [.row 4 [] 0, .box [.arr 0 0 0 0], .box [.int .i64 0], .box [.int .i64 0], .box [.str l, .int .i64 0], .box [.ptr 4 0], .loop 28 env14 [17, 18] as14_0 bd14_1 .ready none] = _ at h52
          rw [show l.length + 1 + 3 = l.length + 4 from rfl] at h52
          have hms := fun n σ => mapM_strip n σ us
          have htk : List.take us.length (us.map tokD) = us.map tokD := List.take_of_length_le (by simp)
          simp [runF, af14, hl1, fillD, h37, h52, rowOf, hms, htk]
        | error e =>
          rw [hx] at h52
          obtain ⟨vs, p, g', h52⟩ := h52
          change evalFn _ _ _ _ _ _ [.row 4 [] 0, .box [.arr 0 0 0 0], .box [.int .i64 0], .box [.int .i64 0], .box [.str l, .int .i64 0], .box [.ptr 4 0], .loop 28 env14 [17, 18] as14_0 bd14_1 .ready none] = _ at h52
          rw [show l.length + 1 + 3 = l.length + 4 from rfl] at h52
          simp [runF, af14, hl1, fillD, h37, h52]
      · rw [if_pos (by omega)]
        refine comp_runF 1 h tab14 ⟨rfl, by decide⟩ ?_
        have hl1 : (30000 : Int) < l.length := by omega
        simp [runF, af14, hl1]
    · cases hg
  · cases hg
theorem k14 {X : Ext} {k : Nat} {σ : St} (h : X 14 = some (wk g15)) (l : Bs) (hl : l.length ≤ 9223372036854775000) :
    evalFn tabT X G0 (k + 1) (.fn 14) [.str l] σ = some (.ret (lexD l), σ) :=
  call_ext h rfl rfl (by simp only [g15]; rw [if_pos hl])
end Go.AI
