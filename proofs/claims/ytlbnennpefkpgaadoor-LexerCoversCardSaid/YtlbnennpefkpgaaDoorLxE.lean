/- What functions of the lexer compute: Join, Where. No conditions of its own. -/
import Derived.Test.YtlbnennpefkpgaaDoorLxD
set_option linter.unusedVariables false
set_option linter.unusedSimpArgs false
namespace Go.AI
open Go Go.Lx
set_option maxRecDepth 100000
set_option linter.unusedSimpArgs false

theorem digsF_len20 (n : Nat) : (digs n).length ≤ 20 := digsF_length 20 n
theorem itoa_len (n : Int) : (itoa n).length ≤ 21 := by
  unfold itoa
  split
  · have := digsF_len20 n.natAbs; simp; omega
  · have := digsF_len20 n.toNat; omega
theorem mem_len12 {s : Bs} (h : isKey s = true) : s.length ≤ 12 := by
  have := List.contains_iff_mem.1 h
  revert this
  have : ∀ w ∈ kws, w.length ≤ 12 := by decide
  exact this s
theorem wordOf_len {p : UInt8 → Bool} {s : Bs} (h : wordOf p s = true) : s.length ≤ 12 := by
  cases s with
  | nil => simp
  | cons c r =>
    simp only [wordOf, Bool.and_eq_true, decide_eq_true_eq] at h
    simp; omega
theorem isInt_len {s : Bs} (h : isInt s = true) : s.length ≤ 9 := by
  cases s with
  | nil => simp
  | cons c r =>
    simp only [isInt, Bool.and_eq_true, decide_eq_true_eq] at h
    simp; omega
theorem tokOf_len {s : Bs} {t : Tok} (h : tokOf s = some t) : s.length ≤ 12 := by
  unfold tokOf at h
  split at h
  · rename_i hi; have := isInt_len hi; omega
  · split at h
    · rename_i hi; exact mem_len12 hi
    · split at h
      · rename_i hi; simp only [varW, Bool.and_eq_true] at hi; exact wordOf_len hi.1
      · split at h
        · rename_i hi; exact wordOf_len hi
        · split at h
          · rename_i hi
            have := List.contains_iff_mem.1 hi
            revert this
            have : ∀ w ∈ syms, w.length ≤ 12 := by decide
            exact this s
          · cases h
theorem valid_len {t : Tok} (h : validT t = true) : (textOf t).length ≤ 12 := by
  unfold validT at h
  cases hx : tokOf (textOf t) with
  | none => rw [hx] at h; simp at h
  | some u => exact tokOf_len hx

/-- What Join adds up: the lengths, and one for each blank. -/
def sumL (l : List Tok) : Nat := (l.map fun t => (textOf t).length).sum
theorem sumL_append (a : List Tok) (t : Tok) : sumL (a ++ [t]) = sumL a + (textOf t).length := by simp [sumL]
theorem sumL_le : ∀ (l : List Tok), l.all validT = true → sumL l ≤ 12 * l.length
  | [], _ => by simp [sumL]
  | a :: r, h => by
    simp only [List.all_cons, Bool.and_eq_true] at h
    have := sumL_le r h.2
    have := valid_len h.1
    simp only [sumL, List.map_cons, List.sum_cons, List.length_cons] at *
    omega
theorem manyS_eq (l : List Tok) : manyS (l.map textOf) = sumL l + (l.length - 1) := by
  simp [manyS, sumL, Function.comp_def]

/-! Join of the lexer -/
theorem lp18 {X : Ext} {k : Nat} (h24 : X 24 = some (wk g46)) (h41 : X 41 = some (wk g41)) {l : List Tok} (i : Nat) (hi : i < l.length) (hl : l.length ≤ 4000000000000) (hR : inR l[i].n) (ws : List Bs) (hws : ws.length ≤ 4000000000000) (m : Nat) (hm : m ≤ 100000000000000) (g : St) :
    (validT l[i] = true → ∃ g', evalCode (evalFn tabT X G0 (k + 1)) (fun f => (X f).isSome) G0 60 (k + 1) false lp18_0 [(4, .arr 0 ws.length 0 ws.length), (5, .int .i64 m), (18, toksD l), (19, .int .i64 l.length), (20, .int .i64 i)] (.row 1 (ws.map .str) 0 :: g) =
      some (.normal, [(4, .arr 0 (ws.length + 1) 0 (ws.length + 1)), (5, .int .i64 ((m + (textOf l[i]).length : Nat) : Int)), (18, toksD l), (19, .int .i64 l.length), (20, .int .i64 ((i + 1 : Nat) : Int))], .row 1 ((ws ++ [textOf l[i]]).map .str) 0 :: g')) ∧
    (validT l[i] = false → ∃ σ', evalCode (evalFn tabT X G0 (k + 1)) (fun f => (X f).isSome) G0 60 (k + 1) false lp18_0 [(4, .arr 0 ws.length 0 ws.length), (5, .int .i64 m), (18, toksD l), (19, .int .i64 l.length), (20, .int .i64 i)] (.row 1 (ws.map .str) 0 :: g) =
      some (.ret, [(2, .str []), (3, .int .i64 1)], σ')) := by
  have hw : IntKind.i64.wrap ((i : Int) + 1) = i + 1 := wrap_i64 (by omega) (by omega)
  have hvl : validT l[i] = true → (textOf l[i]).length ≤ 12 := valid_len
  have hit : (i : Int) < l.length := by omega
  obtain ⟨t, ht⟩ : ∃ t, l[i] = t := ⟨_, rfl⟩
  rw [ht] at hR hvl ⊢
  have hk := fun σ => k24 (X := X) (k := k) (σ := σ) h24 hR
  have hk41 := fun σ => k41 (X := X) (k := k) (σ := σ) h41 (textOf t)
  have hv : validT t = (tokOf (textOf t) == some { t with a := 0 }) := rfl
  have hlen : ((ws.length : Nat) + 1) * 16 ≤ 140737488355328 := by omega
  obtain ⟨tk, ts, tn, ta⟩ := t
  simp only at hk
  -- the text
  have htx : textOf ⟨tk, ts, tn, ta⟩ = if tk = 3 then itoa tn else ts := rfl
  constructor
  · intro h
    have hvl := hvl h
    rw [hv] at h
    have hto : tokOf (textOf ⟨tk, ts, tn, ta⟩) = some ⟨tk, ts, tn, 0⟩ := by simpa using h
    unfold tokB at hk41
    rw [hto] at hk41
    by_cases h3 : tk = 3
    · rw [htx, if_pos h3] at hk41 hvl ⊢
      generalize itoa tn = w at *
      have hw2 : IntKind.i64.wrap ((m : Int) + w.length) = m + w.length := wrap_i64 (by omega) (by omega)
      refine ⟨?g, ?_⟩
      case g => exact g ++ [.box [.int .i64 tk, .str ts, .int .i64 tn, .int .i64 ta]] ++ [.box [.int .i64 tk, .str ts, .int .i64 tn, .int .i64 ta]]
      simp [lp18_0, hi, hit, ht, h3, hk, hk41, set_concat, hw, hw2, flatEqs, D.kindEq, eqD, fillRow, rowOf, hlen]
    · rw [htx, if_neg h3] at hk41 hvl ⊢
      have h3' : (tk == 3) = false := by simpa using h3
      have hw2 : IntKind.i64.wrap ((m : Int) + ts.length) = m + ts.length := wrap_i64 (by omega) (by omega)
      refine ⟨?g, ?_⟩
      case g => exact g ++ [.box [.int .i64 tk, .str ts, .int .i64 tn, .int .i64 ta]] ++ [.box [.int .i64 tk, .str ts, .int .i64 tn, .int .i64 ta]]
      simp [lp18_0, hi, hit, ht, h3, h3', hk41, set_concat, hw, hw2, flatEqs, D.kindEq, eqD, fillRow, rowOf, hlen]
  · intro h
    clear hvl
    rw [hv] at h
    unfold tokB at hk41
    cases hto : tokOf (textOf ⟨tk, ts, tn, ta⟩) with
    | none =>
      rw [hto] at hk41
      by_cases h3 : tk = 3
      · rw [htx, if_pos h3] at hk41
        generalize itoa tn = w at *
        refine ⟨?g, ?_⟩
        case g => exact .row 1 (ws.map .str) 0 :: (g ++ [.box [.int .i64 tk, .str ts, .int .i64 tn, .int .i64 ta]] ++ [.box [.int .i64 0, .str [], .int .i64 0, .int .i64 ta]])
        simp [lp18_0, hi, hit, ht, h3, hk, hk41, set_concat]
      · rw [htx, if_neg h3] at hk41
        have h3' : (tk == 3) = false := by simpa using h3
        refine ⟨?g, ?_⟩
        case g => exact .row 1 (ws.map .str) 0 :: (g ++ [.box [.int .i64 tk, .str ts, .int .i64 tn, .int .i64 ta]] ++ [.box [.int .i64 0, .str [], .int .i64 0, .int .i64 ta]])
        simp [lp18_0, hi, hit, ht, h3, h3', hk41, set_concat]
    | some u =>
      rw [hto] at hk41 h
      obtain ⟨_, ha, _, _⟩ := tokOf_some hto
      obtain ⟨uk, us, un, ua⟩ := u
      simp only at ha hk41
      subst ha
      have hne : (uk == tk && (us == ts && un == tn)) = false := by
        rw [Bool.eq_false_iff]
        intro hh
        simp only [Bool.and_eq_true, beq_iff_eq] at hh
        obtain ⟨rfl, rfl, rfl⟩ := hh
        simp at h
      by_cases h3 : tk = 3
      · rw [htx, if_pos h3] at hk41
        generalize itoa tn = w at *
        refine ⟨?g, ?_⟩
        case g => exact .row 1 (ws.map .str) 0 :: (g ++ [.box [.int .i64 tk, .str ts, .int .i64 tn, .int .i64 ta]] ++ [.box [.int .i64 uk, .str us, .int .i64 un, .int .i64 ta]])
        subst h3
        cases h1 : uk == 3
        · simp [lp18_0, hi, hit, ht, hk, hk41, set_concat, flatEqs, D.kindEq, eqD, h1]
        · cases h2 : us == ts
          · simp [lp18_0, hi, hit, ht, hk, hk41, set_concat, flatEqs, D.kindEq, eqD, h1, h2]
          · rw [h1, h2] at hne
            simp only [Bool.true_and] at hne
            simp [lp18_0, hi, hit, ht, hk, hk41, set_concat, flatEqs, D.kindEq, eqD, h1, h2, hne]
      · rw [htx, if_neg h3] at hk41
        have h3' : (tk == 3) = false := by simpa using h3
        refine ⟨?g, ?_⟩
        case g => exact .row 1 (ws.map .str) 0 :: (g ++ [.box [.int .i64 tk, .str ts, .int .i64 tn, .int .i64 ta]] ++ [.box [.int .i64 uk, .str us, .int .i64 un, .int .i64 ta]])
        cases h1 : uk == tk
        · simp [lp18_0, hi, hit, ht, h3', hk41, set_concat, flatEqs, D.kindEq, eqD, h1]
        · cases h2 : us == ts
          · simp [lp18_0, hi, hit, ht, h3', hk41, set_concat, flatEqs, D.kindEq, eqD, h1, h2]
          · rw [h1, h2] at hne
            simp only [Bool.true_and] at hne
            simp [lp18_0, hi, hit, ht, h3', hk41, set_concat, flatEqs, D.kindEq, eqD, h1, h2, hne]
theorem lp18e {cf : CallF} {x : FuncId → Bool} {k : Nat} {l : List Tok} {d : D} {m : Int} {σ : St} :
    evalCode cf x G0 60 k false lp18_0 [(4, d), (5, .int .i64 m), (18, toksD l), (19, .int .i64 l.length), (20, .int .i64 l.length)] σ =
      some (.exit 0, [(4, d), (5, .int .i64 m), (18, toksD l), (19, .int .i64 l.length), (20, .int .i64 l.length), (21, .bool false)], σ) := by
  simp [lp18_0]
theorem it18 {X : Ext} {k j : Nat} (h24 : X 24 = some (wk g46)) (h41 : X 41 = some (wk g41)) {l : List Tok} (hl : l.length ≤ 4000000000000) (hR : ∀ t ∈ l, inR t.n) (m0 : Nat) (hm0 : m0 ≤ 4000000000000) : ∀ (r pre : List Tok) (g : St), l = pre ++ r → pre.all validT = true →
    (l.all validT = true → ∃ g', iter (evalCode (evalFn tabT X G0 (k + 1)) (fun f => (X f).isSome) G0 60 (k + 1) false lp18_0) (j + r.length + 1) [(4, .arr 0 pre.length 0 pre.length), (5, .int .i64 ((m0 + sumL pre : Nat) : Int)), (18, toksD l), (19, .int .i64 l.length), (20, .int .i64 pre.length)] (.row 1 ((pre.map textOf).map .str) 0 :: g) =
      some (.exit 0, [(4, .arr 0 l.length 0 l.length), (5, .int .i64 ((m0 + sumL l : Nat) : Int)), (18, toksD l), (19, .int .i64 l.length), (20, .int .i64 l.length), (21, .bool false)], .row 1 ((l.map textOf).map .str) 0 :: g')) ∧
    (l.all validT = false → ∃ σ', iter (evalCode (evalFn tabT X G0 (k + 1)) (fun f => (X f).isSome) G0 60 (k + 1) false lp18_0) (j + r.length + 1) [(4, .arr 0 pre.length 0 pre.length), (5, .int .i64 ((m0 + sumL pre : Nat) : Int)), (18, toksD l), (19, .int .i64 l.length), (20, .int .i64 pre.length)] (.row 1 ((pre.map textOf).map .str) 0 :: g) =
      some (.ret, [(2, .str []), (3, .int .i64 1)], σ'))
  | [], pre, g, h, hp => by
    have hpl : pre = l := by rw [h]; simp
    subst hpl
    refine ⟨fun _ => ⟨g, iter_exit lp18e⟩, fun hf => ?_⟩
    rw [hp] at hf; cases hf
  | a :: r, pre, g, h, hp => by
    have hi : pre.length < l.length := by rw [h]; simp
    have ha : l[pre.length] = a := by simp [h]
    have hRa : inR l[pre.length].n := hR _ (List.getElem_mem hi)
    have hs := sumL_le pre hp
    have hb := lp18 (X := X) (k := k) h24 h41 pre.length hi hl hRa (pre.map textOf) (by simp; omega) (m0 + sumL pre) (by omega) g
    rw [ha] at hb
    simp only [List.length_map] at hb
    cases hv : validT a
    · have hall : l.all validT = false := by rw [h]; simp [hv]
      obtain ⟨σ', h2⟩ := hb.2 hv
      refine ⟨fun ht => (by rw [hall] at ht; cases ht), fun _ => ⟨σ', iter_ret h2⟩⟩
    · obtain ⟨g1, h2⟩ := hb.1 hv
      have ih := it18 (X := X) (k := k) (j := j) h24 h41 hl hR m0 hm0 r (pre ++ [a]) g1 (by rw [h]; simp) (by simp [hp, hv])
      simp only [List.length_append, List.length_cons, List.length_nil, Nat.zero_add, List.map_append, List.map_cons, List.map_nil, sumL_append] at ih h2
      rw [Nat.add_assoc] at h2
      rw [show j + (a :: r).length + 1 = (j + r.length + 1) + 1 by simp; omega, iter_next h2]
      exact ih

theorem joinS_length : ∀ (l : List Bs), (joinS l).length = manyS l
  | [] => rfl
  | [x] => by simp [joinS, manyS]
  | x :: y :: r => by
    have := joinS_length (y :: r)
    simp only [joinS, manyS, List.length_append, List.length_cons, List.map_cons, List.sum_cons] at *
    omega
theorem mapM_strip_str (n : Nat) (σ : St) : ∀ (l : List Bs), (l.map D.str).mapM (strip n σ) = some (l.map .str)
  | [] => rfl
  | a :: r => by
    rw [List.map_cons, List.mapM_cons, mapM_strip_str n σ r, strip_of_tree (by rfl)]
    rfl
theorem ev42 {X : Ext} {k : Nat} {g : St} (h61 : X 61 = some (wk g61)) (h42 : X 42 = none) {ws : List Bs} (h1 : ws.length ≤ 140737488355328) (h2 : (joinS ws).length ≤ 140737488355328) :
    evalFn tabT X G0 (k + 2) (.fn 42) [.arr 0 ws.length 0 ws.length] (.row 1 (ws.map .str) 0 :: g) = some (.ret (.str (joinS ws)), .row 1 (ws.map .str) 0 :: g) := by
  have htk : List.take ws.length (ws.map D.str) = ws.map .str := List.take_of_length_le (by simp)
  have hms := fun n σ => mapM_strip_str n σ ws
  have hc : callExt (wk g61) [.arr 0 ws.length 0 ws.length, .str [32]] (.row 1 (ws.map .str) 0 :: g) = some (.ret (.str (joinS ws)), .row 1 (ws.map .str) 0 :: g) := by
    have hg : wk g61 [.slice (ws.map .str), .str [32]] = some (.str (joinS ws)) := by
      simp only [wk, weakL, D.weak, weakL_str, g61, unstrs_map]
      rw [if_pos ⟨h1, h2, trivial⟩]
    simp [callExt, rowOf, htk, hms, hg, D.flat]
  have hx := evalFn_ext (T := tabT) (glob := G0) (k := k) (args := [.arr 0 ws.length 0 ws.length, .str [32]]) (σ := .row 1 (ws.map .str) 0 :: g) h61
  rw [hc] at hx
  rw [show k + 2 = (k + 1) + 1 from rfl]
  simp only [evalFn.eq_3, h42, tab42]
  simp [af42, hx]
def joinD (l : List Tok) : D := .tuple [.str (joinT l).1, .int .i64 (joinT l).2]
def toksOK (l : List Tok) : Prop := l.length ≤ 4000000000000 ∧ ∀ t ∈ l, inR t.n
instance (l : List Tok) : Decidable (toksOK l) := inferInstanceAs (Decidable (_ ∧ _))
def g18 : List D → Option D
  | [.slice es] => match untoks es with
    | some l => if toksOK l then some (joinD l) else none
    | none => none
  | _ => none
theorem c18 {X : Ext} (h24 : X 24 = some (wk g46)) (h41 : X 41 = some (wk g41)) (h61 : X 61 = some (wk g61)) (h42 : X 42 = none) (h : X 18 = none) (args : List D) (r : D) (hg : g18 args = some r) : Comp tabT X G0 18 args r := by
  unfold g18 at hg
  split at hg
  · rename_i es
    split at hg
    · rename_i l hl
      split at hg
      · rename_i hok
        cases hg
        rw [untoks_some hl]
        obtain ⟨hlen, hR⟩ := hok
        refine comp_runF (l.length + 2) h tab18 ⟨rfl, by decide⟩ ?_
        have hit := it18 (X := X) (k := l.length + 1) (j := 1) h24 h41 (by omega) hR (l.length - 1) (by omega) l [] [] rfl rfl
        simp only [List.length_nil, Int.natCast_zero, List.map_nil, sumL, List.sum_nil, Nat.add_zero, show 1 + l.length + 1 = l.length + 2 by omega] at hit
        have hS : (l.map fun t => (textOf t).length).sum = sumL l := rfl
        rw [hS] at hit
        have hw : IntKind.i64.wrap ((l.length : Int) - 1) = l.length - 1 := wrap_i64 (by omega) (by omega)
        have hmx : (if (0 : Int) < l.length - 1 then (l.length : Int) - 1 else 0) = ((l.length - 1 : Nat) : Int) := by split <;> omega
        have hmy : (if (1 : Int) < l.length then (l.length : Int) - 1 else 0) = ((l.length - 1 : Nat) : Int) := by split <;> omega
        rw [show l.length + 1 + 1 = l.length + 2 from rfl] at hit
        have hcap : (l.length : Int).toNat * 16 ≤ 140737488355328 ∧ (l.length : Int).toNat ≤ 140737488355328 := by simp; omega
        have hcap' : l.length * 16 ≤ 140737488355328 ∧ l.length ≤ 140737488355328 := by omega
        unfold joinD joinT
        rw [manyS_eq]
        cases hv : l.all validT
        · obtain ⟨σ', h2⟩ := hit.2 hv
          generalize l.length - 1 = n1 at *
          simp [runF, af18, hw, hmx, hmy, hcap', h2]
        · obtain ⟨g', h2⟩ := hit.1 hv
          have hsl := sumL_le l hv
          have hj := joinS_length (l.map textOf)
          rw [manyS_eq] at hj
          have hcomm : l.length - 1 + sumL l = sumL l + (l.length - 1) := by omega
          rw [hcomm] at h2
          by_cases h3 : 30000 < sumL l + (l.length - 1)
          · have h3' : (30000 : Int) < ((sumL l + (l.length - 1) : Nat) : Int) := by omega
            rw [if_pos h3]
            generalize sumL l + (l.length - 1) = n2 at *
            generalize l.length - 1 = n1 at *
            simp [runF, af18, hw, hmx, hmy, hcap', h2, h3']
          · have h3' : ¬ (30000 : Int) < ((sumL l + (l.length - 1) : Nat) : Int) := by omega
            rw [if_neg h3]
            have h42 := ev42 (X := X) (k := l.length) (g := g') h61 h42 (ws := l.map textOf) (by simp; omega) (by omega)
            rw [List.length_map] at h42
            generalize sumL l + (l.length - 1) = n2 at *
            generalize l.length - 1 = n1 at *
            simp only [List.map_map] at h42 h2
            generalize joinS (l.map textOf) = js at *
            simp [runF, af18, hw, hmx, hmy, hcap', h2, h3', h42]
      · cases hg
    · cases hg
  · cases hg
theorem k18 {X : Ext} {k : Nat} {σ : St} (h : X 18 = some (wk g18)) (l : List Tok) (hl : toksOK l) :
    evalFn tabT X G0 (k + 1) (.fn 18) [toksD l] σ = some (.ret (joinD l), σ) :=
  call_ext h (by simp [treeL, D.tree]) (by simp [weakL, D.weak]) (by simp only [g18, untoks_map]; rw [if_pos hl])
end Go.AI

namespace Go.AI
open Go Go.Lx
set_option maxRecDepth 100000
set_option linter.unusedSimpArgs false

theorem lp19 {X : Ext} {k : Nat} {σ : St} (h43 : X 43 = some (wk g43)) (h35 : X 35 = some (wk g35)) {l : List Tok} (i : Nat) (hi : i < l.length) (hl : l.length ≤ 4000000000000) (hR : inR l[i].n) (m : Nat) (hm : m ≤ 100000000000000) :
    evalCode (evalFn tabT X G0 (k + 1)) (fun f => (X f).isSome) G0 52 (k + 1) false lp19_0 [(0, toksD l), (4, .int .i64 m), (5, .int .i64 i)] σ =
      if validT l[i] then some (.normal, [(0, toksD l), (4, .int .i64 ((m + (textOf l[i]).length + (if 0 < i then 1 else 0) : Nat) : Int)), (5, .int .i64 ((i + 1 : Nat) : Int))], σ)
      else some (.ret, [(2, .str []), (3, .int .i64 1)], σ) := by
  have hw : IntKind.i64.wrap ((i : Int) + 1) = i + 1 := wrap_i64 (by omega) (by omega)
  have hk43 := fun σ => k43 (X := X) (k := k) (σ := σ) h43 l[i] hR
  have hk35 := fun σ => k35 (X := X) (k := k) (σ := σ) h35 l[i] hR
  cases hv : validT l[i]
  · rw [hv] at hk43
    simp [lp19_0, hi, hk43]
  · have hvl := valid_len hv
    rw [hv] at hk43
    generalize textOf l[i] = w at *
    have hw2 : IntKind.i64.wrap ((m : Int) + w.length) = ((m + w.length : Nat) : Int) := by rw [wrap_i64 (by omega) (by omega)]; simp
    have hw3 : IntKind.i64.wrap (((m + w.length : Nat) : Int) + 1) = ((m + w.length + 1 : Nat) : Int) := by rw [wrap_i64 (by omega) (by omega)]; simp
    generalize m + w.length = q at *
    by_cases h0 : 0 < i
    · have h0' : (0 : Int) < i := by omega
      simp [lp19_0, hi, hk43, hk35, hw, hw2, hw3, h0, h0']
    · have h0' : ¬ (0 : Int) < i := by omega
      simp [lp19_0, hi, hk43, hk35, hw, hw2, h0, h0']
theorem lp19e {cf : CallF} {x : FuncId → Bool} {k : Nat} {l : List Tok} {d : D} {σ : St} :
    evalCode cf x G0 52 k false lp19_0 [(0, toksD l), (4, d), (5, .int .i64 l.length)] σ = some (.exit 0, [(0, toksD l), (4, d), (5, .int .i64 l.length), (11, .bool false)], σ) := by
  simp [lp19_0]
theorem it19 {X : Ext} {k j : Nat} {σ : St} (h43 : X 43 = some (wk g43)) (h35 : X 35 = some (wk g35)) {l : List Tok} (hl : l.length ≤ 4000000000000) (hR : ∀ t ∈ l, inR t.n) : ∀ (r pre : List Tok), l = pre ++ r → pre.all validT = true →
    iter (evalCode (evalFn tabT X G0 (k + 1)) (fun f => (X f).isSome) G0 52 (k + 1) false lp19_0) (j + r.length + 1) [(0, toksD l), (4, .int .i64 ((sumL pre + (pre.length - 1) : Nat) : Int)), (5, .int .i64 pre.length)] σ =
      if l.all validT then some (.exit 0, [(0, toksD l), (4, .int .i64 ((sumL l + (l.length - 1) : Nat) : Int)), (5, .int .i64 l.length), (11, .bool false)], σ) else some (.ret, [(2, .str []), (3, .int .i64 1)], σ)
  | [], pre, h, hp => by
    have hpl : pre = l := by rw [h]; simp
    subst hpl
    rw [hp]
    exact iter_exit lp19e
  | a :: r, pre, h, hp => by
    have hi : pre.length < l.length := by rw [h]; simp
    have ha : l[pre.length] = a := by simp [h]
    have hRa : inR l[pre.length].n := hR _ (List.getElem_mem hi)
    have hs := sumL_le pre hp
    have hb := lp19 (X := X) (k := k) (σ := σ) h43 h35 pre.length hi hl hRa (sumL pre + (pre.length - 1)) (by omega)
    rw [ha] at hb
    cases hv : validT a
    · rw [hv] at hb
      have hall : l.all validT = false := by rw [h]; simp [hv]
      rw [hall]
      exact iter_ret hb
    · rw [hv] at hb
      have ih := it19 (X := X) (k := k) (j := j) (σ := σ) h43 h35 hl hR r (pre ++ [a]) (by rw [h]; simp) (by simp [hp, hv])
      have he : sumL (pre ++ [a]) + ((pre ++ [a]).length - 1) = sumL pre + (pre.length - 1) + (textOf a).length + (if 0 < pre.length then 1 else 0) := by
        rw [sumL_append, List.length_append]
        simp only [List.length_cons, List.length_nil]
        split <;> omega
      rw [he] at ih
      simp only [List.length_append, List.length_cons, List.length_nil, Nat.zero_add] at ih
      rw [show j + (a :: r).length + 1 = (j + r.length + 1) + 1 by simp; omega, iter_next hb]
      exact ih
theorem joinS_append : ∀ (l : List Bs) (a : Bs), joinS (l ++ [a]) = if l = [] then a else joinS l ++ 32 :: a
  | [], a => rfl
  | [x], a => by simp [joinS]
  | x :: y :: r, a => by
    have := joinS_append (y :: r) a
    simp only [List.cons_append, joinS, reduceCtorEq, if_false] at *
    rw [this]; simp
theorem sumL_mono (a b : List Tok) : sumL a + (a.length - 1) ≤ sumL (a ++ b) + ((a ++ b).length - 1) := by
  simp [sumL]; omega
theorem lp19b {X : Ext} {k : Nat} {σ : St} (h35 : X 35 = some (wk g35)) {l : List Tok} (i : Nat) (hi : i < l.length) (hl : l.length ≤ 4000000000000) (hR : inR l[i].n) (o : Bs) (ho : o.length ≤ 30000) (hv : (textOf l[i]).length ≤ 12) :
    evalCode (evalFn tabT X G0 (k + 1)) (fun f => (X f).isSome) G0 52 (k + 1) false lp19_1 [(0, toksD l), (6, .str o), (7, .int .i64 i)] σ =
      some (.normal, [(0, toksD l), (6, .str (if 0 < i then o ++ 32 :: textOf l[i] else o ++ textOf l[i])), (7, .int .i64 ((i + 1 : Nat) : Int))], σ) := by
  have hw : IntKind.i64.wrap ((i : Int) + 1) = i + 1 := wrap_i64 (by omega) (by omega)
  have hk35 := fun σ => k35 (X := X) (k := k) (σ := σ) h35 l[i] hR
  generalize textOf l[i] = w at *
  have h1 : o.length + 1 ≤ 9223372036854775807 := by omega
  have h2 : o.length + 1 + w.length ≤ 9223372036854775807 := by omega
  have h3 : o.length + w.length ≤ 9223372036854775807 := by omega
  by_cases h0 : 0 < i
  · have h0' : (0 : Int) < i := by omega
    simp [lp19_1, hi, hk35, hw, h0, h0', h1, h2]
  · have h0' : ¬ (0 : Int) < i := by omega
    simp [lp19_1, hi, hk35, hw, h0, h0', h3]
theorem lp19be {cf : CallF} {x : FuncId → Bool} {k : Nat} {l : List Tok} {d : D} {σ : St} :
    evalCode cf x G0 52 k false lp19_1 [(0, toksD l), (6, d), (7, .int .i64 l.length)] σ = some (.exit 2, [(0, toksD l), (6, d), (7, .int .i64 l.length), (37, .bool false)], σ) := by
  simp [lp19_1]
theorem it19b {X : Ext} {k j : Nat} {σ : St} (h35 : X 35 = some (wk g35)) {l : List Tok} (hl : l.length ≤ 4000000000000) (hR : ∀ t ∈ l, inR t.n) (hv : l.all validT = true) (hm : sumL l + (l.length - 1) ≤ 30000) : ∀ (r pre : List Tok), l = pre ++ r →
    iter (evalCode (evalFn tabT X G0 (k + 1)) (fun f => (X f).isSome) G0 52 (k + 1) false lp19_1) (j + r.length + 1) [(0, toksD l), (6, .str (joinS (pre.map textOf))), (7, .int .i64 pre.length)] σ =
      some (.exit 2, [(0, toksD l), (6, .str (joinS (l.map textOf))), (7, .int .i64 l.length), (37, .bool false)], σ)
  | [], pre, h => by
    have hpl : pre = l := by rw [h]; simp
    subst hpl
    exact iter_exit lp19be
  | a :: r, pre, h => by
    have hi : pre.length < l.length := by rw [h]; simp
    have ha : l[pre.length] = a := by simp [h]
    have hRa : inR l[pre.length].n := hR _ (List.getElem_mem hi)
    have hva : validT l[pre.length] = true := List.all_eq_true.1 hv _ (List.getElem_mem hi)
    have hjl := joinS_length (pre.map textOf)
    rw [manyS_eq] at hjl
    have hmono := sumL_mono pre (a :: r)
    rw [← h] at hmono
    have hb := lp19b (X := X) (k := k) (σ := σ) h35 pre.length hi hl hRa (joinS (pre.map textOf)) (by omega) (valid_len hva)
    rw [ha] at hb
    have ih := it19b (X := X) (k := k) (j := j) (σ := σ) h35 hl hR hv hm r (pre ++ [a]) (by rw [h]; simp)
    have he : joinS ((pre ++ [a]).map textOf) = if 0 < pre.length then joinS (pre.map textOf) ++ 32 :: textOf a else joinS (pre.map textOf) ++ textOf a := by
      rw [List.map_append, List.map_cons, List.map_nil, joinS_append]
      cases pre with
      | nil => rfl
      | cons x y => simp
    rw [he] at ih
    simp only [List.length_append, List.length_cons, List.length_nil, Nat.zero_add] at ih
    rw [show j + (a :: r).length + 1 = (j + r.length + 1) + 1 by simp; omega, iter_next hb]
    exact ih
theorem c19 {X : Ext} (h43 : X 43 = some (wk g43)) (h35 : X 35 = some (wk g35)) (h : X 19 = none) (args : List D) (r : D) (hg : g18 args = some r) : Comp tabT X G0 19 args r := by
  unfold g18 at hg
  split at hg
  · rename_i es
    split at hg
    · rename_i l hl
      split at hg
      · rename_i hok
        cases hg
        rw [untoks_some hl]
        obtain ⟨hlen, hR⟩ := hok
        refine comp_runF (l.length + 1) h tab19 ⟨rfl, by decide⟩ ?_
        have hit := it19 (X := X) (k := l.length) (j := 0) (σ := []) h43 h35 hlen hR l [] rfl rfl
        simp only [List.length_nil, Int.natCast_zero, sumL, List.map_nil, List.sum_nil, Nat.zero_add, Nat.zero_sub] at hit
        have hS : (l.map fun t => (textOf t).length).sum = sumL l := rfl
        rw [hS] at hit
        unfold joinD joinT
        rw [manyS_eq]
        cases hv : l.all validT
        · rw [hv] at hit
          simp [runF, af19, hit]
        · rw [hv] at hit
          by_cases h3 : 30000 < sumL l + (l.length - 1)
          · have h3' : (30000 : Int) < ((sumL l + (l.length - 1) : Nat) : Int) := by omega
            rw [if_pos h3]
            generalize sumL l + (l.length - 1) = n2 at *
            simp [runF, af19, hit, h3']
          · have h3' : ¬ (30000 : Int) < ((sumL l + (l.length - 1) : Nat) : Int) := by omega
            have hb := it19b (X := X) (k := l.length) (j := 0) (σ := []) h35 hlen hR hv (by omega) l [] rfl
            simp only [List.length_nil, Int.natCast_zero, List.map_nil, joinS, Nat.zero_add] at hb
            rw [if_neg h3]
            generalize sumL l + (l.length - 1) = n2 at *
            generalize joinS (l.map textOf) = js at *
            simp [runF, af19, hit, h3', hb]
      · cases hg
    · cases hg
  · cases hg
theorem k19 {X : Ext} {k : Nat} {σ : St} (h : X 19 = some (wk g18)) (l : List Tok) (hl : toksOK l) :
    evalFn tabT X G0 (k + 1) (.fn 19) [toksD l] σ = some (.ret (joinD l), σ) :=
  call_ext h (by simp [treeL, D.tree]) (by simp [weakL, D.weak]) (by simp only [g18, untoks_map]; rw [if_pos hl])

/-! Alike -/
def t0 (t : Tok) : Tok := { t with a := 0 }
def tokAl (a b : Tok) : Bool := (a.k == b.k && a.s == b.s) && a.n == b.n
theorem tokAl_eq (a b : Tok) : tokAl a b = decide (t0 a = t0 b) := by
  obtain ⟨k, s, n, a⟩ := a
  obtain ⟨k', s', n', a'⟩ := b
  rw [Bool.eq_iff_iff]
  simp [tokAl, t0, and_assoc]
theorem lp33 {cf : CallF} {x : FuncId → Bool} {k : Nat} {a b : List Tok} {σ : St} (i : Nat) (ha : i < a.length) (hb : i < b.length) (hl : a.length ≤ 9223372036854775806) :
    evalCode cf x G0 59 k false lp33_0 [(0, toksD a), (1, toksD b), (5, .bool true), (6, .int .i64 i)] σ =
      some (.normal, [(0, toksD a), (1, toksD b), (5, .bool (tokAl a[i] b[i])), (6, .int .i64 ((i + 1 : Nat) : Int))], σ) := by
  have hw : IntKind.i64.wrap ((i : Int) + 1) = i + 1 := wrap_i64 (by omega) (by omega)
  unfold tokAl
  cases h1 : a[i].k == b[i].k
  · simp [lp33_0, ha, hb, hw, h1]
  · cases h2 : a[i].s == b[i].s
    · simp [lp33_0, ha, hb, hw, h1, h2]
    · simp [lp33_0, ha, hb, hw, h1, h2]
theorem lp33f {cf : CallF} {x : FuncId → Bool} {k : Nat} {a b : List Tok} {σ : St} (i : Nat) :
    evalCode cf x G0 59 k false lp33_0 [(0, toksD a), (1, toksD b), (5, .bool false), (6, .int .i64 i)] σ =
      some (.exit 0, [(0, toksD a), (1, toksD b), (5, .bool false), (6, .int .i64 i), (18, .bool false)], σ) := by
  by_cases h : (i : Int) < a.length <;> simp [lp33_0, h]
theorem lp33e {cf : CallF} {x : FuncId → Bool} {k : Nat} {a b : List Tok} {σ : St} :
    evalCode cf x G0 59 k false lp33_0 [(0, toksD a), (1, toksD b), (5, .bool true), (6, .int .i64 a.length)] σ =
      some (.exit 0, [(0, toksD a), (1, toksD b), (5, .bool true), (6, .int .i64 a.length), (18, .bool false)], σ) := by
  simp [lp33_0]
theorem it33 {cf : CallF} {x : FuncId → Bool} {k m : Nat} {σ : St} {a b : List Tok} (hl : a.length ≤ 9223372036854775806) : ∀ (r pre r' pre' : List Tok), a = pre ++ r → b = pre' ++ r' → pre.length = pre'.length → r.length = r'.length →
    ∃ j : Nat, iter (evalCode cf x G0 59 k false lp33_0) (m + r.length + 1) [(0, toksD a), (1, toksD b), (5, .bool true), (6, .int .i64 pre.length)] σ =
      some (.exit 0, [(0, toksD a), (1, toksD b), (5, .bool (decide (r.map t0 = r'.map t0))), (6, .int .i64 j), (18, .bool false)], σ)
  | [], pre, r', pre', h, h', hp, hr => by
    have : r' = [] := List.length_eq_zero_iff.1 hr.symm
    subst this
    have : pre.length = a.length := by rw [h]; simp
    rw [this]
    exact ⟨_, iter_exit lp33e⟩
  | c :: r, pre, [], pre', h, h', hp, hr => by simp at hr
  | c :: r, pre, d :: r', pre', h, h', hp, hr => by
    have hi : pre.length < a.length := by rw [h]; simp
    have hi' : pre.length < b.length := by rw [h', hp]; simp
    have hb := lp33 (cf := cf) (x := x) (k := k) (σ := σ) pre.length hi hi' hl
    have ha : a[pre.length] = c := by simp [h]
    have hd : b[pre.length] = d := by simp [h', hp]
    rw [ha, hd, tokAl_eq] at hb
    by_cases hcd : t0 c = t0 d
    · rw [decide_eq_true hcd] at hb
      obtain ⟨j, this⟩ := it33 (b := b) (m := m) hl (σ := σ) (cf := cf) (x := x) (k := k) r (pre ++ [c]) r' (pre' ++ [d]) (by rw [h]; simp) (by rw [h']; simp) (by simp [hp]) (by simpa using hr)
      simp only [List.length_append, List.length_cons, List.length_nil, Nat.zero_add] at this
      refine ⟨j, ?_⟩
      rw [show m + (c :: r).length + 1 = (m + r.length + 1) + 1 by simp; omega, iter_next hb, this]
      simp [hcd]
    · rw [decide_eq_false hcd] at hb
      refine ⟨pre.length + 1, ?_⟩
      rw [show m + (c :: r).length + 1 = (m + r.length + 1) + 1 by simp; omega, iter_next hb, iter_exit (lp33f _)]
      simp [hcd]
def g33 : List D → Option D
  | [.slice es, .slice fs] => match untoks es, untoks fs with
    | some a, some b => if a.length ≤ 9223372036854775806 then some (.bool (decide (a.map t0 = b.map t0))) else none
    | _, _ => none
  | _ => none
theorem c33 {X : Ext} (h : X 33 = none) (args : List D) (r : D) (hg : g33 args = some r) : Comp tabT X G0 33 args r := by
  unfold g33 at hg
  split at hg
  · rename_i es fs
    split at hg
    · rename_i a b ha hb
      split at hg
      · rename_i hlen
        cases hg
        rw [untoks_some ha, untoks_some hb]
        refine comp_runF (a.length + 1) h tab33 ⟨rfl, by decide⟩ ?_
        by_cases hab : a.length = b.length
        · obtain ⟨j, hit⟩ := it33 (a := a) (b := b) (cf := evalFn tabT X G0 (a.length + 1)) (x := fun f => (X f).isSome) (k := a.length + 1) (m := 0) (σ := []) hlen a [] b [] rfl rfl rfl hab
          simp only [List.length_nil, Int.natCast_zero, Nat.zero_add] at hit
          have hab' : ((a.length : Int) == b.length) = true := by simp [hab]
          rw [hab] at hit hab' ⊢
          generalize decide (a.map t0 = b.map t0) = bb at *
          simp [runF, af33, hab, hab', hit]
        · have hab' : ((a.length : Int) == b.length) = false := by simp; omega
          have hne : a.map t0 ≠ b.map t0 := fun h => hab (by simpa using congrArg List.length h)
          have hf := lp33f (cf := evalFn tabT X G0 (a.length + 1)) (x := fun f => (X f).isSome) (k := a.length + 1) (σ := []) (a := a) (b := b) 0
          have hit := iter_exit (k := a.length) hf
          simp only [Int.natCast_zero] at hit
          rw [decide_eq_false hne]
          simp [runF, af33, hab', hit]
      · cases hg
    · cases hg
  · cases hg
theorem k33 {X : Ext} {k : Nat} {σ : St} (h : X 33 = some (wk g33)) (a b : List Tok) (hl : a.length ≤ 9223372036854775806) :
    evalFn tabT X G0 (k + 1) (.fn 33) [toksD a, toksD b] σ = some (.ret (.bool (decide (a.map t0 = b.map t0))), σ) :=
  call_ext h (by simp [treeL, D.tree]) (by simp [weakL, D.weak]) (by simp only [g33, untoks_map]; rw [if_pos hl])
/-! Tokens -/
def exToks : List Tok := [⟨1, [102, 117, 110], 0, 0⟩, ⟨0, [120, 95, 49], 0, 4⟩, ⟨4, [45, 62], 0, 8⟩, ⟨0, [120, 95, 49], 0, 11⟩, ⟨4, [61, 61], 0, 15⟩, ⟨3, [], 10, 18⟩]
def g40 : List D → Option D
  | [] => some (toksD exToks)
  | _ => none
theorem c40 {X : Ext} (h : X 40 = none) (args : List D) (r : D) (hg : g40 args = some r) : Comp tabT X G0 40 args r := by
  unfold g40 at hg
  split at hg
  · cases hg
    exact comp_runF 1 h tab40 ⟨rfl, by decide⟩ (by kernel_rfl)
  · cases hg
theorem k40 {X : Ext} {k : Nat} {σ : St} (h : X 40 = some (wk g40)) : evalFn tabT X G0 (k + 1) (.fn 40) [] σ = some (.ret (toksD exToks), σ) := call_ext h rfl rfl rfl
end Go.AI

namespace Go.AI
open Go Go.Lx
set_option maxRecDepth 100000
set_option linter.unusedSimpArgs false

/-- The last index below n of a line feed, or -1. -/
def lastN (l : Bs) : Nat → Int
  | 0 => -1
  | n + 1 => if (l.getD n 0).toNat == 10 then n else lastN l n
theorem lp65 {cf : CallF} {x : FuncId → Bool} {k : Nat} {σ : St} {l : Bs} (n : Nat) (hn : n < l.length) (hl : l.length ≤ 9223372036854775806) :
    evalCode cf x G0 19 k false lp65_0 [(0, .str l), (1, .int .u8 10), (5, .int .i64 n)] σ =
      if (l.getD n 0).toNat == 10 then some (.ret, [(4, .int .i64 n)], σ) else some (.normal, [(0, .str l), (1, .int .u8 10), (5, .int .i64 ((n : Int) - 1))], σ) := by
  have hw : IntKind.i64.wrap ((n : Int) - 1) = n - 1 := wrap_i64 (by omega) (by omega)
  have hg : l.getD n 0 = l[n] := by simp [List.getD, hn]
  rw [hg]
  have hb : (((l[n].toNat : Nat) : Int) == 10) = (l[n].toNat == 10) := by
    rw [Bool.eq_iff_iff]; simp; omega
  obtain ⟨c, hc⟩ : ∃ c, l[n].toNat = c := ⟨_, rfl⟩
  rw [hc] at hb ⊢
  cases h : c == 10
  · rw [h] at hb
    simp [lp65_0, hn, hc, hb, hw]
  · rw [h] at hb
    simp [lp65_0, hn, hc, hb]
theorem lp65e {cf : CallF} {x : FuncId → Bool} {k : Nat} {σ : St} {l : Bs} :
    evalCode cf x G0 19 k false lp65_0 [(0, .str l), (1, .int .u8 10), (5, .int .i64 (-1))] σ = some (.exit 0, [(0, .str l), (1, .int .u8 10), (5, .int .i64 (-1)), (10, .bool false)], σ) := by
  simp [lp65_0]
theorem it65 {cf : CallF} {x : FuncId → Bool} {k m : Nat} {σ : St} {l : Bs} (hl : l.length ≤ 9223372036854775806) : ∀ (n : Nat), n ≤ l.length →
    (lastN l n = -1 ∧ iter (evalCode cf x G0 19 k false lp65_0) (m + n + 1) [(0, .str l), (1, .int .u8 10), (5, .int .i64 ((n : Int) - 1))] σ = some (.exit 0, [(0, .str l), (1, .int .u8 10), (5, .int .i64 (-1)), (10, .bool false)], σ)) ∨
    iter (evalCode cf x G0 19 k false lp65_0) (m + n + 1) [(0, .str l), (1, .int .u8 10), (5, .int .i64 ((n : Int) - 1))] σ = some (.ret, [(4, .int .i64 (lastN l n))], σ)
  | 0, _ => .inl ⟨rfl, iter_exit lp65e⟩
  | n + 1, hn => by
    have hb := lp65 (cf := cf) (x := x) (k := k) (σ := σ) n (by omega) hl
    rw [lastN]
    rw [show ((n + 1 : Nat) : Int) - 1 = n by omega, show m + (n + 1) + 1 = (m + n + 1) + 1 by omega]
    cases h : (l.getD n 0).toNat == 10
    · rw [h] at hb
      rw [iter_next hb]
      exact it65 hl n (by omega)
    · rw [h] at hb
      exact .inr (iter_ret hb)
def g65 : List D → Option D
  | [.str l, .int .u8 c] => if l.length ≤ 9223372036854775806 ∧ c = 10 then some (.int .i64 (lastN l l.length)) else none
  | _ => none
theorem c65 {X : Ext} (h : X 65 = none) (args : List D) (r : D) (hg : g65 args = some r) : Comp tabT X G0 65 args r := by
  unfold g65 at hg
  split at hg
  · rename_i l c
    split at hg
    · rename_i hh
      obtain ⟨hl, rfl⟩ := hh
      cases hg
      refine comp_runF (l.length + 1) h tab65 ⟨rfl, by decide⟩ ?_
      have hit := it65 (cf := evalFn tabT X G0 (l.length + 1)) (x := fun f => (X f).isSome) (k := l.length + 1) (m := 0) (σ := []) hl l.length (Nat.le_refl _)
      have hw : IntKind.i64.wrap ((l.length : Int) - 1) = l.length - 1 := wrap_i64 (by omega) (by omega)
      rw [Nat.zero_add] at hit
      generalize lastN l l.length = q at *
      rcases hit with ⟨rfl, hit⟩ | hit
      · simp [runF, af65, hw, hit]
      · simp [runF, af65, hw, hit]
    · cases hg
  · cases hg
theorem k65 {X : Ext} {k : Nat} {σ : St} (h : X 65 = some (wk g65)) (l : Bs) (hl : l.length ≤ 9223372036854775806) : evalFn tabT X G0 (k + 1) (.fn 65) [.str l, .int .u8 10] σ = some (.ret (.int .i64 (lastN l l.length)), σ) :=
  call_ext h rfl rfl (by simp only [g65]; rw [if_pos ⟨hl, trivial⟩])
theorem c45 {X : Ext} (h65 : X 65 = some (wk g65)) (h : X 45 = none) (args : List D) (r : D) (hg : g65 args = some r) : Comp tabT X G0 45 args r := by
  unfold g65 at hg
  split at hg
  · rename_i l c
    split at hg
    · rename_i hh
      obtain ⟨hl, rfl⟩ := hh
      cases hg
      refine comp_runF 1 h tab45 ⟨rfl, by decide⟩ ?_
      have hk := fun σ => k65 (k := 0) (σ := σ) h65 l hl
      simp [runF, af45, hk]
    · cases hg
  · cases hg
theorem k45 {X : Ext} {k : Nat} {σ : St} (h : X 45 = some (wk g65)) (l : Bs) (hl : l.length ≤ 9223372036854775806) : evalFn tabT X G0 (k + 1) (.fn 45) [.str l, .int .u8 10] σ = some (.ret (.int .i64 (lastN l l.length)), σ) :=
  call_ext h rfl rfl (by simp only [g65]; rw [if_pos ⟨hl, trivial⟩])

/-! Count -/
def g44 : List D → Option D
  | [.str l, .str s] => if s = [10] then some (.int .i64 (l.count 10)) else none
  | _ => none
theorem c44 {X : Ext} (h : X 44 = none) (args : List D) (r : D) (hg : g44 args = some r) : Comp tabT X G0 44 args r := by
  unfold g44 at hg
  split at hg
  · rename_i l s
    split at hg
    · rename_i hs
      subst hs
      cases hg
      refine comp_runF 1 h tab44 ⟨rfl, by decide⟩ ?_
      have hc : Lib.countByte l 10 = l.count 10 := rfl
      have hten : (10 : Nat).toUInt8 = 10 := by decide
      simp [runF, af44, natCnt, hten, hc]
    · cases hg
  · cases hg
theorem k44 {X : Ext} {k : Nat} {σ : St} (h : X 44 = some (wk g44)) (l : Bs) : evalFn tabT X G0 (k + 1) (.fn 44) [.str l, .str [10]] σ = some (.ret (.int .i64 (l.count 10)), σ) := call_ext h rfl rfl rfl

/-! Where -/
theorem colR_append : ∀ (p : Bs) (c : Nat) (b : UInt8), colR c (p ++ [b]) = if b == 10 then 1 else colR c p + 1
  | [], c, b => rfl
  | a :: p, c, b => by simp only [List.cons_append, colR]; exact colR_append p _ b
theorem lastN_append (p : Bs) (b : UInt8) : ∀ n, n ≤ p.length → lastN (p ++ [b]) n = lastN p n
  | 0, _ => rfl
  | n + 1, h => by
    have hn : (p ++ [b]).getD n 0 = p.getD n 0 := by simp [List.getD, List.getElem?_append_left (show n < p.length by omega)]
    rw [lastN, lastN, hn, lastN_append p b n (by omega)]
theorem last_col (p : Bs) : (p.length : Int) - lastN p p.length = colR 1 p := by
  generalize hn : p.length = n
  induction n generalizing p with
  | zero => have : p = [] := List.length_eq_zero_iff.1 hn; subst this; rfl
  | succ n ih =>
    obtain ⟨t, c, rfl⟩ : ∃ t c, p = t ++ [c] := by
      rcases List.eq_nil_or_concat p with rfl | ⟨t, c, h⟩
      · simp at hn
      · exact ⟨t, c, by simpa using h⟩
    have hl : t.length = n := by simp at hn; omega
    have := ih t hl
    have hg : (t ++ [c]).getD n 0 = c := by simp [List.getD, ← hl]
    rw [lastN, hg, lastN_append t c n (by omega), colR_append]
    have hc : (c.toNat == 10) = (c == 10) := by
      rw [Bool.eq_iff_iff]; simp only [beq_iff_eq]
      exact ⟨fun h => UInt8.toNat_inj.1 h, fun h => by rw [h]; rfl⟩
    rw [hc]
    cases h : c == 10
    · simp only [Bool.false_eq_true, if_false]; omega
    · simp only [if_true]; omega
theorem colR_le (p : Bs) : ∀ c, colR c p ≤ c + p.length + 1 := by
  induction p with
  | nil => intro c; simp [colR]
  | cons a r ih =>
    intro c
    simp only [colR, List.length_cons]
    split
    · have := ih 1; omega
    · have := ih (c + 1); omega
def whereD (l : Bs) (p : Int) : D := .tuple [.int .i64 (whereT l p).1, .int .i64 (whereT l p).2.1, .int .i64 (whereT l p).2.2]
def g20 : List D → Option D
  | [.str l, .int .i64 p] => if l.length ≤ 9223372036854775000 then some (whereD l p) else none
  | _ => none
theorem c20 {X : Ext} (h44 : X 44 = some (wk g44)) (h45 : X 45 = some (wk g65)) (h : X 20 = none) (args : List D) (r : D) (hg : g20 args = some r) : Comp tabT X G0 20 args r := by
  unfold g20 at hg
  split at hg
  · rename_i l p
    split at hg
    · rename_i hl
      cases hg
      refine comp_runF 1 h tab20 ⟨rfl, by decide⟩ ?_
      unfold whereD whereT
      by_cases h0 : p < 0
      · rw [if_neg (by omega)]
        simp [runF, af20, h0]
      · by_cases h1 : (l.length : Int) < p
        · rw [if_neg (by omega)]
          have h0' : 0 ≤ p := by omega
          simp [runF, af20, h0, h0', h1]
        · rw [if_pos (by omega)]
          obtain ⟨p, rfl⟩ : ∃ n : Nat, p = (n : Int) := ⟨p.toNat, by omega⟩
          have hp : p ≤ l.length := by omega
          have hp' : (p : Int) ≤ l.length := by omega
          have hlt : (l.take p).length = p := by simp; omega
          have hk4 := fun σ => k44 (X := X) (k := 0) (σ := σ) h44 (l.take p)
          have hk5 := fun σ => k45 (X := X) (k := 0) (σ := σ) h45 (l.take p) (by omega)
          have hcol := last_col (l.take p)
          have hcl := colR_le (l.take p) 1
          have hcnt : (l.take p).count 10 ≤ (l.take p).length := List.count_le_length
          rw [hlt] at hk5 hcol hcl hcnt
          simp only [Int.toNat_natCast, linesIn]
          generalize lastN (l.take p) p = q at *
          generalize colR 1 (l.take p) = cc at *
          generalize (l.take p).count 10 = ct at *
          have hw1 : IntKind.i64.wrap (1 + (ct : Int)) = 1 + ct := wrap_i64 (by omega) (by omega)
          have hw2 : IntKind.i64.wrap ((p : Int) - q) = cc := by rw [hcol]; exact wrap_i64 (by omega) (by omega)
          simp [runF, af20, h0, h1, hp, hp', bound, hk4, hk5, hw1, hw2]
    · cases hg
  · cases hg
theorem k20 {X : Ext} {k : Nat} {σ : St} (h : X 20 = some (wk g20)) (l : Bs) (p : Int) (hl : l.length ≤ 9223372036854775000) : evalFn tabT X G0 (k + 1) (.fn 20) [.str l, .int .i64 p] σ = some (.ret (whereD l p), σ) :=
  call_ext h rfl rfl (by simp only [g20]; rw [if_pos hl])

theorem lp21 {cf : CallF} {x : FuncId → Bool} {k : Nat} {σ : St} {l : Bs} (p i ln cl : Nat) (hi : i < p) (hp : p ≤ l.length) (hl : l.length ≤ 9223372036854775000) (hln : ln ≤ i + 1) (hcl : cl ≤ i + 3) :
    evalCode cf x G0 30 k false lp21_0 [(0, .str l), (1, .int .i64 p), (7, .int .i64 ln), (8, .int .i64 cl), (9, .int .i64 i)] σ =
      some (.normal, [(0, .str l), (1, .int .i64 p), (7, .int .i64 ((if l.getD i 0 == 10 then ln + 1 else ln : Nat) : Int)), (8, .int .i64 ((if l.getD i 0 == 10 then 1 else cl + 1 : Nat) : Int)), (9, .int .i64 ((i + 1 : Nat) : Int))], σ) := by
  have hil : i < l.length := by omega
  have hg : l.getD i 0 = l[i] := by simp [List.getD, hil]
  rw [hg]
  have hb : (((l[i].toNat : Nat) : Int) == 10) = (l[i] == 10) := (all_bytes_Int (p := fun n c => (n == 10) = (c == 10)) (by decide +kernel) l[i])
  have hip : (i : Int) < p := by omega
  have hw1 : IntKind.i64.wrap ((cl : Int) + 1) = cl + 1 := wrap_i64 (by omega) (by omega)
  have hw2 : IntKind.i64.wrap ((ln : Int) + 1) = ln + 1 := wrap_i64 (by omega) (by omega)
  have hw3 : IntKind.i64.wrap ((i : Int) + 1) = i + 1 := wrap_i64 (by omega) (by omega)
  obtain ⟨c, hc⟩ : ∃ c : Int, (l[i].toNat : Int) = c := ⟨_, rfl⟩
  rw [hc] at hb
  cases h : l[i] == 10
  · rw [h] at hb
    simp [lp21_0, hi, hip, hil, hc, hb, hw1, hw2, hw3]
  · rw [h] at hb
    simp [lp21_0, hi, hip, hil, hc, hb, hw1, hw2, hw3]
theorem lp21e {cf : CallF} {x : FuncId → Bool} {k : Nat} {σ : St} {l : Bs} {d d' : D} (p : Nat) :
    evalCode cf x G0 30 k false lp21_0 [(0, .str l), (1, .int .i64 p), (7, d), (8, d'), (9, .int .i64 p)] σ = some (.exit 0, [(0, .str l), (1, .int .i64 p), (7, d), (8, d'), (9, .int .i64 p), (17, .bool false)], σ) := by
  simp [lp21_0]
theorem it21 {cf : CallF} {x : FuncId → Bool} {k m : Nat} {σ : St} {l : Bs} (p : Nat) (hp : p ≤ l.length) (hl : l.length ≤ 9223372036854775000) : ∀ (r pre : Bs), l.take p = pre ++ r →
    iter (evalCode cf x G0 30 k false lp21_0) (m + r.length + 1) [(0, .str l), (1, .int .i64 p), (7, .int .i64 ((1 + pre.count 10 : Nat) : Int)), (8, .int .i64 (colR 1 pre)), (9, .int .i64 pre.length)] σ =
      some (.exit 0, [(0, .str l), (1, .int .i64 p), (7, .int .i64 ((1 + (l.take p).count 10 : Nat) : Int)), (8, .int .i64 (colR 1 (l.take p))), (9, .int .i64 p), (17, .bool false)], σ)
  | [], pre, h => by
    have hpl : pre = l.take p := by rw [h]; simp
    have : pre.length = p := by rw [hpl]; simp; omega
    rw [this, hpl]
    exact iter_exit (lp21e p)
  | a :: r, pre, h => by
    have hlt : pre.length < (l.take p).length := by rw [h]; simp
    have hi : pre.length < p := by simp at hlt; omega
    have ha : l.getD pre.length 0 = a := by
      have h1 : (l.take p)[pre.length]? = some a := by rw [h]; simp
      rw [List.getElem?_take] at h1
      rw [if_pos hi] at h1
      simp [List.getD, h1]
    have hcl := colR_le pre 1
    have hcnt : pre.count 10 ≤ pre.length := List.count_le_length
    have hb := lp21 (cf := cf) (x := x) (k := k) (σ := σ) p pre.length (1 + pre.count 10) (colR 1 pre) hi hp hl (by omega) (by omega)
    rw [ha] at hb
    have ih := it21 (cf := cf) (x := x) (k := k) (m := m) (σ := σ) p hp hl r (pre ++ [a]) (by rw [h]; simp)
    have h1 : (if a == 10 then 1 + pre.count 10 + 1 else 1 + pre.count 10) = 1 + (pre ++ [a]).count 10 := by
      rw [List.count_append, List.count_singleton]
      cases a == 10 <;> simp <;> omega
    rw [h1, ← colR_append] at hb
    rw [show m + (a :: r).length + 1 = (m + r.length + 1) + 1 by simp; omega, iter_next hb]
    simp only [List.length_append, List.length_cons, List.length_nil, Nat.zero_add] at ih
    exact ih
theorem c21 {X : Ext} (h34 : X 34 = some (wk g34)) (h : X 21 = none) (args : List D) (r : D) (hg : g20 args = some r) : Comp tabT X G0 21 args r := by
  unfold g20 at hg
  split at hg
  · rename_i l p
    split at hg
    · rename_i hl
      cases hg
      unfold whereD whereT
      by_cases h0 : 0 ≤ p
      · by_cases h1 : p ≤ (l.length : Int)
        · rw [if_pos ⟨h0, h1⟩]
          obtain ⟨p, rfl⟩ : ∃ n : Nat, p = (n : Int) := ⟨p.toNat, by omega⟩
          have hp : p ≤ l.length := by omega
          refine comp_runF (p + 1) h tab21 ⟨rfl, by decide⟩ ?_
          have hlt : (l.take p).length = p := by simp; omega
          have hit := it21 (cf := evalFn tabT X G0 (p + 1)) (x := fun f => (X f).isSome) (k := p + 1) (m := 0) (σ := []) p hp hl (l.take p) [] rfl
          rw [hlt] at hit
          simp only [List.length_nil, Int.natCast_zero, List.count_nil, colR, Nat.zero_add, Nat.add_zero] at hit
          simp only [Int.toNat_natCast, linesIn]
          generalize (l.take p).count 10 = ct at *
          generalize colR 1 (l.take p) = cc at *
          simp only [show ((1 : Nat) : Int) = 1 from rfl] at hit
          simp [runF, af21, k34 h34, h0, h1, hp, hit]
        · rw [if_neg (by omega)]
          refine comp_runF 1 h tab21 ⟨rfl, by decide⟩ ?_
          simp [runF, af21, k34 h34, h0, h1]
      · rw [if_neg (by omega)]
        refine comp_runF 1 h tab21 ⟨rfl, by decide⟩ ?_
        simp [runF, af21, k34 h34, h0]
    · cases hg
  · cases hg
theorem k21 {X : Ext} {k : Nat} {σ : St} (h : X 21 = some (wk g20)) (l : Bs) (p : Int) (hl : l.length ≤ 9223372036854775000) : evalFn tabT X G0 (k + 1) (.fn 21) [.str l, .int .i64 p] σ = some (.ret (whereD l p), σ) :=
  call_ext h rfl rfl (by simp only [g20]; rw [if_pos hl])
end Go.AI
