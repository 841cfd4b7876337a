/- Texts of the proof. No conditions of its own. -/
import Derived.Test.YtlbnennpefkpgaaDoorLxT
set_option linter.unusedVariables false
set_option linter.unusedSimpArgs false
namespace Go.AI
open Go Go.Lx
set_option maxRecDepth 100000
set_option linter.unusedSimpArgs false

theorem space_take : ∀ (com : Bool) (t : Bs) (m : Nat), spaceLen com t ≤ m → spaceLen com (t.take m) = spaceLen com t
  | _, [], m, _ => by simp
  | com, c :: r, 0, h => by
    rw [List.take_zero]
    simp only [spaceLen] at h ⊢
    split <;> simp_all
  | com, c :: r, m + 1, h => by
    rw [List.take_succ_cons]
    simp only [spaceLen] at h ⊢
    split
    · rfl
    · rename_i hc
      rw [if_neg hc] at h
      rw [space_take _ r m (by omega)]
theorem takeW_take : ∀ (t : Bs) (n : Nat), (t.takeWhile isW).length ≤ n → (t.take n).takeWhile isW = t.takeWhile isW
  | [], n, _ => by simp
  | c :: r, 0, h => by
    have : (c :: r).takeWhile isW = [] := List.length_eq_zero_iff.1 (by omega)
    rw [this]; rfl
  | c :: r, n + 1, h => by
    rw [List.take_succ_cons, List.takeWhile_cons, List.takeWhile_cons]
    rw [List.takeWhile_cons] at h
    split
    · rename_i hc
      rw [if_pos hc] at h
      rw [takeW_take r n (by simpa using h)]
    · rfl
theorem symAt_cut (t : Bs) (n : Nat) (h : (symAt t).length ≤ n) (hne : 1 ≤ (symAt t).length) : symAt (t.take n) = symAt t := by
  match t, n, h, hne with
  | [], n, _, _ => simp
  | c :: r, 0, h, hne => omega
  | [c], n + 1, _, _ => simp
  | c :: d :: r, 1, h, hne =>
    simp only [symAt, List.take_succ_cons, List.take_zero] at h hne ⊢
    split at h
    · simp at h
    · rename_i h1
      rw [if_neg (by simp), if_neg h1]
  | c :: d :: r, n + 2, h, hne => simp [symAt]
theorem begins_cut (t : Bs) (n : Nat) (h : (begins t).length ≤ n) (hne : 1 ≤ (begins t).length) : begins (t.take n) = begins t := by
  unfold begins at h hne ⊢
  by_cases hw : t.takeWhile isW = []
  · rw [if_pos hw] at h hne ⊢
    have : (t.take n).takeWhile isW = [] := by rw [takeW_take t n (by rw [hw]; simp)]; exact hw
    rw [if_pos this]
    exact symAt_cut t n h hne
  · rw [if_neg hw] at h hne ⊢
    have := takeW_take t n h
    rw [if_neg (by rw [this]; exact hw), this]
/-- What stands ahead of the place where a text is wrong is right. -/
theorem lex_cut : ∀ (f : Nat) (t : Bs) (p m g : Nat), lexR f t p = .error (p + m) → ∃ us, lexR g (t.take m) p = .ok us
  | 0, t, p, m, g, h => by cases h
  | f + 1, t, p, m, 0, h => ⟨[], rfl⟩
  | f + 1, t, p, m, g + 1, h => by
    rw [lexR] at h
    rw [lexR]
    have hsl := spaceLen_le false t
    split at h
    · cases h
    · split at h
      · injection h with h
        have hm : m = spaceLen false t := by omega
        subst hm
        rw [space_take false t _ (Nat.le_refl _)]
        rw [if_pos (List.drop_eq_nil_of_le (by simp; omega))]
        exact ⟨_, rfl⟩
      · rename_i k hk
        split at h
        · cases h
        · rename_i e he
          injection h with h
          subst h
          have hb := begins_ne hk
          have hbl := begins_len (t.drop (spaceLen false t))
          have hle := lex_err _ _ _ _ he
          obtain ⟨j, rfl⟩ : ∃ j, m = spaceLen false t + ((begins (t.drop (spaceLen false t))).length + j) := ⟨m - (spaceLen false t + (begins (t.drop (spaceLen false t))).length), by omega⟩
          rw [space_take false t _ (by omega)]
          have hd : (t.take (spaceLen false t + ((begins (t.drop (spaceLen false t))).length + j))).drop (spaceLen false t) = (t.drop (spaceLen false t)).take ((begins (t.drop (spaceLen false t))).length + j) := by
            rw [List.drop_take]; congr 1; omega
          rw [hd]
          generalize t.drop (spaceLen false t) = u at *
          rw [begins_cut u _ (by omega) hb]
          split
          · exact ⟨_, rfl⟩
          · rw [hk]
            simp only
            have hd2 : (u.take ((begins u).length + j)).drop (begins u).length = (u.drop (begins u).length).take j := by
              rw [List.drop_take]; congr 1; omega
            rw [hd2]
            obtain ⟨us, h1⟩ := lex_cut f _ _ j g (by rw [he]; congr 1; omega)
            rw [h1]
            exact ⟨_, rfl⟩

/-- The fuel: enough is enough. -/
theorem lex_fuel : ∀ (f g : Nat) (t : Bs) (p : Nat), t.length < f → t.length < g → lexR f t p = lexR g t p
  | 0, _, t, _, h, _ => by omega
  | _ + 1, 0, t, _, _, h => by omega
  | f + 1, g + 1, t, p, hf, hg => by
    rw [lexR, lexR]
    split
    · rfl
    · split
      · rfl
      · rename_i k hk
        have hb := begins_ne hk
        have hbl := begins_len (t.drop (spaceLen false t))
        rw [lex_fuel f g _ _ (by simp only [List.length_drop] at *; omega) (by simp only [List.length_drop] at *; omega)]
def shiftT (q : Nat) (t : Tok) : Tok := { t with a := t.a + q }
theorem lex_shift : ∀ (f : Nat) (t : Bs) (p q : Nat) (us : List Tok), lexR f t p = .ok us → lexR f t (p + q) = .ok (us.map (shiftT q))
  | 0, t, p, q, us, h => by cases h; rfl
  | f + 1, t, p, q, us, h => by
    rw [lexR] at h
    rw [lexR]
    split at h
    · rename_i h1
      rw [if_pos h1]; cases h; rfl
    · rename_i h1
      rw [if_neg h1]
      split at h
      · cases h
      · rename_i k hk
        split at h
        · rename_i l hl
          cases h
          have := lex_shift f _ _ q _ hl
          rw [show p + spaceLen false t + (begins (t.drop (spaceLen false t))).length + q = p + q + spaceLen false t + (begins (t.drop (spaceLen false t))).length by omega] at this
          rw [this]
          simp [shiftT]
          omega
        · cases h
theorem takeW_nl : ∀ (t b : Bs), (t ++ 10 :: b).takeWhile isW = t.takeWhile isW
  | [], b => by rw [List.nil_append, List.takeWhile_cons]; rfl
  | c :: r, b => by rw [List.cons_append, List.takeWhile_cons, List.takeWhile_cons, takeW_nl r b]
theorem symAt_nl (t b : Bs) : symAt (t ++ 10 :: b) = symAt t := by
  match t with
  | [] => simp [symAt, symB]
  | [c] => simp [symAt]
  | c :: d :: r => simp [symAt]
theorem begins_nl (t b : Bs) : begins (t ++ 10 :: b) = begins t := by
  unfold begins
  rw [takeW_nl, symAt_nl]
theorem space_nl : ∀ (com : Bool) (t b : Bs), spaceLen com (t ++ 10 :: b) = if spaceLen com t < t.length then spaceLen com t else t.length + 1 + spaceLen false b
  | com, [], b => by simp [spaceLen, isBlank]; omega
  | com, c :: r, b => by
    rw [List.cons_append, spaceLen, spaceLen]
    split
    · simp
    · rw [space_nl _ r b]
      simp only [List.length_cons]
      split <;> rename_i h
      · rw [if_pos (by omega)]
      · rw [if_neg (by omega)]; omega
/-- Two texts with a line's end between them. -/
theorem lex_nl : ∀ (f : Nat) (a b : Bs) (p g h : Nat) (us vs : List Tok), lexR f a p = .ok us → a.length < f → a.length + 1 + b.length < g → b.length < h → lexR h b (p + a.length + 1) = .ok vs →
    lexR g (a ++ 10 :: b) p = .ok (us ++ vs)
  | 0, a, b, p, g, h, us, vs, h1, h2, h3, h4, h5 => by omega
  | f + 1, a, b, p, 0, h, us, vs, h1, h2, h3, h4, h5 => by omega
  | f + 1, a, b, p, g + 1, h, us, vs, h1, h2, h3, h4, h5 => by
    rw [lexR] at h1
    have hsl := spaceLen_le false a
    split at h1
    · rename_i hend
      cases h1
      have hal : spaceLen false a = a.length := by
        have : (a.drop (spaceLen false a)).length = 0 := by rw [hend]; rfl
        rw [List.length_drop] at this; omega
      rw [List.nil_append, ← h5, lex_fuel h (g + 1) b _ h4 (by omega)]
      have hs := space_nl false a b
      rw [hal, if_neg (by omega)] at hs
      rw [lexR, lexR, hs]
      have hd : (a ++ 10 :: b).drop (a.length + 1 + spaceLen false b) = b.drop (spaceLen false b) := by
        rw [show a.length + 1 + spaceLen false b = a.length + (spaceLen false b + 1) by omega, ← List.drop_drop, List.drop_left, List.drop_succ_cons]
      rw [hd, show p + (a.length + 1 + spaceLen false b) = p + a.length + 1 + spaceLen false b by omega]
    · rename_i hne
      have hlt : spaceLen false a < a.length := by
        rcases Nat.lt_or_ge (spaceLen false a) a.length with h | h
        · exact h
        · exact absurd (List.drop_eq_nil_of_le h) hne
      split at h1
      · cases h1
      · rename_i k hk
        split at h1
        · rename_i l hl
          cases h1
          have hs := space_nl false a b
          rw [if_pos hlt] at hs
          have hb := begins_ne hk
          have hbl := begins_len (a.drop (spaceLen false a))
          have hd : (a ++ 10 :: b).drop (spaceLen false a) = a.drop (spaceLen false a) ++ 10 :: b := List.drop_append_of_le_length (by omega)
          rw [lexR, hs, hd, begins_nl, hk]
          rw [if_neg (by simp)]
          simp only
          rw [List.length_drop] at hbl
          have hd2 : (a.drop (spaceLen false a) ++ 10 :: b).drop (begins (a.drop (spaceLen false a))).length = (a.drop (spaceLen false a)).drop (begins (a.drop (spaceLen false a))).length ++ 10 :: b := List.drop_append_of_le_length (by rw [List.length_drop]; omega)
          rw [hd2]
          have hl2 : ((a.drop (spaceLen false a)).drop (begins (a.drop (spaceLen false a))).length).length = a.length - spaceLen false a - (begins (a.drop (spaceLen false a))).length := by simp only [List.length_drop]
          rw [lex_nl f _ b _ g h l vs hl (by omega) (by omega) h4 (by rw [← h5]; congr 1; omega)]
          rfl
        · cases h1
end Go.AI

namespace Go.AI
open Go Go.Lx Go.Proofs
set_option maxRecDepth 100000
set_option linter.unusedSimpArgs false

theorem lp11 {cf : CallF} {x : FuncId → Bool} {k : Nat} {σ : St} {a : Bs} {ts us vs : List Tok} (i : Nat) (t : Tok) (hi : i < us.length) (ht : us[i] = t) (hj : ts.length + i < vs.length) (hv : vs[ts.length + i] = ⟨t.k, t.s, t.n, t.a + a.length + 1⟩)
    (h0 : 0 ≤ t.a) (h1 : t.a ≤ 30000) (ha : a.length ≤ 30000) (hts : ts.length ≤ 30000) (hus : us.length ≤ 30000) :
    evalCode cf x G0 128 k false lp11_0 [(0, .str a), (5, toksD ts), (11, toksD us), (14, toksD vs), (17, .int .i64 i)] σ =
      some (.normal, [(0, .str a), (5, toksD ts), (11, toksD us), (14, toksD vs), (17, .int .i64 ((i + 1 : Nat) : Int))], σ ++ [.box [.int .i64 t.k, .str t.s, .int .i64 t.n, .int .i64 (t.a + a.length + 1)]]) := by
  have hw1 : IntKind.i64.wrap ((i : Int) + 1) = i + 1 := wrap_i64 (by omega) (by omega)
  have hw2 : IntKind.i64.wrap ((ts.length : Int) + i) = ((ts.length + i : Nat) : Int) := by rw [show (ts.length : Int) + i = ((ts.length + i : Nat) : Int) by omega]; exact wrap_i64 (by omega) (by omega)
  have hw3 : IntKind.i64.wrap (t.a + a.length) = t.a + a.length := wrap_i64 (by omega) (by omega)
  have hw4 : IntKind.i64.wrap (t.a + a.length + 1) = t.a + a.length + 1 := wrap_i64 (by omega) (by omega)
  have c1 : (0 : Int) ≤ ((ts.length + i : Nat) : Int) := by omega
  have c2 : ((ts.length + i : Nat) : Int) < vs.length := by omega
  generalize ts.length + i = j at *
  obtain ⟨tk, tse, tn, ta⟩ := t
  simp only at hw3 hw4 hv h0 h1
  simp [lp11_0, hi, ht, hj, hv, hw1, hw2, hw3, hw4, c1, c2, set_concat, flatEqs, D.kindEq, eqD]
theorem lp11e {cf : CallF} {x : FuncId → Bool} {k : Nat} {σ : St} {d d' d'' : D} {us : List Tok} :
    evalCode cf x G0 128 k false lp11_0 [(0, d), (5, d'), (11, toksD us), (14, d''), (17, .int .i64 us.length)] σ = some (.exit 0, [(0, d), (5, d'), (11, toksD us), (14, d''), (17, .int .i64 us.length), (96, .bool false)], σ) := by
  simp [lp11_0]
theorem it11 {cf : CallF} {x : FuncId → Bool} {k m : Nat} {a : Bs} {ts us : List Tok} (ha : a.length ≤ 30000) (hts : ts.length ≤ 30000) (hus : us.length ≤ 30000) (hu : ∀ u ∈ us, 0 ≤ u.a ∧ u.a ≤ 30000) :
    ∀ (n i : Nat) (σ : St), us.length - i ≤ n → i ≤ us.length → ∃ σ', iter (evalCode cf x G0 128 k false lp11_0) (m + n + 1) [(0, .str a), (5, toksD ts), (11, toksD us), (14, toksD (ts ++ us.map (shiftT (a.length + 1)))), (17, .int .i64 i)] σ =
      some (.exit 0, [(0, .str a), (5, toksD ts), (11, toksD us), (14, toksD (ts ++ us.map (shiftT (a.length + 1)))), (17, .int .i64 us.length), (96, .bool false)], σ') := by
  intro n
  induction n with
  | zero =>
    intro i σ h1 h2
    obtain rfl : i = us.length := by omega
    exact ⟨σ, iter_exit lp11e⟩
  | succ n ih =>
    intro i σ h1 h2
    by_cases hi : i < us.length
    · have hm := hu _ (List.getElem_mem hi)
      have hb := lp11 (cf := cf) (x := x) (k := k) (σ := σ) (a := a) (ts := ts) (us := us) (vs := ts ++ us.map (shiftT (a.length + 1))) i us[i] hi rfl (by simp; omega)
        (by simp [shiftT]; omega) hm.1 hm.2 ha hts hus
      obtain ⟨σ', h⟩ := ih (i + 1) (σ ++ [.box [.int .i64 us[i].k, .str us[i].s, .int .i64 us[i].n, .int .i64 (us[i].a + a.length + 1)]]) (by omega) (by omega)
      refine ⟨σ', ?_⟩
      rw [show m + (n + 1) + 1 = (m + n + 1) + 1 by omega, iter_next hb]
      exact h
    · obtain rfl : i = us.length := by omega
      exact ⟨σ, iter_exit lp11e⟩
/-- Where the tokens lie. -/
theorem lex_at : ∀ (f : Nat) (t : Bs) (p : Nat) (us : List Tok), lexR f t p = .ok us → ∀ u ∈ us, 0 ≤ u.a ∧ u.a ≤ ((p + t.length : Nat) : Int)
  | 0, t, p, us, h, u, hu => by cases h; cases hu
  | f + 1, t, p, us, h, u, hu => by
    rw [lexR] at h
    have hsl := spaceLen_le false t
    split at h
    · cases h; cases hu
    · split at h
      · cases h
      · rename_i k hk
        split at h
        · rename_i l hl
          cases h
          have hbl := begins_len (t.drop (spaceLen false t))
          rw [List.length_drop] at hbl
          rcases List.mem_cons.1 hu with rfl | hu
          · simp only; omega
          · have := lex_at f _ _ _ hl u hu
            simp only [List.length_drop] at this
            omega
        · cases h
theorem law11 (a b : Bs) (ha : a.length ≤ 140737488351232) (hb : b.length ≤ 140737488351232) : Comp tabT XX G0 11 [.str a, .str b] (.bool true) := by
  have h14a := fun k σ => k14 (X := XX) (k := k) (σ := σ) rfl a (by omega)
  have h14b := fun k σ => k14 (X := XX) (k := k) (σ := σ) rfl b (by omega)
  have h14c := fun k σ => k14 (X := XX) (k := k) (σ := σ) rfl (a ++ 10 :: b) (by simp; omega)
  have h17 := fun k σ => k17 (k := k) (σ := σ)
  have h34 := fun k n a b σ => k34 (X := XX) (k := k) (σ := σ) rfl n a b
  have hw1 : IntKind.i64.wrap ((a.length : Int) - 1) = a.length - 1 := wrap_i64 (by omega) (by omega)
  have hw2 : IntKind.i64.wrap ((a.length : Int) + 1) = a.length + 1 := wrap_i64 (by omega) (by omega)
  have hw3 : IntKind.i64.wrap ((a.length : Int) + 1 + b.length) = a.length + 1 + b.length := wrap_i64 (by omega) (by omega)
  unfold lexD at h14a h14b h14c
  rcases again_lex a with ⟨x1, x2, x3, x4⟩ | ⟨x1, x2, x3, x4, x5, e, x6, x7⟩ | ⟨x1, x2, x3⟩
  · rw [x1, x2] at h14a
    generalize hts : (lexT a).1 = ts at *
    rcases again_lex b with ⟨y1, y2, y3, y4⟩ | ⟨y1, y2, y3, y4, _, _⟩ | ⟨y1, y2, y3⟩
    · rw [y1, y2] at h14b
      generalize hus : (lexT b).1 = us at *
      by_cases hbig : 30000 < a.length + 1 + b.length
      · have c1 : (30000 : Int) < a.length + 1 + b.length := by omega
        refine comp_runF 1 rfl tab11 ⟨rfl, by decide⟩ ?_
        have h14a := h14a 0
        have h14b := h14b 0
        have h17 := h17 0
        generalize XX = X at *
        simp [runF, af11, h14a, h14b, h17, hw2, hw3, c1]
      · have c1 : ¬ (30000 : Int) < a.length + 1 + b.length := by omega
        obtain ⟨t1, t2, t3, t4⟩ := lex_sum _ _ _ _ x4
        obtain ⟨u1, u2, u3, u4⟩ := lex_sum _ _ _ _ y4
        have hat := lex_at _ _ _ _ y4
        have hsh := lex_shift _ _ _ (a.length + 1) _ y4
        have hnl := lex_nl (a.length + 1) a b 0 ((a ++ 10 :: b).length + 1) (b.length + 1) ts _ x4 (by omega) (by simp; omega) (by omega) (by rw [← hsh]; congr 1)
        have hlc : lexT (a ++ 10 :: b) = (ts ++ us.map (shiftT (a.length + 1)), 0, 0) := by
          unfold lexT
          rw [if_neg (by simp; omega), hnl]
        rw [hlc] at h14c
        simp only at h14c
        have h16 := fun σ => k16 (X := XX) (k := us.length) (σ := σ) rfl ts ts (by omega)
        obtain ⟨σ', hit⟩ := it11 (cf := evalFn tabT XX G0 (us.length + 1)) (x := fun f => (XX f).isSome) (k := us.length + 1) (m := 0) (a := a) (ts := ts) (us := us) (by omega) (by omega) (by omega) (fun u hu => by have := hat u hu; omega) us.length 0 [] (by omega) (by omega)
        simp only [Nat.zero_add, Int.natCast_zero] at hit
        refine comp_runF (us.length + 1) rfl tab11 ⟨rfl, by decide⟩ ?_
        have h14a := h14a us.length
        have h14b := h14b us.length
        have h14c := h14c us.length
        have h17 := h17 us.length
        have hw4 : IntKind.i64.wrap ((ts.length : Int) + us.length) = ts.length + us.length := wrap_i64 (by omega) (by omega)
        have hvl : (((ts ++ us.map (shiftT (a.length + 1))).length : Nat) : Int) = ts.length + us.length := by simp
        have htk : List.take ts.length (List.map tokD (ts ++ us.map (shiftT (a.length + 1)))) = List.map tokD ts := by rw [← List.map_take, List.take_left]
        have hvl2 : ts.length ≤ (ts ++ us.map (shiftT (a.length + 1))).length := by simp
        have cE : (ts.length : Int) ≤ ts.length + us.length := by omega
        have cA : a.length ≤ 9223372036854775806 := by omega
        have cB : a.length + (b.length + 1) ≤ 9223372036854775807 := by omega
        have cC : a.length + b.length ≤ 9223372036854775806 := by omega
        have cD : a.length + 1 + b.length ≤ 9223372036854775807 := by omega
        generalize ts ++ us.map (shiftT (a.length + 1)) = vs at *
        clear hnl hsh hlc hus hts x4 y4
        generalize XX = X at *
        simp [runF, af11, h14a, h14b, h14c, h16, h17, hw2, hw3, hw4, hvl, htk, hvl2, hit, c1, cA, cB, cC, cD, cE, bound]
    · rw [y1, y2] at h14b
      refine comp_runF 1 rfl tab11 ⟨rfl, by decide⟩ ?_
      have h14a := h14a 0
      have h14b := h14b 0
      have h17 := h17 0
      generalize (lexT b).2.1 = at' at *
      generalize XX = X at *
      simp [runF, af11, h14a, h14b, h17]
    · rw [y1, y2, y3] at h14b
      refine comp_runF 1 rfl tab11 ⟨rfl, by decide⟩ ?_
      have h14a := h14a 0
      have h14b := h14b 0
      have h17 := h17 0
      generalize XX = X at *
      simp [runF, af11, h14a, h14b, h17]
  · rw [x1, x2, x6] at h14a
    rw [x6] at x3 x4
    have h14e := fun σ => k14 (X := XX) (k := 0) (σ := σ) rfl (a.take e) (by rw [List.length_take]; omega)
    obtain ⟨us, hus⟩ := lex_cut (a.length + 1) a 0 e ((a.take e).length + 1) (by rw [x7, Nat.zero_add])
    have hle : lexT (a.take e) = (us, 0, 0) := by
      unfold lexT
      rw [if_neg (by rw [List.length_take]; omega), hus]
    unfold lexD at h14e
    rw [hle] at h14e
    refine comp_runF 1 rfl tab11 ⟨rfl, by decide⟩ ?_
    have h14a := h14a 0
    have h17 := h17 0
    have h34 := h34 0
    have c1 : (e : Int) ≤ a.length := by omega
    have c2 : e ≤ a.length := by omega
    clear x7 hus hle
    generalize XX = X at *
    simp [runF, af11, h14a, h14e, h17, h34, hw1, x3, x4, c1, c2, bound]
  · rw [x1, x2, x3] at h14a
    refine comp_runF 1 rfl tab11 ⟨rfl, by decide⟩ ?_
    have h14a := h14a 0
    have h14b := h14b 0
    have h17 := h17 0
    generalize (lexT b).1 = us at *
    generalize (lexT b).2.1 = at' at *
    generalize (lexT b).2.2 = o at *
    generalize XX = X at *
    simp [runF, af11, h14a, h14b, h17]
end Go.AI
