/- Texts of the proof. No conditions of its own. -/
import Derived.Test.YtlbnennpefkpgaaDoorLxF
set_option linter.unusedVariables false
set_option linter.unusedSimpArgs false
namespace Go.AI
open Go Go.Lx
set_option maxRecDepth 100000
set_option linter.unusedSimpArgs false

theorem isInt_digs {s : Bs} (h : isInt s = true) : itoa (numV s) = s := by
  rw [isInt_eq] at h
  simp only [Bool.and_eq_true, decide_eq_true_eq] at h
  have := itoa_val s h.1.2 h.2
  rw [h.1.1] at this
  simpa using this
theorem tok_text {w : Bs} {t : Tok} (h : tokOf w = some t) : textOf t = w := by
  obtain ⟨_, _, h3, h4⟩ := tokOf_some h
  unfold textOf
  split
  · rename_i hk
    obtain ⟨_, hn, hi⟩ := h3 hk
    rw [hn, isInt_digs hi]
  · rename_i hk
    exact (h4 hk).1
theorem dig_isW (c : UInt8) : isDig c = true → isW c = true := fun h => by simp [isW, h]
theorem tok_shape {w : Bs} {t : Tok} (h : tokOf w = some t) : w ≠ [] ∧ (w.all isW = true ∨ isSym w = true) := by
  have hne : w ≠ [] := by intro h0; subst h0; rw [tokOf_nil] at h; cases h
  refine ⟨hne, ?_⟩
  have wd : ∀ {p : UInt8 → Bool} {s : Bs}, wordOf p s = true → s.all isW = true := by
    intro p s hs
    cases s with
    | nil => rfl
    | cons c r => simp only [wordOf, Bool.and_eq_true] at hs; exact hs.2
  unfold tokOf at h
  split at h
  · rename_i hi
    rw [isInt_eq] at hi
    simp only [Bool.and_eq_true] at hi
    exact .inl (List.all_eq_true.2 fun c hc => dig_isW c (List.all_eq_true.1 hi.1.2 c hc))
  · split at h
    · rename_i hk; exact .inl (wd (key_low hk))
    · split at h
      · rename_i hv; simp only [varW, Bool.and_eq_true] at hv; exact .inl (wd hv.1)
      · split at h
        · rename_i hu; exact .inl (wd hu)
        · split at h
          · rename_i hs; exact .inr hs
          · cases h

/-- What may stand behind a word or a symbol. -/
def stopper (r : Bs) : Prop := ∀ c s, r = c :: s → isW c = false ∧ c ≠ 61 ∧ c ≠ 62
theorem stopper_nil : stopper [] := fun c s h => by cases h
theorem stopper_32 (r : Bs) : stopper (32 :: r) := fun c s h => by cases h; exact ⟨by decide, by decide, by decide⟩
theorem stopper_10 (r : Bs) : stopper (10 :: r) := fun c s h => by cases h; exact ⟨by decide, by decide, by decide⟩
def symFirst : Bs → Bool
  | [] => false
  | c :: _ => !isW c && !isBlank c && c != 35 && c != 10
theorem sym_first (w : Bs) (h : isSym w = true) : ∃ c r, w = c :: r ∧ isW c = false ∧ isBlank c = false ∧ c ≠ 35 ∧ c ≠ 10 := by
  have hm := List.contains_iff_mem.1 h
  have : ∀ w ∈ syms, symFirst w = true := by decide +kernel
  have := this w hm
  cases w with
  | nil => cases this
  | cons c r =>
    simp only [symFirst, Bool.and_eq_true, Bool.not_eq_true', bne_iff_ne, ne_eq] at this
    exact ⟨c, r, rfl, this.1.1.1, this.1.1.2, this.1.2, this.2⟩
theorem w_first (c : UInt8) : isW c = true → isBlank c = false ∧ c ≠ 35 ∧ c ≠ 10 := all_bytes' (p := fun c => isW c = true → isBlank c = false ∧ c ≠ 35 ∧ c ≠ 10) (by decide +kernel) c
theorem takeWhile_all : ∀ (w r : Bs), w.all isW = true → (∀ c s, r = c :: s → isW c = false) → (w ++ r).takeWhile isW = w
  | [], r, _, hr => by
    cases r with
    | nil => rfl
    | cons c s => simp [List.takeWhile_cons, hr c s rfl]
  | a :: w, r, h, hr => by
    simp only [List.all_cons, Bool.and_eq_true] at h
    rw [List.cons_append, List.takeWhile_cons, h.1]
    simp only [if_true]
    rw [takeWhile_all w r h.2 hr]
theorem symAt_stop {w r : Bs} (h : isSym w = true) (hr : stopper r) : symAt (w ++ r) = w := by
  rw [isSym_eq] at h
  simp only [Bool.and_eq_true, Bool.not_eq_true', beq_iff_eq] at h
  obtain ⟨hne, hs⟩ := h
  match w, hne, hs with
  | [c], _, hs =>
    simp only [symAt, List.cons_append, List.nil_append] at hs ⊢
    have h1 : ¬ (c = 61 ∧ ([] : Bs).head? = some 61 ∨ c = 45 ∧ ([] : Bs).head? = some 62) := by simp
    rw [if_neg h1] at hs
    have h2 : ¬ (c = 61 ∧ r.head? = some 61 ∨ c = 45 ∧ r.head? = some 62) := by
      cases r with
      | nil => simp
      | cons d s =>
        have := hr d s rfl
        rintro (⟨_, hh⟩ | ⟨_, hh⟩)
        · simp at hh; exact this.2.1 hh
        · simp at hh; exact this.2.2 hh
    rw [if_neg h2]
    exact hs
  | [c, d], _, hs =>
    simp only [symAt, List.cons_append, List.nil_append, List.head?_cons, Option.some.injEq] at hs ⊢
    by_cases h1 : c = 61 ∧ d = 61 ∨ c = 45 ∧ d = 62
    · rw [if_pos h1]; rfl
    · rw [if_neg h1] at hs
      split at hs <;> simp at hs
  | c :: d :: e :: q, _, hs =>
    have := congrArg List.length hs
    simp only [symAt] at this
    split at this
    · simp at this
    · split at this <;> simp at this
theorem begins_tok {w r : Bs} {t : Tok} (h : tokOf w = some t) (hr : stopper r) : begins (w ++ r) = w := by
  obtain ⟨hne, hs⟩ := tok_shape h
  unfold begins
  rcases hs with hs | hs
  · have := takeWhile_all w r hs fun c s hc => (hr c s hc).1
    rw [this, if_neg hne]
  · obtain ⟨c, q, rfl, hc, _⟩ := sym_first w hs
    have : ((c :: q) ++ r).takeWhile isW = [] := by rw [List.cons_append, List.takeWhile_cons, hc]; rfl
    rw [this, if_pos rfl]
    exact symAt_stop hs hr
theorem space_tok {w r : Bs} {t : Tok} (h : tokOf w = some t) : spaceLen false (w ++ r) = 0 := by
  obtain ⟨hne, hs⟩ := tok_shape h
  have : ∃ c q, w = c :: q ∧ isBlank c = false ∧ c ≠ 35 := by
    rcases hs with hs | hs
    · cases w with
      | nil => exact absurd rfl hne
      | cons c q =>
        simp only [List.all_cons, Bool.and_eq_true] at hs
        have := w_first c hs.1
        exact ⟨c, q, rfl, this.1, this.2.1⟩
    · obtain ⟨c, q, h1, _, h2, h3, _⟩ := sym_first w hs
      exact ⟨c, q, h1, h2, h3⟩
  obtain ⟨c, q, rfl, h1, h2⟩ := this
  have h2' : (c == 35) = false := by simpa using h2
  rw [List.cons_append, spaceLen, h1, h2']
  simp
theorem lexR_tok {w r : Bs} {t : Tok} {f p : Nat} (h : tokOf w = some t) (hr : stopper r) :
    lexR (f + 1) (w ++ r) p = match lexR f r (p + w.length) with | .ok l => .ok ({ t with a := (p : Int) } :: l) | .error e => .error e := by
  obtain ⟨hne, _⟩ := tok_shape h
  rw [lexR, space_tok h, List.drop_zero, begins_tok h hr, h]
  rw [if_neg (by simp [hne])]
  simp only [Nat.add_zero, List.drop_left]
  cases lexR f r (p + w.length) <;> rfl
theorem lexR_blank {r : Bs} {f p : Nat} : lexR (f + 1) (32 :: r) p = lexR (f + 1) r (p + 1) := by
  have hs : spaceLen false (32 :: r) = spaceLen false r + 1 := by simp [spaceLen, isBlank]
  rw [lexR, lexR, hs]
  simp only [List.drop_succ_cons]
  rw [show p + (spaceLen false r + 1) = p + 1 + spaceLen false r by omega]
theorem valid_tok {t : Tok} (h : validT t = true) : tokOf (textOf t) = some (t0 t) := by
  unfold validT at h
  simpa [t0] using h
/-- Lex of what Join returns. -/
theorem lex_join : ∀ (l : List Tok) (f p : Nat), l.all validT = true → l.length < f → ∃ us, lexR f (joinS (l.map textOf)) p = .ok us ∧ us.map t0 = l.map t0
  | [], f, p, _, hf => by
    obtain ⟨f, rfl⟩ : ∃ g, f = g + 1 := ⟨f - 1, by omega⟩
    exact ⟨[], by simp [lexR, joinS, spaceLen], rfl⟩
  | [t], f, p, hv, hf => by
    obtain ⟨f, rfl⟩ : ∃ g, f = g + 2 := ⟨f - 2, by simp at hf; omega⟩
    simp only [List.all_cons, Bool.and_eq_true] at hv
    have ht := valid_tok hv.1
    have := lexR_tok (f := f + 1) (p := p) ht stopper_nil
    rw [List.append_nil] at this
    refine ⟨[{ t0 t with a := (p : Int) }], ?_, ?_⟩
    · show lexR (f + 2) (textOf t) p = _
      rw [this]
      simp [lexR, spaceLen]
    · simp [t0]
  | t :: u :: r, f, p, hv, hf => by
    obtain ⟨f, rfl⟩ : ∃ g, f = g + 2 := ⟨f - 2, by simp at hf; omega⟩
    rw [List.all_cons, Bool.and_eq_true] at hv
    have ht := valid_tok hv.1
    have h1 := lexR_tok (f := f + 1) (p := p) (r := 32 :: joinS ((u :: r).map textOf)) ht (stopper_32 _)
    obtain ⟨us, h2, h3⟩ := lex_join (u :: r) (f + 1) (p + (textOf t).length + 1) hv.2 (by simp at hf ⊢; omega)
    refine ⟨{ t0 t with a := (p : Int) } :: us, ?_, ?_⟩
    · show lexR (f + 2) (textOf t ++ 32 :: joinS ((u :: r).map textOf)) p = _
      rw [h1, lexR_blank, h2]
    · rw [List.map_cons, List.map_cons (f := t0), h3]; simp [t0]

theorem begins_ne {t : Bs} {k : Tok} (h : tokOf (begins t) = some k) : 1 ≤ (begins t).length := by
  rcases Nat.eq_zero_or_pos (begins t).length with h0 | h0
  · rw [List.length_eq_zero_iff.1 h0, tokOf_nil] at h; cases h
  · exact h0
/-- What Lex returns is not more than the text. -/
theorem lex_sum : ∀ (f : Nat) (t : Bs) (p : Nat) (us : List Tok), lexR f t p = .ok us → us.length ≤ t.length ∧ sumL us ≤ t.length ∧ us.all validT = true ∧ ∀ u ∈ us, inR u.n
  | 0, t, p, us, h => by simp only [lexR, Except.ok.injEq] at h; subst h; exact ⟨by simp, by simp [sumL], rfl, by simp⟩
  | f + 1, t, p, us, h => by
    rw [lexR] at h
    split at h
    · cases h; exact ⟨by simp, by simp [sumL], rfl, by simp⟩
    · split at h
      · cases h
      · rename_i k hk
        split at h
        · rename_i l' hl'
          cases h
          obtain ⟨h1, h2, h3, h4⟩ := lex_sum f _ _ _ hl'
          have hb := begins_len (t.drop (spaceLen false t))
          have hne := begins_ne hk
          have ht := tok_text hk
          have htx : textOf { k with a := ((p + spaceLen false t : Nat) : Int) } = begins (t.drop (spaceLen false t)) := by rw [← ht]; rfl
          have hlen := tokOf_len hk
          simp only [List.length_drop] at h1 h2 hb
          refine ⟨by simp; omega, ?_, ?_, ?_⟩
          · show sumL ([_] ++ l') ≤ _
            simp only [sumL, List.map_append, List.map_cons, List.map_nil, List.sum_append, List.sum_cons, List.sum_nil, htx]
            simp only [sumL] at h2
            omega
          · simp only [List.all_cons, h3, Bool.and_true]
            unfold validT
            rw [htx, hk]
            obtain ⟨_, ha, _⟩ := tokOf_some hk
            simp [← ha]
          · intro u hu
            rcases List.mem_cons.1 hu with rfl | hu
            · obtain ⟨_, _, h5, h6⟩ := tokOf_some hk
              by_cases h3 : k.k = 3
              · obtain ⟨_, hn, hi⟩ := h5 h3
                show inR k.n
                rw [hn]
                rw [isInt_eq] at hi
                simp only [Bool.and_eq_true, decide_eq_true_eq] at hi
                have := numV_lt _ hi.1.2
                have h9 : 10 ^ (begins (t.drop (spaceLen false t))).length ≤ 10 ^ 9 := Nat.pow_le_pow_right (by omega) hi.2
                unfold inR; omega
              · show inR k.n
                rw [(h6 h3).2]; unfold inR; omega
            · exact h4 u hu
        · cases h
/-- Where an error lies. -/
theorem lex_err : ∀ (f : Nat) (t : Bs) (p e : Nat), lexR f t p = .error e → p ≤ e ∧ e < p + t.length
  | 0, t, p, e, h => by cases h
  | f + 1, t, p, e, h => by
    rw [lexR] at h
    split at h
    · cases h
    · rename_i hne
      have hlt : spaceLen false t < t.length := by
        rcases Nat.lt_or_ge (spaceLen false t) t.length with h | h
        · exact h
        · exact absurd (List.drop_eq_nil_of_le h) hne
      split at h
      · cases h; omega
      · rename_i k hk
        split at h
        · cases h
        · rename_i e' he'
          cases h
          have := lex_err f _ _ _ he'
          have hb := begins_len (t.drop (spaceLen false t))
          simp only [List.length_drop] at this hb
          omega
end Go.AI

namespace Go.AI
open Go Go.Lx Go.Proofs
set_option maxRecDepth 100000
set_option linter.unusedSimpArgs false

theorem lex_single {w : Bs} {t : Tok} (h : tokOf w = some t) : lexT w = ([t], 0, 0) := by
  have hl := tokOf_len h
  obtain ⟨_, ha, _⟩ := tokOf_some h
  unfold lexT
  rw [if_neg (by omega)]
  obtain ⟨hne, _⟩ := tok_shape h
  have hpos : 0 < w.length := List.length_pos_iff.2 hne
  have := lexR_tok (f := w.length) (p := 0) h stopper_nil
  rw [List.append_nil] at this
  rw [this]
  obtain ⟨m, hm⟩ : ∃ m, w.length = m + 1 := ⟨w.length - 1, by omega⟩
  rw [hm]
  obtain ⟨tk, ts, tn, ta⟩ := t
  simp only at ha
  subst ha
  simp [lexR, spaceLen]
theorem tok_itoa {x : Nat} (hx : x < 1000000000) : tokOf (itoa x) = some ⟨3, [], x, 0⟩ := by
  have h1 : itoa (x : Int) = digsF 9 x := by
    unfold itoa
    rw [if_neg (by omega)]
    simp only [Int.toNat_natCast, digs]
    rw [digs_eq 19 _ (by omega), digs_eq 8 _ (by omega)]
  have h2 := digs_shape 8 x (by omega)
  have hi : isInt (digsF 9 x) = true := by
    rw [isInt_eq, h2.1, h2.2.1]
    simpa using h2.2.2.2
  unfold tokOf
  rw [h1, hi, val_digs 8 x (by omega)]
  rfl
theorem law13 (s : Bs) (hs : s.length ≤ 9223372036854775000) (n : Int) (hn : 0 ≤ n ∧ n ≤ 4294967295) : Comp tabT XX G0 13 [.str s, .int .u32 n] (.bool true) := by
  refine comp_runF 1 rfl tab13 ⟨rfl, by decide⟩ ?_
  have h26 := fun σ => k26 (X := XX) (k := 0) (σ := σ) rfl s
  have h28 := fun σ => k28 (X := XX) (k := 0) (σ := σ) rfl s
  have h30 := fun σ => k30 (X := XX) (k := 0) (σ := σ) rfl s
  have h14 := fun σ => k14 (X := XX) (k := 0) (σ := σ) rfl s hs
  have h34 := fun n a b σ => k34 (X := XX) (k := 0) (σ := σ) rfl n a b
  have h17 := fun σ => k17 (k := 0) (σ := σ)
  -- the digits
  obtain ⟨x, hx, hx2⟩ : ∃ x : Nat, n.tmod 1000000000 = x ∧ x < 1000000000 := by
    have h1 := Int.tmod_nonneg 1000000000 hn.1
    have h2 := Int.tmod_lt_of_pos n (show (0 : Int) < 1000000000 by omega)
    exact ⟨(n.tmod 1000000000).toNat, by omega, by omega⟩
  have hxi : inR (x : Int) := by unfold inR; omega
  have h24 := fun σ => k24 (X := XX) (k := 0) (σ := σ) rfl hxi
  have hil := itoa_len (x : Int)
  have h14b := fun σ => k14 (X := XX) (k := 0) (σ := σ) rfl (itoa x) (by omega)
  have hls := lex_single (tok_itoa hx2)
  unfold lexD at h14b
  rw [hls] at h14b
  simp only [List.map_cons, List.map_nil] at h14b
  have hwx : IntKind.i64.wrap (x : Int) = x := wrap_i64 (by omega) (by omega)
  clear hls hil hxi
  generalize itoa (x : Int) = ds at *
  have hw1 : IntKind.i64.wrap (0 + 1) = 1 := by decide
  have hw1' : IntKind.i64.wrap 1 = 1 := by decide
  cases hv : varW s
  · cases hu : upW s
    · cases hk : isKey s
      · -- none of the classes
        rw [hv] at h26; rw [hu] at h28; rw [hk] at h30
        have hnot : ∀ t, lexT s = ([t], 0, 0) → (0 ≤ t.k ∧ t.k ≤ 2) → t.s ≠ s := by
          intro t ht hkk he
          unfold lexT at ht
          split at ht
          · simp at ht
          · split at ht
            · rename_i l hl
              simp at ht
              subst ht
              rw [lexR] at hl
              split at hl
              · simp at hl
              · split at hl
                · cases hl
                · rename_i k hk'
                  split at hl
                  · rename_i l' _
                    simp at hl
                    obtain ⟨rfl, _⟩ := hl
                    obtain ⟨_, _, _, h4⟩ := tokOf_some hk'
                    simp only at hkk he
                    have := (h4 (by omega)).1
                    rw [he] at this
                    rw [← this] at hk'
                    unfold tokOf at hk'
                    rw [hv, hu, hk] at hk'
                    cases hi : isInt s <;> rw [hi] at hk'
                    · cases hsy : isSym s <;> rw [hsy] at hk'
                      · simp at hk'
                      · simp at hk'; rw [← hk'] at hkk; simp at hkk
                    · simp at hk'; rw [← hk'] at hkk; simp at hkk
                  · cases hl
            · simp at ht
        unfold lexD at h14
        obtain ⟨⟨l, at', e⟩, hle⟩ : ∃ q, lexT s = q := ⟨_, rfl⟩
        rw [hle] at h14 hnot
        simp only at h14
        generalize XX = X at *
        by_cases he : e = 0
        · subst he
          match l, h14, hnot with
          | [], h14, _ => simp [runF, af13, h26, h28, h30, h14, h34, h17, hx, hwx, h24, h14b, fillD, flatEqs, D.kindEq, eqD]
          | [t], h14, hnot =>
            by_cases hat : at' = 0
            · subst hat
              have hnot := hnot t rfl
              by_cases hk1 : 0 ≤ t.k
              · by_cases hk2 : t.k ≤ 2
                · have hne : (t.s == s) = false := by simpa using hnot ⟨hk1, hk2⟩
                  simp [runF, af13, h26, h28, h30, h14, h34, h17, hx, hwx, h24, h14b, fillD, flatEqs, D.kindEq, eqD, hk1, hk2, hne]
                · simp [runF, af13, h26, h28, h30, h14, h34, h17, hx, hwx, h24, h14b, fillD, flatEqs, D.kindEq, eqD, hk1, hk2]
              · simp [runF, af13, h26, h28, h30, h14, h34, h17, hx, hwx, h24, h14b, fillD, flatEqs, D.kindEq, eqD, hk1]
            · exfalso
              unfold lexT at hle
              split at hle
              · simp at hle
              · split at hle <;> simp at hle
                exact hat hle.2.symm
          | t :: u :: r, h14, _ =>
            have h2 : (((t :: u :: r).length : Int) == 1) = false := by simp; omega
            generalize hlr : t :: u :: r = l at *
            simp [runF, af13, h26, h28, h30, h14, h34, h17, hx, hwx, h24, h14b, fillD, flatEqs, D.kindEq, eqD, h2]
        · have he' : (e == 0) = false := by simpa using he
          simp [runF, af13, h26, h28, h30, h14, h34, h17, hx, hwx, h24, h14b, fillD, flatEqs, D.kindEq, eqD, he, he']
      · rw [hv] at h26; rw [hu] at h28; rw [hk] at h30
        have ht : tokOf s = some ⟨1, s, 0, 0⟩ := by unfold tokOf; rw [int_key hk, hk]; rfl
        unfold lexD at h14
        rw [lex_single ht] at h14
        simp only [List.map_cons, List.map_nil] at h14
        generalize XX = X at *
        simp [runF, af13, h26, h28, h30, h14, h34, h17, hx, hwx, h24, h14b, fillD, flatEqs, D.kindEq, eqD, hw1, hw1']
    · have hk := up_key hu
      rw [hv] at h26; rw [hu] at h28; rw [hk] at h30
      have ht : tokOf s = some ⟨2, s, 0, 0⟩ := by unfold tokOf; rw [int_up hu, hk, hv, hu]; rfl
      unfold lexD at h14
      rw [lex_single ht] at h14
      simp only [List.map_cons, List.map_nil] at h14
      generalize XX = X at *
      simp [runF, af13, h26, h28, h30, h14, h34, h17, hx, hwx, h24, h14b, fillD, flatEqs, D.kindEq, eqD, hw1, hw1']
  · have hk := var_key hv
    have hu : upW s = false := by
      cases h : upW s
      · rfl
      · rw [up_var h] at hv; cases hv
    rw [hv] at h26; rw [hu] at h28; rw [hk] at h30
    have ht : tokOf s = some ⟨0, s, 0, 0⟩ := by unfold tokOf; rw [int_var hv, hk, hv]; rfl
    unfold lexD at h14
    rw [lex_single ht] at h14
    simp only [List.map_cons, List.map_nil] at h14
    generalize XX = X at *
    simp [runF, af13, h26, h28, h30, h14, h34, h17, hx, hwx, h24, h14b, fillD, flatEqs, D.kindEq, eqD, hw1, hw1']
end Go.AI

namespace Go.AI
open Go Go.Lx Go.Proofs
set_option maxRecDepth 100000
set_option linter.unusedSimpArgs false

theorem text_pos {t : Tok} (h : validT t = true) : 1 ≤ (textOf t).length := by
  have := (tok_shape (valid_tok h)).1
  exact List.length_pos_iff.2 this
theorem sumL_ge : ∀ (l : List Tok), l.all validT = true → l.length ≤ sumL l
  | [], _ => by simp
  | a :: r, h => by
    simp only [List.all_cons, Bool.and_eq_true] at h
    have := sumL_ge r h.2
    have := text_pos h.1
    simp only [sumL, List.map_cons, List.sum_cons, List.length_cons] at *
    omega
/-- Join's text is read again. -/
theorem again_join {l : List Tok} (h : (joinT l).2 = 0) : ∃ us, lexT (joinT l).1 = (us, 0, 0) ∧ us.map t0 = l.map t0 ∧ (joinT l).1.length ≤ 30000 := by
  unfold joinT at h ⊢
  cases hv : l.all validT
  · rw [hv] at h; simp at h
  · rw [hv] at h
    simp only [if_true] at h ⊢
    split at h
    · simp at h
    · rename_i hm
      rw [if_neg hm]
      simp only
      have hj := joinS_length (l.map textOf)
      have hge := sumL_ge l hv
      have hm2 := manyS_eq l
      obtain ⟨us, h1, h2⟩ := lex_join l ((joinS (l.map textOf)).length + 1) 0 hv (by omega)
      refine ⟨us, ?_, h2, by omega⟩
      unfold lexT
      rw [if_neg (by omega), h1]
/-- What Lex returns. -/
theorem again_lex (t : Bs) : ((lexT t).2.2 = 0 ∧ (lexT t).2.1 = 0 ∧ t.length ≤ 30000 ∧ lexR (t.length + 1) t 0 = .ok (lexT t).1) ∨ ((lexT t).1 = [] ∧ (lexT t).2.2 = 2 ∧ 0 ≤ (lexT t).2.1 ∧ (lexT t).2.1 ≤ (t.length : Int) - 1 ∧ t.length ≤ 30000 ∧ ∃ e : Nat, (lexT t).2.1 = e ∧ lexR (t.length + 1) t 0 = .error e) ∨ ((lexT t).1 = [] ∧ (lexT t).2.2 = 3 ∧ (lexT t).2.1 = 0) := by
  unfold lexT
  by_cases h : 30000 < t.length
  · rw [if_pos h]; exact .inr (.inr ⟨rfl, rfl, rfl⟩)
  · rw [if_neg h]
    cases hx : lexR (t.length + 1) t 0 with
    | ok us => exact .inl ⟨rfl, rfl, by omega, rfl⟩
    | error e =>
      have := lex_err _ _ _ _ hx
      refine .inr (.inl ⟨rfl, rfl, ?_, ?_, by omega, e, rfl, rfl⟩) <;> simp only <;> omega
theorem law9 (l : List Tok) (hl : toksOK l) (t : Bs) (ht : t.length ≤ 140737488351232) : Comp tabT XX G0 9 [toksD l, .str t] (.bool true) := by
  refine comp_runF 1 rfl tab9 ⟨rfl, by decide⟩ ?_
  have h18 := fun σ => k18 (X := XX) (k := 0) (σ := σ) rfl l hl
  have h14 := fun σ => k14 (X := XX) (k := 0) (σ := σ) rfl t (by omega)
  have h34 := fun n a b σ => k34 (X := XX) (k := 0) (σ := σ) rfl n a b
  have h17 := fun σ => k17 (k := 0) (σ := σ)
  have hj := again_join (l := l)
  have hlen := hl.1
  -- the second part
  have hx := again_lex t
  unfold lexD at h14
  unfold joinD at h18
  have h33 := fun (b : List Tok) σ => k33 (X := XX) (k := 0) (σ := σ) rfl l b (by omega)
  have h14s : (joinT l).2 = 0 → ∀ σ, evalFn tabT XX G0 1 (.fn 14) [.str (joinT l).1] σ = some (.ret (lexD (joinT l).1), σ) := fun h0 σ => k14 (X := XX) (k := 0) (σ := σ) rfl _ (by obtain ⟨_, _, _, h⟩ := hj h0; omega)
  generalize hs : (joinT l).1 = s at hj h18 h14s
  generalize he : (joinT l).2 = e at hj h18 h14s
  -- what stands in the first part, in two cases
  have first : (e == 0) = false ∨ (e = 0 ∧ ∃ us : List Tok, (∀ σ, evalFn tabT XX G0 1 (.fn 14) [.str s] σ = some (.ret (.tuple [toksD us, .int .i64 0, .int .i64 0]), σ)) ∧ (∀ σ, evalFn tabT XX G0 1 (.fn 33) [toksD l, toksD us] σ = some (.ret (.bool true), σ)) ∧ (s.length : Int) ≤ 30000) := by
    by_cases h0 : e = 0
    · right
      obtain ⟨us, h1, h2, h3⟩ := hj h0
      refine ⟨h0, us, fun σ => ?_, fun σ => ?_, by omega⟩
      · have := h14s h0 σ
        unfold lexD at this
        rw [h1] at this
        exact this
      · rw [h33 us σ, h2]; simp
    · left; simpa using h0
  have hw1 : IntKind.i64.wrap ((t.length : Int) - 1) = t.length - 1 := wrap_i64 (by omega) (by omega)
  have hw2 : IntKind.i64.wrap (2 * (t.length : Int)) = 2 * t.length := wrap_i64 (by omega) (by omega)
  rcases hx with ⟨x1, x2, x3, x4⟩ | ⟨x1, x2, x3, x4, _, _⟩ | ⟨x1, x2, x3⟩
  · obtain ⟨y1, y2, y3, y4⟩ := lex_sum _ _ _ _ x4
    rw [x1, x2] at h14
    generalize (lexT t).1 = k at *
    have hkok : toksOK k := ⟨by omega, y4⟩
    have h18k := fun σ => k18 (X := XX) (k := 0) (σ := σ) rfl k hkok
    unfold joinD at h18k
    by_cases hm : 30000 < manyS (k.map textOf)
    · have hjk : joinT k = ([], 3) := by unfold joinT; rw [y3, if_pos rfl, if_pos hm]
      rw [hjk] at h18k
      rw [manyS_eq] at hm
      have h2l : (30000 : Int) < 2 * t.length := by omega
      simp only at h18k
      generalize XX = X at *
      rcases first with he0 | ⟨rfl, us, f1, f2, f3⟩
      · simp [runF, af9, h18, he0, h14, h18k, h17, hw2, h2l]
      · have f3' : ¬ (30000 : Int) < s.length := by omega
        simp [runF, af9, h18, h14, f1, f2, f3, f3', h18k, h17, hw2, h2l]
    · have hjk : (joinT k).2 = 0 := by unfold joinT; rw [y3, if_pos rfl, if_neg hm]
      obtain ⟨ms, z1, z2, z3⟩ := again_join hjk
      have h14k := fun σ => k14 (X := XX) (k := 0) (σ := σ) rfl (joinT k).1 (by omega)
      unfold lexD at h14k
      rw [z1] at h14k
      have h33k := fun σ => k33 (X := XX) (k := 0) (σ := σ) rfl k ms (by omega)
      rw [z2, decide_eq_true rfl] at h33k
      rw [hjk] at h18k
      generalize (joinT k).1 = tk at *
      simp only at h14k
      generalize XX = X at *
      rcases first with he0 | ⟨rfl, us, f1, f2, f3⟩
      · simp [runF, af9, h18, he0, h14, h18k, h14k, h33k, h17]
      · have f3' : ¬ (30000 : Int) < s.length := by omega
        simp [runF, af9, h18, h14, f1, f2, f3, f3', h18k, h14k, h33k, h17]
  · rw [x1, x2] at h14
    generalize (lexT t).2.1 = at' at *
    generalize XX = X at *
    rcases first with he0 | ⟨rfl, us, f1, f2, f3⟩
    · simp [runF, af9, h18, he0, h14, h34, hw1, x3, x4, h17]
    · have f3' : ¬ (30000 : Int) < s.length := by omega
      simp [runF, af9, h18, h14, f1, f2, f3, f3', h34, hw1, x3, x4, h17]
  · rw [x1, x2, x3] at h14
    generalize XX = X at *
    rcases first with he0 | ⟨rfl, us, f1, f2, f3⟩
    · simp [runF, af9, h18, he0, h14, h17]
    · have f3' : ¬ (30000 : Int) < s.length := by omega
      simp [runF, af9, h18, h14, f1, f2, f3, f3', h17]
end Go.AI

namespace Go.AI
open Go Go.Lx Go.Proofs
set_option maxRecDepth 100000
set_option linter.unusedSimpArgs false

theorem begins_take (t : Bs) : begins t = t.take (begins t).length := by
  unfold begins
  split
  · exact symAt_take t
  · exact List.prefix_iff_eq_take.1 (List.takeWhile_prefix isW)
theorem lp10 {X : Ext} {k : Nat} {σ : St} (h34 : X 34 = some (wk g34)) (h35 : X 35 = some (wk g35)) (h36 : X 36 = some (wk g36)) {l w : Bs} {ts : List Tok} {t : Tok} (i r p : Nat) (hi : i < ts.length) (ht : ts[i] = t) (hl : l.length ≤ 30000) (hts : ts.length ≤ 30000)
    (hw : textOf t = w) (hR : inR t.n) (hp : t.a = p) (hrp : r ≤ p) (hpl : p + w.length ≤ l.length) (htk : (l.take (p + w.length)).drop p = w) (hne : w ≠ []) (hsp : r + spaceLen false (l.drop r) = p) :
    evalCode (evalFn tabT X G0 (k + 1)) (fun f => (X f).isSome) G0 97 (k + 1) false lp10_0 [(0, .str l), (3, toksD ts), (6, .int .i64 r), (7, .int .i64 i)] σ =
      some (.normal, [(0, .str l), (3, toksD ts), (6, .int .i64 ((p + w.length : Nat) : Int)), (7, .int .i64 ((i + 1 : Nat) : Int))], σ) := by
  have hk35 := fun σ => k35 (X := X) (k := k) (σ := σ) h35 t hR
  rw [hw] at hk35
  have hk36 := fun σ => k36 (X := X) (k := k) (σ := σ) h36 l r (by omega) (by omega)
  have hw1 : IntKind.i64.wrap ((i : Int) + 1) = i + 1 := wrap_i64 (by omega) (by omega)
  have hw2 : IntKind.i64.wrap ((l.length : Int) - w.length) = l.length - w.length := wrap_i64 (by omega) (by omega)
  have hw3 : IntKind.i64.wrap ((r : Int) + spaceLen false (l.drop r)) = p := by rw [show (r : Int) + spaceLen false (l.drop r) = p by omega]; exact wrap_i64 (by omega) (by omega)
  obtain ⟨q, hq⟩ : ∃ q, p + w.length = q := ⟨_, rfl⟩
  rw [hq] at htk hpl ⊢
  have hw4 : IntKind.i64.wrap ((p : Int) + w.length) = q := by rw [show (p : Int) + w.length = q by omega]; exact wrap_i64 (by omega) (by omega)
  have c1 : (r : Int) ≤ p := by omega
  have c2 : (p : Int) ≤ l.length - w.length := by omega
  have c3 : (p : Int) ≤ q := by omega
  have c4 : (q : Int) ≤ l.length := by omega
  have c5 : p ≤ q := by omega
  have c6 : (w == ([] : Bs)) = false := by simpa using hne
  generalize spaceLen false (l.drop r) = sp at *
  obtain ⟨tk, tse, tn, ta⟩ := t
  simp only at hp hk35
  subst hp
  simp [lp10_0, hi, ht, hk35, hk36, k34 h34, h34, h36, hw1, hw2, hw3, hw4, c1, c2, c3, c4, c5, c6, bound, htk]
theorem lp10e {cf : CallF} {x : FuncId → Bool} {k : Nat} {σ : St} {d d' : D} {ts : List Tok} :
    evalCode cf x G0 97 k false lp10_0 [(0, d), (3, toksD ts), (6, d'), (7, .int .i64 ts.length)] σ = some (.exit 0, [(0, d), (3, toksD ts), (6, d'), (7, .int .i64 ts.length), (21, .bool false)], σ) := by
  simp [lp10_0]
theorem it10 {X : Ext} {k m : Nat} {σ : St} (h34 : X 34 = some (wk g34)) (h35 : X 35 = some (wk g35)) (h36 : X 36 = some (wk g36)) {l : Bs} {ts : List Tok} (hl : l.length ≤ 30000) (hts : ts.length ≤ 30000) (hR : ∀ t ∈ ts, inR t.n) :
    ∀ (f r : Nat) (us pre : List Tok), ts = pre ++ us → lexR f (l.drop r) r = .ok us → r ≤ l.length → l.length - r < f →
    ∃ q, q ≤ l.length ∧ q + spaceLen false (l.drop q) = l.length ∧ iter (evalCode (evalFn tabT X G0 (k + 1)) (fun f => (X f).isSome) G0 97 (k + 1) false lp10_0) (m + us.length + 1) [(0, .str l), (3, toksD ts), (6, .int .i64 r), (7, .int .i64 pre.length)] σ =
      some (.exit 0, [(0, .str l), (3, toksD ts), (6, .int .i64 q), (7, .int .i64 ts.length), (21, .bool false)], σ)
  | 0, r, us, pre, h, hlx, hr, hf => by omega
  | f + 1, r, us, pre, h, hlx, hr, hf => by
    rw [lexR] at hlx
    have hsp := spaceLen_le false (l.drop r)
    rw [List.length_drop] at hsp
    rw [List.drop_drop] at hlx
    generalize hp : r + spaceLen false (l.drop r) = p at *
    split at hlx
    · rename_i hend
      cases hlx
      have hpl : p = l.length := by
        have : (l.drop p).length = 0 := by rw [hend]; rfl
        rw [List.length_drop] at this; omega
      have : pre.length = ts.length := by rw [h]; simp
      refine ⟨r, hr, by omega, ?_⟩
      rw [this]
      exact iter_exit lp10e
    · split at hlx
      · cases hlx
      · rename_i tk htk
        split at hlx
        · rename_i us' hus
          cases hlx
          have hi : pre.length < ts.length := by rw [h]; simp
          have ht : ts[pre.length] = { tk with a := (p : Int) } := by simp [h]
          have htx : textOf { tk with a := (p : Int) } = begins (l.drop p) := by rw [← tok_text htk]; rfl
          have hbl := begins_len (l.drop p)
          rw [List.length_drop] at hbl
          have hne := begins_ne htk
          have htake : (l.take (p + (begins (l.drop p)).length)).drop p = begins (l.drop p) := by
            rw [List.drop_take, show p + (begins (l.drop p)).length - p = (begins (l.drop p)).length by omega]
            exact (begins_take _).symm
          have hb := lp10 (X := X) (k := k) (σ := σ) h34 h35 h36 pre.length r p hi ht hl hts htx (by rw [← ht]; exact hR _ (List.getElem_mem hi)) rfl (by omega) (by omega) htake (by intro h0; rw [h0] at hne; simp at hne) hp
          rw [List.drop_drop] at hus
          generalize (begins (l.drop p)).length = w at *
          obtain ⟨q, q1, q2, q3⟩ := it10 (X := X) (k := k) (m := m) (σ := σ) h34 h35 h36 hl hts hR f (p + w) us' (pre ++ [{ tk with a := (p : Int) }]) (by rw [h]; simp) hus (by omega) (by omega)
          refine ⟨q, q1, q2, ?_⟩
          simp only [List.length_append, List.length_cons, List.length_nil, Nat.zero_add] at q3
          rw [show m + ({ tk with a := (p : Int) } :: us' : List Tok).length + 1 = (m + us'.length + 1) + 1 by simp; omega, iter_next hb]
          exact q3
        · cases hlx
theorem law10 (t : Bs) (ht : t.length ≤ 9223372036854775000) : Comp tabT XX G0 10 [.str t] (.bool true) := by
  have h14 := fun k σ => k14 (X := XX) (k := k) (σ := σ) rfl t ht
  have h17 := fun k σ => k17 (k := k) (σ := σ)
  unfold lexD at h14
  rcases again_lex t with ⟨x1, x2, x3, x4⟩ | ⟨x1, x2, x3, x4, _, _⟩ | ⟨x1, x2, x3⟩
  · obtain ⟨y1, y2, y3, y4⟩ := lex_sum _ _ _ _ x4
    rw [x1, x2] at h14
    generalize (lexT t).1 = us at *
    refine comp_runF (us.length + 1) rfl tab10 ⟨rfl, by decide⟩ ?_
    obtain ⟨q, q1, q2, hit⟩ := it10 (X := XX) (k := us.length) (m := 0) (σ := []) rfl rfl rfl x3 (by omega) y4 (t.length + 1) 0 us [] rfl (by simpa using x4) (by omega) (by omega)
    simp only [List.length_nil, Nat.zero_add, Int.natCast_zero] at hit
    have h36 := fun σ => k36 (X := XX) (k := us.length) (σ := σ) rfl t q q1 (by omega)
    have h14' := fun σ => h14 us.length σ
    have h17' := fun σ => h17 us.length σ
    generalize hsp : spaceLen false (t.drop q) = sp at *
    have hw : IntKind.i64.wrap ((q : Int) + sp) = t.length := by rw [show (q : Int) + sp = t.length by omega]; exact wrap_i64 (by omega) (by omega)
    clear h14 h17
    generalize XX = X at *
    simp [runF, af10, h14', hit, h36, hw, h17']
  · rw [x1, x2] at h14
    refine comp_runF 1 rfl tab10 ⟨rfl, by decide⟩ ?_
    have h14' := fun σ => h14 0 σ
    have h17' := fun σ => h17 0 σ
    clear h14 h17
    generalize (lexT t).2.1 = at' at *
    generalize XX = X at *
    simp [runF, af10, h14', h17']
  · rw [x1, x2, x3] at h14
    refine comp_runF 1 rfl tab10 ⟨rfl, by decide⟩ ?_
    have h14' := fun σ => h14 0 σ
    have h17' := fun σ => h17 0 σ
    clear h14 h17
    generalize XX = X at *
    simp [runF, af10, h14', h17']
end Go.AI
