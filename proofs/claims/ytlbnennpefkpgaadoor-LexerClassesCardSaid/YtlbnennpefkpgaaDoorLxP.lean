/- The lexer in plain words. No conditions of its own. -/
set_option linter.unusedVariables false
set_option linter.unusedSimpArgs false
namespace Go.Lx

abbrev Bs := List UInt8

structure Tok where
  k : Int
  s : Bs
  n : Int
  a : Int
  deriving DecidableEq

def isBlank (c : UInt8) : Bool := c == 32 || c == 9 || c == 10
def isLow (c : UInt8) : Bool := c == 95 || (97 ≤ c && c ≤ 122)
def isUp (c : UInt8) : Bool := 65 ≤ c && c ≤ 90
def isDig (c : UInt8) : Bool := 48 ≤ c && c ≤ 57
def isW (c : UInt8) : Bool := isLow c || isUp c || isDig c
/-- The kind of a byte. -/
def kind (c : UInt8) : Int := if isBlank c then 1 else if isLow c then 2 else if isUp c then 3 else if isDig c then 4 else 0

/-- The keywords. -/
def kws : List Bs := [[102, 117, 110], [108, 101, 116], [114, 101, 99], [105, 110], [105, 102], [116, 104, 101, 110], [101, 108, 115, 101], [109, 97, 116, 99, 104], [100, 111],
  [104, 97, 110, 100, 108, 101], [115, 104, 97, 108, 108, 111, 119], [110, 97, 109, 101, 100], [109, 97, 115, 107], [117, 115, 105, 110, 103], [99, 108, 111, 115, 101],
  [114, 101, 115, 117, 109, 101], [100, 114, 111, 112], [114, 101, 116, 117, 114, 110], [116, 114, 117, 101], [102, 97, 108, 115, 101], [100, 97, 116, 97], [101, 102, 102, 101, 99, 116],
  [111, 110, 99, 101], [100, 101, 102], [109, 97, 105, 110]]
def isKey (s : Bs) : Bool := kws.contains s
/-- A word of the language whose first byte is of a kind. -/
def wordOf (p : UInt8 → Bool) (s : Bs) : Bool := match s with
  | [] => false
  | c :: r => decide (r.length < 12) && p c && (c :: r).all isW
def varW (s : Bs) : Bool := wordOf isLow s && !isKey s
def upW (s : Bs) : Bool := wordOf isUp s

/-- Symbols of one byte. -/
def symB : Bs := [40, 41, 123, 125, 91, 93, 44, 59, 46, 58, 61, 60, 62, 124, 64, 43, 45, 42]
def syms : List Bs := [[61, 61], [45, 62]] ++ symB.map fun c => [c]
def isSym (s : Bs) : Bool := syms.contains s

/-- The number that digits tell. -/
def numV (s : Bs) : Nat := s.foldl (fun n c => 10 * n + (c.toNat - 48)) 0
def isInt (s : Bs) : Bool := match s with
  | [] => false
  | c :: r => decide (r.length < 9) && (c :: r).all isDig && (r.isEmpty || c != 48)

/-- The token that a string is. -/
def tokOf (s : Bs) : Option Tok :=
  if isInt s then some ⟨3, [], numV s, 0⟩ else if isKey s then some ⟨1, s, 0, 0⟩ else if varW s then some ⟨0, s, 0, 0⟩
  else if upW s then some ⟨2, s, 0, 0⟩ else if isSym s then some ⟨4, s, 0, 0⟩ else none

/-- The symbol with which a text begins. -/
def symAt (t : Bs) : Bs := match t with
  | [] => []
  | c :: r => if c = 61 ∧ r.head? = some 61 ∨ c = 45 ∧ r.head? = some 62 then (c :: r).take 2 else if symB.contains c then [c] else []
/-- The word or the symbol with which a text begins. -/
def begins (t : Bs) : Bs := if t.takeWhile isW = [] then symAt t else t.takeWhile isW

/-- How many bytes of space there are. -/
def spaceLen : Bool → Bs → Nat
  | _, [] => 0
  | com, c :: r => if !(c != 10 && (com || c == 35)) && !isBlank c then 0 else spaceLen (c != 10 && (com || c == 35)) r + 1

/-- The tokens of a text that begins at a byte; else the byte at which it is wrong. -/
def lexR : Nat → Bs → Nat → Except Nat (List Tok)
  | 0, _, _ => .ok []
  | f + 1, t, p =>
    if t.drop (spaceLen false t) = [] then .ok [] else
    match tokOf (begins (t.drop (spaceLen false t))) with
    | none => .error (p + spaceLen false t)
    | some k => match lexR f ((t.drop (spaceLen false t)).drop (begins (t.drop (spaceLen false t))).length) (p + spaceLen false t + (begins (t.drop (spaceLen false t))).length) with
      | .ok l => .ok ({ k with a := ((p + spaceLen false t : Nat) : Int) } :: l)
      | .error e => .error e
/-- What Lex returns: the tokens, the byte, the error. -/
def lexT (t : Bs) : List Tok × Int × Int :=
  if 30000 < t.length then ([], 0, 3) else match lexR (t.length + 1) t 0 with
  | .ok l => (l, 0, 0)
  | .error e => ([], (e : Int), 2)

/-- Decimal digits. -/
def digsF : Nat → Nat → Bs
  | 0, _ => []
  | f + 1, n => if n < 10 then [UInt8.ofNat (48 + n)] else digsF f (n / 10) ++ [UInt8.ofNat (48 + n % 10)]
def digs (n : Nat) : Bs := digsF 20 n
def itoa (n : Int) : Bs := if n < 0 then 45 :: digs n.natAbs else digs n.toNat

def textOf (t : Tok) : Bs := if t.k = 3 then itoa t.n else t.s
def validT (t : Tok) : Bool := tokOf (textOf t) == some { t with a := 0 }
/-- Strings with one blank between them. -/
def joinS : List Bs → Bs
  | [] => []
  | [x] => x
  | x :: y :: r => x ++ 32 :: joinS (y :: r)
/-- How long they are together. -/
def manyS (l : List Bs) : Nat := (l.map List.length).sum + (l.length - 1)
/-- What Join returns. -/
def joinT (l : List Tok) : Bs × Int :=
  if l.all validT then (if 30000 < manyS (l.map textOf) then ([], 3) else (joinS (l.map textOf), 0)) else ([], 1)

/-- The line and the column of what lies behind a text. -/
def linesIn (t : Bs) : Nat := t.count 10
def lastNl : Bs → Nat
  | [] => 0
  | c :: r => if c == 10 && !r.contains 10 then r.length else if r.contains 10 then lastNl r else r.length + 1
def colR : Nat → Bs → Nat
  | c, [] => c
  | c, b :: r => colR (if b == 10 then 1 else c + 1) r
def whereT (t : Bs) (at' : Int) : Int × Int × Int :=
  if 0 ≤ at' ∧ at' ≤ t.length then (1 + linesIn (t.take at'.toNat), colR 1 (t.take at'.toNat), 0) else (0, 0, 1)

/-- The integer from -999999999 to 999999999 that n wraps around to. -/
def wrapT (n : Int) : Int := if n.tmod 1999999999 < -999999999 then n.tmod 1999999999 + 1999999999 else if n.tmod 1999999999 > 999999999 then n.tmod 1999999999 - 1999999999 else n.tmod 1999999999

def indexP (l : List Bs) (s : Bs) : Int := match l.findIdx? (· == s) with
  | some i => i
  | none => -1

example : lexT [97, 32, 45, 62, 98, 35, 120] = ([⟨0, [97], 0, 0⟩, ⟨4, [45, 62], 0, 2⟩, ⟨0, [98], 0, 4⟩], 0, 0) := by decide
example : lexT [120, 32, 48, 49] = ([], 2, 2) := by decide
end Go.Lx

namespace Go.Lx

theorem dig_bounds {c : UInt8} (h : isDig c = true) : 48 ≤ c.toNat ∧ c.toNat ≤ 57 := by
  simp only [isDig, Bool.and_eq_true, decide_eq_true_eq, UInt8.le_iff_toNat_le] at h
  exact h
theorem isDig_ofNat {n : Nat} (h : n < 10) : isDig (UInt8.ofNat (48 + n)) = true := by
  have : n = 0 ∨ n = 1 ∨ n = 2 ∨ n = 3 ∨ n = 4 ∨ n = 5 ∨ n = 6 ∨ n = 7 ∨ n = 8 ∨ n = 9 := by omega
  rcases this with rfl | rfl | rfl | rfl | rfl | rfl | rfl | rfl | rfl | rfl <;> decide

theorem numV_append (s : Bs) (c : UInt8) : numV (s ++ [c]) = 10 * numV s + (c.toNat - 48) := by
  simp [numV]
theorem numV_lt : ∀ (s : Bs), s.all isDig = true → numV s < 10 ^ s.length := by
  intro s
  generalize hn : s.length = n
  induction n generalizing s with
  | zero => intro _; have : s = [] := List.length_eq_zero_iff.1 hn; subst this; simp [numV]
  | succ n ih =>
    intro h
    obtain ⟨t, c, rfl⟩ : ∃ t c, s = t ++ [c] := by
      rcases List.eq_nil_or_concat s with rfl | ⟨t, c, h⟩
      · simp at hn
      · exact ⟨t, c, by simpa using h⟩
    simp only [List.all_append, List.all_cons, List.all_nil, Bool.and_true, Bool.and_eq_true] at h
    have hl : t.length = n := by simp at hn; omega
    have := ih t hl h.1
    have hc := dig_bounds h.2
    rw [numV_append, Nat.pow_succ]
    omega

/-- No digit 0 ahead of another one. -/
def noLead (s : Bs) : Bool := match s with
  | [] => false
  | c :: r => r.isEmpty || c != 48
theorem isInt_eq (s : Bs) : isInt s = (noLead s && s.all isDig && decide (s.length ≤ 9)) := by
  cases s with
  | nil => rfl
  | cons c r =>
    simp only [isInt, noLead, List.length_cons]
    rw [show decide (r.length < 9) = decide (r.length + 1 ≤ 9) from rfl]
    cases decide (r.length + 1 ≤ 9) <;> cases (c :: r).all isDig <;> simp

theorem numV_pos {s : Bs} (h : noLead s = true) (hd : s.all isDig = true) (hl : 2 ≤ s.length) : 1 ≤ numV s := by
  generalize hn : s.length = n at *
  induction n generalizing s with
  | zero => omega
  | succ n ih =>
    obtain ⟨t, c, rfl⟩ : ∃ t c, s = t ++ [c] := by
      rcases List.eq_nil_or_concat s with rfl | ⟨t, c, h⟩
      · simp at hn
      · exact ⟨t, c, by simpa using h⟩
    simp only [List.all_append, List.all_cons, List.all_nil, Bool.and_true, Bool.and_eq_true] at hd
    have htl : t.length = n := by simp at hn; omega
    rw [numV_append]
    cases t with
    | nil => simp at htl; omega
    | cons a r =>
      by_cases h2 : 2 ≤ n
      · have := ih (s := a :: r) (by
          simp only [noLead, List.cons_append] at h ⊢
          simp at h
          simp [h]) hd.1 htl h2
        omega
      · have hr : r = [] := by simp at htl; exact List.length_eq_zero_iff.1 (by omega)
        subst hr
        simp [noLead] at h
        simp at hd
        have hb := dig_bounds hd.1
        have : a.toNat ≠ 48 := fun hh => h (by apply UInt8.toNat_inj.1; simpa using hh)
        simp [numV]; omega

theorem digs_val : ∀ (f : Nat) (s : Bs), noLead s = true → s.all isDig = true → s.length ≤ f + 1 → digsF (f + 1) (numV s) = s := by
  intro f
  induction f with
  | zero =>
    intro s h hd hl
    match s, h, hd, hl with
    | [c], _, hd, _ =>
      simp at hd
      have hb := dig_bounds hd
      have hv : numV [c] = c.toNat - 48 := by simp [numV]
      rw [hv, digsF, if_pos (by omega)]
      congr 1
      rw [show 48 + (c.toNat - 48) = c.toNat by omega]
      simp
  | succ f ih =>
    intro s h hd hl
    obtain ⟨t, c, rfl⟩ : ∃ t c, s = t ++ [c] := by
      rcases List.eq_nil_or_concat s with rfl | ⟨t, c, h⟩
      · simp [noLead] at h
      · exact ⟨t, c, by simpa using h⟩
    simp only [List.all_append, List.all_cons, List.all_nil, Bool.and_true, Bool.and_eq_true] at hd
    have hb := dig_bounds hd.2
    rw [numV_append]
    have hc : UInt8.ofNat (48 + (c.toNat - 48)) = c := by rw [show 48 + (c.toNat - 48) = c.toNat by omega]; simp
    cases t with
    | nil =>
      simp [numV]
      rw [digsF, if_pos (by omega), hc]
    | cons a r =>
      have hnl : noLead (a :: r) = true := by
        simp only [noLead, List.cons_append] at h ⊢
        simp at h
        simp [h]
      have hpos : 1 ≤ numV (a :: r) := by
        cases r with
        | nil =>
          simp [noLead] at h
          simp at hd
          have hb := dig_bounds hd.1
          have : a.toNat ≠ 48 := fun hh => h (by apply UInt8.toNat_inj.1; simpa using hh)
          simp [numV]; omega
        | cons b r => exact numV_pos hnl hd.1 (by simp)
      rw [digsF, if_neg (by omega), show (10 * numV (a :: r) + (c.toNat - 48)) / 10 = numV (a :: r) by omega, show (10 * numV (a :: r) + (c.toNat - 48)) % 10 = c.toNat - 48 by omega, hc,
        ih (a :: r) hnl hd.1 (by simp at hl ⊢; omega)]

theorem digs_shape : ∀ (f n : Nat), n < 10 ^ (f + 1) → noLead (digsF (f + 1) n) = true ∧ (digsF (f + 1) n).all isDig = true ∧ (1 ≤ n → (digsF (f + 1) n).head? ≠ some 48) ∧ (digsF (f + 1) n).length ≤ f + 1 := by
  intro f
  induction f with
  | zero =>
    intro n h
    simp at h
    rw [digsF, if_pos h]
    refine ⟨rfl, by simp only [List.all_cons, List.all_nil, Bool.and_true]; exact isDig_ofNat h, fun h1 => ?_, by simp⟩
    have : n = 1 ∨ n = 2 ∨ n = 3 ∨ n = 4 ∨ n = 5 ∨ n = 6 ∨ n = 7 ∨ n = 8 ∨ n = 9 := by omega
    rcases this with rfl | rfl | rfl | rfl | rfl | rfl | rfl | rfl | rfl <;> decide
  | succ f ih =>
    intro n h
    rw [digsF]
    by_cases h10 : n < 10
    · rw [if_pos h10]
      refine ⟨rfl, by simp only [List.all_cons, List.all_nil, Bool.and_true]; exact isDig_ofNat h10, fun h1 => ?_, by simp⟩
      have : n = 1 ∨ n = 2 ∨ n = 3 ∨ n = 4 ∨ n = 5 ∨ n = 6 ∨ n = 7 ∨ n = 8 ∨ n = 9 := by omega
      rcases this with rfl | rfl | rfl | rfl | rfl | rfl | rfl | rfl | rfl <;> decide
    · rw [if_neg h10]
      obtain ⟨h1, h2, h3, h4⟩ := ih (n / 10) (by rw [Nat.pow_succ] at h; omega)
      have h3 := h3 (by omega)
      cases hd : digsF (f + 1) (n / 10) with
      | nil => rw [hd] at h1; simp [noLead] at h1
      | cons a r =>
        rw [hd] at h2 h3 h4
        simp at h3
        refine ⟨by simp [noLead, h3], ?_, fun _ => by simp [h3], by simp at h4 ⊢; omega⟩
        simp only [List.all_append, h2, Bool.true_and, List.all_cons, List.all_nil, Bool.and_true]
        exact isDig_ofNat (by omega)

theorem val_digs : ∀ (f n : Nat), n < 10 ^ (f + 1) → numV (digsF (f + 1) n) = n := by
  intro f
  induction f with
  | zero =>
    intro n h
    simp at h
    rw [digsF, if_pos h]
    have : n = 0 ∨ n = 1 ∨ n = 2 ∨ n = 3 ∨ n = 4 ∨ n = 5 ∨ n = 6 ∨ n = 7 ∨ n = 8 ∨ n = 9 := by omega
    rcases this with rfl | rfl | rfl | rfl | rfl | rfl | rfl | rfl | rfl | rfl <;> decide
  | succ f ih =>
    intro n h
    rw [digsF]
    by_cases h10 : n < 10
    · rw [if_pos h10]
      have : n = 0 ∨ n = 1 ∨ n = 2 ∨ n = 3 ∨ n = 4 ∨ n = 5 ∨ n = 6 ∨ n = 7 ∨ n = 8 ∨ n = 9 := by omega
      rcases this with rfl | rfl | rfl | rfl | rfl | rfl | rfl | rfl | rfl | rfl <;> decide
    · rw [if_neg h10, numV_append, ih _ (by rw [Nat.pow_succ] at h; omega)]
      have : (UInt8.ofNat (48 + n % 10)).toNat = 48 + n % 10 := by
        have h1 : n % 10 < 10 := by omega
        rw [UInt8.toNat_ofNat']; omega
      rw [this]; omega

/-- The digits of the number of a string are the string just if it is an integer. -/
theorem itoa_val (s : Bs) (hd : s.all isDig = true) (hl : s.length ≤ 9) : (itoa (numV s) == s) = noLead s := by
  have hv := numV_lt s hd
  have h9 : 10 ^ s.length ≤ 10 ^ 9 := Nat.pow_le_pow_right (by omega) hl
  have hi : itoa (numV s) = digsF 20 (numV s) := by
    unfold itoa
    rw [if_neg (by omega)]
    simp [digs]
  rw [hi]
  cases h : noLead s
  · rw [beq_eq_false_iff_ne]
    intro he
    have := (digs_shape 19 (numV s) (by omega)).1
    rw [he, h] at this
    cases this
  · rw [digs_val 19 s h hd (by omega)]
    simp
end Go.Lx

namespace Go.Lx

theorem all_bytes' {p : UInt8 → Prop} (h : ∀ n : Fin 256, p (UInt8.ofNat n.val)) (c : UInt8) : p c := by
  have := h ⟨c.toNat, c.toNat_lt⟩
  simpa using this

theorem dig_not (c : UInt8) : isDig c = true → isLow c = false ∧ isUp c = false := all_bytes' (p := fun c => isDig c = true → isLow c = false ∧ isUp c = false) (by decide +kernel) c
theorem low_not (c : UInt8) : isLow c = true → isUp c = false := all_bytes' (p := fun c => isLow c = true → isUp c = false) (by decide +kernel) c
theorem isInt_head {s : Bs} (h : isInt s = true) : ∃ c r, s = c :: r ∧ isDig c = true := by
  cases s with
  | nil => simp [isInt] at h
  | cons c r =>
    simp only [isInt, Bool.and_eq_true, List.all_cons] at h
    exact ⟨c, r, rfl, h.1.2.1⟩
theorem wordOf_head {p : UInt8 → Bool} {s : Bs} (h : wordOf p s = true) : ∃ c r, s = c :: r ∧ p c = true := by
  cases s with
  | nil => simp [wordOf] at h
  | cons c r =>
    simp only [wordOf, Bool.and_eq_true] at h
    exact ⟨c, r, rfl, h.1.2⟩
theorem int_var {s : Bs} (h : varW s = true) : isInt s = false := by
  simp only [varW, Bool.and_eq_true] at h
  obtain ⟨c, r, rfl, hc⟩ := wordOf_head h.1
  cases hi : isInt (c :: r)
  · rfl
  · obtain ⟨c', r', he, hd⟩ := isInt_head hi
    cases he
    rw [(dig_not c hd).1] at hc; cases hc
theorem int_up {s : Bs} (h : upW s = true) : isInt s = false := by
  obtain ⟨c, r, rfl, hc⟩ := wordOf_head h
  cases hi : isInt (c :: r)
  · rfl
  · obtain ⟨c', r', he, hd⟩ := isInt_head hi
    cases he
    rw [(dig_not c hd).2] at hc; cases hc
theorem kws_low : ∀ w ∈ kws, wordOf isLow w = true := by decide +kernel
theorem key_low {s : Bs} (h : isKey s = true) : wordOf isLow s = true := kws_low s (List.contains_iff_mem.1 h)
theorem int_key {s : Bs} (h : isKey s = true) : isInt s = false := by
  obtain ⟨c, r, rfl, hc⟩ := wordOf_head (key_low h)
  cases hi : isInt (c :: r)
  · rfl
  · obtain ⟨c', r', he, hd⟩ := isInt_head hi
    cases he
    rw [(dig_not c hd).1] at hc; cases hc
theorem var_key {s : Bs} (h : varW s = true) : isKey s = false := by
  simp only [varW, Bool.and_eq_true, Bool.not_eq_true'] at h
  exact h.2
theorem up_key {s : Bs} (h : upW s = true) : isKey s = false := by
  cases hk : isKey s
  · rfl
  · obtain ⟨c, r, rfl, hc⟩ := wordOf_head (key_low hk)
    obtain ⟨c', r', he, hd⟩ := wordOf_head h
    cases he
    rw [low_not c hc] at hd; cases hd
theorem up_var {s : Bs} (h : upW s = true) : varW s = false := by
  cases hk : varW s
  · rfl
  · simp only [varW, Bool.and_eq_true] at hk
    obtain ⟨c, r, rfl, hc⟩ := wordOf_head hk.1
    obtain ⟨c', r', he, hd⟩ := wordOf_head h
    cases he
    rw [low_not c hc] at hd; cases hd

/-- The token that a string is; of Kind -1: it is none. -/
def tokR (s : Bs) : Tok := match tokOf s with
  | some t => t
  | none => ⟨-1, [], 0, 0⟩
theorem tokR_eq (s : Bs) : tokR s = if varW s then ⟨0, s, 0, 0⟩ else if isKey s then ⟨1, s, 0, 0⟩ else if upW s then ⟨2, s, 0, 0⟩ else if isInt s then ⟨3, [], numV s, 0⟩ else if isSym s then ⟨4, s, 0, 0⟩ else ⟨-1, [], 0, 0⟩ := by
  unfold tokR tokOf
  cases hv : varW s
  · cases hk : isKey s
    · cases hu : upW s
      · cases hi : isInt s
        · cases hs : isSym s <;> rfl
        · rfl
      · rw [int_up hu]; rfl
    · rw [int_key hk]; rfl
  · rw [int_var hv, var_key hv]; rfl
theorem tokOf_none {s : Bs} (h : tokOf s = none) : isInt s = false ∧ isKey s = false ∧ varW s = false ∧ upW s = false ∧ isSym s = false := by
  unfold tokOf at h
  cases hi : isInt s <;> rw [hi] at h
  · cases hk : isKey s <;> rw [hk] at h
    · cases hv : varW s <;> rw [hv] at h
      · cases hu : upW s <;> rw [hu] at h
        · cases hs : isSym s <;> rw [hs] at h
          · exact ⟨rfl, rfl, rfl, rfl, rfl⟩
          · cases h
        · cases h
      · cases h
    · cases h
  · cases h
theorem tokOf_some {s : Bs} {t : Tok} (h : tokOf s = some t) : 0 ≤ t.k ∧ t.a = 0 ∧ (t.k = 3 → t.s = [] ∧ t.n = numV s ∧ isInt s = true) ∧ (t.k ≠ 3 → t.s = s ∧ t.n = 0) := by
  unfold tokOf at h
  split at h
  · rename_i hi; cases h; exact ⟨by simp, rfl, fun _ => ⟨rfl, rfl, hi⟩, fun h => absurd rfl h⟩
  · split at h
    · cases h; exact ⟨by simp, rfl, fun h => absurd h (by simp), fun _ => ⟨rfl, rfl⟩⟩
    · split at h
      · cases h; exact ⟨by simp, rfl, fun h => absurd h (by simp), fun _ => ⟨rfl, rfl⟩⟩
      · split at h
        · cases h; exact ⟨by simp, rfl, fun h => absurd h (by simp), fun _ => ⟨rfl, rfl⟩⟩
        · split at h
          · cases h; exact ⟨by simp, rfl, fun h => absurd h (by simp), fun _ => ⟨rfl, rfl⟩⟩
          · cases h

/-- Whether a token is one, as the reference tells it. -/
theorem validT_eq (t : Tok) : validT t = (decide (0 ≤ t.k) && ((tokR (textOf t)).k == t.k) && ((tokR (textOf t)).s == t.s) && ((tokR (textOf t)).n == t.n)) := by
  unfold validT tokR
  cases h : tokOf (textOf t) with
  | none =>
    simp only
    rw [show ((none : Option Tok) == some { t with a := 0 }) = false from rfl]
    by_cases h0 : 0 ≤ t.k
    · have : ((-1 : Int) == t.k) = false := by simp; omega
      rw [this]; simp
    · simp [h0]
  | some u =>
    obtain ⟨h1, h2, _, _⟩ := tokOf_some h
    obtain ⟨k, s, n, a⟩ := u
    obtain ⟨k', s', n', a'⟩ := t
    simp only at h1 h2 ⊢
    subst h2
    rw [Bool.eq_iff_iff]
    simp
    constructor
    · rintro ⟨rfl, rfl, rfl⟩; exact ⟨⟨⟨h1, rfl⟩, rfl⟩, rfl⟩
    · rintro ⟨⟨⟨_, rfl⟩, rfl⟩, rfl⟩; exact ⟨rfl, rfl, rfl⟩

theorem symAt_take (t : Bs) : symAt t = t.take (symAt t).length := by
  cases t with
  | nil => rfl
  | cons c r =>
    simp only [symAt]
    split
    · rename_i h
      cases r with
      | nil => simp at h
      | cons d r => simp
    · split <;> simp
theorem isSym_eq (s : Bs) : isSym s = (!s.isEmpty && symAt s == s) := by
  match s with
  | [] => rfl
  | [c] => exact all_bytes' (p := fun c => isSym [c] = (!([c] : Bs).isEmpty && symAt [c] == [c])) (by decide +kernel) c
  | [c, d] =>
    simp only [List.isEmpty_cons, Bool.not_false, Bool.true_and]
    simp only [symAt, List.head?_cons, Option.some.injEq]
    by_cases h : c = 61 ∧ d = 61 ∨ c = 45 ∧ d = 62
    · rw [if_pos h]
      rcases h with ⟨rfl, rfl⟩ | ⟨rfl, rfl⟩ <;> decide
    · rw [if_neg h]
      have h1 : isSym [c, d] = false := by
        simp only [isSym, syms, symB, Bool.eq_false_iff]
        intro hm
        rw [List.contains_iff_mem] at hm
        simp at hm
        rcases hm with ⟨rfl, rfl⟩ | ⟨rfl, rfl⟩
        · exact h (.inl ⟨rfl, rfl⟩)
        · exact h (.inr ⟨rfl, rfl⟩)
      rw [h1]
      split <;> simp
  | c :: d :: e :: r =>
    simp only [List.isEmpty_cons, Bool.not_false, Bool.true_and]
    have h1 : isSym (c :: d :: e :: r) = false := by
      simp only [isSym, syms, symB, Bool.eq_false_iff]
      intro hm
      rw [List.contains_iff_mem] at hm
      simp at hm
    rw [h1]
    simp only [symAt]
    split
    · simp
    · split <;> simp
end Go.Lx
