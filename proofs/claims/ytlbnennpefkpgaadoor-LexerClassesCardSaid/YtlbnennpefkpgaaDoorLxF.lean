/- Layers; what laws compute. No conditions of its own. -/
import Derived.Test.YtlbnennpefkpgaaDoorLxE
set_option linter.unusedVariables false
set_option linter.unusedSimpArgs false
namespace Go.AI
open Go Go.Lx Go.Proofs
set_option maxRecDepth 100000
theorem real30 : Real Tryd.prog 30 := ⟨_, Tryd.func30, by kernel_rfl, by kernel_rfl⟩
def X1 : ExtL := (30, g30) :: X0
theorem extR1 : ExtR Tryd.prog G0 (extOf X1) := ExtR.more tabR globT_tree natR mixed extR0 real30 (c30)
theorem real34 : Real Tryd.prog 34 := ⟨_, Tryd.func34, by kernel_rfl, by kernel_rfl⟩
def X2 : ExtL := (34, g34) :: X1
theorem extR2 : ExtR Tryd.prog G0 (extOf X2) := ExtR.more tabR globT_tree natR mixed extR1 real34 (c34 rfl)
theorem real67 : Real Tryd.prog 67 := ⟨_, Tryd.func67, by kernel_rfl, by kernel_rfl⟩
def X3 : ExtL := (67, g67) :: X2
theorem extR3 : ExtR Tryd.prog G0 (extOf X3) := ExtR.more tabR globT_tree natR mixed extR2 real67 (c67 rfl)
theorem real69 : Real Tryd.prog 69 := ⟨_, Tryd.func69, by kernel_rfl, by kernel_rfl⟩
def X4 : ExtL := (69, g69) :: X3
theorem extR4 : ExtR Tryd.prog G0 (extOf X4) := ExtR.more tabR globT_tree natR mixed extR3 real69 (c69 rfl)
theorem real70 : Real Tryd.prog 70 := ⟨_, Tryd.func70, by kernel_rfl, by kernel_rfl⟩
def X5 : ExtL := (70, g70) :: X4
theorem extR5 : ExtR Tryd.prog G0 (extOf X5) := ExtR.more tabR globT_tree natR mixed extR4 real70 (c70 rfl)
theorem real51 : Real Tryd.prog 51 := ⟨_, Tryd.func51, by kernel_rfl, by kernel_rfl⟩
def X6 : ExtL := (51, g51) :: X5
theorem extR6 : ExtR Tryd.prog G0 (extOf X6) := ExtR.more tabR globT_tree natR mixed extR5 real51 (c51 rfl)
theorem real32 : Real Tryd.prog 32 := ⟨_, Tryd.func32, by kernel_rfl, by kernel_rfl⟩
def X7 : ExtL := (32, g32) :: X6
theorem extR7 : ExtR Tryd.prog G0 (extOf X7) := ExtR.more tabR globT_tree natR mixed extR6 real32 (c32 rfl)
theorem real57 : Real Tryd.prog 57 := ⟨_, Tryd.func57, by kernel_rfl, by kernel_rfl⟩
def X8 : ExtL := (57, g57) :: X7
theorem extR8 : ExtR Tryd.prog G0 (extOf X8) := ExtR.more tabR globT_tree natR mixed extR7 real57 (c57 rfl)
theorem real50 : Real Tryd.prog 50 := ⟨_, Tryd.func50, by kernel_rfl, by kernel_rfl⟩
def X9 : ExtL := (50, g50) :: X8
theorem extR9 : ExtR Tryd.prog G0 (extOf X9) := ExtR.more tabR globT_tree natR mixed extR8 real50 (c50 rfl)
theorem real31 : Real Tryd.prog 31 := ⟨_, Tryd.func31, by kernel_rfl, by kernel_rfl⟩
def X10 : ExtL := (31, g31) :: X9
theorem extR10 : ExtR Tryd.prog G0 (extOf X10) := ExtR.more tabR globT_tree natR mixed extR9 real31 (c31 rfl rfl)
theorem real48 : Real Tryd.prog 48 := ⟨_, Tryd.func48, by kernel_rfl, by kernel_rfl⟩
def X11 : ExtL := (48, g48) :: X10
theorem extR11 : ExtR Tryd.prog G0 (extOf X11) := ExtR.more tabR globT_tree natR mixed extR10 real48 (c48 rfl rfl)
theorem real27 : Real Tryd.prog 27 := ⟨_, Tryd.func27, by kernel_rfl, by kernel_rfl⟩
def X12 : ExtL := (27, g27) :: X11
theorem extR12 : ExtR Tryd.prog G0 (extOf X12) := ExtR.more tabR globT_tree natR mixed extR11 real27 (c27 rfl rfl rfl rfl)
theorem real29 : Real Tryd.prog 29 := ⟨_, Tryd.func29, by kernel_rfl, by kernel_rfl⟩
def X13 : ExtL := (29, g29) :: X12
theorem extR13 : ExtR Tryd.prog G0 (extOf X13) := ExtR.more tabR globT_tree natR mixed extR12 real29 (c29 rfl rfl)
theorem real47 : Real Tryd.prog 47 := ⟨_, Tryd.func47, by kernel_rfl, by kernel_rfl⟩
def X14 : ExtL := (47, g47) :: X13
theorem extR14 : ExtR Tryd.prog G0 (extOf X14) := ExtR.more tabR globT_tree natR mixed extR13 real47 (c47 rfl rfl)
theorem real26 : Real Tryd.prog 26 := ⟨_, Tryd.func26, by kernel_rfl, by kernel_rfl⟩
def X15 : ExtL := (26, g26) :: X14
theorem extR15 : ExtR Tryd.prog G0 (extOf X15) := ExtR.more tabR globT_tree natR mixed extR14 real26 (c26 rfl rfl rfl)
theorem real28 : Real Tryd.prog 28 := ⟨_, Tryd.func28, by kernel_rfl, by kernel_rfl⟩
def X16 : ExtL := (28, g28) :: X15
theorem extR16 : ExtR Tryd.prog G0 (extOf X16) := ExtR.more tabR globT_tree natR mixed extR15 real28 (c28 rfl rfl)
theorem real22 : Real Tryd.prog 22 := ⟨_, Tryd.func22, by kernel_rfl, by kernel_rfl⟩
def X17 : ExtL := (22, g22) :: X16
theorem extR17 : ExtR Tryd.prog G0 (extOf X17) := ExtR.more tabR globT_tree natR mixed extR16 real22 (c22 rfl)
theorem real23 : Real Tryd.prog 23 := ⟨_, Tryd.func23, by kernel_rfl, by kernel_rfl⟩
def X18 : ExtL := (23, g22) :: X17
theorem extR18 : ExtR Tryd.prog G0 (extOf X18) := ExtR.more tabR globT_tree natR mixed extR17 real23 (c23 rfl)
theorem real24 : Real Tryd.prog 24 := ⟨_, Tryd.func24, by kernel_rfl, by kernel_rfl⟩
def X19 : ExtL := (24, g46) :: X18
theorem extR19 : ExtR Tryd.prog G0 (extOf X19) := ExtR.more tabR globT_tree natR mixed extR18 real24 (c24 rfl rfl)
theorem real25 : Real Tryd.prog 25 := ⟨_, Tryd.func25, by kernel_rfl, by kernel_rfl⟩
def X20 : ExtL := (25, g46) :: X19
theorem extR20 : ExtR Tryd.prog G0 (extOf X20) := ExtR.more tabR globT_tree natR mixed extR19 real25 (c25 rfl)
theorem real59 : Real Tryd.prog 59 := ⟨_, Tryd.func59, by kernel_rfl, by kernel_rfl⟩
def X21 : ExtL := (59, g59) :: X20
theorem extR21 : ExtR Tryd.prog G0 (extOf X21) := ExtR.more tabR globT_tree natR mixed extR20 real59 (c59 rfl)
theorem real58 : Real Tryd.prog 58 := ⟨_, Tryd.func58, by kernel_rfl, by kernel_rfl⟩
def X22 : ExtL := (58, g58) :: X21
theorem extR22 : ExtR Tryd.prog G0 (extOf X22) := ExtR.more tabR globT_tree natR mixed extR21 real58 (c58 rfl rfl rfl)
theorem real80 : Real Tryd.prog 80 := ⟨_, Tryd.func80, by kernel_rfl, by kernel_rfl⟩
def X23 : ExtL := (80, g80) :: X22
theorem extR23 : ExtR Tryd.prog G0 (extOf X23) := ExtR.more tabR globT_tree natR mixed extR22 real80 (c80 rfl)
theorem real71 : Real Tryd.prog 71 := ⟨_, Tryd.func71, by kernel_rfl, by kernel_rfl⟩
def X24 : ExtL := (71, g80) :: X23
theorem extR24 : ExtR Tryd.prog G0 (extOf X24) := ExtR.more tabR globT_tree natR mixed extR23 real71 (c71 rfl rfl)
theorem real81 : Real Tryd.prog 81 := ⟨_, Tryd.func81, by kernel_rfl, by kernel_rfl⟩
def X25 : ExtL := (81, g81) :: X24
theorem extR25 : ExtR Tryd.prog G0 (extOf X25) := ExtR.more tabR globT_tree natR mixed extR24 real81 (c81 rfl)
theorem real72 : Real Tryd.prog 72 := ⟨_, Tryd.func72, by kernel_rfl, by kernel_rfl⟩
def X26 : ExtL := (72, g81) :: X25
theorem extR26 : ExtR Tryd.prog G0 (extOf X26) := ExtR.more tabR globT_tree natR mixed extR25 real72 (c72 rfl rfl)
theorem real60 : Real Tryd.prog 60 := ⟨_, Tryd.func60, by kernel_rfl, by kernel_rfl⟩
def X27 : ExtL := (60, g60) :: X26
theorem extR27 : ExtR Tryd.prog G0 (extOf X27) := ExtR.more tabR globT_tree natR mixed extR26 real60 (c60 rfl rfl rfl)
theorem real41 : Real Tryd.prog 41 := ⟨_, Tryd.func41, by kernel_rfl, by kernel_rfl⟩
def X28 : ExtL := (41, g41) :: X27
theorem extR28 : ExtR Tryd.prog G0 (extOf X28) := ExtR.more tabR globT_tree natR mixed extR27 real41 (c41 rfl rfl rfl rfl rfl rfl)
theorem real39 : Real Tryd.prog 39 := ⟨_, Tryd.func39, by kernel_rfl, by kernel_rfl⟩
def X29 : ExtL := (39, g39) :: X28
theorem extR29 : ExtR Tryd.prog G0 (extOf X29) := ExtR.more tabR globT_tree natR mixed extR28 real39 (c39 rfl rfl rfl rfl rfl rfl rfl)
theorem real35 : Real Tryd.prog 35 := ⟨_, Tryd.func35, by kernel_rfl, by kernel_rfl⟩
def X30 : ExtL := (35, g35) :: X29
theorem extR30 : ExtR Tryd.prog G0 (extOf X30) := ExtR.more tabR globT_tree natR mixed extR29 real35 (c35 rfl rfl)
theorem real43 : Real Tryd.prog 43 := ⟨_, Tryd.func43, by kernel_rfl, by kernel_rfl⟩
def X31 : ExtL := (43, g43) :: X30
theorem extR31 : ExtR Tryd.prog G0 (extOf X31) := ExtR.more tabR globT_tree natR mixed extR30 real43 (c43 rfl rfl rfl)
theorem real16 : Real Tryd.prog 16 := ⟨_, Tryd.func16, by kernel_rfl, by kernel_rfl⟩
def X32 : ExtL := (16, g16) :: X31
theorem extR32 : ExtR Tryd.prog G0 (extOf X32) := ExtR.more tabR globT_tree natR mixed extR31 real16 (c16 rfl)
theorem real33 : Real Tryd.prog 33 := ⟨_, Tryd.func33, by kernel_rfl, by kernel_rfl⟩
def X33 : ExtL := (33, g33) :: X32
theorem extR33 : ExtR Tryd.prog G0 (extOf X33) := ExtR.more tabR globT_tree natR mixed extR32 real33 (c33 rfl)
theorem real56 : Real Tryd.prog 56 := ⟨_, Tryd.func56, by kernel_rfl, by kernel_rfl⟩
def X34 : ExtL := (56, g56) :: X33
theorem extR34 : ExtR Tryd.prog G0 (extOf X34) := ExtR.more tabR globT_tree natR mixed extR33 real56 (c56 rfl rfl rfl)
theorem real36 : Real Tryd.prog 36 := ⟨_, Tryd.func36, by kernel_rfl, by kernel_rfl⟩
def X35 : ExtL := (36, g36) :: X34
theorem extR35 : ExtR Tryd.prog G0 (extOf X35) := ExtR.more tabR globT_tree natR mixed extR34 real36 (c36 rfl rfl)
theorem real38 : Real Tryd.prog 38 := ⟨_, Tryd.func38, by kernel_rfl, by kernel_rfl⟩
def X36 : ExtL := (38, g38) :: X35
theorem extR36 : ExtR Tryd.prog G0 (extOf X36) := ExtR.more tabR globT_tree natR mixed extR35 real38 (c38 rfl rfl rfl)
theorem real15 : Real Tryd.prog 15 := ⟨_, Tryd.func15, by kernel_rfl, by kernel_rfl⟩
def X37 : ExtL := (15, g15) :: X36
theorem extR37 : ExtR Tryd.prog G0 (extOf X37) := ExtR.more tabR globT_tree natR mixed extR36 real15 (c15 rfl rfl rfl rfl)
theorem real14 : Real Tryd.prog 14 := ⟨_, Tryd.func14, by kernel_rfl, by kernel_rfl⟩
def X38 : ExtL := (14, g15) :: X37
theorem extR38 : ExtR Tryd.prog G0 (extOf X38) := ExtR.more tabR globT_tree natR mixed extR37 real14 (c14 rfl rfl rfl rfl rfl rfl rfl rfl rfl)
theorem real18 : Real Tryd.prog 18 := ⟨_, Tryd.func18, by kernel_rfl, by kernel_rfl⟩
def X39 : ExtL := (18, g18) :: X38
theorem extR39 : ExtR Tryd.prog G0 (extOf X39) := ExtR.more tabR globT_tree natR mixed extR38 real18 (c18 rfl rfl rfl rfl rfl)
theorem real19 : Real Tryd.prog 19 := ⟨_, Tryd.func19, by kernel_rfl, by kernel_rfl⟩
def X40 : ExtL := (19, g18) :: X39
theorem extR40 : ExtR Tryd.prog G0 (extOf X40) := ExtR.more tabR globT_tree natR mixed extR39 real19 (c19 rfl rfl rfl)
theorem real65 : Real Tryd.prog 65 := ⟨_, Tryd.func65, by kernel_rfl, by kernel_rfl⟩
def X41 : ExtL := (65, g65) :: X40
theorem extR41 : ExtR Tryd.prog G0 (extOf X41) := ExtR.more tabR globT_tree natR mixed extR40 real65 (c65 rfl)
theorem real45 : Real Tryd.prog 45 := ⟨_, Tryd.func45, by kernel_rfl, by kernel_rfl⟩
def X42 : ExtL := (45, g65) :: X41
theorem extR42 : ExtR Tryd.prog G0 (extOf X42) := ExtR.more tabR globT_tree natR mixed extR41 real45 (c45 rfl rfl)
theorem real44 : Real Tryd.prog 44 := ⟨_, Tryd.func44, by kernel_rfl, by kernel_rfl⟩
def X43 : ExtL := (44, g44) :: X42
theorem extR43 : ExtR Tryd.prog G0 (extOf X43) := ExtR.more tabR globT_tree natR mixed extR42 real44 (c44 rfl)
theorem real20 : Real Tryd.prog 20 := ⟨_, Tryd.func20, by kernel_rfl, by kernel_rfl⟩
def X44 : ExtL := (20, g20) :: X43
theorem extR44 : ExtR Tryd.prog G0 (extOf X44) := ExtR.more tabR globT_tree natR mixed extR43 real20 (c20 rfl rfl rfl)
theorem real21 : Real Tryd.prog 21 := ⟨_, Tryd.func21, by kernel_rfl, by kernel_rfl⟩
def X45 : ExtL := (21, g20) :: X44
theorem extR45 : ExtR Tryd.prog G0 (extOf X45) := ExtR.more tabR globT_tree natR mixed extR44 real21 (c21 rfl rfl)
theorem real40 : Real Tryd.prog 40 := ⟨_, Tryd.func40, by kernel_rfl, by kernel_rfl⟩
def X46 : ExtL := (40, g40) :: X45
theorem extR46 : ExtR Tryd.prog G0 (extOf X46) := ExtR.more tabR globT_tree natR mixed extR45 real40 (c40 rfl)
def XA : ExtL := X46
theorem extRA : ExtR Tryd.prog G0 (extOf XA) := extR46
theorem ev17 : fnTree tabT (extOf XA) G0 5 17 [] = some (.bool true) := by kernel_rfl
end Go.AI

namespace Go.AI
open Go Go.Lx Go.Proofs
set_option maxRecDepth 100000
set_option linter.unusedSimpArgs false

def g17 : List D → Option D
  | [] => some (.bool true)
  | _ => none
theorem c17 (args : List D) (r : D) (hg : g17 args = some r) : Comp tabT (extOf XA) G0 17 args r := by
  unfold g17 at hg
  split at hg
  · cases hg
    exact ⟨5, .bool true, ev17, rfl⟩
  · cases hg
theorem real17 : Real Tryd.prog 17 := ⟨_, Tryd.func17, by kernel_rfl, by kernel_rfl⟩
def XL : ExtL := (17, g17) :: XA
theorem extRL : ExtR Tryd.prog G0 (extOf XL) := ExtR.more tabR globT_tree natR mixed extRA real17 c17
abbrev XX : Ext := extOf XL
theorem k17 {k : Nat} {σ : St} : evalFn tabT XX G0 (k + 1) (.fn 17) [] σ = some (.ret (.bool true), σ) := call_ext (g := g17) rfl rfl rfl rfl

theorem law3 (l : Bs) (hl : l.length ≤ 9223372036854775000) : Comp tabT XX G0 3 [.str l] (.bool true) := by
  refine comp_runF 1 rfl tab3 ⟨rfl, by decide⟩ ?_
  have h14 := fun σ => k14 (X := XX) (k := 0) (σ := σ) rfl l hl
  have h15 := fun σ => k15 (X := XX) (k := 0) (σ := σ) rfl l hl
  have hb : (lexT l).1.length ≤ 9223372036854775806 := by
    unfold lexT
    split
    · simp
    · rename_i h30
      have hbound : ∀ (f : Nat) (t : Bs) (p : Nat) (us : List Tok), lexR f t p = .ok us → us.length ≤ f := by
        intro f
        induction f with
        | zero => intro t p us h; simp only [lexR, Except.ok.injEq] at h; subst h; simp
        | succ f ih =>
          intro t p us h
          rw [lexR] at h
          split at h
          · cases h; simp
          · split at h
            · cases h
            · split at h
              · rename_i l' hl'
                cases h
                have := ih _ _ _ hl'
                simp; omega
              · cases h
      split
      · rename_i us hus
        have := hbound _ _ _ _ hus
        simp only; omega
      · simp
  have h16 := fun σ => k16 (X := XX) (k := 0) (σ := σ) rfl (lexT l).1 (lexT l).1 hb
  unfold lexD at h14 h15
  generalize (lexT l).1 = ts at *
  generalize (lexT l).2.1 = at' at *
  generalize (lexT l).2.2 = er at *
  have h17 := fun σ => k17 (k := 0) (σ := σ)
  generalize XX = X at *
  simp [runF, af3, h14, h15, h16, h17]
theorem law4 (l : List Tok) (hl : toksOK l) : Comp tabT XX G0 4 [toksD l] (.bool true) := by
  refine comp_runF 1 rfl tab4 ⟨rfl, by decide⟩ ?_
  have h18 := fun σ => k18 (X := XX) (k := 0) (σ := σ) rfl l hl
  have h19 := fun σ => k19 (X := XX) (k := 0) (σ := σ) rfl l hl
  unfold joinD at h18 h19
  generalize (joinT l).1 = s at *
  generalize (joinT l).2 = er at *
  have h17 := fun σ => k17 (k := 0) (σ := σ)
  generalize XX = X at *
  simp [runF, af4, h18, h19, h17]
theorem law5 (l : Bs) (p : Int) (hl : l.length ≤ 9223372036854775000) : Comp tabT XX G0 5 [.str l, .int .i64 p] (.bool true) := by
  refine comp_runF 1 rfl tab5 ⟨rfl, by decide⟩ ?_
  have h20 := fun σ => k20 (X := XX) (k := 0) (σ := σ) rfl l p hl
  have h21 := fun σ => k21 (X := XX) (k := 0) (σ := σ) rfl l p hl
  unfold whereD at h20 h21
  generalize (whereT l p).1 = a at *
  generalize (whereT l p).2.1 = b at *
  generalize (whereT l p).2.2 = c at *
  have h17 := fun σ => k17 (k := 0) (σ := σ)
  generalize XX = X at *
  simp [runF, af5, h20, h21, h17]
theorem law6 (n : Int) (hn : inR n) : Comp tabT XX G0 6 [.int .i64 n] (.bool true) := by
  refine comp_runF 1 rfl tab6 ⟨rfl, by decide⟩ ?_
  have h22 := fun σ => k22 (X := XX) (k := 0) (σ := σ) rfl n
  have h23 := fun σ => k23 (X := XX) (k := 0) (σ := σ) rfl n
  have h24 := fun σ => k24 (X := XX) (k := 0) (σ := σ) rfl hn
  have h25 := fun σ => k25 (X := XX) (k := 0) (σ := σ) rfl hn
  generalize wrapT n = a at *
  generalize itoa n = b at *
  have h17 := fun σ => k17 (k := 0) (σ := σ)
  generalize XX = X at *
  simp [runF, af6, h22, h23, h24, h25, h17]
theorem law7 (s : Bs) : Comp tabT XX G0 7 [.str s] (.bool true) := by
  refine comp_runF 1 rfl tab7 ⟨rfl, by decide⟩ ?_
  have h26 := fun σ => k26 (X := XX) (k := 0) (σ := σ) rfl s
  have h27 := fun σ => k27 (X := XX) (k := 0) (σ := σ) rfl s
  have h28 := fun σ => k28 (X := XX) (k := 0) (σ := σ) rfl s
  have h29 := fun σ => k29 (X := XX) (k := 0) (σ := σ) rfl s
  have h30 := fun σ => k30 (X := XX) (k := 0) (σ := σ) rfl s
  have h32 := fun σ => k32 (X := XX) (k := 0) (σ := σ) rfl
  have h31 : ∀ σ, evalFn tabT XX G0 1 (.fn 31) [slD kws, .str s] σ = some (.ret (.bool (isKey s)), σ) := fun σ => by rw [k31 (k := 0) rfl kws s (by decide), key_eq]
  generalize slD kws = kk at *
  generalize varW s = a at *
  generalize upW s = b at *
  generalize isKey s = c at *
  have h17 := fun σ => k17 (k := 0) (σ := σ)
  generalize XX = X at *
  simp [runF, af7, h26, h27, h28, h29, h30, h31, h32, h17, eqD]
theorem law8 : Comp tabT XX G0 8 [] (.bool true) := ⟨20, .bool true, by kernel_rfl, rfl⟩

/-! Wraps -/
theorem wrapT_spec (n : Int) : (-999999999 ≤ wrapT n ∧ wrapT n ≤ 999999999) ∧ ∃ c, n = wrapT n + 1999999999 * c := by
  have hb := tmod_bound n
  have he := Int.mul_tdiv_add_tmod n 1999999999
  unfold wrapT
  generalize n.tmod 1999999999 = m at *
  generalize n.tdiv 1999999999 = q at *
  split
  · exact ⟨by omega, q - 1, by omega⟩
  · split
    · exact ⟨by omega, q + 1, by omega⟩
    · exact ⟨by omega, q, by omega⟩
theorem wrapT_unique {n r c : Int} (h0 : -999999999 ≤ r) (h1 : r ≤ 999999999) (h : n = r + 1999999999 * c) : wrapT n = r := by
  obtain ⟨h2, c', h3⟩ := wrapT_spec n
  omega
theorem wrapT_add (x y : Int) : wrapT (wrapT x + wrapT y) = wrapT (x + y) := by
  obtain ⟨_, c1, h1⟩ := wrapT_spec x
  obtain ⟨_, c2, h2⟩ := wrapT_spec y
  obtain ⟨h3, c3, h4⟩ := wrapT_spec (wrapT x + wrapT y)
  exact (wrapT_unique h3.1 h3.2 (c := c1 + c2 + c3) (by omega)).symm
theorem wrapT_sub (x y : Int) : wrapT (wrapT x - wrapT y) = wrapT (x - y) := by
  obtain ⟨_, c1, h1⟩ := wrapT_spec x
  obtain ⟨_, c2, h2⟩ := wrapT_spec y
  obtain ⟨h3, c3, h4⟩ := wrapT_spec (wrapT x - wrapT y)
  exact (wrapT_unique h3.1 h3.2 (c := c1 - c2 + c3) (by omega)).symm
theorem wrapT_mul (x y : Int) : wrapT (wrapT x * wrapT y) = wrapT (x * y) := by
  obtain ⟨_, c1, h1⟩ := wrapT_spec x
  obtain ⟨_, c2, h2⟩ := wrapT_spec y
  obtain ⟨h3, c3, h4⟩ := wrapT_spec (wrapT x * wrapT y)
  generalize wrapT (wrapT x * wrapT y) = r at *
  generalize wrapT x = p at *
  generalize wrapT y = q at *
  have hxy : x * y = p * q + 1999999999 * (c1 * q + p * c2 + 1999999999 * (c1 * c2)) := by
    rw [h1, h2]; grind
  exact (wrapT_unique h3.1 h3.2 (c := c1 * q + p * c2 + 1999999999 * (c1 * c2) + c3) (by omega)).symm
theorem wrapT_id {n : Int} (h0 : -999999999 ≤ n) (h1 : n ≤ 999999999) : wrapT n = n := wrapT_unique h0 h1 (c := 0) (by omega)
theorem mul_bound {p q B : Int} (h1 : -B ≤ p) (h2 : p ≤ B) (h3 : -B ≤ q) (h4 : q ≤ B) : -(B * B) ≤ p * q ∧ p * q ≤ B * B := by
  have hB : 0 ≤ B := by omega
  have ha : p.natAbs ≤ B.natAbs := by omega
  have hb : q.natAbs ≤ B.natAbs := by omega
  have hm := Nat.mul_le_mul ha hb
  rw [← Int.natAbs_mul, ← Int.natAbs_mul] at hm
  have hBB : 0 ≤ B * B := Int.mul_nonneg hB hB
  omega
theorem law12 (x y : Int) (hx : -2147483648 ≤ x ∧ x ≤ 2147483647) (hy : -2147483648 ≤ y ∧ y ≤ 2147483647) : Comp tabT XX G0 12 [.int .i32 x, .int .i32 y] (.bool true) := by
  refine comp_runF 1 rfl tab12 ⟨rfl, by decide⟩ ?_
  have h22 := fun n σ => k22 (X := XX) (k := 0) (σ := σ) rfl n
  have h34 := fun n a b σ => k34 (X := XX) (k := 0) (σ := σ) rfl n a b
  have h17 := fun σ => k17 (k := 0) (σ := σ)
  have hwx : IntKind.i64.wrap x = x := wrap_i64 (by omega) (by omega)
  have hwy : IntKind.i64.wrap y = y := wrap_i64 (by omega) (by omega)
  have hA := wrapT_add x y
  have hS := wrapT_sub x y
  have hM := wrapT_mul x y
  obtain ⟨⟨p1, p2⟩, -⟩ := wrapT_spec x
  obtain ⟨⟨q1, q2⟩, -⟩ := wrapT_spec y
  have hpp : wrapT (wrapT x) = wrapT x := wrapT_id p1 p2
  have hneg : wrapT (0 - wrapT x) = 0 - wrapT x := wrapT_id (by omega) (by omega)
  have hpx : decide (-999999999 ≤ x) = true → decide (x ≤ 999999999) = true → wrapT x = x := fun h1 h2 => wrapT_id (by simpa using h1) (by simpa using h2)
  generalize hpe : wrapT x = p at p1 p2 hA hS hM hpp hneg hpx
  generalize hqe : wrapT y = q at q1 q2 hA hS hM
  have hmb := mul_bound (B := 999999999) (by omega) p2 (by omega) q2
  have hmx := mul_bound (B := 2147483648) (p := x) (q := y) (by omega) (by omega) (by omega) (by omega)
  have w1 : IntKind.i64.wrap (p + q) = p + q := wrap_i64 (by omega) (by omega)
  have w2 : IntKind.i64.wrap (x + y) = x + y := wrap_i64 (by omega) (by omega)
  have w3 : IntKind.i64.wrap (p - q) = p - q := wrap_i64 (by omega) (by omega)
  have w4 : IntKind.i64.wrap (x - y) = x - y := wrap_i64 (by omega) (by omega)
  have w5 : IntKind.i64.wrap (p * q) = p * q := wrap_i64 (by omega) (by omega)
  have w6 : IntKind.i64.wrap (x * y) = x * y := wrap_i64 (by omega) (by omega)
  have w7 : IntKind.i64.wrap (0 - p) = 0 - p := wrap_i64 (by omega) (by omega)
  have w8 : IntKind.i64.wrap (-p) = -p := wrap_i64 (by omega) (by omega)
  have hneg' : wrapT (-p) = -p := by simpa using hneg
  generalize XX = X at *
  by_cases c1 : -999999999 ≤ x
  · by_cases c2 : x ≤ 999999999
    · have hxp := hpx (by simpa using c1) (by simpa using c2)
      subst hxp
      simp [runF, af12, h22, h34, h17, hwx, hwy, hpe, hqe, p1, p2, q1, q2, hpp, c1, c2, w1, w2, w3, w4, w5, w6, w7, w8, hA, hS, hM, hneg, hneg']
    · simp [runF, af12, h22, h34, h17, hwx, hwy, hpe, hqe, p1, p2, q1, q2, hpp, c1, c2, w1, w2, w3, w4, w5, w6, w7, w8, hA, hS, hM, hneg, hneg']
  · simp [runF, af12, h22, h34, h17, hwx, hwy, hpe, hqe, p1, p2, q1, q2, hpp, c1, w1, w2, w3, w4, w5, w6, w7, w8, hA, hS, hM, hneg, hneg']
end Go.AI
