/- Texts of the proof: what functions of the program compute, step by step. No conditions of its own. -/
import Derived.Test.YtgenoggafhhgfaaGreatDoorP8
import Derived.Test.YtgenoggafhhgfaaGreatDoorP5
import Derived.Test.YtgenoggafhhgfaaGreatDoorTie
import Derived.Test.YtgenoggafhhgfaaGreatDoorCards
import Derived.ProofKit
import Derived.OpenShut
import Derived.ShutString
import Derived.LaidMore
import Derived.Lay
import Derived.SevenTiedAt
import Derived.Stop.Joined
import Derived.Stop.LaidErr
import Derived.MakeChecks
import Derived.Lib.LaidTab
import Derived.SizedLaws
import Derived.ChangeOld
import Derived.ChangeArms
import Derived.Below
set_option linter.unusedVariables false
set_option linter.unusedSimpArgs false
namespace Go.AI
open Go Go.Proofs Go.Lx
set_option maxRecDepth 100000

/-! Elements of lists -/
@[simp] theorem Ty.cs_len (t : Ty) : t.cs.length = 6 := by cases t; rfl
@[simp] theorem Ty.cs_take (t : Ty) : t.cs.take 6 = t.cs := List.take_of_length_le (by simp)
@[simp] theorem Ex.cs_len (t : Ex) : t.cs.length = 7 := by cases t; rfl
@[simp] theorem Ex.cs_take (t : Ex) : t.cs.take 7 = t.cs := List.take_of_length_le (by simp)
@[simp] theorem Arm.cs_len (t : Arm) : t.cs.length = 9 := by cases t; simp [Arm.cs]
@[simp] theorem Arm.cs_take (t : Arm) : t.cs.take 9 = t.cs := List.take_of_length_le (by simp)
mutual
def Ty.ok : Ty → Prop
  | .mk _ _ _ l ls _ => l.length ≤ maxL ∧ ls.length ≤ maxL ∧ tysOk l
def tysOk : List Ty → Prop
  | [] => True
  | t :: r => t.ok ∧ tysOk r
end

mutual
/-- The first error of the nodes of a type. -/
def Ty.e : Ty → Int
  | .mk k n s l ls tail => if tnodeE k n s l.length ls tail = 0 then tysE l else tnodeE k n s l.length ls tail
def tysE : List Ty → Int
  | [] => 0
  | t :: r => if t.e = 0 then tysE r else t.e
end

theorem tysD_len (l : List Ty) : (tysD l).length = l.length := by rw [tysD_map]; simp

mutual
theorem c114 : ∀ (t : Ty), t.ok → ∀ (σ : St), CI (.fn 114) [.agg t.cs] σ = some (.ret (.int .i64 t.e), σ)
  | .mk k n s l ls tail, hok, σ => by
    obtain ⟨h1, h2, h3⟩ := hok
    have h163 := fun σ => c163 k n s (tysD l) ls tail σ h2
    rw [tysD_len] at h163
    obtain ⟨τ, hτ⟩ : ∃ τ, bodyI CI XB GI af114 [.agg (Ty.mk k n s l ls tail).cs] σ = some (.ret (.int .i64 (Ty.e (.mk k n s l ls tail))), σ ++ τ) := by
      refine ⟨[.box (Ty.mk k n s l ls tail).cs], ?_⟩
      obtain ⟨j, hit⟩ := it114 l [] (tnodeE k n s l.length ls tail) (σ ++ [.box (Ty.mk k n s l ls tail).cs]) σ.length ⟨k, n, s, .slice (ls.map Lab.d), tail, by rw [getA0]; rfl⟩ h1 h3 _ rfl
      simp only [Ty.e]
      simp only [List.length_nil, Int.natCast_zero] at hit
      simp only [Ty.cs] at hit ⊢
      generalize ls.map Lab.d = lsd at *
      generalize tysD l = ld at *
      simp [bodyI, af114, getA0, h163, hit]
    exact CI_tree tab114 hτ rfl rfl
theorem it114 : ∀ (r pre : List Ty) (e : Int) (σ : St) (p : Nat), (∃ k n s ls tail, σ[p]? = some (.box [.int .i64 k, .int .i64 n, .str s, .slice (tysD (pre ++ r)), ls, .int .i64 tail])) → (pre ++ r).length ≤ maxL → tysOk r → ∀ (m : Nat), m = pre.length →
    ∃ j : Int, iterI (evalI CI XB GI 25 false lp114_0) [(1, .ptr p 0), (3, .int .i64 e), (4, .int .i64 (m : Nat))] σ =
      some (.exit 0, [(1, .ptr p 0), (3, .int .i64 (if e = 0 then tysE r else e)), (4, .int .i64 j), (15, .bool false)], σ)
  | [], pre, e, σ, p, hσ, hl, hok, m, hm => by
    obtain ⟨k, n, s, ls, tail, hσ⟩ := hσ
    rw [List.append_nil] at hσ
    refine ⟨(m : Int), iterI_end ?_ (by simp)⟩
    have he : (if e = 0 then tysE [] else e) = e := by simp only [tysE]; split <;> simp_all
    rw [he]
    have hlen := tysD_len pre
    generalize tysD pre = ld at *
    simp [lp114_0, hσ, hlen, hm]
  | a :: r, pre, e, σ, p, hσ, hl, hok, m, hm => by
    obtain ⟨k, n, s, ls, tail, hσ⟩ := hσ
    obtain ⟨hok1, hok2⟩ := hok
    unfold maxL at hl
    have hmt : (m : Int) < ((pre ++ a :: r).length : Nat) := by simp; omega
    have hlen := tysD_len (pre ++ a :: r)
    have hget : (tysD (pre ++ a :: r))[m]? = some (.agg a.cs) := by rw [tysD_map, hm]; simp [Ty.d]
    have hw := wrap_nat (n := m) (by simp at hl; omega)
    by_cases he : e = 0
    · subst he
      have ha := fun σ => c114 a hok1 σ
      obtain ⟨j, ih⟩ := it114 r (pre ++ [a]) a.e σ p ⟨k, n, s, ls, tail, by simpa using hσ⟩ (by simp at hl ⊢; unfold maxL; omega) hok2 (m + 1) (by simp [hm])
      refine ⟨j, ?_⟩
      have hb : evalI CI XB GI 25 false lp114_0 [(1, .ptr p 0), (3, .int .i64 0), (4, .int .i64 (m : Nat))] σ = some (.normal, [(1, .ptr p 0), (3, .int .i64 a.e), (4, .int .i64 ((m + 1 : Nat) : Int))], σ) := by
        generalize (pre ++ a :: r).length = q at *
        generalize tysD (pre ++ a :: r) = ld at *
        have h1 : (m : Int) < ld.length := by rw [hlen]; exact hmt
        have h2 : m < ld.length := by omega
        have h3 : ld[m] = .agg a.cs := by rw [List.getElem?_eq_getElem h2] at hget; exact Option.some.inj hget
        simp [lp114_0, hσ, h1, h2, h3, hw, ha]
      rw [iterI_next hb, ih]
      simp only [if_true, tysE]
    · refine ⟨(m : Int), iterI_end ?_ (by simp)⟩
      rw [if_neg he]
      have h0 : (e == 0) = false := by simpa using he
      generalize (pre ++ a :: r).length = q at *
      generalize tysD (pre ++ a :: r) = ld at *
      have h1 : (m : Int) < ld.length := by rw [hlen]; exact hmt
      simp [lp114_0, hσ, h1, h0, he]
end
end Go.AI
namespace Go.AI
open Go Go.Proofs Go.Lx
set_option maxRecDepth 100000

mutual
/-- May a type have so many nodes, and be so deep? How many are left. -/
def Ty.take : Ty → Int → Int → Bool × Int
  | .mk _ _ _ l ls _, left, depth => if left - 1 < 0 ∨ 200 < depth ∨ 24 < ls.length then (false, left - 1) else tysTake l (left - 1) (depth + 1)
def tysTake : List Ty → Int → Int → Bool × Int
  | [], left, _ => (true, left)
  | t :: r, left, d => if (t.take left d).1 then tysTake r (t.take left d).2 d else (false, (t.take left d).2)
end

mutual
theorem Ty.take_left : ∀ (t : Ty) (left d : Int), 0 ≤ left → -1 ≤ (t.take left d).2 ∧ (t.take left d).2 ≤ left ∧ ((t.take left d).1 = true → 0 ≤ (t.take left d).2)
  | .mk _ _ _ l ls _, left, d, h => by
    simp only [Ty.take]
    split
    · exact ⟨by simp; omega, by simp; omega, by simp⟩
    · have := tysTake_left l (left - 1) (d + 1) (by omega)
      exact ⟨this.1, by omega, this.2.2⟩
theorem tysTake_left : ∀ (l : List Ty) (left d : Int), 0 ≤ left → -1 ≤ (tysTake l left d).2 ∧ (tysTake l left d).2 ≤ left ∧ ((tysTake l left d).1 = true → 0 ≤ (tysTake l left d).2)
  | [], left, d, h => by simp only [tysTake]; exact ⟨by omega, by omega, fun _ => h⟩
  | t :: r, left, d, h => by
    obtain ⟨h1, h2, h3⟩ := t.take_left left d h
    simp only [tysTake]
    split
    · rename_i ht
      obtain ⟨a1, a2, a3⟩ := tysTake_left r _ d (h3 ht)
      exact ⟨a1, by omega, a3⟩
    · exact ⟨h1, h2, by simp⟩
end

def mBox (left deep : Int) : Obj := .box [.int .i64 left, .int .i64 deep]
theorem mBox_under {n : Nat} {left deep : Int} : (mBox left deep).under n := by simp [mBox, Obj.under, underL, D.under]

mutual
theorem c113 : ∀ (t : Ty), t.ok → ∀ (left deep depth : Int) (i : Nat) (σ : St), σ[i]? = some (mBox left deep) → 0 ≤ left → left ≤ 1000000 → 0 ≤ depth → depth ≤ 1000 →
    CI (.fn 113) [.ptr i 0, .agg t.cs, .int .i64 depth] σ = some (.ret (.bool (t.take left depth).1), σ.set i (mBox (t.take left depth).2 deep))
  | .mk k n s l ls tail, hok, left, deep, depth, i, σ, hσ, h0, h1, hd0, hd1 => by
    obtain ⟨ho1, ho2, ho3⟩ := hok
    have hi := lt_of_get hσ
    have hw : IntKind.i64.wrap (left - 1) = left - 1 := wrap_i64 (by omega) (by omega)
    obtain ⟨τ, hτ⟩ : ∃ τ, bodyI CI XB GI af113 [.ptr i 0, .agg (Ty.mk k n s l ls tail).cs, .int .i64 depth] σ = some (.ret (.bool ((Ty.mk k n s l ls tail).take left depth).1), σ.set i (mBox ((Ty.mk k n s l ls tail).take left depth).2 deep) ++ τ) := by
      refine ⟨[.box [.ptr i 0], .box (Ty.mk k n s l ls tail).cs, .box [.int .i64 depth]], ?_⟩
      have hlen : ((ls.map Lab.d).length : Int) = ls.length := by simp
      have hlen2 : (ls.map Lab.d).length = ls.length := by simp
      simp only [Ty.take]
      have hit : 0 ≤ left - 1 → depth ≤ 200 → CI (.fn 161) [.slice (tysD l), .func 162 [] [.ptr σ.length 0, .ptr (σ.length + 2) 0]] (σ.set i (mBox (left - 1) deep) ++ [.box [.ptr i 0], .box (Ty.mk k n s l ls tail).cs, .box [.int .i64 depth]]) =
          some (.ret (.bool (!(tysTake l (left - 1) (depth + 1)).1)), σ.set i (mBox (tysTake l (left - 1) (depth + 1)).2 deep) ++ [.box [.ptr i 0], .box (Ty.mk k n s l ls tail).cs, .box [.int .i64 depth]]) := fun hl0 hdl => by
        rw [c161 l ho3 ho1 (left - 1) deep depth i σ.length (σ.length + 2) _ (getSs hi) getAs0 getAs (by omega) (by omega) hl0 (by omega) hd0 (by omega), setSs hi]
      simp only [Ty.cs, mBox] at hit hσ ⊢
      generalize ls.map Lab.d = lsd at *
      generalize tysD l = ld at *
      by_cases hn : left - 1 < 0
      · simp [bodyI, af113, getA0, getA, getO hσ, getAs0, getAs, getSs hi, setO hi, hw, hn]
      · by_cases hd : 200 < depth
        · simp [bodyI, af113, getA0, getA, getO hσ, getAs0, getAs, getSs hi, setO hi, hw, hn, hd]
        · by_cases hl24 : 24 < ls.length
          · have hl24' : 24 < lsd.length := by omega
            have hl24'' : (24 : Int) < (lsd.length : Int) := by omega
            simp [bodyI, af113, getA0, getA, getO hσ, getAs0, getAs, getSs hi, setO hi, hw, hn, hd, hl24, hl24', hl24'']
          · have hl24' : ¬ 24 < lsd.length := by omega
            have hl24'' : ¬ (24 : Int) < (lsd.length : Int) := by omega
            have hit := hit (by omega) (by omega)
            simp [bodyI, af113, getA0, getA, getO hσ, getAs0, getAs, getSs hi, setO hi, hw, hn, hd, hl24, hl24', hl24'', hit]
    exact CI_fn tab113 hτ (postI_set mBox_under rfl rfl)
theorem c162 : ∀ (t : Ty), t.ok → ∀ (left deep depth : Int) (i pm pd : Nat) (σ : St), σ[i]? = some (mBox left deep) → σ[pm]? = some (.box [.ptr i 0]) → σ[pd]? = some (.box [.int .i64 depth]) → 0 ≤ left → left ≤ 1000000 → 0 ≤ depth → depth ≤ 900 →
    CI (.fn 162) [.agg t.cs, .ptr pm 0, .ptr pd 0] σ = some (.ret (.bool (!(t.take left (depth + 1)).1)), σ.set i (mBox (t.take left (depth + 1)).2 deep))
  | t, hok, left, deep, depth, i, pm, pd, σ, hσ, hpm, hpd, h0, h1, hd0, hd1 => by
    have hi := lt_of_get hσ
    have hw : IntKind.i64.wrap (depth + 1) = depth + 1 := wrap_i64 (by omega) (by omega)
    have hc := c113 t hok left deep (depth + 1) i (σ ++ [.box t.cs]) (getO hσ) h0 h1 (by omega) (by omega)
    rw [setO hi] at hc
    have hτ : bodyI CI XB GI af162 [.agg t.cs, .ptr pm 0, .ptr pd 0] σ = some (.ret (.bool (!(t.take left (depth + 1)).1)), σ.set i (mBox (t.take left (depth + 1)).2 deep) ++ [.box t.cs]) := by
      have hall : t.cs.all D.one = true := by cases t; rfl
      simp [bodyI, af162, getA0, getO hpm, getO hpd, hall, hw, hc]
    exact CI_fn tab162 hτ (postI_set mBox_under rfl rfl)
theorem it197 : ∀ (r pre : List Ty), tysOk r → (pre ++ r).length ≤ maxL → ∀ (left deep depth : Int) (i pm pd : Nat) (σ : St), σ[i]? = some (mBox left deep) → σ[pm]? = some (.box [.ptr i 0]) → σ[pd]? = some (.box [.int .i64 depth]) → pm ≠ i → pd ≠ i → 0 ≤ left → left ≤ 1000000 → 0 ≤ depth → depth ≤ 900 → ∀ m, m = pre.length →
    (∃ j : Nat, (tysTake r left (depth + 1)).1 = false ∧ iterI (evalI CI XB GI 19 false lp197_0) [(0, .slice (tysD (pre ++ r))), (1, .func 162 [] [.ptr pm 0, .ptr pd 0]), (7, .int .i64 (pre ++ r).length), (8, .int .i64 (m : Nat))] σ =
      some (.ret, [(4, .int .i64 j)], σ.set i (mBox (tysTake r left (depth + 1)).2 deep))) ∨
    ((tysTake r left (depth + 1)).1 = true ∧ iterI (evalI CI XB GI 19 false lp197_0) [(0, .slice (tysD (pre ++ r))), (1, .func 162 [] [.ptr pm 0, .ptr pd 0]), (7, .int .i64 (pre ++ r).length), (8, .int .i64 (m : Nat))] σ =
      some (.exit 0, [(0, .slice (tysD (pre ++ r))), (1, .func 162 [] [.ptr pm 0, .ptr pd 0]), (7, .int .i64 (pre ++ r).length), (8, .int .i64 (pre ++ r).length), (9, .bool false)], σ.set i (mBox (tysTake r left (depth + 1)).2 deep)))
  | [], pre, hok, hl, left, deep, depth, i, pm, pd, σ, hσ, hpm, hpd, hne1, hne2, h0, h1, hd0, hd1, m, hm => by
    right
    refine ⟨rfl, ?_⟩
    have hs : σ.set i (mBox (tysTake [] left (depth + 1)).2 deep) = σ := by
      simp only [tysTake]
      rw [← (List.getElem?_eq_some_iff.1 hσ).2]; exact List.set_getElem_self _
    rw [hs]
    refine iterI_end ?_ (by simp)
    have : m = (pre ++ ([] : List Ty)).length := by rw [hm]; simp
    generalize (pre ++ ([] : List Ty)).length = q at *
    generalize tysD (pre ++ []) = ld at *
    simp [lp197_0, this]
  | a :: r, pre, hok, hl, left, deep, depth, i, pm, pd, σ, hσ, hpm, hpd, hne1, hne2, h0, h1, hd0, hd1, m, hm => by
    obtain ⟨hok1, hok2⟩ := hok
    unfold maxL at hl
    have hi := lt_of_get hσ
    have hmt : m < (pre ++ a :: r).length := by simp; omega
    have hlen := tysD_len (pre ++ a :: r)
    have hget : (tysD (pre ++ a :: r))[m]? = some (.agg a.cs) := by rw [tysD_map, hm]; simp [Ty.d]
    have hw := wrap_nat (n := m) (by simp at hl; omega)
    have ha := c162 a hok1 left deep depth i pm pd σ hσ hpm hpd h0 h1 hd0 hd1
    obtain ⟨b1, b2, b3⟩ := a.take_left left (depth + 1) h0
    simp only [tysTake]
    cases hta : (a.take left (depth + 1)).1 with
    | false =>
      left
      refine ⟨m, by simp, iterI_end ?_ (by simp)⟩
      rw [hta] at ha
      simp only [Bool.false_eq_true, if_false]
      generalize (pre ++ a :: r).length = q at *
      generalize tysD (pre ++ a :: r) = ld at *
      have h2 : m < ld.length := by omega
      have h1' : (m : Int) < ld.length := by omega
      have h3 : ld[m] = .agg a.cs := by rw [List.getElem?_eq_getElem h2] at hget; exact Option.some.inj hget
      have hq : (m : Int) < q := by omega
      simp [lp197_0, h1', h2, h3, hq, ha, hmt]
    | true =>
      rw [hta] at ha
      simp only [if_true]
      have ih := it197 r (pre ++ [a]) hok2 (by simp at hl ⊢; unfold maxL; omega) (a.take left (depth + 1)).2 deep depth i pm pd (σ.set i (mBox (a.take left (depth + 1)).2 deep)) (List.getElem?_set_self hi)
        (by rw [List.getElem?_set_ne (Ne.symm hne1)]; exact hpm) (by rw [List.getElem?_set_ne (Ne.symm hne2)]; exact hpd) hne1 hne2 (b3 hta) (by omega) hd0 hd1 (m + 1) (by simp [hm])
      have hp : pre ++ [a] ++ r = pre ++ a :: r := by simp
      rw [hp, List.set_set] at ih
      have hb : evalI CI XB GI 19 false lp197_0 [(0, .slice (tysD (pre ++ a :: r))), (1, .func 162 [] [.ptr pm 0, .ptr pd 0]), (7, .int .i64 (pre ++ a :: r).length), (8, .int .i64 (m : Nat))] σ =
          some (.normal, [(0, .slice (tysD (pre ++ a :: r))), (1, .func 162 [] [.ptr pm 0, .ptr pd 0]), (7, .int .i64 (pre ++ a :: r).length), (8, .int .i64 ((m + 1 : Nat) : Int))], σ.set i (mBox (a.take left (depth + 1)).2 deep)) := by
        generalize (pre ++ a :: r).length = q at *
        generalize tysD (pre ++ a :: r) = ld at *
        have h2 : m < ld.length := by omega
        have h1' : (m : Int) < ld.length := by omega
        have h3 : ld[m] = .agg a.cs := by rw [List.getElem?_eq_getElem h2] at hget; exact Option.some.inj hget
        have hq : (m : Int) < q := by omega
        simp [lp197_0, h1', h2, h3, hq, ha, hw, hmt]
      rw [iterI_next hb]
      exact ih
theorem c161 : ∀ (l : List Ty), tysOk l → l.length ≤ maxL → ∀ (left deep depth : Int) (i pm pd : Nat) (σ : St), σ[i]? = some (mBox left deep) → σ[pm]? = some (.box [.ptr i 0]) → σ[pd]? = some (.box [.int .i64 depth]) → pm ≠ i → pd ≠ i → 0 ≤ left → left ≤ 1000000 → 0 ≤ depth → depth ≤ 900 →
    CI (.fn 161) [.slice (tysD l), .func 162 [] [.ptr pm 0, .ptr pd 0]] σ = some (.ret (.bool (!(tysTake l left (depth + 1)).1)), σ.set i (mBox (tysTake l left (depth + 1)).2 deep))
  | l, hok, hl, left, deep, depth, i, pm, pd, σ, hσ, hpm, hpd, hne1, hne2, h0, h1, hd0, hd1 => by
    have hlen := tysD_len l
    have hit := it197 l [] hok hl left deep depth i pm pd σ hσ hpm hpd hne1 hne2 h0 h1 hd0 hd1 0 rfl
    simp only [List.nil_append, Int.natCast_zero] at hit
    generalize tysD l = ld at *
    obtain ⟨j, hj, h197⟩ : ∃ j : Int, decide (0 ≤ j) = !(tysTake l left (depth + 1)).1 ∧ CI (.fn 197) [.slice ld, .func 162 [] [.ptr pm 0, .ptr pd 0]] σ = some (.ret (.int .i64 j), σ.set i (mBox (tysTake l left (depth + 1)).2 deep)) := by
      rcases hit with ⟨j, hf, hit⟩ | ⟨hf, hit⟩
      · refine ⟨j, by rw [hf]; simp, CI_fn tab197 (y := (.ret (.int .i64 j), σ.set i (mBox (tysTake l left (depth + 1)).2 deep))) ?_ (postI_len (by simp) rfl rfl rfl)⟩
        simp [bodyI, af197, hlen, hit]
      · refine ⟨-1, by rw [hf]; rfl, CI_fn tab197 (y := (.ret (.int .i64 (-1)), σ.set i (mBox (tysTake l left (depth + 1)).2 deep))) ?_ (postI_len (by simp) rfl rfl rfl)⟩
        simp [bodyI, af197, hlen, hit]
    refine CI_fn tab161 (y := (.ret (.bool (!(tysTake l left (depth + 1)).1)), σ.set i (mBox (tysTake l left (depth + 1)).2 deep))) ?_ (postI_len (by simp) rfl rfl rfl)
    rw [← hj]
    simp [bodyI, af161, h197]
end
end Go.AI
namespace Go.AI
open Go Go.Proofs Go.Lx
set_option maxRecDepth 100000

/-- The error of a type. -/
def Ty.chk (t : Ty) : Int := if (t.take 3000 1).1 then t.e else 3
theorem c60 (t : Ty) (hok : t.ok) (σ : St) : CI (.fn 60) [.agg t.cs] σ = some (.ret (.int .i64 t.chk), σ) := by
  obtain ⟨τ, hτ⟩ : ∃ τ, bodyI CI XB GI af60 [.agg t.cs] σ = some (.ret (.int .i64 t.chk), σ ++ τ) := by
    refine ⟨[.box t.cs, mBox (t.take 3000 1).2 0], ?_⟩
    have h113 := c113 t hok 3000 0 1 (σ.length + 1) (σ ++ [.box t.cs, mBox 3000 0]) (by rw [getA]; rfl) (by omega) (by omega) (by omega) (by omega)
    rw [setA] at h113
    have h114 := fun σ => c114 t hok σ
    have hall : t.cs.all D.one = true := by cases t; rfl
    unfold Ty.chk
    simp only [mBox, List.set] at *
    generalize (t.take 3000 1).2 = q at *
    cases h : (t.take 3000 1).1
    · rw [h] at h113
      simp [bodyI, af60, fillD, putCells, getA0, getA, setA, setA0, hall, h113]
    · rw [h] at h113
      simp [bodyI, af60, fillD, putCells, getA0, getA, setA, setA0, hall, h113, h114]
  exact CI_tree tab60 hτ rfl rfl

mutual
/-- Is a type closed? What its tail must not be. -/
def Ty.cl (p : Int → Bool) : Ty → Bool
  | .mk k _ _ l ls tail => !(k == 0 || (k == 5 && p tail)) && ls.all (fun x => x.n == 0) && tysCl p l
def tysCl (p : Int → Bool) : List Ty → Bool
  | [] => true
  | t :: r => t.cl p && tysCl p r
end
theorem tysCl_all (p : Int → Bool) : ∀ (l : List Ty), tysCl p l = l.all (fun t => t.cl p)
  | [] => rfl
  | t :: r => by simp only [tysCl, List.all_cons, tysCl_all p r]
theorem tysOk_mem : ∀ {l : List Ty} {t : Ty}, tysOk l → t ∈ l → t.ok
  | [], t, _, h => by cases h
  | a :: r, t, ⟨h1, h2⟩, h => by
    cases h with
    | head => exact h1
    | tail _ h => exact tysOk_mem h2 h

def tail0 (n : Int) : Bool := decide (0 ≤ n)
theorem c216 (x : Lab) (σ : St) : CI (.fn 216) [.agg [.str x.s, .int .i64 x.n]] σ = some (.ret (.bool (x.n != 0)), σ) := by
  have hτ : bodyI CI XB GI af216 [.agg [.str x.s, .int .i64 x.n]] σ = some (.ret (.bool (x.n != 0)), σ ++ [.box [.str x.s, .int .i64 x.n]]) := by
    simp [bodyI, af216, getA0]
  exact CI_tree tab216 hτ rfl rfl
theorem c221 (l : List Lab) (σ : St) (hl : l.length ≤ maxL) : ∃ j : Int, decide (0 ≤ j) = !(l.all fun x => x.n == 0) ∧ CI (.fn 221) [.slice (l.map Lab.d), .func 216 [] []] σ = some (.ret (.int .i64 j), σ) := by
  unfold maxL at hl
  have hit := loop_find (f := evalI CI XB GI 19 false lp221_0) (σ := σ) l (fun i => [(0, .slice (l.map Lab.d)), (1, .func 216 [] []), (7, .int .i64 l.length), (8, .int .i64 (i : Nat))]) (fun x => !(x.n == 0)) (fun i => (.ret, [(4, .int .i64 (i : Nat))], σ)) (.exit 0, [(0, .slice (l.map Lab.d)), (1, .func 216 [] []), (7, .int .i64 l.length), (8, .int .i64 l.length), (9, .bool false)], σ) (by simp) (by simp)
    (fun i hi => by
      have hw := wrap_nat (n := i) (by omega)
      have hc := c216 l[i] σ
      cases hb : l[i].n == 0 <;> simp only [bne, hb] at hc <;> simp [lp221_0, hi, hw, Lab.d, hc]) (by
      simp [lp221_0])
  rw [Int.natCast_zero] at hit
  cases hf : l.findIdx? (fun x => !(x.n == 0)) with
  | none =>
    rw [hf] at hit
    refine ⟨-1, by rw [findIdx_all hf]; rfl, CI_tree0 tab221 (d := .int .i64 (-1)) ?_ rfl rfl⟩
    simp [bodyI, af221, hit]
  | some i =>
    rw [hf] at hit
    refine ⟨i, by rw [findIdx_not hf]; simp, CI_tree0 tab221 (d := .int .i64 i) ?_ rfl rfl⟩
    simp [bodyI, af221, hit]
theorem c215 (l : List Lab) (σ : St) (hl : l.length ≤ maxL) : CI (.fn 215) [.slice (l.map Lab.d), .func 216 [] []] σ = some (.ret (.bool (!(l.all fun x => x.n == 0))), σ) := by
  obtain ⟨j, hj, h⟩ := c221 l σ hl
  refine CI_tree0 tab215 (d := .bool (!(l.all fun x => x.n == 0))) ?_ rfl rfl
  rw [← hj]
  simp [bodyI, af215, h]

/-- Looking in a list of types, by a function that changes nothing. -/
theorem p161 (l : List Ty) (f : Nat) (caps : List D) (Q : Ty → Bool) (σ : St) (hl : l.length ≤ maxL) (h : ∀ x ∈ l, CI (.fn f) (.agg x.cs :: caps) σ = some (.ret (.bool (!Q x)), σ)) :
    CI (.fn 161) [.slice (tysD l), .func f [] caps] σ = some (.ret (.bool (!l.all Q)), σ) := by
  unfold maxL at hl
  have hlen := tysD_len l
  have hit := loop_find (f := evalI CI XB GI 19 false lp197_0) (σ := σ) l (fun i => [(0, .slice (tysD l)), (1, .func f [] caps), (7, .int .i64 l.length), (8, .int .i64 (i : Nat))]) (fun x => !Q x) (fun i => (.ret, [(4, .int .i64 (i : Nat))], σ)) (.exit 0, [(0, .slice (tysD l)), (1, .func f [] caps), (7, .int .i64 l.length), (8, .int .i64 l.length), (9, .bool false)], σ) (by simp) (by simp)
    (fun i hi => by
      have hw := wrap_nat (n := i) (by omega)
      have hc := h l[i] (List.getElem_mem hi)
      have hget : (tysD l)[i]? = some (.agg l[i].cs) := by rw [tysD_map]; simp [Ty.d, hi]
      generalize tysD l = ld at *
      have h2 : i < ld.length := by omega
      have h3 : ld[i] = .agg l[i].cs := by rw [List.getElem?_eq_getElem h2] at hget; exact Option.some.inj hget
      cases hb : Q l[i] <;> rw [hb] at hc <;> simp [lp197_0, hi, hw, h2, h3, hc]) (by
      generalize tysD l = ld at *
      simp [lp197_0])
  rw [Int.natCast_zero] at hit
  generalize tysD l = ld at *
  obtain ⟨j, hj, h197⟩ : ∃ j : Int, decide (0 ≤ j) = !(l.all Q) ∧ CI (.fn 197) [.slice ld, .func f [] caps] σ = some (.ret (.int .i64 j), σ) := by
    cases hf : l.findIdx? (fun x => !Q x) with
    | none =>
      rw [hf] at hit
      refine ⟨-1, by rw [findIdx_all hf]; rfl, CI_tree0 tab197 (d := .int .i64 (-1)) ?_ rfl rfl⟩
      simp [bodyI, af197, hlen, hit]
    | some i =>
      rw [hf] at hit
      refine ⟨i, by rw [findIdx_not hf]; simp, CI_tree0 tab197 (d := .int .i64 i) ?_ rfl rfl⟩
      simp [bodyI, af197, hlen, hit]
  refine CI_tree0 tab161 (d := .bool (!(l.all Q))) ?_ rfl rfl
  rw [← hj]
  simp [bodyI, af161, h197]

theorem c208 : ∀ (t : Ty), t.ok → ∀ (σ : St), CI (.fn 208) [.agg t.cs] σ = some (.ret (.bool (t.cl tail0)), σ)
  | .mk k n s l ls tail, hok, σ => by
    obtain ⟨h1, h2, h3⟩ := hok
    have h217 : ∀ x ∈ l, ∀ σ, CI (.fn 217) [.agg x.cs] σ = some (.ret (.bool (!x.cl tail0)), σ) := fun x hx σ => by
      have ih := c208 x (tysOk_mem h3 hx)
      have hall : x.cs.all D.one = true := by cases x; rfl
      have hτ : bodyI CI XB GI af217 [.agg x.cs] σ = some (.ret (.bool (!x.cl tail0)), σ ++ [.box x.cs]) := by
        simp [bodyI, af217, getA0, hall, ih]
      exact CI_tree tab217 hτ rfl rfl
    have h161 := fun σ => p161 l 217 [] (fun t => t.cl tail0) σ h1 (fun x hx => h217 x hx σ)
    have h215 := fun σ => c215 ls σ h2
    have hτ : bodyI CI XB GI af208 [.agg (Ty.mk k n s l ls tail).cs] σ = some (.ret (.bool ((Ty.mk k n s l ls tail).cl tail0)), σ ++ [.box (Ty.mk k n s l ls tail).cs]) := by
      simp only [Ty.cl, tysCl_all, Ty.cs]
      unfold tail0 at *
      generalize ls.map Lab.d = lsd at *
      generalize tysD l = ld at *
      generalize (ls.all fun x => x.n == 0) = lb at *
      generalize (l.all fun t => t.cl fun n => decide (0 ≤ n)) = tb at *
      cases hk : k == 0
      · cases hk5 : k == 5
        · cases lb <;> simp [bodyI, af208, getA0, hk, hk5, h215, h161]
        · by_cases ht : 0 ≤ tail
          · simp [bodyI, af208, getA0, hk, hk5, ht]
          · cases lb <;> simp [bodyI, af208, getA0, hk, hk5, ht, h215, h161]
      · simp [bodyI, af208, getA0, hk]
    exact CI_tree tab208 hτ rfl rfl
termination_by t => SizeOf.sizeOf t
decreasing_by
  have := List.sizeOf_lt_of_mem hx
  simp only [Ty.mk.sizeOf_spec]
  omega
end Go.AI
namespace Go.AI
open Go Go.Proofs Go.Lx
set_option maxRecDepth 100000

/-! Distinct names -/
def distFrom (pre : List Bs) : List Bs → Int → Int
  | [], _ => 0
  | s :: r, k => if isC s k then (if hasS pre s then 5 else distFrom (pre ++ [s]) r k) else 4
/-- The error of names of a class. -/
def distE (l : List Bs) (k : Int) : Int := distFrom [] l k
theorem it182 (k : Int) (σ : St) : ∀ (r pre : List Bs), (pre ++ r).length ≤ maxL → ∀ m, m = pre.length →
    iterI (evalI CI XB GI 26 false lp182_0) [(0, slD (pre ++ r)), (1, .int .i64 k), (7, slD (pre ++ r)), (8, .int .i64 (pre ++ r).length), (9, .int .i64 (m : Nat))] σ =
      some (if distFrom pre r k = 0 then (.exit 0, [(0, slD (pre ++ r)), (1, .int .i64 k), (7, slD (pre ++ r)), (8, .int .i64 (pre ++ r).length), (9, .int .i64 (pre ++ r).length), (10, .bool false)], σ) else (.ret, [(4, .int .i64 (distFrom pre r k))], σ))
  | [], pre, hl, m, hm => by
    have : m = (pre ++ ([] : List Bs)).length := by rw [hm]; simp
    refine iterI_end ?_ (by simp [distFrom])
    generalize pre ++ ([] : List Bs) = q at *
    simp [lp182_0, this, distFrom]
  | s :: r, pre, hl, m, hm => by
    have hmt : m < (pre ++ s :: r).length := by simp; omega
    have hget : (pre ++ s :: r)[m]? = some s := by rw [hm]; simp
    have htk : ((pre ++ s :: r).map D.str).take m = pre.map D.str := by rw [hm]; simp
    have hw := wrap_nat (n := m) (by unfold maxL at hl; simp at hl; omega)
    have h111 := h111 pre s σ (by unfold maxL at *; simp at hl; omega)
    have hp : pre ++ [s] ++ r = pre ++ s :: r := by simp
    have ih := it182 k σ r (pre ++ [s]) (by rw [hp]; exact hl) (m + 1) (by simp [hm])
    rw [hp] at ih
    simp only [distFrom]
    simp only [slD] at h111
    generalize hq : pre ++ s :: r = q at *
    have h3 : q[m] = s := by rw [List.getElem?_eq_getElem hmt] at hget; exact Option.some.inj hget
    have hm' : (m : Int) ≤ q.length := by omega
    by_cases hc : isC s k = true
    · by_cases hh : hasS pre s = true
      · simp only [hc, hh, if_true]
        refine iterI_end ?_ (by simp)
        rw [hh] at h111
        simp [lp182_0, hmt, h3, c143, hc, bound, hm', htk, h111]
      · simp only [hc, if_true, if_neg hh]
        rw [← ih]
        refine iterI_next ?_
        rw [Bool.not_eq_true] at hh
        rw [hh] at h111
        simp [lp182_0, hmt, h3, c143, hc, hw, bound, hm', htk, h111]
    · simp only [if_neg hc]
      refine iterI_end ?_ (by simp)
      rw [Bool.not_eq_true] at hc
      simp [lp182_0, hmt, h3, c143, hc]
theorem c182 (l : List Bs) (k : Int) (σ : St) (hl : l.length ≤ maxL) : CI (.fn 182) [slD l, .int .i64 k] σ = some (.ret (.int .i64 (distE l k)), σ) := by
  refine CI_tree0 tab182 (d := .int .i64 (distE l k)) ?_ rfl rfl
  have hit := it182 k σ l [] hl 0 rfl
  rw [Int.natCast_zero, List.nil_append] at hit
  unfold distE
  by_cases h : distFrom [] l k = 0
  · rw [if_pos h] at hit
    simp [bodyI, af182, hit, h]
  · rw [if_neg h] at hit
    simp [bodyI, af182, hit]

/-! Declared types -/
def declE1 (t : Ty) : Int := if t.chk = 0 then (if t.cl tail0 then 0 else 1) else t.chk
def declE (l : List Ty) : Int := firstE (l.map declE1)
theorem c183 (l : List Ty) (σ : St) (hl : l.length ≤ maxL) (hok : tysOk l) : CI (.fn 183) [.slice (tysD l)] σ = some (.ret (.int .i64 (declE l)), σ) := by
  have hlen := tysD_len l
  obtain ⟨τ, hτ⟩ : ∃ τ, bodyI CI XB GI af183 [.slice (tysD l)] σ = some (.ret (.int .i64 (declE l)), σ ++ τ) := by
    obtain ⟨τ, hit⟩ := loop_seek (f := evalI CI XB GI 21 false lp183_0) (σ := σ) l (fun i => [(6, .slice (tysD l)), (7, .int .i64 l.length), (8, .int .i64 (i : Nat))]) (fun a => declE1 a != 0) (fun a => (.ret, [(2, .int .i64 (declE1 a))]))
      (.exit 0, [(6, .slice (tysD l)), (7, .int .i64 l.length), (8, .int .i64 l.length), (9, .bool false)]) (by simp) (by simp)
      (fun i hi τ => by
        have hw := wrap_nat (n := i) (by unfold maxL at hl; omega)
        have hx := tysOk_mem hok (List.getElem_mem hi)
        have hget : (tysD l)[i]? = some (.agg l[i].cs) := by rw [tysD_map]; simp [Ty.d, hi]
        generalize tysD l = ld at *
        have h2 : i < ld.length := by omega
        have h3 : ld[i] = .agg l[i].cs := by rw [List.getElem?_eq_getElem h2] at hget; exact Option.some.inj hget
        generalize l[i] = x at *
        refine ⟨τ ++ [.box x.cs], ?_⟩
        rw [← List.append_assoc]
        generalize σ ++ τ = σ1
        have h60 := fun σ => c60 x hx σ
        have h208 := fun σ => c208 x hx σ
        have hall : x.cs.all D.one = true := by cases x; rfl
        unfold declE1
        by_cases hc : x.chk = 0
        · cases hcl : x.cl tail0 <;> rw [hc] at h60 <;> simp only [hcl] at h208 <;> simp [lp183_0, hi, hw, h2, h3, hc, hcl, h60, h208, getA0, setA0, hall, putCells]
        · have hc' : (x.chk != 0) = true := by simpa using hc
          simp [lp183_0, hi, hw, h2, h3, hc, hc', h60, getA0, setA0, hall, putCells]) (fun τ => ⟨τ, by generalize tysD l = ld at *; simp [lp183_0]⟩) []
    rw [Int.natCast_zero, List.append_nil] at hit
    refine ⟨τ, ?_⟩
    unfold declE
    rw [firstE_find]
    generalize tysD l = ld at *
    cases hf : l.find? (fun a => declE1 a != 0) <;> (rw [hf] at hit; simp [bodyI, af183, hlen, hit])
  exact CI_tree tab183 hτ rfl rfl

/-! Data types -/
def Con.ok (c : Con) : Prop := c.args.length ≤ maxL ∧ tysOk c.args
def Dat.ok (d : Dat) : Prop := d.params.length ≤ maxL ∧ d.cons.length ≤ maxL ∧ ∀ c ∈ d.cons, c.ok
def conE (c : Con) : Int := if 4 < c.args.length then 3 else if upW c.name then declE c.args else 4
def datE (d : Dat) : Int := if 4 < d.params.length ∨ 8 < d.cons.length then 3 else if upW d.name then (if distE d.params 1 = 0 then firstE (d.cons.map conE) else distE d.params 1) else 4
theorem c140 (d : Dat) (hok : d.ok) (σ : St) : CI (.fn 140) [d.d] σ = some (.ret (.int .i64 (datE d)), σ) := by
  rcases d with ⟨name, params, cons⟩
  obtain ⟨hp, hcl, hc⟩ := hok
  simp only at hp hcl hc
  obtain ⟨τ, hτ⟩ : ∃ τ, bodyI CI XB GI af140 [Dat.d ⟨name, params, cons⟩] σ = some (.ret (.int .i64 (datE ⟨name, params, cons⟩)), σ ++ τ) := by
    obtain ⟨τ, hit⟩ := loop_seek (f := evalI CI XB GI 53 false lp140_0) (σ := σ ++ [.box (Dat.cs ⟨name, params, cons⟩)]) cons (fun i => [(30, .slice (cons.map Con.d)), (31, .int .i64 cons.length), (32, .int .i64 (i : Nat))]) (fun a => conE a != 0) (fun a => (.ret, [(2, .int .i64 (conE a))]))
      (.exit 1, [(30, .slice (cons.map Con.d)), (31, .int .i64 cons.length), (32, .int .i64 cons.length), (33, .bool false)]) (by simp) (by simp)
      (fun i hi τ => by
        have hw := wrap_nat (n := i) (by unfold maxL at hcl; omega)
        have hx := hc _ (List.getElem_mem hi)
        have hlen : (cons.map Con.d).length = cons.length := by simp
        have hget : (cons.map Con.d)[i]? = some (Con.d cons[i]) := by simp [hi]
        generalize cons.map Con.d = ld at *
        have h2 : i < ld.length := by omega
        have h3 : ld[i] = Con.d cons[i] := by rw [List.getElem?_eq_getElem h2] at hget; exact Option.some.inj hget
        generalize cons[i] = x at *
        rcases x with ⟨cn, args⟩
        obtain ⟨ha, hb⟩ := hx
        simp only at ha hb
        have h183 := fun σ => c183 args σ ha hb
        have hal := tysD_len args
        refine ⟨τ ++ [.box (Con.cs ⟨cn, args⟩)], ?_⟩
        rw [← List.append_assoc]
        simp only [Con.d, Con.cs] at *
        generalize σ ++ [.box (Dat.cs ⟨name, params, cons⟩)] ++ τ = σ1 at *
        unfold conE
        generalize tysD args = ad at *
        by_cases h4 : 4 < args.length
        · have h4' : (4 : Int) < args.length := by omega
          have h4'' : 4 < ad.length := by omega
          simp [lp140_0, hi, hw, h2, h3, getA0, setA0, h4, h4', h4'', hal]
        · have h4' : ¬ (4 : Int) < args.length := by omega
          have h4'' : ¬ 4 < ad.length := by omega
          cases hu : upW cn
          · simp [lp140_0, hi, hw, h2, h3, getA0, setA0, h4, h4', h4'', hal, c143, isC2, hu]
          · by_cases hd : declE args = 0
            · simp [lp140_0, hi, hw, h2, h3, getA0, setA0, h4, h4', h4'', hal, c143, isC2, hu, h183, hd]
            · have hd' : (declE args != 0) = true := by simpa using hd
              simp [lp140_0, hi, hw, h2, h3, getA0, setA0, h4, h4', h4'', hal, c143, isC2, hu, h183, hd, hd']) (fun τ => ⟨τ, by simp [lp140_0]⟩) []
    rw [Int.natCast_zero, List.append_nil] at hit
    have hlen : (cons.map Con.d).length = cons.length := by simp
    have h182 := fun σ => c182 params 1 σ hp
    unfold datE
    simp only [Dat.d, Dat.cs] at *
    rw [firstE_find]
    simp only [slD] at *
    have hpl : (params.map D.str).length = params.length := by simp
    generalize cons.map Con.d = ld at *
    generalize params.map D.str = pd at *
    by_cases h4 : 4 < params.length
    · have h4' : (4 : Int) < params.length := by omega
      have h4'' : 4 < pd.length := by omega
      refine ⟨[.box [.str name, .slice pd, .slice ld]], ?_⟩
      simp [bodyI, af140, getA0, h4, h4', h4'', hpl]
    have h4' : ¬ (4 : Int) < params.length := by omega
    have h4'' : ¬ 4 < pd.length := by omega
    by_cases h8 : 8 < cons.length
    · have h8' : (8 : Int) < cons.length := by omega
      have h8'' : 8 < ld.length := by omega
      refine ⟨[.box [.str name, .slice pd, .slice ld]], ?_⟩
      simp [bodyI, af140, getA0, h4, h4', h4'', hpl, h8, h8', h8'', hlen]
    have h8' : ¬ (8 : Int) < cons.length := by omega
    have h8'' : ¬ 8 < ld.length := by omega
    cases hu : upW name
    · refine ⟨[.box [.str name, .slice pd, .slice ld]], ?_⟩
      simp [bodyI, af140, getA0, h4, h4', h4'', hpl, h8, h8', h8'', hlen, c143, isC2, hu]
    by_cases hd : distE params 1 = 0
    · refine ⟨[.box [.str name, .slice pd, .slice ld]] ++ τ, ?_⟩
      rw [← List.append_assoc]
      rw [hd] at h182
      cases hf : cons.find? (fun a => conE a != 0) <;> (rw [hf] at hit; simp [bodyI, af140, getA0, h4, h4', h4'', hpl, h8, h8', h8'', hlen, c143, isC2, hu, h182, hd, hit])
    · have hd' : (distE params 1 != 0) = true := by simpa using hd
      refine ⟨[.box [.str name, .slice pd, .slice ld]], ?_⟩
      simp [bodyI, af140, getA0, h4, h4', h4'', hpl, h8, h8', h8'', hlen, c143, isC2, hu, h182, hd, hd']
  exact CI_tree tab140 hτ rfl rfl

/-! Effects -/
def Opn.ok (o : Opn) : Prop := o.arg.ok ∧ o.res.ok
def Eff.ok (e : Eff) : Prop := e.ops.length ≤ maxL ∧ ∀ o ∈ e.ops, o.ok
def opnE (o : Opn) : Int := if varW o.name then declE [o.arg, o.res] else 4
def effE (e : Eff) : Int := if 8 < e.ops.length then 3 else if upW e.name then firstE (e.ops.map opnE) else 4
theorem c141 (e : Eff) (hok : e.ok) (σ : St) : CI (.fn 141) [e.d] σ = some (.ret (.int .i64 (effE e)), σ) := by
  rcases e with ⟨name, ops⟩
  obtain ⟨hol, ho⟩ := hok
  simp only at hol ho
  obtain ⟨τ, hτ⟩ : ∃ τ, bodyI CI XB GI af141 [Eff.d ⟨name, ops⟩] σ = some (.ret (.int .i64 (effE ⟨name, ops⟩)), σ ++ τ) := by
    obtain ⟨τ, hit⟩ := loop_seek (f := evalI CI XB GI 37 false lp141_0) (σ := σ ++ [.box (Eff.cs ⟨name, ops⟩)]) ops (fun i => [(17, .slice (ops.map Opn.d)), (18, .int .i64 ops.length), (19, .int .i64 (i : Nat))]) (fun a => opnE a != 0) (fun a => (.ret, [(2, .int .i64 (opnE a))]))
      (.exit 1, [(17, .slice (ops.map Opn.d)), (18, .int .i64 ops.length), (19, .int .i64 ops.length), (20, .bool false)]) (by simp) (by simp)
      (fun i hi τ => by
        have hw := wrap_nat (n := i) (by unfold maxL at hol; omega)
        have hx := ho _ (List.getElem_mem hi)
        have hlen : (ops.map Opn.d).length = ops.length := by simp
        have hget : (ops.map Opn.d)[i]? = some (Opn.d ops[i]) := by simp [hi]
        generalize ops.map Opn.d = ld at *
        have h2 : i < ld.length := by omega
        have h3 : ld[i] = Opn.d ops[i] := by rw [List.getElem?_eq_getElem h2] at hget; exact Option.some.inj hget
        generalize ops[i] = x at *
        rcases x with ⟨on, arg, res, once⟩
        obtain ⟨ha, hb⟩ := hx
        simp only at ha hb
        have h183 := fun σ => c183 [arg, res] σ (by unfold maxL; simp) ⟨ha, hb, trivial⟩
        refine ⟨τ ++ [.box (Opn.cs ⟨on, arg, res, once⟩)], ?_⟩
        rw [← List.append_assoc]
        unfold opnE
        simp only [Opn.d, Opn.cs, tysD] at *
        generalize declE [arg, res] = dE at *
        rcases arg with ⟨k1, n1, s1, l1, ls1, t1⟩
        rcases res with ⟨k2, n2, s2, l2, ls2, t2⟩
        simp only [Ty.cs, List.cons_append, List.nil_append] at *
        generalize tysD l1 = ld1 at *
        generalize tysD l2 = ld2 at *
        generalize ls1.map Lab.d = lsd1 at *
        generalize ls2.map Lab.d = lsd2 at *
        generalize σ ++ [.box (Eff.cs ⟨name, ops⟩)] ++ τ = σ1 at *
        cases hu : varW on
        · simp [lp141_0, hi, hw, h2, h3, getA0, setA0, c143, isC1, hu]
        · by_cases hd : dE = 0
          · simp [lp141_0, hi, hw, h2, h3, getA0, setA0, c143, isC1, hu, fillRow, h183, hd]
          · have hd' : (dE != 0) = true := by simpa using hd
            simp [lp141_0, hi, hw, h2, h3, getA0, setA0, c143, isC1, hu, fillRow, h183, hd, hd']) (fun τ => ⟨τ, by simp [lp141_0]⟩) []
    rw [Int.natCast_zero, List.append_nil] at hit
    have hlen : (ops.map Opn.d).length = ops.length := by simp
    unfold effE
    simp only [Eff.d, Eff.cs] at *
    rw [firstE_find]
    generalize ops.map Opn.d = ld at *
    by_cases h8 : 8 < ops.length
    · have h8' : (8 : Int) < ops.length := by omega
      have h8'' : 8 < ld.length := by omega
      refine ⟨[.box [.str name, .slice ld]], ?_⟩
      simp [bodyI, af141, getA0, h8, h8', h8'', hlen]
    have h8' : ¬ (8 : Int) < ops.length := by omega
    have h8'' : ¬ 8 < ld.length := by omega
    cases hu : upW name
    · refine ⟨[.box [.str name, .slice ld]], ?_⟩
      simp [bodyI, af141, getA0, h8, h8', h8'', hlen, c143, isC2, hu]
    refine ⟨[.box [.str name, .slice ld]] ++ τ, ?_⟩
    rw [← List.append_assoc]
    cases hf : ops.find? (fun a => opnE a != 0) <;> (rw [hf] at hit; simp [bodyI, af141, getA0, h8, h8', h8'', hlen, c143, isC2, hu, hit])
  exact CI_tree tab141 hτ rfl rfl
end Go.AI
namespace Go.AI
open Go Go.Proofs Go.Lx
set_option maxRecDepth 100000

mutual
def Ex.ok : Ex → Prop
  | .mk _ _ _ _ names l arms => names.length ≤ maxL ∧ l.length ≤ maxL ∧ arms.length ≤ maxL ∧ exsOk l ∧ armsOk arms
def exsOk : List Ex → Prop
  | [] => True
  | x :: r => x.ok ∧ exsOk r
def Arm.ok : Arm → Prop
  | .mk _ names body => names.length ≤ maxL ∧ body.ok
def armsOk : List Arm → Prop
  | [] => True
  | x :: r => x.ok ∧ armsOk r
end
theorem exsOk_mem : ∀ {l : List Ex} {t : Ex}, exsOk l → t ∈ l → t.ok
  | [], t, _, h => by cases h
  | a :: r, t, ⟨h1, h2⟩, h => by
    cases h with
    | head => exact h1
    | tail _ h => exact exsOk_mem h2 h
theorem armsOk_mem : ∀ {l : List Arm} {t : Arm}, armsOk l → t ∈ l → t.ok
  | [], t, _, h => by cases h
  | a :: r, t, ⟨h1, h2⟩, h => by
    cases h with
    | head => exact h1
    | tail _ h => exact armsOk_mem h2 h
def Arm.op : Arm → Bs | .mk op _ _ => op
def Arm.names : Arm → List Bs | .mk _ names _ => names
def Arm.body : Arm → Ex | .mk _ _ body => body
/-- The parts of an expression, in order. -/
def Ex.parts : Ex → List Ex | .mk _ _ _ _ _ l arms => l ++ arms.map Arm.body
theorem Ex.parts_ok {e x : Ex} (he : e.ok) (hx : x ∈ e.parts) : x.ok := by
  rcases e with ⟨k, n, s, t, names, l, arms⟩
  obtain ⟨_, _, _, h1, h2⟩ := he
  simp only [Ex.parts, List.mem_append, List.mem_map] at hx
  rcases hx with hx | ⟨a, ha, rfl⟩
  · exact exsOk_mem h1 hx
  · have := armsOk_mem h2 ha
    rcases a with ⟨op, ns, body⟩
    exact this.2
theorem Ex.parts_lt {e x : Ex} (hx : x ∈ e.parts) : SizeOf.sizeOf x < SizeOf.sizeOf e := by
  rcases e with ⟨k, n, s, t, names, l, arms⟩
  simp only [Ex.parts, List.mem_append, List.mem_map] at hx
  simp only [Ex.mk.sizeOf_spec]
  rcases hx with hx | ⟨a, ha, rfl⟩
  · have := List.sizeOf_lt_of_mem hx
    omega
  · have := List.sizeOf_lt_of_mem ha
    rcases a with ⟨op, ns, body⟩
    simp only [Arm.mk.sizeOf_spec] at this
    simp only [Arm.body]
    omega
theorem exsD_len (l : List Ex) : (exsD l).length = l.length := by rw [exsD_map]; simp
theorem armsD_len (l : List Arm) : (armsD l).length = l.length := by rw [armsD_map]; simp
theorem Ex.cs_all (x : Ex) : x.cs.all D.one = true := by cases x; rfl
theorem Arm.cs_eq (a : Arm) : a.cs = .str a.op :: slD a.names :: a.body.cs := by cases a; rfl

section
variable {β : Type} (f : Nat) (caps : List D) (i : Nat) (o : β → Obj) (I : β → Prop) (step : Ex → β → Bool × β) (σ : St)
theorem p172 (hi : i < σ.length) (ho : ∀ b m, (o b).under m) (e : Ex) (hok : e.ok)
    (hI : ∀ x ∈ e.parts, ∀ b, I b → (step x b).1 = true → I (step x b).2)
    (h : ∀ x ∈ e.parts, ∀ b τ, I b → CI (.fn f) (.agg x.cs :: caps) (σ.set i (o b) ++ τ) = some (.ret (.bool (step x b).1), σ.set i (o (step x b).2) ++ τ))
    (b : β) (hb : I b) : CI (.fn 172) [.agg e.cs, .func f [] caps] (σ.set i (o b)) = some (.ret (.bool (foldB step e.parts b).1), σ.set i (o (foldB step e.parts b).2)) := by
  rcases e with ⟨k, n, s, t, names, l, arms⟩
  obtain ⟨_, hl, ha, _, _⟩ := hok
  simp only [Ex.parts, List.mem_append, List.mem_map] at hI h ⊢
  have hexl := exsD_len l
  have harl := armsD_len arms
  have hsl : ∀ b, (σ.set i (o b)).length = σ.length := fun b => by simp
  obtain ⟨τ1, hit1⟩ := loop_foldB (f := evalI CI XB GI 34 false lp172_0) l (fun j => [(1, .func f [] caps), (2, .ptr σ.length 0), (10, .slice (exsD l)), (11, .int .i64 l.length), (12, .int .i64 (j : Nat))]) (fun b => σ.set i (o b) ++ [.box (Ex.mk k n s t names l arms).cs]) I step
    (.ret, [(4, .bool false)]) (.exit 0, [(1, .func f [] caps), (2, .ptr σ.length 0), (10, .slice (exsD l)), (11, .int .i64 l.length), (12, .int .i64 l.length), (13, .bool false)]) (by simp) (by simp)
    (fun j hj b hb => hI _ (.inl (List.getElem_mem hj)) b hb)
    (fun j hj b τ hb => by
      have hw := wrap_nat (n := j) (by unfold maxL at hl; omega)
      have hc := fun τ => h l[j] (.inl (List.getElem_mem hj)) b τ hb
      have hget : (exsD l)[j]? = some (.agg l[j].cs) := by rw [exsD_map]; simp [Ex.d, hj]
      generalize exsD l = ld at *
      have h2 : j < ld.length := by omega
      have h3 : ld[j] = .agg l[j].cs := by rw [List.getElem?_eq_getElem h2] at hget; exact Option.some.inj hget
      generalize l[j] = x at *
      refine ⟨τ ++ [.box x.cs], ?_⟩
      have hall := x.cs_all
      have hc := hc ([.box (Ex.mk k n s t names l arms).cs] ++ τ ++ [.box x.cs])
      generalize step x b = r at *
      simp only [← List.append_assoc] at hc ⊢
      generalize σ.set i (o b) ++ [.box (Ex.mk k n s t names l arms).cs] ++ τ = σ1 at *
      cases hr : r.1 <;> rw [hr] at hc <;> simp [lp172_0, hj, hw, h2, h3, getA0, setA0, hall, putCells, hc])
    (fun b τ hb => ⟨τ, by generalize exsD l = ld at *; simp [lp172_0]⟩) b [] hb
  rw [Int.natCast_zero, List.append_nil] at hit1
  rw [foldB_app]
  by_cases hf1 : (foldB step l b).1 = true
  · rw [if_pos hf1] at hit1
    have hb1 : I (foldB step l b).2 := foldB_inv l (fun a ha b hb hs => hI a (.inl ha) b hb hs) b hb hf1
    obtain ⟨τ2, hit2⟩ := loop_foldB (f := evalI CI XB GI 34 false lp172_1) arms (fun j => [(1, .func f [] caps), (22, .slice (armsD arms)), (23, .int .i64 arms.length), (24, .int .i64 (j : Nat))]) (fun b => σ.set i (o b) ++ [.box (Ex.mk k n s t names l arms).cs]) I (fun a => step a.body)
      (.ret, [(4, .bool false)]) (.exit 2, [(1, .func f [] caps), (22, .slice (armsD arms)), (23, .int .i64 arms.length), (24, .int .i64 arms.length), (25, .bool false)]) (by simp) (by simp)
      (fun j hj b hb => hI _ (.inr ⟨_, List.getElem_mem hj, rfl⟩) b hb)
      (fun j hj b τ hb => by
        have hw := wrap_nat (n := j) (by unfold maxL at ha; omega)
        have hc := fun τ => h arms[j].body (.inr ⟨_, List.getElem_mem hj, rfl⟩) b τ hb
        have hget : (armsD arms)[j]? = some (.agg arms[j].cs) := by rw [armsD_map]; simp [Arm.d, hj]
        generalize armsD arms = ld at *
        have h2 : j < ld.length := by omega
        have h3 : ld[j] = .agg arms[j].cs := by rw [List.getElem?_eq_getElem h2] at hget; exact Option.some.inj hget
        rw [Arm.cs_eq] at h3
        generalize arms[j] = x at *
        refine ⟨τ ++ [.box x.cs], ?_⟩
        rw [Arm.cs_eq]
        have hall := x.body.cs_all
        have hc := hc ([.box (Ex.mk k n s t names l arms).cs] ++ τ ++ [.box (.str x.op :: slD x.names :: x.body.cs)])
        generalize step x.body b = r at *
        generalize x.names.map D.str = nd at *
        simp only [← List.append_assoc] at hc ⊢
        generalize σ.set i (o b) ++ [.box (Ex.mk k n s t names l arms).cs] ++ τ = σ1 at *
        cases hr : r.1 <;> rw [hr] at hc <;> simp [lp172_1, hj, hw, h2, h3, getA0, setA0, hall, putCells, hc])
      (fun b τ hb => ⟨τ, by generalize armsD arms = ld at *; simp [lp172_1]⟩) (foldB step l b).2 τ1 hb1
    rw [Int.natCast_zero] at hit2
    rw [if_pos hf1, foldB_map]
    refine CI_fn tab172 (y := (.ret (.bool (foldB (fun a => step a.body) arms (foldB step l b).2).1), (σ.set i (o b)).set i (o (foldB (fun a => step a.body) arms (foldB step l b).2).2) ++ ([.box (Ex.mk k n s t names l arms).cs] ++ τ2))) ?_ (postI_set (ho _ _) rfl rfl |>.trans (by rw [List.set_set]; rfl))
    have hg : ∀ b, (σ.set i (o b) ++ (.box (Ex.mk k n s t names l arms).cs :: τ1))[σ.length]? = some (.box (Ex.mk k n s t names l arms).cs) := fun b => by rw [getAs0]; rfl
    simp only [List.append_assoc, List.cons_append, List.nil_append] at hit1 hit2 ⊢
    rw [List.set_set]
    generalize foldB (fun a => step a.body) arms (foldB step l b).2 = r2 at *
    generalize foldB step l b = r1 at *
    simp only [Ex.cs] at *
    generalize exsD l = ld at *
    generalize armsD arms = ad at *
    generalize names.map D.str = nd at *
    cases hr2 : r2.1 <;> rw [hr2] at hit2 <;> simp [bodyI, af172, hexl, harl, getA0, getAs0, hsl, hit1, hit2, hg]
  · rw [if_neg hf1] at hit1 ⊢
    refine CI_fn tab172 (y := (.ret (.bool false), (σ.set i (o b)).set i (o (foldB step l b).2) ++ ([.box (Ex.mk k n s t names l arms).cs] ++ τ1))) ?_ (postI_set (ho _ _) rfl rfl |>.trans (by rw [List.set_set]; rfl))
    simp only [List.append_assoc, List.cons_append, List.nil_append] at hit1 ⊢
    rw [List.set_set]
    generalize foldB step l b = r1 at *
    simp only [Ex.cs] at *
    generalize exsD l = ld at *
    generalize armsD arms = ad at *
    generalize names.map D.str = nd at *
    simp [bodyI, af172, hexl, harl, getA0, getAs0, hsl, hit1]
end
end Go.AI
namespace Go.AI
open Go Go.Proofs Go.Lx
set_option maxRecDepth 100000

theorem Arm.cs_all (x : Arm) : x.cs.all D.one = true := by rw [Arm.cs_eq]; cases x; simp [D.one, Arm.body, Ex.cs_all]
theorem c214 (x : Arm) (op : Bs) (rest : List D) (p : Nat) (σ : St) (hσ : σ[p]? = some (.box (.str op :: rest))) : CI (.fn 214) [.agg x.cs, .ptr p 0] σ = some (.ret (.bool (x.op == op)), σ) := by
  have hτ : bodyI CI XB GI af214 [.agg x.cs, .ptr p 0] σ = some (.ret (.bool (x.op == op)), σ ++ [.box x.cs]) := by
    have hall := x.body.cs_all
    rw [Arm.cs_eq] at *
    generalize x.op = xo at *
    generalize x.names.map D.str = nd at *
    generalize x.body.cs = bd at *
    simp [bodyI, af214, getA0, getO hσ, hall]
  exact CI_tree tab214 hτ rfl rfl
theorem findIdx_any {α : Type} (l : List α) (p : α → Bool) : (l.findIdx? p = none → l.any p = false) ∧ (∀ i, l.findIdx? p = some i → l.any p = true) := by
  constructor
  · intro h
    rw [List.findIdx?_eq_none_iff] at h
    exact List.any_eq_false.2 fun x hx => by simp [h x hx]
  · intro i h
    obtain ⟨hi, h1, _⟩ := List.findIdx?_eq_some_iff_getElem.1 h
    exact List.any_eq_true.2 ⟨_, List.getElem_mem hi, h1⟩
theorem any_op (l : List Arm) (op : Bs) : (l.any fun x => x.op == op) = hasS (l.map Arm.op) op := by
  unfold hasS
  rw [Bool.eq_iff_iff]
  simp
theorem c213 (l : List Arm) (op : Bs) (rest : List D) (p : Nat) (σ : St) (hl : l.length ≤ maxL) (hσ : σ[p]? = some (.box (.str op :: rest))) :
    CI (.fn 213) [.slice (armsD l), .func 214 [] [.ptr p 0]] σ = some (.ret (.bool (hasS (l.map Arm.op) op)), σ) := by
  unfold maxL at hl
  have hlen := armsD_len l
  rw [← any_op]
  have hit := loop_find (f := evalI CI XB GI 19 false lp220_0) (σ := σ) l (fun i => [(0, .slice (armsD l)), (1, .func 214 [] [.ptr p 0]), (7, .int .i64 l.length), (8, .int .i64 (i : Nat))]) (fun x => x.op == op) (fun i => (.ret, [(4, .int .i64 (i : Nat))], σ)) (.exit 0, [(0, .slice (armsD l)), (1, .func 214 [] [.ptr p 0]), (7, .int .i64 l.length), (8, .int .i64 l.length), (9, .bool false)], σ) (by simp) (by simp)
    (fun i hi => by
      have hw := wrap_nat (n := i) (by omega)
      have hc := c214 l[i] op rest p σ hσ
      have hget : (armsD l)[i]? = some (.agg l[i].cs) := by rw [armsD_map]; simp [Arm.d, hi]
      have hcl := l[i].cs_take
      have hcl2 := l[i].cs_len
      generalize armsD l = ld at *
      have h2 : i < ld.length := by omega
      have h3 : ld[i] = .agg l[i].cs := by rw [List.getElem?_eq_getElem h2] at hget; exact Option.some.inj hget
      generalize l[i].cs = xd at *
      generalize l[i].op = xo at *
      by_cases hb : (xo == op) = true
      · rw [hb] at hc
        simp [lp220_0, hi, hw, h2, h3, hc, hcl, hcl2, hb]
      · rw [Bool.not_eq_true] at hb
        rw [hb] at hc
        simp [lp220_0, hi, hw, h2, h3, hc, hcl, hcl2, hb]) (by
      generalize armsD l = ld at *
      simp [lp220_0])
  rw [Int.natCast_zero] at hit
  generalize armsD l = ld at *
  obtain ⟨j, hj, h220⟩ : ∃ j : Int, decide (0 ≤ j) = (l.any fun x => x.op == op) ∧ CI (.fn 220) [.slice ld, .func 214 [] [.ptr p 0]] σ = some (.ret (.int .i64 j), σ) := by
    cases hf : l.findIdx? (fun x => x.op == op) with
    | none =>
      rw [hf] at hit
      refine ⟨-1, by rw [(findIdx_any _ _).1 hf]; rfl, CI_tree0 tab220 (d := .int .i64 (-1)) ?_ rfl rfl⟩
      simp [bodyI, af220, hlen, hit]
    | some i =>
      rw [hf] at hit
      refine ⟨i, by rw [(findIdx_any _ _).2 i hf]; simp, CI_tree0 tab220 (d := .int .i64 i) ?_ rfl rfl⟩
      simp [bodyI, af220, hlen, hit]
  refine CI_tree0 tab213 (d := .bool (l.any fun x => x.op == op)) ?_ rfl rfl
  rw [← hj]
  simp [bodyI, af213, h220]

/-! An arm -/
def nReturn : Bs := [114, 101, 116, 117, 114, 110]
/-- The class of an arm's name; is its number of names fine? -/
def armC (k : Int) (first : Bool) : Int := if k == 11 then 2 else if first then 0 else 1
def armF (k : Int) (first : Bool) (a : Arm) : Bool := if k == 11 then decide (a.names.length ≤ 4) else if first then a.names.length == 1 && a.op == nReturn else a.names.length == 2
/-- The error of an arm behind others. -/
def armE (k : Int) (pre : List Bs) (a : Arm) : Int :=
  if armF k (pre == []) a then (if armC k (pre == []) != 0 && !isC a.op (armC k (pre == [])) then 4 else if distE a.names 1 = 0 then (if hasS pre a.op then 5 else 0) else distE a.names 1) else 7
set_option maxHeartbeats 1000000 in
theorem c203 (k n : Int) (s t : Bs) (names : List D) (l : List D) (arms : List Arm) (i : Nat) (hi : i < arms.length) (σ : St) (hl : arms.length ≤ maxL) (ha : arms[i].ok) :
    CI (.fn 203) [.agg [.int .i64 k, .int .i64 n, .str s, .str t, .slice names, .slice l, .slice (armsD arms)], .int .i64 i] σ = some (.ret (.int .i64 (armE k ((arms.take i).map Arm.op) arms[i])), σ) := by
  obtain ⟨τ, hτ⟩ : ∃ τ, bodyI CI XB GI af203 [.agg [.int .i64 k, .int .i64 n, .str s, .str t, .slice names, .slice l, .slice (armsD arms)], .int .i64 i] σ = some (.ret (.int .i64 (armE k ((arms.take i).map Arm.op) arms[i])), σ ++ τ) := by
    refine ⟨[.box [.int .i64 k, .int .i64 n, .str s, .str t, .slice names, .slice l, .slice (armsD arms)], .box arms[i].cs], ?_⟩
    have h0 : ((arms.take i).map Arm.op == []) = decide (i = 0) := by
      rw [Bool.eq_iff_iff]
      simp only [beq_iff_eq, decide_eq_true_eq, List.map_eq_nil_iff, List.take_eq_nil_iff]
      constructor
      · rintro (h | h)
        · exact h
        · simp [h] at hi
      · exact .inl
    have h213 := fun (p : Nat) (σ : St) (rest : List D) (hp : σ[p]? = some (.box (.str (arms[i]'hi).op :: rest))) => c213 (arms.take i) arms[i].op rest p σ (by simp; omega) hp
    have htk : armsD (arms.take i) = (armsD arms).take i := by simp only [armsD_map, List.map_take]
    have hget : (armsD arms)[i]? = some (.agg arms[i].cs) := by rw [armsD_map]; simp [Arm.d, hi]
    have hlen := armsD_len arms
    have hw : (i : Int) ≤ arms.length := by omega
    have hall9 : ∀ x ∈ armsD arms, x.cells.length = 9 := by
      intro x hx
      rw [armsD_map] at hx
      simp only [List.mem_map] at hx
      obtain ⟨a, _, rfl⟩ := hx
      simp [Arm.d, D.cells]
    rw [htk] at h213
    unfold armE
    rw [h0]
    generalize hasS ((arms.take i).map Arm.op) arms[i].op = hd at *
    generalize armsD arms = ad at *
    have h2 : i < ad.length := by omega
    have h3 : ad[i] = .agg arms[i].cs := by rw [List.getElem?_eq_getElem h2] at hget; exact Option.some.inj hget
    have ha' : arms[i].names.length ≤ maxL := by
      generalize arms[i] = x at *
      rcases x with ⟨_, _, _⟩
      exact ha.1
    have h182 := fun σ => c182 arms[i].names 1 σ ha'
    have hbd := arms[i].body.cs_all
    unfold armF armC
    rw [Arm.cs_eq] at *
    generalize arms[i].op = xo at *
    have hnl : (arms[i].names.map D.str).length = arms[i].names.length := by simp
    simp only [slD] at *
    generalize distE arms[i].names 1 = dE at *
    generalize arms[i].names.length = nl at *
    generalize arms[i].names.map D.str = nd at *
    have hcl := arms[i].body.cs_len
    generalize arms[i].body.cs = bd at *
    have h213 := h213 (σ.length + 1) (σ ++ [.box [.int .i64 k, .int .i64 n, .str s, .str t, .slice names, .slice l, .slice ad], .box (.str xo :: .slice nd :: bd)]) (.slice nd :: bd) (by rw [getA]; rfl)
    have htk7 : bd.take 7 = bd := List.take_of_length_le (by omega)
    have fin : ∀ (c : Int), bodyI CI XB GI af203 [.agg [.int .i64 k, .int .i64 n, .str s, .str t, .slice names, .slice l, .slice ad], .int .i64 i] σ = (if (c != 0) && !isC xo c then some (.ret (.int .i64 4), σ ++ [.box [.int .i64 k, .int .i64 n, .str s, .str t, .slice names, .slice l, .slice ad], .box (.str xo :: .slice nd :: bd)])
        else if dE = 0 then (if hd then some (.ret (.int .i64 5), σ ++ [.box [.int .i64 k, .int .i64 n, .str s, .str t, .slice names, .slice l, .slice ad], .box (.str xo :: .slice nd :: bd)]) else some (.ret (.int .i64 0), σ ++ [.box [.int .i64 k, .int .i64 n, .str s, .str t, .slice names, .slice l, .slice ad], .box (.str xo :: .slice nd :: bd)]))
        else some (.ret (.int .i64 dE), σ ++ [.box [.int .i64 k, .int .i64 n, .str s, .str t, .slice names, .slice l, .slice ad], .box (.str xo :: .slice nd :: bd)])) →
        bodyI CI XB GI af203 [.agg [.int .i64 k, .int .i64 n, .str s, .str t, .slice names, .slice l, .slice ad], .int .i64 i] σ = some (.ret (.int .i64 (if (c != 0) && !isC xo c then 4 else if dE = 0 then (if hd then 5 else 0) else dE)), σ ++ [.box [.int .i64 k, .int .i64 n, .str s, .str t, .slice names, .slice l, .slice ad], .box (.str xo :: .slice nd :: bd)]) := fun c h => by
      rw [h]
      split
      · rfl
      · split
        · split <;> rfl
        · rfl
    have e1' : ((nl : Int) = 1) = (nl = 1) := by rw [eq_iff_iff]; omega
    have e2' : ((nl : Int) = 2) = (nl = 2) := by rw [eq_iff_iff]; omega
    have e1 : ((nl : Int) == 1) = decide (nl = 1) := by rw [Bool.eq_iff_iff]; simp [e1']
    have e2 : ((nl : Int) == 2) = decide (nl = 2) := by rw [Bool.eq_iff_iff]; simp [e2']
    have hall' : (ad.all fun e => e.cells.length == 9) = true := List.all_eq_true.2 fun x hx => by simp only [hall9 x hx]; rfl
    simp only [D.cells] at hall'
    have hw2 : (i : Int) ≤ ad.length := by omega
    have hw3 : i ≤ ad.length := by omega
    by_cases hk : k = 11
    · subst hk
      simp only [beq_self_eq_true, if_true]
      by_cases h4 : nl ≤ 4
      · have h4' : (nl : Int) ≤ 4 := by omega
        rw [if_pos (by simpa using h4)]
        refine fin 2 ?_
        by_cases hc : isC xo 2 = true
        · by_cases hd0 : dE = 0
          · cases hd <;> by_cases n2 : nl = 2 <;> simp [bodyI, af203, getA0, getA, setA, h3, h2, hbd, hcl, htk7, hnl, n2, e1, e2, e1', e2', h4, h4', putCells, c143, hc, h182, hd0, bound, hw2, hw3, hall', h213, -List.all_eq_true]
          · have hd' : (dE != 0) = true := by simpa using hd0
            by_cases n2 : nl = 2 <;> simp [bodyI, af203, getA0, getA, setA, h3, h2, hbd, hcl, htk7, hnl, n2, e1, e2, e1', e2', h4, h4', putCells, c143, hc, h182, hd0, hd']
        · rw [Bool.not_eq_true] at hc
          by_cases n2 : nl = 2 <;> simp [bodyI, af203, getA0, getA, setA, h3, h2, hbd, hcl, htk7, hnl, n2, e1, e2, e1', e2', h4, h4', putCells, c143, hc]
      · have h4' : ¬ (nl : Int) ≤ 4 := by omega
        have n2 : ¬ nl = 2 := by omega
        rw [if_neg (by simpa using h4)]
        simp [bodyI, af203, getA0, getA, setA, h3, h2, hbd, hcl, htk7, hnl, n2, e1, e2, e1', e2', h4, h4', putCells]
    · have hk' : (k == 11) = false := by simpa using hk
      simp only [hk', Bool.false_eq_true, if_false]
      by_cases hi0 : i = 0
      · subst hi0
        rw [List.take_zero] at h213
        simp only [decide_true, if_true]
        by_cases n1 : nl = 1
        · cases hr : xo == nReturn
          · rw [if_neg (by simp)]
            unfold nReturn at hr
            simp [bodyI, af203, getA0, getA, setA, h3, h2, hbd, hcl, htk7, hnl, n1, e1, e2, e1', e2', putCells, hk', hr]
          · rw [if_pos (by simp [n1])]
            unfold nReturn at hr
            refine fin 0 ?_
            by_cases hd0 : dE = 0
            · cases hd <;> simp [bodyI, af203, getA0, getA, setA, h3, h2, hbd, hcl, htk7, hnl, n1, e1, e2, e1', e2', putCells, hk', hr, h182, hd0, bound, hw2, hw3, hall', h213, -List.all_eq_true]
            · have hd' : (dE != 0) = true := by simpa using hd0
              simp [bodyI, af203, getA0, getA, setA, h3, h2, hbd, hcl, htk7, hnl, n1, e1, e2, e1', e2', putCells, hk', hr, h182, hd0, hd']
        · rw [if_neg (by simp [n1])]
          by_cases n2 : nl = 2 <;> simp [bodyI, af203, getA0, getA, setA, h3, h2, hbd, hcl, htk7, hnl, n1, n2, e1, e2, e1', e2', putCells, hk']
      · have hi0' : ((i : Int) == 0) = false := by simpa using hi0
        simp only [hi0, decide_false, Bool.false_eq_true, if_false]
        by_cases n2 : nl = 2
        · rw [if_pos (by simp [n2])]
          refine fin 1 ?_
          by_cases hc : isC xo 1 = true
          · by_cases hd0 : dE = 0
            · cases hd <;> simp [bodyI, af203, getA0, getA, setA, h3, h2, hbd, hcl, htk7, hnl, n2, e1, e2, e1', e2', hi0, hi0', hk', putCells, c143, hc, h182, hd0, bound, hw2, hw3, hall', h213, -List.all_eq_true]
            · have hd' : (dE != 0) = true := by simpa using hd0
              simp [bodyI, af203, getA0, getA, setA, h3, h2, hbd, hcl, htk7, hnl, n2, e1, e2, e1', e2', hi0, hi0', hk', putCells, c143, hc, h182, hd0, hd']
          · rw [Bool.not_eq_true] at hc
            simp [bodyI, af203, getA0, getA, setA, h3, h2, hbd, hcl, htk7, hnl, n2, e1, e2, e1', e2', hi0, hi0', hk', putCells, c143, hc]
        · rw [if_neg (by simp [n2])]
          simp [bodyI, af203, getA0, getA, setA, h3, h2, hbd, hcl, htk7, hnl, n2, e1, e2, e1', e2', hi0, hi0', hk', putCells]
  exact CI_tree tab203 hτ rfl rfl
end Go.AI
namespace Go.AI
open Go Go.Proofs Go.Lx
set_option maxRecDepth 100000

/-- The shape of a kind of node. -/
structure Sh where
  s : Int
  t : Int
  n : Int
  m : Int
  p : Int
  q : Int
  a : Bool
  lo : Int
  hi : Int
  deriving DecidableEq, Inhabited
def Sh.cs (x : Sh) : List D := sh x.s x.t x.n x.m x.p x.q x.a x.lo x.hi
def shapesL : List Sh := [⟨1, 0, 0, 0, 0, 0, false, 0, 0⟩, ⟨0, 0, 0, 0, 0, 0, false, (-999999999), 999999999⟩, ⟨0, 0, 0, 0, 0, 0, false, 0, 1⟩, ⟨0, 0, 0, 0, 0, 0, false, 0, 0⟩, ⟨0, 0, 1, 0, 1, 0, false, 0, 0⟩, ⟨0, 0, 0, 0, 2, 0, false, 0, 0⟩, ⟨0, 0, 1, 0, 2, 0, false, 0, 0⟩, ⟨0, 0, 2, 0, 2, 0, false, 0, 0⟩, ⟨0, 0, 0, 0, 3, 0, false, 0, 0⟩, ⟨3, 0, 0, 0, 2, 0, false, 0, 0⟩, ⟨2, 0, 0, 0, 0, 4, false, 0, 0⟩, ⟨0, 0, 0, 0, 1, 0, true, 0, 0⟩, ⟨1, 0, 0, 0, 1, 0, false, 0, 0⟩, ⟨1, 1, 0, 0, 1, 0, false, 0, 0⟩, ⟨2, 0, 0, 0, 1, 0, true, 0, 1⟩, ⟨2, 0, 1, 0, 1, 0, true, 0, 0⟩, ⟨2, 0, 0, 0, 1, 0, false, 0, 0⟩, ⟨0, 0, 1, 12, 3, 0, false, 0, 0⟩, ⟨1, 0, 0, 0, 1, 0, false, 0, 0⟩, ⟨1, 0, 0, 0, 0, 0, false, 0, 0⟩]
def shapeOf (k : Int) : Sh := shapesL.getD k.toNat default
theorem shape_row : ∀ (j : Nat), j < 20 → (shapes.drop (j * 9)).take 9 = (shapesL.getD j default).cs
  | 0, _ => rfl
  | 1, _ => rfl
  | 2, _ => rfl
  | 3, _ => rfl
  | 4, _ => rfl
  | 5, _ => rfl
  | 6, _ => rfl
  | 7, _ => rfl
  | 8, _ => rfl
  | 9, _ => rfl
  | 10, _ => rfl
  | 11, _ => rfl
  | 12, _ => rfl
  | 13, _ => rfl
  | 14, _ => rfl
  | 15, _ => rfl
  | 16, _ => rfl
  | 17, _ => rfl
  | 18, _ => rfl
  | 19, _ => rfl
  | j + 20, h => by omega
theorem shape_len : shapes.length = 180 := rfl
theorem shape_small : ∀ x ∈ shapesL, 0 ≤ x.n ∧ x.n ≤ 100 ∧ 0 ≤ x.m ∧ x.m ≤ 100 ∧ 0 ≤ x.p ∧ x.p ≤ 100 ∧ 0 ≤ x.q ∧ x.q ≤ 100 := by decide
theorem shapeOf_mem {k : Int} (h : inR k 0 19 = true) : shapeOf k ∈ shapesL := by
  unfold inR at h
  simp only [Bool.and_eq_true, decide_eq_true_eq] at h
  unfold shapeOf
  have : k.toNat < shapesL.length := by simp [shapesL]; omega
  rw [List.getD, List.getElem?_eq_getElem this]
  exact List.getElem_mem this

/-- The error of arms. -/
def armsE (k : Int) : List Bs → List Arm → Int
  | _, [] => 0
  | pre, a :: r => if armE k pre a = 0 then armsE k (pre ++ [a.op]) r else armE k pre a
theorem it174 (k n : Int) (s t : Bs) (names l : List D) (p : Nat) (d3 : D) (σ : St) : ∀ (r pre : List Arm), (pre ++ r).length ≤ maxL → armsOk (pre ++ r) → σ[p]? = some (.box [.int .i64 k, .int .i64 n, .str s, .str t, .slice names, .slice l, .slice (armsD (pre ++ r))]) → ∀ m, m = pre.length →
    iterI (evalI CI XB GI 132 false lp174_0) [(1, .ptr p 0), (3, d3), (108, .int .i64 (pre ++ r).length), (109, .int .i64 (m : Nat))] σ =
      some (if armsE k (pre.map Arm.op) r = 0 then (.exit 1, [(1, .ptr p 0), (3, d3), (108, .int .i64 (pre ++ r).length), (109, .int .i64 (pre ++ r).length), (110, .bool false)], σ) else (.ret, [(2, .int .i64 (armsE k (pre.map Arm.op) r))], σ))
  | [], pre, hl, hok, hσ, m, hm => by
    have : m = (pre ++ ([] : List Arm)).length := by rw [hm]; simp
    refine iterI_end ?_ (by simp [armsE])
    generalize (pre ++ ([] : List Arm)).length = q at *
    simp [lp174_0, this, armsE]
  | a :: r, pre, hl, hok, hσ, m, hm => by
    have hmt : m < (pre ++ a :: r).length := by simp; omega
    have hget : (pre ++ a :: r)[m] = a := by simp [hm]
    have htk : ((pre ++ a :: r).take m).map Arm.op = pre.map Arm.op := by rw [hm]; simp
    have hw := wrap_nat (n := m) (by unfold maxL at hl; simp at hl; omega)
    have hao : (pre ++ a :: r)[m].ok := by rw [hget]; exact armsOk_mem hok (by simp)
    have hc := c203 k n s t names l (pre ++ a :: r) m hmt σ hl hao
    rw [hget, htk] at hc
    have hp : pre ++ [a] ++ r = pre ++ a :: r := by simp
    have ih := it174 k n s t names l p d3 σ r (pre ++ [a]) (by rw [hp]; exact hl) (by rw [hp]; exact hok) (by rw [hp]; exact hσ) (m + 1) (by simp [hm])
    rw [hp] at ih
    simp only [List.map_append, List.map_cons, List.map_nil] at ih
    simp only [armsE]
    clear hget hao
    generalize (pre ++ a :: r).length = q at *
    generalize armsD (pre ++ a :: r) = ad at *
    have hmt' : (m : Int) < q := by omega
    by_cases he : armE k (pre.map Arm.op) a = 0
    · simp only [if_pos he]
      rw [← ih]
      refine iterI_next ?_
      rw [he] at hc
      simp [lp174_0, hmt, hmt', hw, hσ, hc]
    · simp only [if_neg he]
      have he' : (armE k (pre.map Arm.op) a != 0) = true := by simpa using he
      refine iterI_end ?_ (by simp)
      simp [lp174_0, hmt, hmt', hw, hσ, hc, he, he']

/-- The error of a node of an expression, but not of its parts. -/
def nodeE (k n : Int) (s t : Bs) (names : List Bs) (nl : Nat) (arms : List Arm) : Int :=
  if inR k 0 19 then
    if inR n (shapeOf k).lo (shapeOf k).hi then
      if isC s (shapeOf k).s && isC t (shapeOf k).t then
        if inR names.length (shapeOf k).n ((shapeOf k).n + (shapeOf k).m) && inR nl (shapeOf k).p ((shapeOf k).p + (shapeOf k).q) then
          if (!(shapeOf k).a && decide (0 < arms.length)) || decide (9 < arms.length) then 7
          else if distE (names.take (if k = 17 then 1 else names.length)) 1 = 0 then
            if distE (names.drop (if k = 17 then 1 else names.length)) 2 = 0 then
              if armsE k [] arms = 0 then (if k != 11 && ((shapeOf k).a && decide (arms.length = 0)) then 7 else 0) else armsE k [] arms
            else distE (names.drop (if k = 17 then 1 else names.length)) 2
          else distE (names.take (if k = 17 then 1 else names.length)) 1
        else 7
      else 4
    else 1
  else 1

theorem Sh.cs_eq (x : Sh) : x.cs = [.int .i64 x.s, .int .i64 x.t, .int .i64 x.n, .int .i64 x.m, .int .i64 x.p, .int .i64 x.q, .bool x.a, .int .i64 x.lo, .int .i64 x.hi] := rfl
set_option maxHeartbeats 4000000 in
theorem c174 (e : Ex) (hok : e.ok) (σ : St) : ∀ (k n : Int) (s t : Bs) (names : List Bs) (l : List Ex) (arms : List Arm), e = .mk k n s t names l arms → CI (.fn 174) [.agg e.cs] σ = some (.ret (.int .i64 (nodeE k n s t names l.length arms)), σ) := by
  rintro k n s t names l arms rfl
  obtain ⟨hnl, hll, hal, hlo, hao⟩ := hok
  have hit := it174 k n s t (names.map D.str) (exsD l) σ.length (.ptr (σ.length + 1) 0) (σ ++ [.box (Ex.mk k n s t names l arms).cs, .box (shapeOf k).cs]) arms [] hal hao (by rw [getA0]; rfl) 0 rfl
  rw [Int.natCast_zero, List.nil_append, List.map_nil] at hit
  simp only [Ex.cs] at *
  have hexl := exsD_len l
  have harl := armsD_len arms
  have h182a := fun f (hf : f ≤ names.length) => fun σ => c182 (names.take f) 1 σ (by simp; omega)
  have h182b := fun f (hf : f ≤ names.length) => fun σ => c182 (names.drop f) 2 σ (by simp; unfold maxL at *; omega)
  simp only [slD, List.map_take, List.map_drop] at h182a h182b
  have hndl : (names.map D.str).length = names.length := by simp
  unfold nodeE
  obtain ⟨τ, hτ⟩ : ∃ τ, bodyI CI XB GI af174 [.agg [.int .i64 k, .int .i64 n, .str s, .str t, slD names, .slice (exsD l), .slice (armsD arms)]] σ = some (.ret (.int .i64 (nodeE k n s t names l.length arms)), σ ++ τ) := by
    unfold nodeE
    simp only [slD] at *
    by_cases hk : inR k 0 19 = true
    rotate_left
    · rw [if_neg hk]
      rw [Bool.not_eq_true] at hk
      refine ⟨[.box [.int .i64 k, .int .i64 n, .str s, .str t, .slice (names.map D.str), .slice (exsD l), .slice (armsD arms)]], ?_⟩
      simp [bodyI, af174, getA0, k198, hk]
    rw [if_pos hk]
    refine ⟨[.box [.int .i64 k, .int .i64 n, .str s, .str t, .slice (names.map D.str), .slice (exsD l), .slice (armsD arms)], .box (shapeOf k).cs], ?_⟩
    have hk0 : 0 ≤ k ∧ k < 20 := by unfold inR at hk; simp at hk; omega
    have hk1 := hk0.1
    have hk2 := hk0.2
    have hrow : (shapes.drop (k.toNat * 9)).take 9 = (shapeOf k).cs := shape_row k.toNat (by omega)
    have hrl : 9 ≤ shapes.length - k.toNat * 9 := by rw [shape_len]; omega
    have hsm := shape_small _ (shapeOf_mem hk)
    have hw1 : IntKind.i64.wrap ((shapeOf k).n + (shapeOf k).m) = (shapeOf k).n + (shapeOf k).m := wrap_i64 (by omega) (by omega)
    have hw2 : IntKind.i64.wrap ((shapeOf k).p + (shapeOf k).q) = (shapeOf k).p + (shapeOf k).q := wrap_i64 (by omega) (by omega)
    have hg : globT 0 = some shapes := rfl
    rw [Sh.cs_eq] at *
    generalize hxs : shapeOf k = xs at *
    rcases xs with ⟨s1, s2, s3, s4, s5, s6, s7, s8, s9⟩
    simp only at *
    generalize exsD l = ld at *
    generalize armsD arms = ad at *
    generalize hnd : names.map D.str = nd at *
    by_cases hr : inR n s8 s9 = true
    rotate_left
    · rw [if_neg hr]
      rw [Bool.not_eq_true] at hr
      simp [bodyI, af174, getA0, getA, setA, k198, hk, hk1, hk2, hg, hrow, hrl, putCells, hr]
    rw [if_pos hr]
    by_cases hs : isC s s1 = true
    rotate_left
    · rw [Bool.not_eq_true] at hs
      rw [if_neg (by simp [hs])]
      simp [bodyI, af174, getA0, getA, setA, k198, c143, hk, hk1, hk2, hg, hrow, hrl, putCells, hr, hs]
    by_cases ht : isC t s2 = true
    rotate_left
    · rw [Bool.not_eq_true] at ht
      rw [if_neg (by simp [ht])]
      simp [bodyI, af174, getA0, getA, setA, k198, c143, hk, hk1, hk2, hg, hrow, hrl, putCells, hr, hs, ht]
    rw [if_pos (by simp [hs, ht])]
    by_cases hn1 : inR names.length s3 (s3 + s4) = true
    rotate_left
    · rw [Bool.not_eq_true] at hn1
      rw [if_neg (by simp [hn1])]
      simp [bodyI, af174, getA0, getA, setA, k198, c143, hk, hk1, hk2, hg, hrow, hrl, putCells, hr, hs, ht, hndl, hw1, hn1]
    by_cases hl1 : inR l.length s5 (s5 + s6) = true
    rotate_left
    · rw [Bool.not_eq_true] at hl1
      rw [if_neg (by simp [hl1])]
      simp [bodyI, af174, getA0, getA, setA, k198, c143, hk, hk1, hk2, hg, hrow, hrl, putCells, hr, hs, ht, hndl, hw1, hn1, hexl, hw2, hl1]
    rw [if_pos (by simp [hn1, hl1])]
    by_cases ha0 : s7 = false ∧ 0 < arms.length
    · obtain ⟨rfl, ha0⟩ := ha0
      have ha0' : (0 : Int) < arms.length := by omega
      rw [if_pos (by simp [ha0])]
      simp [bodyI, af174, getA0, getA, setA, k198, c143, hk, hk1, hk2, hg, hrow, hrl, putCells, hr, hs, ht, hndl, hw1, hn1, hexl, hw2, hl1, harl, ha0, ha0']
    by_cases ha9 : 9 < arms.length
    · obtain rfl : s7 = true := by
        cases s7 with
        | true => rfl
        | false => exact absurd ⟨rfl, by omega⟩ ha0
      have ha9' : (9 : Int) < arms.length := by omega
      rw [if_pos (by simp [ha9])]
      simp [bodyI, af174, getA0, getA, setA, k198, c143, hk, hk1, hk2, hg, hrow, hrl, putCells, hr, hs, ht, hndl, hw1, hn1, hexl, hw2, hl1, harl, ha9, ha9']
    have ha9' : ¬ (9 : Int) < arms.length := by omega
    have hneg : ¬ ((!s7 && decide (0 < arms.length) || decide (9 < arms.length)) = true) := by
      intro h
      rw [Bool.or_eq_true, Bool.and_eq_true] at h
      rcases h with ⟨h1, h2⟩ | h
      · exact ha0 ⟨by simpa using h1, by simpa using h2⟩
      · exact ha9 (by simpa using h)
    rw [if_neg hneg]
    obtain ⟨f, hf, hfl, hfk⟩ : ∃ f : Nat, (if k = 17 then 1 else names.length) = f ∧ f ≤ names.length ∧ ∀ (P : Prop), ((k = 17 → f = 1 → P) → (k ≠ 17 → f = names.length → P) → P) := by
      by_cases h17 : k = 17
      · refine ⟨1, by rw [if_pos h17], ?_, fun P h1 _ => h1 h17 rfl⟩
        subst h17
        have h3 : s3 = 1 := by
          have : (shapeOf 17).n = 1 := rfl
          rw [hxs] at this
          exact this
        unfold inR at hn1
        simp at hn1
        omega
      · exact ⟨names.length, by rw [if_neg h17], Nat.le_refl _, fun P _ h2 => h2 h17 rfl⟩
    rw [hf]
    have q1 := h182a f hfl
    have q2 := h182b f hfl
    clear h182a h182b
    have hfl' : (f : Int) ≤ names.length := by omega
    have hs7 : s7 = false → arms.length = 0 := fun h => Nat.eq_zero_of_not_pos fun h0 => ha0 ⟨h, h0⟩
    have hall1 : (nd.all fun e => e.cells.length == 1) = true := by
      rw [← hnd]
      exact List.all_eq_true.2 fun x hx => by
        obtain ⟨y, _, rfl⟩ := List.mem_map.1 hx
        rfl
    simp only [D.cells] at hall1
    have key : bodyI CI XB GI af174 [.agg [.int .i64 k, .int .i64 n, .str s, .str t, .slice nd, .slice ld, .slice ad]] σ =
        some (.ret (.int .i64 (if distE (names.take f) 1 = 0 then if distE (names.drop f) 2 = 0 then if armsE k [] arms = 0 then (if k != 11 && (s7 && decide (arms.length = 0)) then 7 else 0) else armsE k [] arms else distE (names.drop f) 2 else distE (names.take f) 1)),
          σ ++ [.box [.int .i64 k, .int .i64 n, .str s, .str t, .slice nd, .slice ld, .slice ad], .box [.int .i64 s1, .int .i64 s2, .int .i64 s3, .int .i64 s4, .int .i64 s5, .int .i64 s6, .bool s7, .int .i64 s8, .int .i64 s9]]) := by
      generalize hN : names.length = N at *
      generalize distE (names.take f) 1 = d1 at *
      generalize distE (names.drop f) 2 = d2 at *
      have hfl2 : (f : Int) ≤ N := by omega
      have htk : f = N → nd.take N = nd := fun h => List.take_of_length_le (by omega)
      refine hfk _ (fun h17 hf1 => ?_) (fun h17 hfN => ?_)
      · subst hf1
        have h17b : (k == 17) = true := by simpa using h17
        have hN1 : 1 ≤ N := by omega
        have hN1' : (1 : Int) ≤ N := by omega
        have htkN : nd.take N = nd := List.take_of_length_le (by omega)
        rw [List.drop_one] at q2
        by_cases hd1 : d1 = 0
        · rw [if_pos hd1]
          rw [hd1] at q1
          by_cases hd2 : d2 = 0
          · rw [if_pos hd2]
            rw [hd2] at q2
            by_cases he : armsE k [] arms = 0
            · rw [if_pos he]
              rw [if_pos he] at hit
              by_cases h11 : k = 11
              · have h11b : (k == 11) = true := by simpa using h11
                have h11c : (k != 11) = false := by simpa using h11
                cases s7
                · have ha00 := hs7 rfl
                  simp only [ha00, Int.natCast_zero] at hit
                  simp [bodyI, af174, getA0, getA, setA, k198, c143, hk, hk1, hk2, hg, hrow, hrl, putCells, hr, hs, ht, hndl, hw1, hn1, hexl, hw2, hl1, harl, bound, hall1, -List.all_eq_true, ha00, h17b, hfl, hfl', hfl2, hN1, hN1', htkN, q1, q2, hit, h11b, h11c]
                · simp [bodyI, af174, getA0, getA, setA, k198, c143, hk, hk1, hk2, hg, hrow, hrl, putCells, hr, hs, ht, hndl, hw1, hn1, hexl, hw2, hl1, harl, bound, hall1, -List.all_eq_true, ha9, ha9', h17b, hfl, hfl', hfl2, hN1, hN1', htkN, q1, q2, hit, h11b, h11c]
              · have h11b : (k == 11) = false := by simpa using h11
                have h11c : (k != 11) = true := by simpa using h11
                cases s7
                · have ha00 := hs7 rfl
                  simp only [ha00, Int.natCast_zero] at hit
                  simp [bodyI, af174, getA0, getA, setA, k198, c143, hk, hk1, hk2, hg, hrow, hrl, putCells, hr, hs, ht, hndl, hw1, hn1, hexl, hw2, hl1, harl, bound, hall1, -List.all_eq_true, ha00, h17b, hfl, hfl', hfl2, hN1, hN1', htkN, q1, q2, hit, h11b, h11c]
                · by_cases haz : arms.length = 0
                  · have haz' : (arms.length : Int) = 0 := by omega
                    simp only [haz, Int.natCast_zero] at hit
                    simp [bodyI, af174, getA0, getA, setA, k198, c143, hk, hk1, hk2, hg, hrow, hrl, putCells, hr, hs, ht, hndl, hw1, hn1, hexl, hw2, hl1, harl, bound, hall1, -List.all_eq_true, ha9, ha9', h17b, hfl, hfl', hfl2, hN1, hN1', htkN, q1, q2, hit, h11b, h11c, haz, haz']
                  · have haz' : ¬ (arms.length : Int) = 0 := by omega
                    have haz'' : ((arms.length : Int) == 0) = false := by simpa using haz'
                    simp [bodyI, af174, getA0, getA, setA, k198, c143, hk, hk1, hk2, hg, hrow, hrl, putCells, hr, hs, ht, hndl, hw1, hn1, hexl, hw2, hl1, harl, bound, hall1, -List.all_eq_true, ha9, ha9', h17b, hfl, hfl', hfl2, hN1, hN1', htkN, q1, q2, hit, h11b, h11c, haz, haz', haz'']
            · rw [if_neg he]
              rw [if_neg he] at hit
              cases s7
              · have ha00 := hs7 rfl
                simp only [ha00, Int.natCast_zero] at hit
                simp [bodyI, af174, getA0, getA, setA, k198, c143, hk, hk1, hk2, hg, hrow, hrl, putCells, hr, hs, ht, hndl, hw1, hn1, hexl, hw2, hl1, harl, bound, hall1, -List.all_eq_true, ha00, h17b, hfl, hfl', hfl2, hN1, hN1', htkN, q1, q2, hit]
              · simp [bodyI, af174, getA0, getA, setA, k198, c143, hk, hk1, hk2, hg, hrow, hrl, putCells, hr, hs, ht, hndl, hw1, hn1, hexl, hw2, hl1, harl, bound, hall1, -List.all_eq_true, ha9, ha9', h17b, hfl, hfl', hfl2, hN1, hN1', htkN, q1, q2, hit]
          · rw [if_neg hd2]
            have hd2' : (d2 != 0) = true := by simpa using hd2
            cases s7
            · have ha00 := hs7 rfl
              simp [bodyI, af174, getA0, getA, setA, k198, c143, hk, hk1, hk2, hg, hrow, hrl, putCells, hr, hs, ht, hndl, hw1, hn1, hexl, hw2, hl1, harl, bound, hall1, -List.all_eq_true, ha00, h17b, hfl, hfl', hfl2, hN1, hN1', htkN, q1, q2, hd2, hd2']
            · simp [bodyI, af174, getA0, getA, setA, k198, c143, hk, hk1, hk2, hg, hrow, hrl, putCells, hr, hs, ht, hndl, hw1, hn1, hexl, hw2, hl1, harl, bound, hall1, -List.all_eq_true, ha9, ha9', h17b, hfl, hfl', hfl2, hN1, hN1', htkN, q1, q2, hd2, hd2']
        · rw [if_neg hd1]
          have hd1' : (d1 != 0) = true := by simpa using hd1
          cases s7
          · have ha00 := hs7 rfl
            simp [bodyI, af174, getA0, getA, setA, k198, c143, hk, hk1, hk2, hg, hrow, hrl, putCells, hr, hs, ht, hndl, hw1, hn1, hexl, hw2, hl1, harl, bound, hall1, -List.all_eq_true, ha00, h17b, hfl, hfl', hfl2, hN1, hN1', htkN, q1, hd1, hd1']
          · simp [bodyI, af174, getA0, getA, setA, k198, c143, hk, hk1, hk2, hg, hrow, hrl, putCells, hr, hs, ht, hndl, hw1, hn1, hexl, hw2, hl1, harl, bound, hall1, -List.all_eq_true, ha9, ha9', h17b, hfl, hfl', hfl2, hN1, hN1', htkN, q1, hd1, hd1']
      · subst hfN
        have h17' : (k == 17) = false := by simpa using h17
        have htk := htk rfl
        have hdr : nd.drop f = [] := List.drop_of_length_le (by omega)
        rw [htk] at q1
        rw [hdr] at q2
        by_cases hd1 : d1 = 0
        · rw [if_pos hd1]
          rw [hd1] at q1
          by_cases hd2 : d2 = 0
          · rw [if_pos hd2]
            rw [hd2] at q2
            by_cases he : armsE k [] arms = 0
            · rw [if_pos he]
              rw [if_pos he] at hit
              by_cases h11 : k = 11
              · have h11b : (k == 11) = true := by simpa using h11
                have h11c : (k != 11) = false := by simpa using h11
                cases s7
                · have ha00 := hs7 rfl
                  simp only [ha00, Int.natCast_zero] at hit
                  simp [bodyI, af174, getA0, getA, setA, k198, c143, hk, hk1, hk2, hg, hrow, hrl, putCells, hr, hs, ht, hndl, hw1, hn1, hexl, hw2, hl1, harl, bound, hall1, -List.all_eq_true, ha00, h17, h17', htk, hdr, q1, q2, hit, h11b, h11c]
                · simp [bodyI, af174, getA0, getA, setA, k198, c143, hk, hk1, hk2, hg, hrow, hrl, putCells, hr, hs, ht, hndl, hw1, hn1, hexl, hw2, hl1, harl, bound, hall1, -List.all_eq_true, ha9, ha9', h17, h17', htk, hdr, q1, q2, hit, h11b, h11c]
              · have h11b : (k == 11) = false := by simpa using h11
                have h11c : (k != 11) = true := by simpa using h11
                cases s7
                · have ha00 := hs7 rfl
                  simp only [ha00, Int.natCast_zero] at hit
                  simp [bodyI, af174, getA0, getA, setA, k198, c143, hk, hk1, hk2, hg, hrow, hrl, putCells, hr, hs, ht, hndl, hw1, hn1, hexl, hw2, hl1, harl, bound, hall1, -List.all_eq_true, ha00, h17, h17', htk, hdr, q1, q2, hit, h11b, h11c]
                · by_cases haz : arms.length = 0
                  · have haz' : (arms.length : Int) = 0 := by omega
                    simp only [haz, Int.natCast_zero] at hit
                    simp [bodyI, af174, getA0, getA, setA, k198, c143, hk, hk1, hk2, hg, hrow, hrl, putCells, hr, hs, ht, hndl, hw1, hn1, hexl, hw2, hl1, harl, bound, hall1, -List.all_eq_true, ha9, ha9', h17, h17', htk, hdr, q1, q2, hit, h11b, h11c, haz, haz']
                  · have haz' : ¬ (arms.length : Int) = 0 := by omega
                    have haz'' : ((arms.length : Int) == 0) = false := by simpa using haz'
                    simp [bodyI, af174, getA0, getA, setA, k198, c143, hk, hk1, hk2, hg, hrow, hrl, putCells, hr, hs, ht, hndl, hw1, hn1, hexl, hw2, hl1, harl, bound, hall1, -List.all_eq_true, ha9, ha9', h17, h17', htk, hdr, q1, q2, hit, h11b, h11c, haz, haz', haz'']
            · rw [if_neg he]
              rw [if_neg he] at hit
              cases s7
              · have ha00 := hs7 rfl
                simp only [ha00, Int.natCast_zero] at hit
                simp [bodyI, af174, getA0, getA, setA, k198, c143, hk, hk1, hk2, hg, hrow, hrl, putCells, hr, hs, ht, hndl, hw1, hn1, hexl, hw2, hl1, harl, bound, hall1, -List.all_eq_true, ha00, h17, h17', htk, hdr, q1, q2, hit]
              · simp [bodyI, af174, getA0, getA, setA, k198, c143, hk, hk1, hk2, hg, hrow, hrl, putCells, hr, hs, ht, hndl, hw1, hn1, hexl, hw2, hl1, harl, bound, hall1, -List.all_eq_true, ha9, ha9', h17, h17', htk, hdr, q1, q2, hit]
          · rw [if_neg hd2]
            have hd2' : (d2 != 0) = true := by simpa using hd2
            cases s7
            · have ha00 := hs7 rfl
              simp [bodyI, af174, getA0, getA, setA, k198, c143, hk, hk1, hk2, hg, hrow, hrl, putCells, hr, hs, ht, hndl, hw1, hn1, hexl, hw2, hl1, harl, bound, hall1, -List.all_eq_true, ha00, h17, h17', htk, hdr, q1, q2, hd2, hd2']
            · simp [bodyI, af174, getA0, getA, setA, k198, c143, hk, hk1, hk2, hg, hrow, hrl, putCells, hr, hs, ht, hndl, hw1, hn1, hexl, hw2, hl1, harl, bound, hall1, -List.all_eq_true, ha9, ha9', h17, h17', htk, hdr, q1, q2, hd2, hd2']
        · rw [if_neg hd1]
          have hd1' : (d1 != 0) = true := by simpa using hd1
          cases s7
          · have ha00 := hs7 rfl
            simp [bodyI, af174, getA0, getA, setA, k198, c143, hk, hk1, hk2, hg, hrow, hrl, putCells, hr, hs, ht, hndl, hw1, hn1, hexl, hw2, hl1, harl, bound, hall1, -List.all_eq_true, ha00, h17, h17', htk, hdr, q1, hd1, hd1']
          · simp [bodyI, af174, getA0, getA, setA, k198, c143, hk, hk1, hk2, hg, hrow, hrl, putCells, hr, hs, ht, hndl, hw1, hn1, hexl, hw2, hl1, harl, bound, hall1, -List.all_eq_true, ha9, ha9', h17, h17', htk, hdr, q1, hd1, hd1']
    exact key
  exact CI_tree tab174 hτ rfl rfl
end Go.AI
namespace Go.AI
open Go Go.Proofs Go.Lx
set_option maxRecDepth 100000

/-! All nodes -/
mutual
/-- The first error of the nodes of an expression. -/
def Ex.e : Ex → Int
  | .mk k n s t names l arms => if nodeE k n s t names l.length arms = 0 then (if exsE l = 0 then armsBE arms else exsE l) else nodeE k n s t names l.length arms
def exsE : List Ex → Int
  | [] => 0
  | x :: r => if x.e = 0 then exsE r else x.e
def armsBE : List Arm → Int
  | [] => 0
  | .mk _ _ b :: r => if b.e = 0 then armsBE r else b.e
end
def stepE (x : Ex) (_ : Int) : Bool × Int := (x.e == 0, x.e)
theorem foldE : ∀ (l : List Ex), foldB stepE l 0 = (exsE l == 0, exsE l)
  | [] => rfl
  | x :: r => by
    by_cases h : x.e = 0
    · have hb : (x.e == 0) = true := by simpa using h
      simp only [foldB, stepE, exsE, hb, h, if_true]
      exact foldE r
    · have hb : (x.e == 0) = false := by simpa using h
      simp only [foldB, stepE, exsE, hb, if_neg h, Bool.false_eq_true, if_false]
theorem armsBE_map : ∀ (l : List Arm), armsBE l = exsE (l.map Arm.body)
  | [] => rfl
  | .mk _ _ b :: r => by simp only [armsBE, List.map_cons, exsE, Arm.body, armsBE_map r]
theorem exsE_app : ∀ (a b : List Ex), exsE (a ++ b) = if exsE a = 0 then exsE b else exsE a
  | [], b => by simp [exsE]
  | x :: a, b => by
    simp only [List.cons_append, exsE]
    by_cases h : x.e = 0
    · simp only [if_pos h]; exact exsE_app a b
    · simp only [if_neg h]
theorem Ex.e_eq (k n : Int) (s t : Bs) (names : List Bs) (l : List Ex) (arms : List Arm) :
    (Ex.mk k n s t names l arms).e = if nodeE k n s t names l.length arms = 0 then exsE (Ex.mk k n s t names l arms).parts else nodeE k n s t names l.length arms := by
  simp only [Ex.e, Ex.parts, exsE_app, armsBE_map]

theorem c131 : ∀ (e : Ex), e.ok → ∀ (σ : St), CI (.fn 131) [.agg e.cs] σ = some (.ret (.int .i64 e.e), σ)
  | .mk k n s t names l arms, hok, σ => by
    have h174 := fun σ => c174 _ hok σ k n s t names l arms rfl
    have h175 : ∀ x ∈ (Ex.mk k n s t names l arms).parts, ∀ (i : Nat) (b : Int) (σ : St), σ[i]? = some (.box [.int .i64 b]) → CI (.fn 175) [.agg x.cs, .ptr i 0] σ = some (.ret (.bool (x.e == 0)), σ.set i (.box [.int .i64 x.e])) := fun x hx i b σ hi => by
      have ih := c131 x (Ex.parts_ok hok hx)
      have hall := x.cs_all
      have hlt := lt_of_get hi
      have hτ : bodyI CI XB GI af175 [.agg x.cs, .ptr i 0] σ = some (.ret (.bool (x.e == 0)), σ.set i (.box [.int .i64 x.e]) ++ [.box x.cs]) := by
        simp [bodyI, af175, getA0, getO hi, setO hlt, getSs hlt, hall, ih, putCells]
      exact CI_fn tab175 hτ (postI_set (by simp [Obj.under, underL, D.under]) rfl rfl)
    rw [Ex.e_eq]
    have h172 := fun (i : Nat) (σ : St) (hi : i < σ.length) => p172 175 [.ptr i 0] i (fun b : Int => .box [.int .i64 b]) (fun _ => True) stepE σ hi (fun b m => by simp [Obj.under, underL, D.under]) (Ex.mk k n s t names l arms) hok (fun _ _ _ _ _ => trivial)
      (fun x hx b τ _ => by
        have := h175 x hx i b (σ.set i (.box [.int .i64 b]) ++ τ) (getSs hi)
        rw [setSs hi] at this
        exact this) 0 trivial
    rw [foldE] at h172
    generalize (Ex.mk k n s t names l arms).parts = ps at *
    have hall := (Ex.mk k n s t names l arms).cs_all
    have hcl := (Ex.mk k n s t names l arms).cs_len
    have htk := (Ex.mk k n s t names l arms).cs_take
    obtain ⟨τ, hτ⟩ : ∃ τ, bodyI CI XB GI af131 [.agg (Ex.mk k n s t names l arms).cs] σ = some (.ret (.int .i64 (if nodeE k n s t names l.length arms = 0 then exsE ps else nodeE k n s t names l.length arms)), σ ++ τ) := by
      generalize (Ex.mk k n s t names l arms).cs = ec at *
      by_cases hz : nodeE k n s t names l.length arms = 0
      · rw [if_pos hz]
        rw [hz] at h174
        refine ⟨[.box ec, .box [.int .i64 (exsE ps)]], ?_⟩
        have h := h172 (σ.length + 1) (σ ++ [.box ec, .box [.int .i64 0]]) (by simp)
        simp only [setA, List.set] at h
        simp [bodyI, af131, getA0, getA, setA, hall, hcl, htk, h174, putCells, h]
      · rw [if_neg hz]
        have hz' : (nodeE k n s t names l.length arms == 0) = false := by simpa using hz
        refine ⟨[.box ec, .box [.int .i64 (nodeE k n s t names l.length arms)]], ?_⟩
        simp [bodyI, af131, getA0, getA, setA, hall, hcl, htk, h174, putCells, hz, hz']
    exact CI_tree tab131 hτ rfl rfl
termination_by e => SizeOf.sizeOf e
decreasing_by exact Ex.parts_lt hx
end Go.AI
namespace Go.AI
open Go Go.Proofs Go.Lx
set_option maxRecDepth 100000

mutual
/-- May an expression have so many nodes, and be so deep? How many are left, and how deep the deepest was. -/
def Ex.take : Ex → Int → Int × Int → Bool × (Int × Int)
  | .mk _ _ _ _ _ l arms, d, b => if b.1 - 1 < 0 ∨ 200 < d then (false, (b.1 - 1, if d > b.2 then d else b.2))
    else if (exsTake l (d + 1) (b.1 - 1, if d > b.2 then d else b.2)).1 then armsTake arms (d + 1) (exsTake l (d + 1) (b.1 - 1, if d > b.2 then d else b.2)).2
    else (false, (exsTake l (d + 1) (b.1 - 1, if d > b.2 then d else b.2)).2)
def exsTake : List Ex → Int → Int × Int → Bool × (Int × Int)
  | [], _, b => (true, b)
  | x :: r, d, b => if (x.take d b).1 then exsTake r d (x.take d b).2 else (false, (x.take d b).2)
def armsTake : List Arm → Int → Int × Int → Bool × (Int × Int)
  | [], _, b => (true, b)
  | .mk _ _ x :: r, d, b => if (x.take d b).1 then armsTake r d (x.take d b).2 else (false, (x.take d b).2)
end
theorem exsTake_fold (d : Int) : ∀ (l : List Ex) (b : Int × Int), exsTake l d b = foldB (fun x => x.take d) l b
  | [], b => rfl
  | x :: r, b => by simp only [exsTake, foldB, exsTake_fold d r]
theorem armsTake_fold (d : Int) : ∀ (l : List Arm) (b : Int × Int), armsTake l d b = foldB (fun x => x.take d) (l.map Arm.body) b
  | [], b => rfl
  | .mk _ _ x :: r, b => by simp only [armsTake, List.map_cons, foldB, Arm.body, armsTake_fold d r]
def deepM (d b : Int) : Int := if d > b then d else b
theorem Ex.take_eq (e : Ex) (d : Int) (b : Int × Int) : e.take d b = if b.1 - 1 < 0 ∨ 200 < d then (false, (b.1 - 1, deepM d b.2)) else foldB (fun x => x.take (d + 1)) e.parts (b.1 - 1, deepM d b.2) := by
  rcases e with ⟨k, n, s, t, names, l, arms⟩
  simp only [Ex.take, Ex.parts, foldB_app, exsTake_fold, armsTake_fold, deepM]
def inB (B : Int) (b : Int × Int) : Prop := 0 ≤ b.1 ∧ b.1 ≤ B
theorem Ex.take_in (B : Int) : ∀ (e : Ex) (d : Int) (b : Int × Int), inB B b → (e.take d b).1 = true → inB B (e.take d b).2
  | e, d, b, hb, h => by
    rw [Ex.take_eq] at h ⊢
    by_cases h0 : b.1 - 1 < 0 ∨ 200 < d
    · rw [if_pos h0] at h; cases h
    · rw [if_neg h0] at h ⊢
      refine foldB_inv e.parts (fun x hx b hb hs => Ex.take_in B x (d + 1) b hb hs) _ ?_ h
      obtain ⟨h1, h2⟩ := hb
      exact ⟨by simp only; omega, by simp only; omega⟩
termination_by e => SizeOf.sizeOf e
decreasing_by exact Ex.parts_lt hx

theorem log512 : Nat.log2 512 = 9 := by decide
theorem tb511 : Nat.testBit 511 4 = true := by decide
set_option maxHeartbeats 1000000 in
theorem c130 : ∀ (e : Ex), e.ok → ∀ (d : Int) (b : Int × Int) (i : Nat) (σ : St), inB 1000000 b → 0 ≤ d → d ≤ 1000 → σ[i]? = some (mBox b.1 b.2) →
    CI (.fn 130) [.ptr i 0, .agg e.cs, .int .i64 d] σ = some (.ret (.bool (e.take d b).1), σ.set i (mBox (e.take d b).2.1 (e.take d b).2.2))
  | e, hok, d, b, i, σ, hb, hd0, hd1, hσ => by
    have hi := lt_of_get hσ
    have hall := e.cs_all
    have hcl := e.cs_len
    have htk := e.cs_take
    have hw : IntKind.i64.wrap (b.1 - 1) = b.1 - 1 := wrap_i64 (by have := hb.1; omega) (by have := hb.2; omega)
    have hwd : IntKind.i64.wrap (d + 1) = d + 1 := wrap_i64 (by omega) (by omega)
    have h173 : d ≤ 200 → ∀ x ∈ e.parts, ∀ (pm pd : Nat) (b : Int × Int) (σ : St), inB 1000000 b → σ[i]? = some (mBox b.1 b.2) → σ[pm]? = some (.box [.ptr i 0]) → σ[pd]? = some (.box [.int .i64 d]) →
        CI (.fn 173) [.agg x.cs, .ptr pm 0, .ptr pd 0] σ = some (.ret (.bool (x.take (d + 1) b).1), σ.set i (mBox (x.take (d + 1) b).2.1 (x.take (d + 1) b).2.2)) := fun hd x hx pm pd b σ hb hσ hpm hpd => by
      have hi := lt_of_get hσ
      have ih := c130 x (Ex.parts_ok hok hx) (d + 1) b i (σ ++ [.box x.cs]) hb (by omega) (by omega) (getO hσ)
      rw [setO hi] at ih
      have hall := x.cs_all
      have hcl := x.cs_len
      have htk := x.cs_take
      have hτ : bodyI CI XB GI af173 [.agg x.cs, .ptr pm 0, .ptr pd 0] σ = some (.ret (.bool (x.take (d + 1) b).1), σ.set i (mBox (x.take (d + 1) b).2.1 (x.take (d + 1) b).2.2) ++ [.box x.cs]) := by
        generalize x.take (d + 1) b = r at *
        simp [bodyI, af173, getA0, getO hpm, getO hpd, hall, hcl, htk, hwd, ih]
      exact CI_fn tab173 hτ (postI_set mBox_under rfl rfl)
    obtain ⟨τ, hτ⟩ : ∃ τ, bodyI CI XB GI af130 [.ptr i 0, .agg e.cs, .int .i64 d] σ = some (.ret (.bool (e.take d b).1), σ.set i (mBox (e.take d b).2.1 (e.take d b).2.2) ++ τ) := by
      refine ⟨[.box [.ptr i 0], .box e.cs, .box [.int .i64 d]], ?_⟩
      rw [Ex.take_eq]
      have h172 : ¬ b.1 - 1 < 0 → ¬ 200 < d → _ := fun h0 hd => p172 173 [.ptr σ.length 0, .ptr (σ.length + 2) 0] i (fun b : Int × Int => mBox b.1 b.2) (inB 1000000) (fun x => x.take (d + 1)) (σ ++ [.box [.ptr i 0], .box e.cs, .box [.int .i64 d]]) (by simp; omega) (fun b m => mBox_under) e hok
        (fun x hx b hb hs => Ex.take_in _ x _ b hb hs)
        (fun x hx b τ hb => by
          rw [setO hi]
          have := h173 (by omega) x hx σ.length (σ.length + 2) b (σ.set i (mBox b.1 b.2) ++ [.box [.ptr i 0], .box e.cs, .box [.int .i64 d]] ++ τ) hb (by rw [List.append_assoc]; exact getSs hi) (by rw [List.append_assoc]; exact getAs0) (by rw [List.append_assoc]; exact getAs)
          rw [List.append_assoc, setSs hi] at this
          rw [List.append_assoc, setO hi, List.append_assoc]
          exact this) (b.1 - 1, deepM d b.2) ⟨by simp only; omega, by have := hb.2; simp only; omega⟩
      simp only [setO hi] at h172
      unfold deepM at *
      by_cases h0 : b.1 - 1 < 0
      · rw [if_pos (.inl h0)]
        simp [bodyI, af130, log512, tb511, mBox, getA0, getA, getO hσ, getAs0, getAs, getSs hi, setSs hi, setO hi, hall, hcl, htk, hw, h0]
      · by_cases hd : 200 < d
        · rw [if_pos (.inr hd)]
          simp [bodyI, af130, log512, tb511, mBox, getA0, getA, getO hσ, getAs0, getAs, getSs hi, setSs hi, setO hi, hall, hcl, htk, hw, h0, hd]
        · rw [if_neg (by simp [h0, hd])]
          have h := h172 h0 hd
          simp only [gt_iff_lt] at h ⊢
          generalize foldB (fun x => x.take (d + 1)) e.parts _ = r at *
          simp only [mBox] at h
          simp [bodyI, af130, log512, tb511, mBox, getA0, getA, getO hσ, getAs0, getAs, getSs hi, setSs hi, setO hi, hall, hcl, htk, hw, h0, hd, h]
    exact CI_fn tab130 hτ (postI_set mBox_under rfl rfl)
termination_by e => SizeOf.sizeOf e
decreasing_by exact Ex.parts_lt hx
end Go.AI
namespace Go.AI
open Go Go.Proofs Go.Lx
set_option maxRecDepth 100000

def Dfn.ok (d : Dfn) : Prop := d.body.ok
structure Prg.ok (p : Prg) : Prop where
  dl : p.data.length ≤ maxL
  d : ∀ d ∈ p.data, d.ok
  el : p.effects.length ≤ maxL
  e : ∀ e ∈ p.effects, e.ok
  fl : p.defs.length ≤ maxL
  f : ∀ f ∈ p.defs, f.ok
  m : p.main.ok
def nest1 (d : Dfn) (out : Ex) : Ex := .mk 6 0 [] [] [d.name] [d.body, out] []
/-- The nested Let of a program. -/
def nestE (l : List Dfn) (m : Ex) : Ex := l.foldr nest1 m
theorem nestE_ok {m : Ex} (hm : m.ok) : ∀ {l : List Dfn}, (∀ d ∈ l, d.ok) → (nestE l m).ok
  | [], _ => hm
  | d :: r, h => ⟨by unfold maxL; simp, by unfold maxL; simp, by unfold maxL; simp, ⟨h d List.mem_cons_self, nestE_ok hm fun x hx => h x (List.mem_cons_of_mem _ hx), trivial⟩, trivial⟩
def idx : Nat → Int
  | 0 => -1
  | k + 1 => k

theorem b142 (p : Prg) (out : Ex) (σ : St) (p1 p2 p3 k : Nat) (h1 : σ[p1]? = some (.box p.cs)) (h3 : σ[p3]? = some (.box out.cs)) (hk : k < p.defs.length) (hl : p.defs.length ≤ maxL) :
    evalI CI XB GI 30 false lp142_0 [(1, .ptr p1 0), (2, .ptr p2 0), (3, .ptr p3 0), (4, .int .i64 k)] σ =
      some (.normal, [(1, .ptr p1 0), (2, .ptr p2 0), (3, .ptr p3 0), (4, .int .i64 (idx k))], σ.set p3 (.box (nest1 p.defs[k] out).cs) ++ [.box p.defs[k].cs]) := by
  rcases p with ⟨data, effects, defs, main⟩
  have hw : IntKind.i64.wrap ((k : Int) - 1) = idx k := by
    cases k with
    | zero => rfl
    | succ k => rw [wrap_i64 (by omega) (by unfold maxL at hl; simp only at hk hl; omega)]; simp only [idx]; omega
  have hi3 := lt_of_get h3
  simp only [Prg.cs] at h1 hk ⊢
  have hget : (defs.map Dfn.d)[k]? = some (.agg defs[k].cs) := by simp [Dfn.d, hk]
  have hlen : (defs.map Dfn.d).length = defs.length := by simp
  generalize defs[k] = dk at *
  rcases dk with ⟨name, body⟩
  simp only [Dfn.cs, nest1, Ex.cs, exsD, slD, List.map_cons, List.map_nil, armsD] at *
  have hc1 := body.cs_len
  have hc2 := body.cs_take
  have hc3 := body.cs_all
  have ho1 := out.cs_len
  have ho2 := out.cs_take
  have ho3 := out.cs_all
  have ho4 : out.cs.drop 7 = [] := List.drop_eq_nil_of_le (by simp)
  generalize body.cs = bc at *
  generalize out.cs = oc at *
  generalize main.cs = mc at *
  generalize data.map Dat.d = dd at *
  generalize effects.map Eff.d = ed at *
  generalize defs.map Dfn.d = ld at *
  have h2 : k < ld.length := by omega
  have h4 : ld[k] = .agg (.str name :: bc) := by rw [List.getElem?_eq_getElem h2] at hget; exact Option.some.inj hget
  simp [lp142_0, h1, h3, h2, h4, hw, getO h1, getO h3, getA0, setA0, setO hi3, hc1, hc2, hc3, ho1, ho2, ho3, ho4, putCells, fillRow, fillD]

theorem it142 (p : Prg) (hl : p.defs.length ≤ maxL) (σ : St) (z : Obj) : ∀ (m : Nat) (τ : St), m ≤ p.defs.length →
    ∃ τ', iterI (evalI CI XB GI 30 false lp142_0) [(1, .ptr σ.length 0), (2, .ptr (σ.length + 1) 0), (3, .ptr (σ.length + 2) 0), (4, .int .i64 (idx m))] (σ ++ ([.box p.cs, z, .box (nestE (p.defs.drop m) p.main).cs] ++ τ)) =
      some (.exit 0, [(1, .ptr σ.length 0), (2, .ptr (σ.length + 1) 0), (3, .ptr (σ.length + 2) 0), (4, .int .i64 (-1)), (13, .bool false)], σ ++ ([.box p.cs, z, .box (nestE p.defs p.main).cs] ++ τ'))
  | 0, τ, _ => ⟨τ, iterI_end (by simp [lp142_0, idx]) (by simp)⟩
  | m + 1, τ, hm => by
    have hb := b142 p (nestE (p.defs.drop (m + 1)) p.main) (σ ++ ([.box p.cs, z, .box (nestE (p.defs.drop (m + 1)) p.main).cs] ++ τ)) σ.length (σ.length + 1) (σ.length + 2) m getA0 getA (by omega) hl
    obtain ⟨τ', ih⟩ := it142 p hl σ z m (τ ++ [.box p.defs[m].cs]) (by omega)
    refine ⟨τ', ?_⟩
    simp only [idx]
    have hd : nestE (p.defs.drop m) p.main = nest1 p.defs[m] (nestE (p.defs.drop (m + 1)) p.main) := by
      rw [List.drop_eq_getElem_cons (show m < p.defs.length by omega)]; rfl
    rw [iterI_next hb, ← ih, setA, hd]
    simp
theorem c142 (p : Prg) (hl : p.defs.length ≤ maxL) (σ : St) : CI (.fn 142) [.agg p.cs] σ = some (.ret (.agg (nestE p.defs p.main).cs), σ) := by
  obtain ⟨τ, hit⟩ := it142 p hl σ (.box z7a) p.defs.length [] (by omega)
  rw [List.drop_length] at hit
  obtain ⟨τ, hτ⟩ : ∃ τ, bodyI CI XB GI af142 [.agg p.cs] σ = some (.ret (.agg (nestE p.defs p.main).cs), σ ++ τ) := by
    refine ⟨[.box p.cs, .box (nestE p.defs p.main).cs, .box (nestE p.defs p.main).cs] ++ τ, ?_⟩
    · have hw : IntKind.i64.wrap ((p.defs.length : Int) - 1) = idx p.defs.length := by
        unfold maxL at hl
        cases hn : p.defs.length with
        | zero => rfl
        | succ k => rw [wrap_i64 (by omega) (by omega)]; simp only [idx]; omega
      have hlen : (p.defs.map Dfn.d).length = p.defs.length := by simp
      have hn : nestE [] p.main = p.main := rfl
      rw [hn] at hit
      have ho1 := (nestE p.defs p.main).cs_len
      have ho2 := (nestE p.defs p.main).cs_take
      have ho3 := (nestE p.defs p.main).cs_all
      have ho4 : (nestE p.defs p.main).cs.drop 7 = [] := List.drop_eq_nil_of_le (by simp)
      have hm1 := p.main.cs_len
      have hm2 := p.main.cs_take
      have hm3 := p.main.cs_all
      have hm4 : p.main.cs.drop 7 = [] := List.drop_eq_nil_of_le (by simp)
      generalize nestE p.defs p.main = out at *
      rcases p with ⟨data, effects, defs, main⟩
      simp only [Prg.cs] at *
      generalize out.cs = oc at *
      generalize main.cs = mc at *
      generalize data.map Dat.d = dd at *
      generalize effects.map Eff.d = ed at *
      generalize defs.map Dfn.d = ld at *
      simp only [List.cons_append, List.nil_append, List.append_nil] at hit
      simp [bodyI, af142, getA0, getA, setA, setA0, ho1, ho2, ho3, ho4, hm1, hm2, hm3, hm4, putCells, hlen, hw, hit]
  exact CI_tree tab142 hτ (Ex.plain _).agg.1 (Ex.plain _).agg.2

/-! The check of a program -/
def orE (a b : Int) : Int := if a = 0 then b else a
def dfnE (d : Dfn) : Int := if varW d.name then d.body.e else 4
/-- The error of a program's syntax. -/
def Prg.syn (p : Prg) : Int :=
  if 12 < p.data.length ∨ 12 < p.effects.length ∨ 60 < p.defs.length then 3
  else orE (firstE (p.data.map datE)) (orE (firstE (p.effects.map effE)) (if ((nestE p.defs p.main).take 1 (3000, 0)).1 then orE (firstE (p.defs.map dfnE)) p.main.e else 3))
theorem c95 (p : Prg) (hok : p.ok) (σ : St) : CI (.fn 95) [.agg p.cs] σ = some (.ret (.int .i64 p.syn), σ) := by
  obtain ⟨hdl, hd, hel, he, hfl, hf, hm⟩ := hok
  have h142 := fun σ => c142 p hfl σ
  have h131 := fun σ => c131 p.main hm σ
  have hno := nestE_ok hm hf
  have h130 := fun i σ h => c130 (nestE p.defs p.main) hno 1 (3000, 0) i σ ⟨by simp, by simp⟩ (by omega) (by omega) h
  obtain ⟨τ1, hit1⟩ := loop_seek (f := evalI CI XB GI 81 false lp95_0) (σ := σ ++ [.box p.cs]) p.data (fun i => [(1, .ptr σ.length 0), (30, .slice (p.data.map Dat.d)), (31, .int .i64 p.data.length), (32, .int .i64 (i : Nat))]) (fun a => datE a != 0) (fun a => (.ret, [(2, .int .i64 (datE a))]))
      (.exit 0, [(1, .ptr σ.length 0), (30, .slice (p.data.map Dat.d)), (31, .int .i64 p.data.length), (32, .int .i64 p.data.length), (33, .bool false)]) (by simp) (by simp)
      (fun i hi τ => by
        have hw := wrap_nat (n := i) (by unfold maxL at hdl; omega)
        have hcall := fun σ => c140 _ (hd _ (List.getElem_mem hi)) σ
        have hlen : (p.data.map Dat.d).length = p.data.length := by simp
        have hget : (p.data.map Dat.d)[i]? = some (Dat.d p.data[i]) := by simp [hi]
        generalize p.data.map Dat.d = ld at *
        have h2 : i < ld.length := by omega
        have h3 : ld[i] = Dat.d p.data[i] := by rw [List.getElem?_eq_getElem h2] at hget; exact Option.some.inj hget
        generalize p.data[i] = x at *
        refine ⟨τ ++ [.box (Dat.cs x)], ?_⟩
        rw [← List.append_assoc]
        generalize σ ++ [.box p.cs] ++ τ = σ1 at *
        have hxl : x.cs.length = 3 := rfl
        have hxt : x.cs.take 3 = x.cs := rfl
        have hxd : x.cs.drop 3 = [] := rfl
        have hxa : x.cs.all D.one = true := rfl
        simp only [Dat.d] at *
        generalize x.cs = xc at *
        cases hx : datE x != 0
        · have h0 : datE x = 0 := by simpa using hx
          simp [lp95_0, hi, hw, h2, h3, getA0, setA0, hcall, h0, hxl, hxt, hxd, hxa, putCells]
        · have h0 : ¬ datE x = 0 := by simpa using hx
          simp [lp95_0, hi, hw, h2, h3, getA0, setA0, hcall, h0, hx, hxl, hxt, hxd, hxa, putCells]) (fun τ => ⟨τ, by simp [lp95_0]⟩) []
  rw [Int.natCast_zero, List.append_nil] at hit1
  obtain ⟨τ2, hit2⟩ := loop_seek (f := evalI CI XB GI 81 false lp95_1) (σ := σ ++ [.box p.cs]) p.effects (fun i => [(1, .ptr σ.length 0), (43, .slice (p.effects.map Eff.d)), (44, .int .i64 p.effects.length), (45, .int .i64 (i : Nat))]) (fun a => effE a != 0) (fun a => (.ret, [(2, .int .i64 (effE a))]))
      (.exit 2, [(1, .ptr σ.length 0), (43, .slice (p.effects.map Eff.d)), (44, .int .i64 p.effects.length), (45, .int .i64 p.effects.length), (46, .bool false)]) (by simp) (by simp)
      (fun i hi τ => by
        have hw := wrap_nat (n := i) (by unfold maxL at hel; omega)
        have hcall := fun σ => c141 _ (he _ (List.getElem_mem hi)) σ
        have hlen : (p.effects.map Eff.d).length = p.effects.length := by simp
        have hget : (p.effects.map Eff.d)[i]? = some (Eff.d p.effects[i]) := by simp [hi]
        generalize p.effects.map Eff.d = ld at *
        have h2 : i < ld.length := by omega
        have h3 : ld[i] = Eff.d p.effects[i] := by rw [List.getElem?_eq_getElem h2] at hget; exact Option.some.inj hget
        generalize p.effects[i] = x at *
        refine ⟨τ ++ [.box (Eff.cs x)], ?_⟩
        rw [← List.append_assoc]
        generalize σ ++ [.box p.cs] ++ τ = σ1 at *
        have hxl : x.cs.length = 2 := rfl
        have hxt : x.cs.take 2 = x.cs := rfl
        have hxd : x.cs.drop 2 = [] := rfl
        have hxa : x.cs.all D.one = true := rfl
        simp only [Eff.d] at *
        generalize x.cs = xc at *
        cases hx : effE x != 0
        · have h0 : effE x = 0 := by simpa using hx
          simp [lp95_1, hi, hw, h2, h3, getA0, setA0, hcall, h0, hxl, hxt, hxd, hxa, putCells]
        · have h0 : ¬ effE x = 0 := by simpa using hx
          simp [lp95_1, hi, hw, h2, h3, getA0, setA0, hcall, h0, hx, hxl, hxt, hxd, hxa, putCells]) (fun τ => ⟨τ, by simp [lp95_1]⟩) τ1
  rw [Int.natCast_zero] at hit2
  have hit3 := fun τ => loop_seek (f := evalI CI XB GI 81 false lp95_2) (σ := σ ++ [.box p.cs]) p.defs (fun i => [(1, .ptr σ.length 0), (61, .slice (p.defs.map Dfn.d)), (62, .int .i64 p.defs.length), (63, .int .i64 (i : Nat))]) (fun a => dfnE a != 0) (fun a => (.ret, [(2, .int .i64 (dfnE a))]))
      (.exit 4, [(1, .ptr σ.length 0), (61, .slice (p.defs.map Dfn.d)), (62, .int .i64 p.defs.length), (63, .int .i64 p.defs.length), (64, .bool false)]) (by simp) (by simp)
      (fun i hi τ => by
        have hw := wrap_nat (n := i) (by unfold maxL at hfl; omega)
        have hcall := fun σ => c131 _ (hf _ (List.getElem_mem hi)) σ
        have hlen : (p.defs.map Dfn.d).length = p.defs.length := by simp
        have hget : (p.defs.map Dfn.d)[i]? = some (Dfn.d p.defs[i]) := by simp [hi]
        generalize p.defs.map Dfn.d = ld at *
        have h2 : i < ld.length := by omega
        have h3 : ld[i] = Dfn.d p.defs[i] := by rw [List.getElem?_eq_getElem h2] at hget; exact Option.some.inj hget
        generalize p.defs[i] = x at *
        refine ⟨τ ++ [.box (Dfn.cs x)], ?_⟩
        rw [← List.append_assoc]
        generalize σ ++ [.box p.cs] ++ τ = σ1 at *
        rcases x with ⟨name, body⟩
        have hxl := body.cs_len
        have hxt := body.cs_take
        have hxa := body.cs_all
        have hxd : body.cs.drop 7 = [] := List.drop_eq_nil_of_le (by simp)
        simp only [Dfn.d, Dfn.cs, dfnE] at *
        generalize body.cs = xc at *
        cases hv : varW name
        · simp [lp95_2, hi, hw, h2, h3, getA0, setA0, c143, isC1, hv, hcall, hxl, hxt, hxd, hxa, putCells]
        · cases hx : body.e != 0
          · have h0 : body.e = 0 := by simpa using hx
            simp [lp95_2, hi, hw, h2, h3, getA0, setA0, c143, isC1, hv, hcall, h0, hxl, hxt, hxd, hxa, putCells]
          · have h0 : ¬ body.e = 0 := by simpa using hx
            simp [lp95_2, hi, hw, h2, h3, getA0, setA0, c143, isC1, hv, hcall, h0, hx, hxl, hxt, hxd, hxa, putCells]) (fun τ => ⟨τ, by simp [lp95_2]⟩) τ
  simp only [Int.natCast_zero] at hit3
  obtain ⟨τ, hτ⟩ : ∃ τ, bodyI CI XB GI af95 [.agg p.cs] σ = some (.ret (.int .i64 p.syn), σ ++ τ) := by
    unfold Prg.syn
    have hg : ∀ τ, (σ ++ [.box p.cs] ++ τ)[σ.length]? = some (.box p.cs) := fun τ => by rw [List.append_assoc]; exact getA0
    have hg1 := hg τ1
    have hg2 := hg τ2
    obtain ⟨σ1, hσ1⟩ : ∃ σ1, σ ++ [.box p.cs] ++ τ1 = σ1 := ⟨_, rfl⟩
    obtain ⟨σ2, hσ2⟩ : ∃ σ2, σ ++ [.box p.cs] ++ τ2 = σ2 := ⟨_, rfl⟩
    rw [hσ1] at hg1 hit1 hit2
    rw [hσ2] at hg2 hit2
    have hall : p.cs.all D.one = true := by rcases p with ⟨_, _, _, main⟩; simp only [Prg.cs, List.all_append, main.cs_all]; rfl
    have hdL : (p.data.map Dat.d).length = p.data.length := by simp
    have heL : (p.effects.map Eff.d).length = p.effects.length := by simp
    have hfL : (p.defs.map Dfn.d).length = p.defs.length := by simp
    have hm1 := p.main.cs_len
    have hm2 := p.main.cs_take
    have hm3 := p.main.cs_all
    have hpc : p.cs = .slice (p.data.map Dat.d) :: .slice (p.effects.map Eff.d) :: .slice (p.defs.map Dfn.d) :: p.main.cs := by cases p; rfl
    have hpl : p.cs.length = 10 := by rw [hpc]; simp
    have hpt : p.cs.take 10 = p.cs := List.take_of_length_le (by omega)
    rw [firstE_find, firstE_find]
    by_cases hA : 12 < p.data.length
    · refine ⟨[.box p.cs], ?_⟩
      have hA' : (12 : Int) < p.data.length := by omega
      rw [if_pos (.inl hA)]
      rw [hpc] at hall ⊢
      generalize p.data.map Dat.d = dd at *
      generalize p.effects.map Eff.d = ed at *
      generalize p.defs.map Dfn.d = fd at *
      generalize p.main.cs = mc at *
      simp [bodyI, af95, getA0, hm3, hdL, hA, hA']
    by_cases hB : 12 < p.effects.length
    · refine ⟨[.box p.cs], ?_⟩
      have hA' : ¬ (12 : Int) < p.data.length := by omega
      have hB' : (12 : Int) < p.effects.length := by omega
      rw [if_pos (.inr (.inl hB))]
      rw [hpc] at hall ⊢
      generalize p.data.map Dat.d = dd at *
      generalize p.effects.map Eff.d = ed at *
      generalize p.defs.map Dfn.d = fd at *
      generalize p.main.cs = mc at *
      simp [bodyI, af95, getA0, hm3, hdL, heL, hA, hA', hB, hB']
    by_cases hC : 60 < p.defs.length
    · refine ⟨[.box p.cs], ?_⟩
      have hA' : ¬ (12 : Int) < p.data.length := by omega
      have hB' : ¬ (12 : Int) < p.effects.length := by omega
      have hC' : (60 : Int) < p.defs.length := by omega
      rw [if_pos (.inr (.inr hC))]
      rw [hpc] at hall ⊢
      generalize p.data.map Dat.d = dd at *
      generalize p.effects.map Eff.d = ed at *
      generalize p.defs.map Dfn.d = fd at *
      generalize p.main.cs = mc at *
      simp [bodyI, af95, getA0, hm3, hdL, heL, hfL, hA, hA', hB, hB', hC, hC']
    have hA' : ¬ (12 : Int) < p.data.length := by omega
    have hB' : ¬ (12 : Int) < p.effects.length := by omega
    have hC' : ¬ (60 : Int) < p.defs.length := by omega
    rw [if_neg (by omega)]
    cases hf1 : p.data.find? (fun a => datE a != 0) with
    | some a =>
      rw [hf1] at hit1
      have h0 : ¬ datE a = 0 := by have := List.find?_some hf1; simpa using this
      refine ⟨[.box p.cs] ++ τ1, ?_⟩
      rw [← List.append_assoc, hσ1]
      simp only [orE, if_neg h0]
      simp only [hpc] at hall hit1 hg1 ⊢
      generalize p.data.map Dat.d = dd at *
      generalize p.effects.map Eff.d = ed at *
      generalize p.defs.map Dfn.d = fd at *
      generalize p.main.cs = mc at *
      simp [bodyI, af95, getA0, hm3, hdL, heL, hfL, hA, hA', hB, hB', hC, hC', hit1]
    | none =>
    rw [hf1] at hit1
    simp only [orE, if_pos rfl]
    cases hf2 : p.effects.find? (fun a => effE a != 0) with
    | some a =>
      rw [hf2] at hit2
      have h0 : ¬ effE a = 0 := by have := List.find?_some hf2; simpa using this
      refine ⟨[.box p.cs] ++ τ2, ?_⟩
      rw [← List.append_assoc, hσ2]
      simp only [if_neg h0]
      simp only [hpc] at hall hit1 hg1 hg2 ⊢
      generalize p.data.map Dat.d = dd at *
      generalize p.effects.map Eff.d = ed at *
      generalize p.defs.map Dfn.d = fd at *
      generalize p.main.cs = mc at *
      simp [bodyI, af95, getA0, hm3, hdL, heL, hfL, hA, hA', hB, hB', hC, hC', hit1, hg1, hit2]
    | none =>
    rw [hf2] at hit2
    simp only [if_pos rfl]
    obtain ⟨q, hq⟩ : ∃ q, (nestE p.defs p.main).take 1 (3000, 0) = q := ⟨_, rfl⟩
    rw [hq]
    have h130' := h130 σ2.length (σ2 ++ [mBox 3000 0]) (by rw [getA0]; rfl)
    rw [setA0, hq] at h130'
    obtain ⟨τ3, hit3⟩ := hit3 (τ2 ++ [mBox q.2.1 q.2.2])
    rw [← List.append_assoc, hσ2] at hit3
    have hg3 := hg τ3
    simp only [mBox, List.set] at h130' hit3
    cases hq1 : q.1
    · refine ⟨[.box p.cs] ++ (τ2 ++ [mBox q.2.1 q.2.2]), ?_⟩
      rw [hq1] at h130'
      rw [← List.append_assoc, ← List.append_assoc, hσ2]
      simp only [mBox]
      simp only [hpc] at hall hit1 hg1 hg2 hpl hpt h142 ⊢
      generalize p.data.map Dat.d = dd at *
      generalize p.effects.map Eff.d = ed at *
      generalize p.defs.map Dfn.d = fd at *
      generalize p.main.cs = mc at *
      simp [bodyI, af95, getA0, hm1, hm3, hm2, hdL, heL, hfL, hA, hA', hB, hB', hC, hC', hit1, hg1, hit2, hg2, setA0, getO hg2, fillD, putCells, h142, h130']
    · rw [hq1] at h130'
      rw [firstE_find]
      cases hf3 : p.defs.find? (fun a => dfnE a != 0) with
      | some a =>
        rw [hf3] at hit3
        have h0 : ¬ dfnE a = 0 := by have := List.find?_some hf3; simpa using this
        refine ⟨[.box p.cs] ++ τ3, ?_⟩
        rw [← List.append_assoc]
        generalize hσ3 : σ ++ [.box p.cs] ++ τ3 = σ3 at *
        simp only [if_neg h0]
        simp only [hpc] at hall hit1 hg1 hg2 hg3 hpl hpt h142 ⊢
        generalize p.data.map Dat.d = dd at *
        generalize p.effects.map Eff.d = ed at *
        generalize p.defs.map Dfn.d = fd at *
        generalize p.main.cs = mc at *
        simp [bodyI, af95, getA0, hm1, hm3, hm2, hdL, heL, hfL, hA, hA', hB, hB', hC, hC', hit1, hg1, hit2, hg2, setA0, getO hg2, fillD, putCells, h142, h130', hit3]
      | none =>
        rw [hf3] at hit3
        refine ⟨[.box p.cs] ++ τ3, ?_⟩
        rw [← List.append_assoc]
        generalize hσ3 : σ ++ [.box p.cs] ++ τ3 = σ3 at *
        simp only [hpc] at hall hit1 hg1 hg2 hg3 hpl hpt h142 ⊢
        generalize p.data.map Dat.d = dd at *
        generalize p.effects.map Eff.d = ed at *
        generalize p.defs.map Dfn.d = fd at *
        generalize p.main.cs = mc at *
        simp [bodyI, af95, getA0, hm1, hm3, hm2, hdL, heL, hfL, hA, hA', hB, hB', hC, hC', hit1, hg1, hit2, hg2, setA0, getO hg2, fillD, putCells, h142, h130', hit3, hg3, h131]
  exact CI_tree tab95 hτ rfl rfl
end Go.AI
namespace Go.Proofs.YtgenoggafhhgfaaGreatDoor
open Go Go.AI Go.ChangeShapes Go.WideShapes Go.ChangeAt Go.RowKit
set_option maxRecDepth 100000

/-- All blocks that lie in memory when the call begins. -/
def oldB (W : World) (b : Nat) : Prop := b < W.heap.size
/-- Cells that stand for values. -/
def RC (W : World) (ds : List D) (cs : List Value) : Prop := ds.length = cs.length ∧ ∀ (j : Nat) (d : D), ds[j]? = some d → ∃ v, cs[j]? = some v ∧ R (bare (oldB W)) W d v
theorem RC.one {W : World} {d : D} {v : Value} (h : R (bare (oldB W)) W d v) : RC W [d] [v] :=
  ⟨rfl, fun j x hx => by
    match j, hx with
    | 0, hx => cases hx; exact ⟨v, rfl, h⟩⟩
theorem RC.nil {W : World} {cs : List Value} {off : Nat} (h : cs.length ≤ off) : RC W [] (cs.drop off) := ⟨by rw [List.drop_eq_nil_of_le h]; rfl, fun j x hx => by simp at hx⟩
theorem RC.cons {W : World} {a rest : List D} {cs : List Value} {off s : Nat} (h : RC W a ((cs.drop off).take s)) (hr : RC W rest (cs.drop (off + s))) (hl : off + s ≤ cs.length) : RC W (a ++ rest) (cs.drop off) := by
  obtain ⟨h1, h2⟩ := h
  obtain ⟨r1, r2⟩ := hr
  simp only [List.length_take, List.length_drop] at h1 r1
  have hal : a.length = s := by omega
  refine ⟨by simp only [List.length_append, List.length_drop]; omega, fun j d hd => ?_⟩
  by_cases hj : j < a.length
  · rw [List.getElem?_append_left hj] at hd
    obtain ⟨v, hv, hvr⟩ := h2 j d hd
    rw [List.getElem?_take_of_lt (by omega)] at hv
    exact ⟨v, hv, hvr⟩
  · rw [List.getElem?_append_right (by omega)] at hd
    obtain ⟨v, hv, hvr⟩ := r2 (j - a.length) d hd
    rw [List.getElem?_drop] at hv ⊢
    exact ⟨v, by rw [← hv]; congr 1; omega, hvr⟩

section
variable {H : Type} {enc : TypeId × Value → H} {W : World} {sp : Nat → Bool} {held : Bool}

/-- All that is in it is within bounds. -/
def Fit {H : Type} (t : TypeId) (d : DataW H) : Prop := (d.weights Tryz.prog t).all (· ≤ reachBytes) = true
/-- What is read is data of a kind. -/
def Opens {α : Type} (enc : TypeId × Value → H) (W : World) (sp : Nat → Bool) (held : Bool) (t : TypeId) (f : α → List D) (ok : α → Prop) (m : Nat) : Prop :=
  ∀ (cs : List Value) (x : DataW H × List MemPlace), DataW.trod enc Tryz.prog W 0 sp held m t cs = some x → Fit t x.1 → ∃ a, RC W (f a) cs ∧ ok a

theorem fit_each : ∀ (ts : List TypeId) (ds : List (DataW H)), (DataW.weightsEach Tryz.prog ts ds).all (· ≤ reachBytes) = true → ∀ (i : Nat) (t : TypeId) (d : DataW H), ts[i]? = some t → ds[i]? = some d → Fit t d
  | [], _, _, i, t, d, ht, _ => by simp at ht
  | _ :: _, [], _, i, t, d, _, hd => by simp at hd
  | t :: ts, d :: ds, h, 0, u, e, ht, hd => by
    cases ht; cases hd
    simp only [DataW.weightsEach, List.all_append, Bool.and_eq_true] at h
    exact h.1
  | t :: ts, d :: ds, h, i + 1, u, e, ht, hd => by
    simp only [DataW.weightsEach, List.all_append, Bool.and_eq_true] at h
    exact fit_each ts ds h.2 i u e (by simpa using ht) (by simpa using hd)
theorem fit_all (e : TypeId) : ∀ (ds : List (DataW H)), (DataW.weightsAll Tryz.prog e ds).all (· ≤ reachBytes) = true → ∀ d ∈ ds, Fit e d
  | [], _, d, hd => by cases hd
  | a :: r, h, d, hd => by
    simp only [DataW.weightsAll, List.all_append, Bool.and_eq_true] at h
    cases hd with
    | head => exact h.1
    | tail _ hd => exact fit_all e r h.2 d hd

theorem opens_int {t : TypeId} {k : IntKind} (ht : Tryz.prog.underlying t = some (.int k)) (m : Nat) : Opens enc W sp held t (fun n : Int => [.int k n]) (fun n => (Lit.int k n).wf = true) m := by
  intro cs x h _
  obtain ⟨n, rfl, rfl, hw⟩ := DataW.trod_int ht h
  exact ⟨n, .one (.int _ _), hw⟩
theorem opens_str {t : TypeId} (ht : Tryz.prog.underlying t = some .string) (m : Nat) : Opens enc W sp held t (fun s : Bs => [.str s]) (fun _ => True) m := by
  intro cs x h _
  obtain ⟨s, rfl, rfl, _⟩ := DataW.trod_string ht h
  exact ⟨s.data.toList, .one (R.str (ρ := bare (oldB W)) (W := W) s), trivial⟩
theorem opens_bool {t : TypeId} (ht : Tryz.prog.underlying t = some .bool) (m : Nat) : Opens enc W sp held t (fun b : Bool => [.bool b]) (fun _ => True) m := by
  intro cs x h _
  obtain ⟨b, rfl, rfl⟩ := DataW.trod_bool ht h
  exact ⟨b, .one (.bool _), trivial⟩

theorem list_of {α : Type} {P : Nat → α → Prop} : ∀ (n : Nat), (∀ i, i < n → ∃ t, P i t) → ∃ l : List α, l.length = n ∧ ∀ i t, l[i]? = some t → P i t
  | 0, _ => ⟨[], rfl, fun i t h => by simp at h⟩
  | n + 1, h => by
    obtain ⟨l, h1, h2⟩ := list_of n fun i hi => h i (by omega)
    obtain ⟨t, ht⟩ := h n (by omega)
    refine ⟨l ++ [t], by simp [h1], fun i u hu => ?_⟩
    rw [List.getElem?_append] at hu
    split at hu
    · exact h2 i u hu
    · rename_i hi
      have hin : i = n := by
        have := (List.getElem?_eq_some_iff.1 hu).1
        simp at this; omega
      subst hin
      rw [h1] at hu
      simp at hu
      rw [← hu]; exact ht

theorem opens_slice {α : Type} {f : α → List D} {ok : α → Prop} (g : α → D) (hg : ∀ a, (g a).cells = f a) {t e : TypeId} {sz bytes : Nat} (ht : Tryz.prog.underlying t = some (.slice e)) (hsz : Tryz.prog.cellsOf e = sz) (hsz0 : 0 < sz) (hfl : ∀ a, (f a).length = sz)
    (hb : Tryz.prog.bytesOf e = bytes) (hb16 : 16 ≤ bytes) {m : Nat} (ih : ∀ n, n < m → Opens enc W sp held e f ok n) :
    Opens enc W sp held t (fun l : List α => [.slice (l.map g)]) (fun l => l.length ≤ maxL ∧ ∀ a ∈ l, ok a) m := by
  intro cs x h hfit
  rcases DataW.trod_slice ht h with ⟨rfl, rfl⟩ | ⟨a, len, cap, elems, rest, n, rfl, rfl, rfl, _, hlc, _, hlen, hel, _, _⟩
  · exact ⟨[], .one (.slice0 none 0), by unfold maxL; simp, by simp⟩
  · rw [hsz] at hel
    have hF : (elems.length + rest.length) * bytes ≤ reachBytes ∧ (∀ d ∈ elems.map (·.1), Fit e d) := by
      unfold Fit at hfit
      simp only [DataW.weights, ht, List.all_cons, List.all_append, Bool.and_eq_true, decide_eq_true_eq, List.length_map, hb] at hfit
      exact ⟨hfit.1, fit_all e _ hfit.2.1⟩
    have hlm : len ≤ maxL := by
      have h1 := hF.1
      rw [hlen] at h1
      have h2 : len * 16 ≤ (len + rest.length) * bytes := Nat.mul_le_mul (by omega) hb16
      unfold reachBytes at h1
      unfold maxL
      omega
    obtain ⟨ls, h1, h2⟩ := list_of (P := fun i (v : α) => ok v ∧ ∃ csi, W.cells? 0 (a.add (i * sz)) sz = some csi ∧ RC W (f v) csi) len fun i hi => by
      have hi2 := hel i hi
      rw [List.getElem?_eq_getElem (by omega)] at hi2
      obtain ⟨csi, hcs, htr⟩ := Option.bind_eq_some_iff.1 hi2
      obtain ⟨v, hv, hok⟩ := ih n (by omega) csi _ htr (hF.2 _ (List.mem_map_of_mem (List.getElem_mem _)))
      exact ⟨v, hok, csi, hcs, hv⟩
    refine ⟨ls, ?_, by omega, fun v hv => by
      obtain ⟨i, hi⟩ := List.mem_iff_getElem?.1 hv
      exact (h2 i v hi).1⟩
    refine .one ?_
    by_cases h0 : len = 0
    · subst h0
      have : ls = [] := List.length_eq_zero_iff.1 h1
      subst this
      exact .slice0 (some a) cap
    · have cell : ∀ i v, ls[i]? = some v → ∀ j d, (f v)[j]? = some d → ∃ w, W.cell? ((a.add (i * sz)).add j) = some w ∧ R (bare (oldB W)) W d w := by
        intro i v hv j d hd
        obtain ⟨_, csi, hcs, hr1, hr2⟩ := h2 i v hv
        obtain ⟨w, hw, hwr⟩ := hr2 j d hd
        unfold World.cells? at hcs
        rw [if_pos (Nat.zero_le _)] at hcs
        have hj : j < sz := by have := (List.getElem?_eq_some_iff.1 hd).1; rw [hfl] at this; exact this
        obtain ⟨w', hw', hwc⟩ := Lib.mapM_at hcs j j (by simp [hj])
        rw [hw'] at hw
        cases hw
        exact ⟨w, hwc, hwr⟩
      obtain ⟨v0, hv0⟩ : ∃ v, ls[0]? = some v := ⟨ls[0]'(by omega), by simp⟩
      obtain ⟨d0, hd0⟩ : ∃ d, (f v0)[0]? = some d := ⟨(f v0)[0]'(by rw [hfl]; omega), by simp⟩
      obtain ⟨w0, hc0, _⟩ := cell 0 v0 hv0 0 d0 hd0
      simp only [Nat.zero_mul] at hc0
      obtain ⟨b, off, sp'⟩ := a
      have hs : sp' = none := by
        cases sp' with
        | none => rfl
        | some q =>
          simp only [Addr.add, if_true, World.cell?] at hc0
          split at hc0 <;> simp at hc0
      subst hs
      have hblk : oldB W b := by
        simp only [Addr.add, if_true, World.cell?] at hc0
        split at hc0
        · rename_i hb'; exact (Array.getElem?_eq_some_iff.1 hb').1
        · cases hc0
      have hadd : ∀ i j : Nat, ((⟨b, off, none⟩ : Addr).add (i * sz)).add j = ⟨b, off + (i * sz + j), none⟩ := by
        intro i j
        unfold Addr.add
        by_cases hi : i * sz = 0 <;> by_cases hj : j = 0 <;> simp [hi, hj] <;> omega
      have key : ∀ (i jj : Nat) (e dd : D), (ls.map g)[i]? = some e → e.cells[jj]? = some dd → ∃ v, W.cell? ⟨b, off + (i * sz + jj), none⟩ = some v ∧ R (bare (oldB W)) W dd v := by
        intro i jj e dd he hdd
        rw [List.getElem?_map] at he
        obtain ⟨v, hv, rfl⟩ := Option.map_eq_some_iff.1 he
        rw [hg] at hdd
        obtain ⟨w, hw, hr⟩ := cell i v hv jj dd hdd
        rw [hadd] at hw
        exact ⟨w, hw, hr⟩
      refine R.slice (sz := sz) (f := fun i jj => (W.cell? ⟨b, off + (i * sz + jj), none⟩).getD undef) hblk (by simp [h1]) hlc ?_ ?_ ?_
      · intro i e he
        rw [List.getElem?_map] at he
        obtain ⟨v, _, rfl⟩ := Option.map_eq_some_iff.1 he
        rw [hg, hfl]
      · intro i jj e dd he hdd
        obtain ⟨v, hv, _⟩ := key i jj e dd he hdd
        simp only [hv, Option.getD_some]
      · intro i jj e dd he hdd
        obtain ⟨v, hv, hr⟩ := key i jj e dd he hdd
        simp only [hv, Option.getD_some]
        exact hr

/-- A struct's fields. -/
theorem opens_struct {t : TypeId} {fs : Array Field} (ht : Tryz.prog.underlying t = some (.struct fs)) {m : Nat} {cs : List Value} {x : DataW H × List MemPlace} (h : DataW.trod enc Tryz.prog W 0 sp held m t cs = some x) (hfit : Fit t x.1) :
    cs.length = Tryz.prog.cellsOf t ∧ ∃ n, n < m ∧ ∀ (i : Nat) (f : Field), fs[i]? = some f → ∃ y, DataW.trod enc Tryz.prog W 0 sp held n f.type ((cs.drop f.offset).take (Tryz.prog.cellsOf f.type)) = some y ∧ Fit f.type y.1 := by
  obtain ⟨xs, n, rfl, rfl, hl, hlen, hf⟩ := DataW.trod_struct ht h
  refine ⟨hl, n, by omega, fun i f hi => ?_⟩
  have hi' : i < fs.size := (Array.getElem?_eq_some_iff.1 hi).1
  have h1 := hf i f hi
  rw [List.getElem?_eq_getElem (by omega)] at h1
  refine ⟨_, h1, ?_⟩
  unfold Fit at hfit
  simp only [DataW.weights, ht] at hfit
  refine fit_each _ _ hfit i f.type _ ?_ ?_
  · rw [List.getElem?_map, Array.getElem?_toList, hi]; rfl
  · rw [List.getElem?_map, List.getElem?_eq_getElem (by omega)]; rfl
/-- A field of a struct, of a kind that is known. -/
theorem field_open {α : Type} {f : α → List D} {ok : α → Prop} {cs : List Value} {fs : Array Field} {n : Nat} (h : ∀ (i : Nat) (f : Field), fs[i]? = some f → ∃ y, DataW.trod enc Tryz.prog W 0 sp held n f.type ((cs.drop f.offset).take (Tryz.prog.cellsOf f.type)) = some y ∧ Fit f.type y.1)
    {t : TypeId} (ho : Opens enc W sp held t f ok n) (i off sz : Nat) (hi : (fs[i]?).map (fun q => (q.type, q.offset)) = some (t, off)) (hsz : Tryz.prog.cellsOf t = sz) : ∃ a, RC W (f a) ((cs.drop off).take sz) ∧ ok a := by
  obtain ⟨fd, hfd, he⟩ := Option.map_eq_some_iff.1 hi
  cases he
  obtain ⟨y, hy, hfit⟩ := h i fd hfd
  rw [hsz] at hy
  exact ho _ y hy hfit
end
end Go.Proofs.YtgenoggafhhgfaaGreatDoor
namespace Go.Proofs.YtgenoggafhhgfaaGreatDoor
open Go Go.AI Go.ChangeShapes Go.WideShapes Go.ChangeAt Go.RowKit
set_option maxRecDepth 100000

section
variable {H : Type} {enc : TypeId × Value → H} {W : World} {sp : Nat → Bool} {held : Bool}
theorem opens_strs (m : Nat) : Opens enc W sp held 26 (fun l : List Bs => [slD l]) (fun l => l.length ≤ maxL ∧ ∀ a ∈ l, True) m :=
  opens_slice (α := Bs) (f := fun s => [D.str s]) D.str (fun _ => rfl) Tryz.underlying26 (e := 9) (by kernel_rfl) Nat.one_pos (fun _ => rfl) (by kernel_rfl) (bytes := 16) (Nat.le_refl _) fun n _ => opens_str Tryz.underlying9 n
def Lab.cs (x : Lab) : List D := [.str x.s, .int .i64 x.n]
theorem opens_Lab (m : Nat) : Opens enc W sp held 151 Lab.cs (fun _ => True) m := by
  intro cs x h hfit
  obtain ⟨hl, n, hn, hfs⟩ := opens_struct Tryz.underlying151 h hfit
  have hl : cs.length = 2 := hl.trans (by kernel_rfl)
  obtain ⟨s, rs, _⟩ := field_open hfs (opens_str Tryz.underlying9 n) 0 0 1 rfl (by kernel_rfl)
  obtain ⟨k, rk, _⟩ := field_open hfs (opens_int Tryz.underlying3 n) 1 1 1 rfl (by kernel_rfl)
  have hR := RC.cons (off := 0) (s := 1) rs (RC.cons (off := 1) (s := 1) rk (RC.nil (W := W) (cs := cs) (off := 2) (by omega)) (by omega)) (by omega)
  rw [List.drop_zero] at hR
  refine ⟨⟨s, k⟩, ?_, trivial⟩
  simpa [Lab.cs] using hR
theorem opens_labs (m : Nat) : Opens enc W sp held 43 (fun l : List Lab => [.slice (l.map Lab.d)]) (fun l => l.length ≤ maxL ∧ ∀ a ∈ l, True) m :=
  opens_slice (α := Lab) (f := Lab.cs) Lab.d (fun _ => rfl) Tryz.underlying43 (e := 151) (sz := 2) (by kernel_rfl) (by omega) (fun _ => rfl) (by kernel_rfl) (bytes := 24) (by omega) fun n _ => opens_Lab n
theorem opens_row (m : Nat) : Opens enc W sp held 45 (fun x : List Lab × Int => [.slice (x.1.map Lab.d), .int .i64 x.2]) (fun x => x.1.length ≤ maxL) m := by
  intro cs x h hfit
  obtain ⟨hl, n, hn, hfs⟩ := opens_struct Tryz.underlying45 h hfit
  have hl : cs.length = 2 := hl.trans (by kernel_rfl)
  obtain ⟨ls, rls, ols⟩ := field_open hfs (opens_labs n) 0 0 1 rfl (by kernel_rfl)
  obtain ⟨k, rk, _⟩ := field_open hfs (opens_int Tryz.underlying3 n) 1 1 1 rfl (by kernel_rfl)
  have hR := RC.cons (off := 0) (s := 1) rls (RC.cons (off := 1) (s := 1) rk (RC.nil (W := W) (cs := cs) (off := 2) (by omega)) (by omega)) (by omega)
  rw [List.drop_zero] at hR
  refine ⟨(ls, k), ?_, ols.1⟩
  simpa using hR
theorem tysOk_all : ∀ {l : List Ty}, (∀ a ∈ l, a.ok) → tysOk l
  | [], _ => trivial
  | t :: r, h => ⟨h t List.mem_cons_self, tysOk_all fun a ha => h a (List.mem_cons_of_mem _ ha)⟩
theorem opens_tys_of {m : Nat} (ih : ∀ n, n < m → Opens enc W sp held 47 Ty.cs Ty.ok n) : Opens enc W sp held 33 (fun l : List Ty => [.slice (l.map Ty.d)]) (fun l => l.length ≤ maxL ∧ ∀ a ∈ l, a.ok) m :=
  opens_slice (α := Ty) (f := Ty.cs) Ty.d (fun _ => rfl) Tryz.underlying33 (e := 47) (sz := 6) (by kernel_rfl) (by omega) (fun _ => by simp) (by kernel_rfl) (bytes := 88) (by omega) ih
theorem opens_Ty : ∀ (m : Nat), Opens enc W sp held 47 Ty.cs Ty.ok m := by
  intro m
  induction m using Nat.strongRecOn with
  | _ m ih =>
    intro cs x h hfit
    obtain ⟨hl, n, hn, hfs⟩ := opens_struct Tryz.underlying47 h hfit
    have hl : cs.length = 6 := hl.trans (by kernel_rfl)
    obtain ⟨kd, rkd, _⟩ := field_open hfs (opens_int Tryz.underlying42 n) 0 0 1 rfl (by kernel_rfl)
    obtain ⟨k, rk, _⟩ := field_open hfs (opens_int Tryz.underlying3 n) 1 1 1 rfl (by kernel_rfl)
    obtain ⟨s, rs, _⟩ := field_open hfs (opens_str Tryz.underlying9 n) 2 2 1 rfl (by kernel_rfl)
    obtain ⟨l, rl, ol⟩ := field_open hfs (opens_tys_of fun q hq => ih q (by omega)) 3 3 1 rfl (by kernel_rfl)
    obtain ⟨rr, rrr, orw⟩ := field_open hfs (opens_row n) 4 4 2 rfl (by kernel_rfl)
    have hR := RC.cons (off := 0) (s := 1) rkd (RC.cons (off := 1) (s := 1) rk (RC.cons (off := 2) (s := 1) rs (RC.cons (off := 3) (s := 1) rl (RC.cons (off := 4) (s := 2) rrr (RC.nil (W := W) (cs := cs) (off := 6) (by omega)) (by omega)) (by omega)) (by omega)) (by omega)) (by omega)
    rw [List.drop_zero] at hR
    refine ⟨.mk kd k s l rr.1 rr.2, ?_, ⟨ol.1, orw, tysOk_all ol.2⟩⟩
    simpa [Ty.cs, tysD_map] using hR

theorem opens_tys (m : Nat) : Opens enc W sp held 33 (fun l : List Ty => [.slice (l.map Ty.d)]) (fun l => l.length ≤ maxL ∧ ∀ a ∈ l, a.ok) m := opens_tys_of fun n _ => opens_Ty n
theorem exsOk_all : ∀ {l : List Ex}, (∀ a ∈ l, a.ok) → exsOk l
  | [], _ => trivial
  | t :: r, h => ⟨h t List.mem_cons_self, exsOk_all fun a ha => h a (List.mem_cons_of_mem _ ha)⟩
theorem armsOk_all : ∀ {l : List Arm}, (∀ a ∈ l, a.ok) → armsOk l
  | [], _ => trivial
  | t :: r, h => ⟨h t List.mem_cons_self, armsOk_all fun a ha => h a (List.mem_cons_of_mem _ ha)⟩
theorem opens_exs_of {m : Nat} (ih : ∀ n, n < m → Opens enc W sp held 30 Ex.cs Ex.ok n) : Opens enc W sp held 27 (fun l : List Ex => [.slice (l.map Ex.d)]) (fun l => l.length ≤ maxL ∧ ∀ a ∈ l, a.ok) m :=
  opens_slice (α := Ex) (f := Ex.cs) Ex.d (fun _ => rfl) Tryz.underlying27 (e := 30) (sz := 7) (by kernel_rfl) (by omega) (fun _ => by simp) (by kernel_rfl) (bytes := 120) (by omega) ih
theorem opens_arms_of {m : Nat} (ih : ∀ n, n < m → Opens enc W sp held 107 Arm.cs Arm.ok n) : Opens enc W sp held 28 (fun l : List Arm => [.slice (l.map Arm.d)]) (fun l => l.length ≤ maxL ∧ ∀ a ∈ l, a.ok) m :=
  opens_slice (α := Arm) (f := Arm.cs) Arm.d (fun _ => rfl) Tryz.underlying28 (e := 107) (sz := 9) (by kernel_rfl) (by omega) (fun _ => by simp) (by kernel_rfl) (bytes := 160) (by omega) ih
theorem opens_ExArm : ∀ (m : Nat), Opens enc W sp held 30 Ex.cs Ex.ok m ∧ Opens enc W sp held 107 Arm.cs Arm.ok m := by
  intro m
  induction m using Nat.strongRecOn with
  | _ m ih =>
    constructor
    · intro cs x h hfit
      obtain ⟨hl, n, hn, hfs⟩ := opens_struct Tryz.underlying30 h hfit
      have hl : cs.length = 7 := hl.trans (by kernel_rfl)
      obtain ⟨kd, rkd, _⟩ := field_open hfs (opens_int Tryz.underlying25 n) 0 0 1 rfl (by kernel_rfl)
      obtain ⟨k, rk, _⟩ := field_open hfs (opens_int Tryz.underlying3 n) 1 1 1 rfl (by kernel_rfl)
      obtain ⟨s, rs, _⟩ := field_open hfs (opens_str Tryz.underlying9 n) 2 2 1 rfl (by kernel_rfl)
      obtain ⟨u, ru, _⟩ := field_open hfs (opens_str Tryz.underlying9 n) 3 3 1 rfl (by kernel_rfl)
      obtain ⟨ns, rns, ons⟩ := field_open hfs (opens_strs n) 4 4 1 rfl (by kernel_rfl)
      obtain ⟨l, rl, ol⟩ := field_open hfs (opens_exs_of fun q hq => (ih q (by omega)).1) 5 5 1 rfl (by kernel_rfl)
      obtain ⟨ar, rar, oar⟩ := field_open hfs (opens_arms_of fun q hq => (ih q (by omega)).2) 6 6 1 rfl (by kernel_rfl)
      have hR := RC.cons (off := 0) (s := 1) rkd (RC.cons (off := 1) (s := 1) rk (RC.cons (off := 2) (s := 1) rs (RC.cons (off := 3) (s := 1) ru (RC.cons (off := 4) (s := 1) rns (RC.cons (off := 5) (s := 1) rl (RC.cons (off := 6) (s := 1) rar (RC.nil (W := W) (cs := cs) (off := 7) (by omega)) (by omega)) (by omega)) (by omega)) (by omega)) (by omega)) (by omega)) (by omega)
      rw [List.drop_zero] at hR
      refine ⟨.mk kd k s u ns l ar, ?_, ⟨ons.1, ol.1, oar.1, exsOk_all ol.2, armsOk_all oar.2⟩⟩
      simpa [Ex.cs, exsD_map, armsD_map] using hR
    · intro cs x h hfit
      obtain ⟨hl, n, hn, hfs⟩ := opens_struct Tryz.underlying107 h hfit
      have hl : cs.length = 9 := hl.trans (by kernel_rfl)
      obtain ⟨s, rs, _⟩ := field_open hfs (opens_str Tryz.underlying9 n) 0 0 1 rfl (by kernel_rfl)
      obtain ⟨ns, rns, ons⟩ := field_open hfs (opens_strs n) 1 1 1 rfl (by kernel_rfl)
      obtain ⟨bd, rbd, obd⟩ := field_open hfs (ih n hn).1 2 2 7 rfl (by kernel_rfl)
      have hR := RC.cons (off := 0) (s := 1) rs (RC.cons (off := 1) (s := 1) rns (RC.cons (off := 2) (s := 7) rbd (RC.nil (W := W) (cs := cs) (off := 9) (by omega)) (by omega)) (by omega)) (by omega)
      rw [List.drop_zero] at hR
      refine ⟨.mk s ns bd, ?_, ⟨ons.1, obd⟩⟩
      simpa [Arm.cs] using hR
theorem opens_Con (m : Nat) : Opens enc W sp held 54 Con.cs Con.ok m := by
  intro cs x h hfit
  obtain ⟨hl, n, hn, hfs⟩ := opens_struct Tryz.underlying54 h hfit
  have hl : cs.length = 2 := hl.trans (by kernel_rfl)
  obtain ⟨s, rs, _⟩ := field_open hfs (opens_str Tryz.underlying9 n) 0 0 1 rfl (by kernel_rfl)
  obtain ⟨l, rl, ol⟩ := field_open hfs (opens_tys n) 1 1 1 rfl (by kernel_rfl)
  have hR := RC.cons (off := 0) (s := 1) rs (RC.cons (off := 1) (s := 1) rl (RC.nil (W := W) (cs := cs) (off := 2) (by omega)) (by omega)) (by omega)
  rw [List.drop_zero] at hR
  refine ⟨⟨s, l⟩, ?_, ⟨ol.1, tysOk_all ol.2⟩⟩
  simpa [Con.cs, tysD_map] using hR
theorem opens_cons (m : Nat) : Opens enc W sp held 39 (fun l : List Con => [.slice (l.map Con.d)]) (fun l => l.length ≤ maxL ∧ ∀ a ∈ l, a.ok) m :=
  opens_slice (α := Con) (f := Con.cs) Con.d (fun _ => rfl) Tryz.underlying39 (e := 54) (sz := 2) (by kernel_rfl) (by omega) (fun _ => rfl) (by kernel_rfl) (bytes := 40) (by omega) fun n _ => opens_Con n
theorem opens_Dat (m : Nat) : Opens enc W sp held 41 Dat.cs Dat.ok m := by
  intro cs x h hfit
  obtain ⟨hl, n, hn, hfs⟩ := opens_struct Tryz.underlying41 h hfit
  have hl : cs.length = 3 := hl.trans (by kernel_rfl)
  obtain ⟨s, rs, _⟩ := field_open hfs (opens_str Tryz.underlying9 n) 0 0 1 rfl (by kernel_rfl)
  obtain ⟨ns, rns, ons⟩ := field_open hfs (opens_strs n) 1 1 1 rfl (by kernel_rfl)
  obtain ⟨l, rl, ol⟩ := field_open hfs (opens_cons n) 2 2 1 rfl (by kernel_rfl)
  have hR := RC.cons (off := 0) (s := 1) rs (RC.cons (off := 1) (s := 1) rns (RC.cons (off := 2) (s := 1) rl (RC.nil (W := W) (cs := cs) (off := 3) (by omega)) (by omega)) (by omega)) (by omega)
  rw [List.drop_zero] at hR
  refine ⟨⟨s, ns, l⟩, ?_, ⟨ons.1, ol.1, ol.2⟩⟩
  simpa [Dat.cs] using hR
theorem opens_dats (m : Nat) : Opens enc W sp held 22 (fun l : List Dat => [.slice (l.map Dat.d)]) (fun l => l.length ≤ maxL ∧ ∀ a ∈ l, a.ok) m :=
  opens_slice (α := Dat) (f := Dat.cs) Dat.d (fun _ => rfl) Tryz.underlying22 (e := 41) (sz := 3) (by kernel_rfl) (by omega) (fun _ => rfl) (by kernel_rfl) (bytes := 64) (by omega) fun n _ => opens_Dat n
theorem opens_Opn (m : Nat) : Opens enc W sp held 89 Opn.cs Opn.ok m := by
  intro cs x h hfit
  obtain ⟨hl, n, hn, hfs⟩ := opens_struct Tryz.underlying89 h hfit
  have hl : cs.length = 14 := hl.trans (by kernel_rfl)
  obtain ⟨s, rs, _⟩ := field_open hfs (opens_str Tryz.underlying9 n) 0 0 1 rfl (by kernel_rfl)
  obtain ⟨a, ra, oa⟩ := field_open hfs (opens_Ty n) 1 1 6 rfl (by kernel_rfl)
  obtain ⟨b, rb, ob⟩ := field_open hfs (opens_Ty n) 2 7 6 rfl (by kernel_rfl)
  obtain ⟨o, ro, _⟩ := field_open hfs (opens_bool Tryz.underlying4 n) 3 13 1 rfl (by kernel_rfl)
  have hR := RC.cons (off := 0) (s := 1) rs (RC.cons (off := 1) (s := 6) ra (RC.cons (off := 7) (s := 6) rb (RC.cons (off := 13) (s := 1) ro (RC.nil (W := W) (cs := cs) (off := 14) (by omega)) (by omega)) (by omega)) (by omega)) (by omega)
  rw [List.drop_zero] at hR
  refine ⟨⟨s, a, b, o⟩, ?_, ⟨oa, ob⟩⟩
  simpa [Opn.cs] using hR
theorem opens_opns (m : Nat) : Opens enc W sp held 85 (fun l : List Opn => [.slice (l.map Opn.d)]) (fun l => l.length ≤ maxL ∧ ∀ a ∈ l, a.ok) m :=
  opens_slice (α := Opn) (f := Opn.cs) Opn.d (fun _ => rfl) Tryz.underlying85 (e := 89) (sz := 14) (by kernel_rfl) (by omega) (fun _ => by simp [Opn.cs]) (by kernel_rfl) (bytes := 200) (by omega) fun n _ => opens_Opn n
theorem opens_Eff (m : Nat) : Opens enc W sp held 87 Eff.cs Eff.ok m := by
  intro cs x h hfit
  obtain ⟨hl, n, hn, hfs⟩ := opens_struct Tryz.underlying87 h hfit
  have hl : cs.length = 2 := hl.trans (by kernel_rfl)
  obtain ⟨s, rs, _⟩ := field_open hfs (opens_str Tryz.underlying9 n) 0 0 1 rfl (by kernel_rfl)
  obtain ⟨l, rl, ol⟩ := field_open hfs (opens_opns n) 1 1 1 rfl (by kernel_rfl)
  have hR := RC.cons (off := 0) (s := 1) rs (RC.cons (off := 1) (s := 1) rl (RC.nil (W := W) (cs := cs) (off := 2) (by omega)) (by omega)) (by omega)
  rw [List.drop_zero] at hR
  refine ⟨⟨s, l⟩, ?_, ⟨ol.1, ol.2⟩⟩
  simpa [Eff.cs] using hR
theorem opens_effs (m : Nat) : Opens enc W sp held 23 (fun l : List Eff => [.slice (l.map Eff.d)]) (fun l => l.length ≤ maxL ∧ ∀ a ∈ l, a.ok) m :=
  opens_slice (α := Eff) (f := Eff.cs) Eff.d (fun _ => rfl) Tryz.underlying23 (e := 87) (sz := 2) (by kernel_rfl) (by omega) (fun _ => rfl) (by kernel_rfl) (bytes := 40) (by omega) fun n _ => opens_Eff n
theorem opens_Dfn (m : Nat) : Opens enc W sp held 84 Dfn.cs Dfn.ok m := by
  intro cs x h hfit
  obtain ⟨hl, n, hn, hfs⟩ := opens_struct Tryz.underlying84 h hfit
  have hl : cs.length = 8 := hl.trans (by kernel_rfl)
  obtain ⟨s, rs, _⟩ := field_open hfs (opens_str Tryz.underlying9 n) 0 0 1 rfl (by kernel_rfl)
  obtain ⟨b, rb, ob⟩ := field_open hfs (opens_ExArm n).1 1 1 7 rfl (by kernel_rfl)
  have hR := RC.cons (off := 0) (s := 1) rs (RC.cons (off := 1) (s := 7) rb (RC.nil (W := W) (cs := cs) (off := 8) (by omega)) (by omega)) (by omega)
  rw [List.drop_zero] at hR
  refine ⟨⟨s, b⟩, ?_, ob⟩
  simpa [Dfn.cs] using hR
theorem opens_dfns (m : Nat) : Opens enc W sp held 24 (fun l : List Dfn => [.slice (l.map Dfn.d)]) (fun l => l.length ≤ maxL ∧ ∀ a ∈ l, a.ok) m :=
  opens_slice (α := Dfn) (f := Dfn.cs) Dfn.d (fun _ => rfl) Tryz.underlying24 (e := 84) (sz := 8) (by kernel_rfl) (by omega) (fun _ => by simp [Dfn.cs]) (by kernel_rfl) (bytes := 136) (by omega) fun n _ => opens_Dfn n
theorem opens_Prg (m : Nat) : Opens enc W sp held 32 Prg.cs Prg.ok m := by
  intro cs x h hfit
  obtain ⟨hl, n, hn, hfs⟩ := opens_struct Tryz.underlying32 h hfit
  have hl : cs.length = 10 := hl.trans (by kernel_rfl)
  obtain ⟨ds, rds, ods⟩ := field_open hfs (opens_dats n) 0 0 1 rfl (by kernel_rfl)
  obtain ⟨es, res, oes⟩ := field_open hfs (opens_effs n) 1 1 1 rfl (by kernel_rfl)
  obtain ⟨fs, rfs, ofs⟩ := field_open hfs (opens_dfns n) 2 2 1 rfl (by kernel_rfl)
  obtain ⟨mn, rmn, omn⟩ := field_open hfs (opens_ExArm n).1 3 3 7 rfl (by kernel_rfl)
  have hR := RC.cons (off := 0) (s := 1) rds (RC.cons (off := 1) (s := 1) res (RC.cons (off := 2) (s := 1) rfs (RC.cons (off := 3) (s := 7) rmn (RC.nil (W := W) (cs := cs) (off := 10) (by omega)) (by omega)) (by omega)) (by omega)) (by omega)
  rw [List.drop_zero] at hR
  refine ⟨⟨ds, es, fs, mn⟩, ?_, ⟨ods.1, ods.2, oes.1, oes.2, ofs.1, ofs.2, omn⟩⟩
  simpa [Prg.cs] using hR

/-- An argument that is a struct. -/
theorem arg_struct {α : Type} {f : α → List D} {ok : α → Prop} {t : TypeId} {fs : Array Field} (ht : Tryz.prog.underlying t = some (.struct fs)) (ho : ∀ m, Opens enc W sp held t f ok m) {r : Reach} {b0 : Nat} {v : Value} {d : DataW H} {ps : List MemPlace}
    (hv : Value.okWide Tryz.prog W r b0 t v) (h : DataW.Trod enc Tryz.prog W 0 sp held t v d ps) (hfit : Fit t d) : ∃ a, R (bare (oldB W)) W (.agg (f a)) v ∧ ok a := by
  obtain ⟨fuel, hf⟩ := h
  unfold Value.okWide at hv
  rw [ht] at hv
  obtain ⟨cs, rfl, hcs, _⟩ := hv
  obtain ⟨a, ⟨h1, h2⟩, hok⟩ := ho fuel _ _ hf hfit
  refine ⟨a, .agg (by simpa [Value.cells] using h1.symm) fun j d hd => ?_, hok⟩
  obtain ⟨v, hv, hr⟩ := h2 j d hd
  have : cs.getD j undef = v := by
    have hv' : cs[j]? = some v := by simpa [Value.cells] using hv
    simp [Array.getD, Array.getElem?_eq_some_iff.1 hv']
    obtain ⟨hlt, he⟩ := Array.getElem?_eq_some_iff.1 hv'
    simp [hlt, he]
  rw [this]; exact hr
end
end Go.Proofs.YtgenoggafhhgfaaGreatDoor
