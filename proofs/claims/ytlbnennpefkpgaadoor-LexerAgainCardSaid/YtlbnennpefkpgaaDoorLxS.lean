/- Texts of the proof. No conditions of its own. -/
import Derived.Test.YtlbnennpefkpgaaDoorLxR
import Derived.ChangeArms
set_option linter.unusedVariables false
set_option linter.unusedSimpArgs false
namespace Go.Proofs.YtlbnennpefkpgaaDoor
open Go Go.AI Go.Lx Go.ChangeShapes Go.WideShapes Go.ChangeAt Go.RowKit
set_option maxRecDepth 100000

theorem list_of {α : Type} {P : Nat → α → Prop} : ∀ (n : Nat), (∀ i, i < n → ∃ t, P i t) → ∃ l : List α, l.length = n ∧ ∀ i t, l[i]? = some t → P i t
  | 0, _ => ⟨[], rfl, fun i t h => by simp at h⟩
  | n + 1, h => by
    obtain ⟨l, h1, h2⟩ := list_of n fun i hi => h i (by omega)
    obtain ⟨t, ht⟩ := h n (by omega)
    refine ⟨l ++ [t], by simp [h1], fun i u hu => ?_⟩
    rw [List.getElem?_append] at hu
    split at hu
    · exact h2 i u hu
    · rename_i hi
      have hin : i = n := by
        have := (List.getElem?_eq_some_iff.1 hu).1
        simp at this; omega
      subst hin
      rw [h1] at hu
      simp at hu
      rw [← hu]; exact ht

/-- A token in memory. -/
structure TokAt (W : World) (a : Addr) (t : Lx.Tok) : Prop where
  n : inR t.n
  c0 : W.cell? a = some (.int .i64 t.k)
  c1 : W.cell? (a.add 1) = some (.string ⟨t.s.toArray⟩)
  c2 : W.cell? (a.add 2) = some (.int .i64 t.n)
  c3 : W.cell? (a.add 3) = some (.int .i64 t.a)

theorem tok_at {H : Type} {enc : TypeId × Value → H} {W : World} {sp : Nat → Bool} {held : Bool} {m : Nat} {a : Addr} {x : DataW H × List MemPlace}
    (h : (W.cells? 0 a (Tryd.prog.cellsOf 43)).bind (DataW.trod enc Tryd.prog W 0 sp held m 43) = some x) : ∃ t : Lx.Tok, TokAt W a t := by
  have c43 : Tryd.prog.cellsOf 43 = 4 := by kernel_rfl
  rw [c43] at h
  obtain ⟨cs, hcs, hx⟩ := Option.bind_eq_some_iff.1 h
  unfold World.cells? at hcs
  rw [if_pos (Nat.zero_le _)] at hcs
  have c3 : Tryd.prog.cellsOf 3 = 1 := by kernel_rfl
  have c41 : Tryd.prog.cellsOf 41 = 1 := by kernel_rfl
  have c9 : Tryd.prog.cellsOf 9 = 1 := by kernel_rfl
  obtain ⟨xs, n, rfl, rfl, hl, hlen, hf⟩ := DataW.trod_struct Tryd.underlying43 hx
  rw [c43] at hl
  obtain ⟨v0, v1, v2, v3, rfl⟩ : ∃ v0 v1 v2 v3, cs = [v0, v1, v2, v3] := by
    rcases cs with _ | ⟨v0, _ | ⟨v1, _ | ⟨v2, _ | ⟨v3, _ | ⟨v4, cs⟩⟩⟩⟩⟩ <;> simp at hl
    exact ⟨v0, v1, v2, v3, rfl⟩
  have hcell : W.cell? a = some v0 ∧ W.cell? (a.add 1) = some v1 ∧ W.cell? (a.add 2) = some v2 ∧ W.cell? (a.add 3) = some v3 := by
    simp only [show List.range 4 = [0, 1, 2, 3] from rfl, List.mapM_cons, List.mapM_nil, Option.bind_eq_bind, Option.pure_def, Option.bind_eq_some_iff, Option.some.injEq] at hcs
    obtain ⟨w0, h0, l0, ⟨w1, h1, l1, ⟨w2, h2, l2, ⟨w3, h3, l3, rfl, rfl⟩, rfl⟩, rfl⟩, he⟩ := hcs
    cases he
    exact ⟨by simpa [Addr.add] using h0, h1, h2, h3⟩
  have f0 : DataW.trod enc Tryd.prog W 0 sp held n 41 (([v0, v1, v2, v3].drop 0).take (Tryd.prog.cellsOf 41)) = xs[0]? := hf 0 _ rfl
  have f1 : DataW.trod enc Tryd.prog W 0 sp held n 9 (([v0, v1, v2, v3].drop 1).take (Tryd.prog.cellsOf 9)) = xs[1]? := hf 1 _ rfl
  have f2 : DataW.trod enc Tryd.prog W 0 sp held n 3 (([v0, v1, v2, v3].drop 2).take (Tryd.prog.cellsOf 3)) = xs[2]? := hf 2 _ rfl
  have f3 : DataW.trod enc Tryd.prog W 0 sp held n 3 (([v0, v1, v2, v3].drop 3).take (Tryd.prog.cellsOf 3)) = xs[3]? := hf 3 _ rfl
  have hsz : xs.length = 4 := by rw [hlen]; rfl

  simp only [c3, c41, c9, List.drop_zero, List.drop_succ_cons, List.take_succ_cons, List.take_zero] at f0 f1 f2 f3
  rw [List.getElem?_eq_getElem (by omega)] at f0 f1 f2 f3
  obtain ⟨k, e0, _, w0⟩ := DataW.trod_int Tryd.underlying41 f0
  obtain ⟨s, e1, _, w1⟩ := DataW.trod_string Tryd.underlying9 f1
  obtain ⟨nn, e2, _, w2⟩ := DataW.trod_int Tryd.underlying3 f2
  obtain ⟨aa, e3, _, w3⟩ := DataW.trod_int Tryd.underlying3 f3
  cases e0; cases e1; cases e2; cases e3
  refine ⟨⟨k, s.data.toList, nn, aa⟩, inR_of w2, hcell.1, ?_, hcell.2.2.1, hcell.2.2.2⟩
  rw [hcell.2.1]

/-- A list of tokens that comes in. -/
theorem toks_open {H : Type} {enc : TypeId × Value → H} {W : World} {r : Reach} {b0 : Nat} {ts : List TypeId} {ds : List (DataW H)} (hsz : (DataW.weightsEach Tryd.prog ts ds).all (· ≤ reachBytes) = true) (j : Nat) {v : Value} {d : DataW H} {ps : List MemPlace}
    (ht : ts[j]? = some 22) (hd : ds[j]? = some d) (hv : Value.okWide Tryd.prog W r b0 22 v) {sp : Nat → Bool} {held : Bool} (h : DataW.Trod enc Tryd.prog W 0 sp held 22 v d ps) :
    ∃ l : List Lx.Tok, toksOK l ∧ R (bare (oldB W)) W (toksD l) v := by
  obtain ⟨a, len, cap, rfl⟩ := okWide_slice Tryd.underlying22 hv
  obtain ⟨fuel, hf⟩ := h
  rcases DataW.trod_slice Tryd.underlying22 hf with ⟨hcs, _⟩ | ⟨x, l, c, elems, rest, n, _, hcs, hx, _, hlc, _, hlen, hel, _, _⟩
  · simp [Value.cells] at hcs
    obtain ⟨rfl, rfl, rfl⟩ := hcs
    exact ⟨[], ⟨by simp, by simp⟩, .slice0 none 0⟩
  · simp [Value.cells] at hcs
    obtain ⟨rfl, rfl, rfl⟩ := hcs
    obtain ⟨hx, _⟩ := Prod.mk.inj hx
    subst hx
    have z := sized_slice hsz ht hd Tryd.underlying22
    have hb : Tryd.prog.bytesOf 43 = 40 := by kernel_rfl
    have c43 : Tryd.prog.cellsOf 43 = 4 := by kernel_rfl
    rw [hb] at z
    simp only [List.length_map, hlen] at z
    have z' : (len + rest.length) * 40 ≤ 140737488351232 := z
    obtain ⟨ls, h1, h2⟩ := list_of (P := fun i (t : Lx.Tok) => TokAt W (x.add (i * Tryd.prog.cellsOf 43)) t) len fun i hi => by
      have := hel i hi
      rw [List.getElem?_eq_getElem (by omega)] at this
      exact tok_at this
    rw [c43] at h2
    refine ⟨ls, ⟨by omega, fun t ht => ?_⟩, ?_⟩
    · obtain ⟨i, hi⟩ := List.mem_iff_getElem?.1 ht
      exact (h2 i t hi).n
    · by_cases h0 : len = 0
      · subst h0
        have : ls = [] := List.length_eq_zero_iff.1 h1
        subst this
        exact .slice0 (some x) cap
      · obtain ⟨t0', ht0⟩ : ∃ t, ls[0]? = some t := ⟨ls[0]'(by omega), by simp⟩
        have hc0 := (h2 0 t0' ht0).c0
        simp only [Nat.zero_mul] at hc0
        obtain ⟨b, off, sp'⟩ := x
        have hs : sp' = none := by
          cases sp' with
          | none => rfl
          | some q =>
            simp only [Addr.add, if_true, World.cell?] at hc0
            split at hc0 <;> simp at hc0
        subst hs
        have hblk : oldB W b := by
          simp only [Addr.add, if_true, World.cell?] at hc0
          split at hc0
          · rename_i hb'; exact (Array.getElem?_eq_some_iff.1 hb').1
          · cases hc0
        have hadd : ∀ i j : Nat, ((⟨b, off, none⟩ : Addr).add (i * 4)).add j = ⟨b, off + (i * 4 + j), none⟩ := by
          intro i j
          unfold Addr.add
          by_cases hi : i * 4 = 0 <;> by_cases hj : j = 0 <;> simp [hi, hj] <;> omega
        have hadd0 : ∀ i : Nat, ((⟨b, off, none⟩ : Addr).add (i * 4)) = ⟨b, off + (i * 4 + 0), none⟩ := by
          intro i
          unfold Addr.add
          by_cases hi : i * 4 = 0 <;> simp [hi]
        have hlsl : len = ls.length := h1.symm
        have key : ∀ (i jj : Nat) (e dd : D), (ls.map tokD)[i]? = some e → e.cells[jj]? = some dd → ∃ v, W.cell? ⟨b, off + (i * 4 + jj), none⟩ = some v ∧ R (bare (oldB W)) W dd v := by
          intro i jj e dd he hdd
          rw [List.getElem?_map] at he
          obtain ⟨t, ht', rfl⟩ := Option.map_eq_some_iff.1 he
          have hT := h2 i t ht'
          match jj, hdd with
          | 0, hdd => cases hdd; exact ⟨_, by rw [← hadd0]; exact hT.c0, .int _ _⟩
          | 1, hdd => cases hdd; exact ⟨_, by rw [← hadd]; exact hT.c1, R.str (ρ := bare (oldB W)) ⟨t.s.toArray⟩⟩
          | 2, hdd => cases hdd; exact ⟨_, by rw [← hadd]; exact hT.c2, .int _ _⟩
          | 3, hdd => cases hdd; exact ⟨_, by rw [← hadd]; exact hT.c3, .int _ _⟩
          | q + 4, hdd => simp [D.cells] at hdd
        refine R.slice (sz := 4) (f := fun i jj => (W.cell? ⟨b, off + (i * 4 + jj), none⟩).getD undef) hblk (by simp [hlsl]) hlc ?_ ?_ ?_
        · intro i e he
          rw [List.getElem?_map] at he
          obtain ⟨t, _, rfl⟩ := Option.map_eq_some_iff.1 he
          rfl
        · intro i jj e dd he hdd
          obtain ⟨v, hv, _⟩ := key i jj e dd he hdd
          simp only [hv, Option.getD_some]
        · intro i jj e dd he hdd
          obtain ⟨v, hv, hr⟩ := key i jj e dd he hdd
          simp only [hv, Option.getD_some]
          exact hr
end Go.Proofs.YtlbnennpefkpgaaDoor
