/- An interpreter over trees: its operations (first part). No conditions of its own. -/
import Derived.Test.YtlbnennpefkpgaaDoorAiA
import Derived.Deep.AppendSrc
set_option linter.unusedVariables false
set_option linter.unusedSimpArgs false
namespace Go.AI
open Go

section
variable {P : Program} {ρ : Ren} {W : World}

theorem run_isAgg {t : TypeId} {b : Bool} (h : aggT P t = some b) (w : World) : (isAgg t).run P w = .ok b w := by
  unfold aggT at h
  cases hd : P.underlying t with
  | none => simp [hd] at h
  | some d => cases d <;> simp_all [isAgg, run_underlying hd]

theorem run_size {t : TypeId} {n : Nat} (h : sizeT P t = some n) (w : World) : (sizeOf t).run P w = .ok n w := by
  unfold sizeT at h
  obtain ⟨i, hi, rfl⟩ := Option.map_eq_some_iff.1 h
  simp [sizeOf, typeInfo, hi]

theorem R.one {d : D} {v : Value} (h : R ρ W d v) (ho : d.one = true) : v.oneCell' = true ∧ v.cells = #[v] ∧ d.cells = [d] := by
  cases h <;> first | (simp [D.one] at ho; done) | exact ⟨rfl, rfl, rfl⟩

theorem D.cells_all {cs : List D} (h : (D.agg cs).cells.all D.one = true) {j : Nat} {e : D} (he : cs[j]? = some e) : e.one = true :=
  List.all_eq_true.1 h e (List.mem_of_getElem? he)

theorem R.cells {d : D} {v : Value} (h : R ρ W d v) (ho : d.cells.all D.one = true) :
    v.cells.size = d.cells.length ∧ ∀ j e, d.cells[j]? = some e → R ρ W e (v.cells.getD j Go.undef) ∧ (v.cells.getD j Go.undef).oneCell' = true := by
  by_cases hd : ∃ cs, d = .agg cs
  · obtain ⟨cs, rfl⟩ := hd
    cases h with
    | agg hs hr => exact ⟨hs, fun j e he => ⟨hr j e he, ((hr j e he).one (D.cells_all ho he)).1⟩⟩
  · have hc : d.cells = [d] := by cases d <;> first | rfl | exact absurd ⟨_, rfl⟩ hd
    rw [hc] at ho ⊢
    have h1 : d.one = true := by simpa using ho
    obtain ⟨a, b, _⟩ := h.one h1
    refine ⟨by simp [b], fun j e he => ?_⟩
    cases j with
    | zero => simp at he; subst he; simp only [b]; exact ⟨h, a⟩
    | succ j => simp at he

theorem R.cells_one {d : D} {v : Value} (h : R ρ W d v) (ho : d.cells.all D.one = true) : ∀ x ∈ v.cells.toList, x.oneCell' = true := by
  intro x hx
  obtain ⟨j, hj, rfl⟩ := List.getElem_of_mem hx
  have hs := (h.cells ho).1
  have hj' : j < d.cells.length := by simpa [hs] using hj
  have := ((h.cells ho).2 j _ (List.getElem?_eq_getElem hj')).2
  have hj2 : j < v.cells.size := by simpa using hj
  simpa [Array.getD_eq_getD_getElem?, Array.getElem?_eq_getElem hj2] using this

theorem add_none (b o n : Nat) : (⟨b, o, none⟩ : Addr).add n = ⟨b, o + n, none⟩ := by
  unfold Addr.add; split <;> simp_all

/-- A variable is read. -/
theorem load_cells {t : TypeId} {agg : Bool} {size : Nat} (ha : aggT P t = some agg) (hs : sizeT P t = some size) {b o : Nat} {cs : List D} {d : D}
    (hc : ∀ j e, cs[j]? = some e → ∃ v, W.cell? ⟨b, o + j, none⟩ = some v ∧ R ρ W e v) (h : cutCells agg size cs = some d) :
    ∃ v, (loadVar t ⟨b, o, none⟩).run P W = .ok v W ∧ R ρ W d v := by
  unfold cutCells at h
  cases agg with
  | true =>
    simp only [if_true] at h
    split at h
    · rename_i hl
      cases h
      let f : Nat → Value := fun j => (W.cell? ⟨b, o + j, none⟩).getD Go.undef
      have hf : ∀ j, j < size → W.cell? ((⟨b, o, none⟩ : Addr).add j) = some (f j) := by
        intro j hj
        obtain ⟨v, hv, _⟩ := hc j _ (List.getElem?_eq_getElem (Nat.lt_of_lt_of_le hj hl))
        rw [add_none]
        simp [f, hv]
      refine ⟨.agg ((List.range size).map f).toArray, ?_, ?_⟩
      · simp [loadVar, run_isAgg ha, run_size hs, run_loadCells W _ size f hf]
      · refine .agg (by simp; omega) fun j e he => ?_
        have hj : j < size := by
          have := (List.getElem?_eq_some_iff.1 he).1
          simp at this; omega
        rw [List.getElem?_take_of_lt hj] at he
        obtain ⟨v, hv, hr⟩ := hc j e he
        have : (((List.range size).map f).toArray).getD j Go.undef = v := by simp [Array.getD_eq_getD_getElem?, hj, f, hv]
        rw [this]; exact hr
    · cases h
  | false =>
    simp only [Bool.false_eq_true, if_false] at h
    split at h
    · cases cs with
      | nil => cases h
      | cons x r =>
        simp only [List.head?_cons, Option.some.injEq] at h
        subst h
        obtain ⟨v, hv, hr⟩ := hc 0 x rfl
        simp only [Nat.add_zero] at hv
        exact ⟨v, by simp [loadVar, run_isAgg ha, hv], hr⟩
    · cases h

theorem cell?_cells {w : World} {b o : Nat} {c : Array Value} {ty : TypeId} {fr : Nat × Nat} (h : w.heap[b]? = some (.cells c ty fr)) : w.cell? ⟨b, o, none⟩ = c[o]? := by
  simp [World.cell?, h]

theorem mul_lt {i n s j : Nat} (hi : i < n) (hj : j < s) : i * s + j < n * s := by
  have : (i + 1) * s ≤ n * s := Nat.mul_le_mul_right s hi
  rw [Nat.succ_mul] at this
  omega

/-- The cells of an element of a row in one of its versions. -/
theorem RowR.elem {i sz : Nat} {es : List D} {since ver idx : Nat} {p : Pl} {e : D} (h : RowR ρ W i sz es since) (h1 : since ≤ ver) (h2 : ver ≤ es.length)
    (hp : ρ.loc i ver = some p) (hi : idx < ver) (he : es[idx]? = some e) :
    p.sz = sz ∧ e.cells.length = sz ∧ ∀ j d, e.cells[j]? = some d → ∃ v, W.cell? ⟨p.blk, idx * sz + j, none⟩ = some v ∧ R ρ W d v := by
  obtain ⟨_, hz, _, hv⟩ := h
  rcases hv ver h1 h2 with ⟨rfl, hn⟩ | ⟨q, c, ty, hq, hs, hc, hh, hsz, hr⟩
  · omega
  · rw [hp] at hq; cases hq
    refine ⟨hs, (hz idx e he).1, fun j d hd => ?_⟩
    have hj : j < sz := by rw [← (hz idx e he).1]; exact (List.getElem?_eq_some_iff.1 hd).1
    have hlt : idx * sz + j < c.size := by rw [hsz]; exact mul_lt (by omega) hj
    refine ⟨c[idx * sz + j], ?_, ?_⟩
    · rw [cell?_cells hh]; simp [hlt]
    · have := hr idx e j d hi he hd
      simpa [Array.getD_eq_getD_getElem?, hlt] using this

theorem load_sound {σ : St} (hR : Rel ρ W σ) {t : TypeId} {agg : Bool} {size : Nat} (ha : aggT P t = some agg) (hs : sizeT P t = some size) {x d : D} {vx : Value}
    (hx : R ρ W x vx) (h : loadD σ agg size x = some d) : ∃ v, (Instr.loadAt t vx).run P W = .ok v W ∧ R ρ W d v := by
  cases hx <;> simp only [loadD] at h <;> try (cases h; done)
  case ptr i off p hp =>
    split at h
    · rename_i cs hcs
      obtain ⟨q, c, ty, hq, hh, hz, hr⟩ := hR.obj i _ hcs
      rw [hp] at hq; cases hq
      have := load_cells (P := P) (ρ := ρ) (W := W) ha hs (b := p.blk) (o := off) (cs := cs.drop off) (fun j e he => by
        rw [List.getElem?_drop] at he
        have hlt : off + j < c.size := by rw [hz]; exact (List.getElem?_eq_some_iff.1 he).1
        refine ⟨c[off + j], by rw [cell?_cells hh]; simp [hlt], ?_⟩
        have := hr _ e he
        simpa [Array.getD_eq_getD_getElem?, hlt] using this) h
      obtain ⟨v, hv, hr'⟩ := this
      exact ⟨v, by simp [Instr.loadAt, Instr.sureAddr, hv], hr'⟩
    · cases h
  case rptr i ver idx r p hp =>
    have key : ∀ sz es since, RowR ρ W i sz es since → (if since ≤ ver ∧ idx < ver ∧ ver ≤ es.length then
        match es[idx]? with
        | some e => cutCells agg size (e.cells.drop r)
        | none => none else none) = some d → ∃ v, (Instr.loadAt t (.pointer (some ⟨p.blk, idx * p.sz + r, none⟩))).run P W = .ok v W ∧ R ρ W d v := by
      intro sz es since hrow h
      split at h
      · rename_i hcond
        split at h
        · rename_i e he
          obtain ⟨e1, e2, e3⟩ := hrow.elem hcond.1 hcond.2.2 hp hcond.2.1 he
          have := load_cells (P := P) (ρ := ρ) (W := W) ha hs (b := p.blk) (o := idx * p.sz + r) (cs := e.cells.drop r) (fun j d' hd' => by
            rw [List.getElem?_drop] at hd'
            obtain ⟨v, hv, hr⟩ := e3 _ d' hd'
            exact ⟨v, by rw [e1, Nat.add_assoc]; exact hv, hr⟩) h
          obtain ⟨v, hv, hr'⟩ := this
          exact ⟨v, by simp [Instr.loadAt, Instr.sureAddr, hv], hr'⟩
        · cases h
      · cases h
    split at h
    · rename_i sz es since hes; exact key sz es since (hR.obj i _ hes) h
    · rename_i sz es since hes; exact key sz es since (hR.obj i _ hes).1 h
    · cases h
  case tptr cs b off f hf hc hr =>
    have := load_cells (P := P) (ρ := ρ) (W := W) ha hs (b := b) (o := off) (cs := cs) (fun j e he => ⟨f j, hc j (List.getElem?_eq_some_iff.1 he).1, hr j e he⟩) h
    obtain ⟨v, hv, hr'⟩ := this
    exact ⟨v, by simp [Instr.loadAt, Instr.sureAddr, hv], hr'⟩

/-- Cells laid over cells. -/
theorem putCells_some {cs cs' vs : List D} {off : Nat} (h : putCells cs off vs = some cs') :
    off + vs.length ≤ cs.length ∧ vs.all D.one = true ∧ cs' = cs.take off ++ vs ++ cs.drop (off + vs.length) ∧ cs'.length = cs.length := by
  unfold putCells at h
  split at h
  · rename_i hc
    cases h
    refine ⟨hc.1, hc.2, rfl, ?_⟩
    have := hc.1
    simp; omega
  · cases h

theorem getElem?_put {α : Type} (l m : List α) (o : Nat) (h : o + m.length ≤ l.length) (j : Nat) :
    (l.take o ++ m ++ l.drop (o + m.length))[j]? = if j < o then l[j]? else if j < o + m.length then m[j - o]? else l[j]? := by
  have h1 : (l.take o).length = o := by simp; omega
  by_cases h2 : j < o
  · rw [if_pos h2, List.append_assoc, List.getElem?_append_left (by omega), List.getElem?_take_of_lt h2]
  · rw [if_neg h2]
    by_cases h3 : j < o + m.length
    · rw [if_pos h3, List.getElem?_append_left (by simp; omega), List.getElem?_append_right (by omega), h1]
    · rw [if_neg h3, List.getElem?_append_right (by simp; omega), List.getElem?_drop]
      congr 1
      simp; omega

/-- A variable is written. -/
theorem run_storeVar {t : TypeId} {size : Nat} (hs : sizeT P t = some size) {b o : Nat} {c : Array Value} {ty : TypeId} {v : Value} (hh : W.heap[b]? = some (.cells c ty))
    (hv : v.cells.size = size) (h1 : ∀ x ∈ v.cells.toList, x.oneCell' = true) (hl : o + size ≤ c.size) :
    (Instr.storeAt t (.pointer (some ⟨b, o, none⟩)) v).run P W = .ok () (W.setRow b (c.toList.take o ++ v.cells.toList ++ c.toList.drop (o + v.cells.toList.length)).toArray) := by
  have := run_storeCells_at (P := P) b o ty v.cells.toList 0 c W hh (by simpa [hv] using hl) h1
  simp only [Nat.add_zero] at this
  simp [Instr.storeAt, Instr.sureAddr, storeVar, run_size hs, hv, this]

end
end Go.AI

namespace Go.AI
open Go

section
variable {P : Program} {ρ : Ren} {W : World} {σ : St}

theorem getD_put {c : Array Value} {vs : List Value} {o : Nat} (h : o + vs.length ≤ c.size) (j : Nat) :
    (c.toList.take o ++ vs ++ c.toList.drop (o + vs.length)).toArray.getD j undef = if j < o then c.getD j undef else if j < o + vs.length then vs.getD (j - o) undef else c.getD j undef := by
  have e := getElem?_put c.toList vs o (by simpa using h) j
  simp only [Array.getD_eq_getD_getElem?, List.getElem?_toArray, e, List.getD_eq_getElem?_getD]
  split
  · simp
  · split
    · rfl
    · simp

theorem size_put {c : Array Value} {vs : List Value} {o : Nat} (h : o + vs.length ≤ c.size) : (c.toList.take o ++ vs ++ c.toList.drop (o + vs.length)).toArray.size = c.size := by
  simp; omega

theorem setRow_change (hR : Rel ρ W σ) {i : Nat} {o o' : Obj} (ho : σ[i]? = some o) (hlive : o.live = true) {ver : Nat} {p : Pl} (hp : ρ.loc i ver = some p) (cs : Array Value)
    (hobj : Later ρ W ρ (W.setRow p.blk cs) → ObjR ρ (W.setRow p.blk cs) i o') : Later ρ W ρ (W.setRow p.blk cs) ∧ Rel ρ (W.setRow p.blk cs) (σ.set i o') :=
  hR.change ho hlive (by simp) rfl rfl rfl (fun b _ hne => setRow_other W p.blk b cs (fun h => hne ver p hp h.symm)) (fun _ _ _ => rfl) (fun _ _ h => h)
    (fun v q hq => .inl ⟨v, q, hq, rfl⟩) (fun _ => Iff.rfl) rfl hobj

theorem store_sound (hR : Rel ρ W σ) {t : TypeId} {size : Nat} (hs : sizeT P t = some size) {a v : D} {va vv : Value} (ha : R ρ W a va) (hv : R ρ W v vv) {σ' : St}
    (h : storeD σ size v a = some σ') : ∃ W', (Instr.storeAt t va vv).run P W = .ok () W' ∧ Later ρ W ρ W' ∧ Rel ρ W' σ' := by
  cases ha <;> simp only [storeD] at h <;> try (cases h; done)
  case ptr i off p hp =>
    split at h
    · rename_i cs hcs
      split at h
      · rename_i hsz
        obtain ⟨cs', hput, rfl⟩ := Option.map_eq_some_iff.1 h
        obtain ⟨hl, hone, rfl, hlen⟩ := putCells_some hput
        obtain ⟨q, c, ty, hq, hh, hz, hr⟩ := hR.obj i _ hcs
        rw [hp] at hq; cases hq
        obtain ⟨hvs, hvr⟩ := hv.cells hone
        have hl' : off + vv.cells.toList.length ≤ c.size := by simp [hvs]; omega
        refine ⟨_, run_storeVar hs hh (by rw [hvs, hsz]) (hv.cells_one hone) (by omega), ?_⟩
        have hg := getD_put hl'
        have hgz := size_put hl'
        have hlen2 : vv.cells.toList.length = v.cells.length := by simp [hvs]
        generalize (c.toList.take off ++ vv.cells.toList ++ c.toList.drop (off + vv.cells.toList.length)).toArray = cn at hg hgz ⊢
        rw [hlen2] at hg
        refine setRow_change hR hcs rfl hp _ fun L => ⟨p, cn, ty, hp, setRow_heap W p.blk c _ ty _ hh, by rw [hgz, hz, hlen], fun j d hd => ?_⟩
        rw [hg]
        rw [getElem?_put _ _ _ hl] at hd
        split
        · rename_i hj; rw [if_pos hj] at hd; exact (hr j d hd).later L
        · rename_i hj
          rw [if_neg hj] at hd
          split
          · rename_i hj2
            rw [if_pos hj2] at hd
            have := ((hvr _ d hd).1).later L
            simpa [Array.getD_eq_getD_getElem?, List.getD_eq_getElem?_getD] using this
          · rename_i hj2; rw [if_neg hj2] at hd; exact (hr j d hd).later L
      · cases h
    · cases h
  case rptr i ver idx r p hp =>
    split at h
    · rename_i sz es since hes
      split at h
      · rename_i hcond
        obtain ⟨rfl, hidx, hsz⟩ := hcond
        obtain ⟨h1, h2, h4, h3⟩ := hR.obj i _ hes
        rcases h3 es.length h1 (Nat.le_refl _) with ⟨h0, _⟩ | ⟨q, c, ty, hq, hqs, hqc, hh, hcz, hr⟩
        · omega
        rw [hp] at hq; cases hq
        -- the element, its new cells from r on
        have main : ∀ (e e' : D) (cs : List D), es[idx]? = some e → e.cells = cs → e'.cells.length = sz → e'.cells.all D.one = true → v.cells.all D.one = true → r + v.cells.length ≤ sz →
            (∀ j d, e'.cells[j]? = some d → if j < r then cs[j]? = some d else if j < r + v.cells.length then v.cells[j - r]? = some d else cs[j]? = some d) →
            ∃ W', (Instr.storeAt t (.pointer (some ⟨p.blk, idx * p.sz + r, none⟩)) vv).run P W = .ok () W' ∧ Later ρ W ρ W' ∧ Rel ρ W' (σ.set i (.row sz (es.set idx e') es.length)) := by
          intro e e' cs he hec he' he1' hone hrl hcells
          obtain ⟨hvs, hvr⟩ := hv.cells hone
          have hb : idx * sz + sz ≤ c.size := by
            rw [hcz]
            have : (idx + 1) * sz ≤ p.cap * sz := Nat.mul_le_mul_right sz (by omega)
            rwa [Nat.succ_mul] at this
          have hl' : idx * p.sz + r + vv.cells.toList.length ≤ c.size := by simp [hvs, hqs]; omega
          refine ⟨_, run_storeVar hs hh (by rw [hvs, hsz]) (hv.cells_one hone) (by rw [hqs]; omega), ?_⟩
          have hg := getD_put hl'
          have hgz := size_put hl'
          have hlen2 : vv.cells.toList.length = v.cells.length := by simp [hvs]
          generalize (c.toList.take (idx * p.sz + r) ++ vv.cells.toList ++ c.toList.drop (idx * p.sz + r + vv.cells.toList.length)).toArray = cn at hg hgz ⊢
          rw [hlen2, hqs] at hg
          refine setRow_change hR hes rfl hp _ fun L => ⟨by simp, fun k e1 hk => ?_, fun ver hv => h4 ver (by simpa using hv), fun ver hv1 hv2 => ?_⟩
          · rw [List.getElem?_set] at hk
            by_cases hik : idx = k
            · rw [if_pos hik] at hk
              rw [if_pos hidx] at hk
              cases hk; exact ⟨he', he1'⟩
            · rw [if_neg hik] at hk; exact h2 k e1 hk
          · simp only [List.length_set] at hv2
            have hver : ver = es.length := by omega
            subst hver
            refine .inr ⟨p, cn, ty, hp, hqs, hqc, setRow_heap W p.blk c _ ty _ hh, by rw [hgz, hcz], fun k e1 j d hk he1 hd => ?_⟩
            rw [hg]
            rw [List.getElem?_set] at he1
            by_cases hki : idx = k
            · subst hki
              rw [if_pos rfl, if_pos hidx] at he1
              cases he1
              have := hcells j d hd
              have hjsz : j < sz := by rw [← he']; exact (List.getElem?_eq_some_iff.1 hd).1
              by_cases hj : j < r
              · rw [if_pos hj] at this
                rw [if_pos (by omega)]
                exact (hr idx e j d hidx he (by rw [hec]; exact this)).later L
              · rw [if_neg hj] at this
                rw [if_neg (by omega)]
                by_cases hj2 : j < r + v.cells.length
                · rw [if_pos hj2] at this
                  rw [if_pos (by omega)]
                  have := ((hvr _ d this).1).later L
                  have e3 : idx * sz + j - (idx * sz + r) = j - r := by omega
                  rw [e3]
                  simpa [Array.getD_eq_getD_getElem?, List.getD_eq_getElem?_getD] using this
                · rw [if_neg hj2] at this
                  rw [if_neg (by omega)]
                  exact (hr idx e j d hidx he (by rw [hec]; exact this)).later L
            · rw [if_neg hki] at he1
              have hjsz : j < sz := by rw [← (h2 k e1 he1).1]; exact (List.getElem?_eq_some_iff.1 hd).1
              have hne : k * sz + j < idx * sz ∨ idx * sz + sz ≤ k * sz + j := by
                rcases Nat.lt_or_gt_of_ne hki with hlt | hgt
                · right
                  have : (idx + 1) * sz ≤ k * sz := Nat.mul_le_mul_right sz hlt
                  rw [Nat.succ_mul] at this; omega
                · left
                  have : (k + 1) * sz ≤ idx * sz := Nat.mul_le_mul_right sz hgt
                  rw [Nat.succ_mul] at this; omega
              have old := (hr k e1 j d hk he1 hd).later L
              split
              · exact old
              · split
                · omega
                · exact old
        split at h
        · rename_i cs hidx'
          obtain ⟨cs', hput, rfl⟩ := Option.map_eq_some_iff.1 h
          obtain ⟨hl, hone, rfl, hlen⟩ := putCells_some hput
          have hcsz : cs.length = sz := (h2 idx _ hidx').1
          have hcone : cs.all D.one = true := (h2 idx _ hidx').2
          have hnone : (cs.take r ++ v.cells ++ cs.drop (r + v.cells.length)).all D.one = true := by
            rw [List.all_append, List.all_append, hone]
            simp only [Bool.and_eq_true, List.all_eq_true, and_true] at hcone ⊢
            exact ⟨fun x hx => hcone x (List.mem_of_mem_take hx), fun x hx => hcone x (List.mem_of_mem_drop hx)⟩
          refine main (.agg cs) (.agg _) cs hidx' rfl (by rw [← hcsz]; exact hlen) hnone hone (by omega) fun j d hd => ?_
          have hd' : (cs.take r ++ v.cells ++ cs.drop (r + v.cells.length))[j]? = some d := hd
          rw [getElem?_put _ _ _ hl] at hd'
          split
          · rename_i hj; rwa [if_pos hj] at hd'
          · rename_i hj
            rw [if_neg hj] at hd'
            split
            · rename_i hj2; rwa [if_pos hj2] at hd'
            · rename_i hj2; rwa [if_neg hj2] at hd'
        · rename_i e hne hidx'
          split at h
          · rename_i hc
            cases h
            obtain ⟨rfl, hvo⟩ := hc
            have hec : e.cells = [e] := by cases hx : e <;> first | rfl | exact absurd hx (by intro hx'; exact hne _ hx')
            have hsz1 : sz = 1 := by rw [← (h2 idx e hidx').1, hec]; rfl
            have hvc : v.cells = [v] := (hv.one hvo).2.2
            refine main e v [e] hidx' hec (by rw [hvc, hsz1]; rfl) (by rw [hvc]; simpa using hvo) (by rw [hvc]; simpa using hvo) (by rw [hvc, hsz1]; simp) fun j d hd => ?_
            rw [if_neg (by omega)]
            rw [hvc] at hd ⊢
            have : j < 1 := (List.getElem?_eq_some_iff.1 hd).1
            rw [if_pos (by simpa using this)]
            exact hd
          · cases h
        · cases h
      · cases h
    · cases h

/-- A new variable. -/
theorem newVar_sound (hR : Rel ρ W σ) (t : TypeId) {d : D} {v : Value} (hv : R ρ W d v) (ho : d.cells.all D.one = true) :
    ∃ ρ' W', (newVar t v).run P W = .ok ⟨W.heap.size, 0, none⟩ W' ∧ Later ρ W ρ' W' ∧ Rel ρ' W' (σ ++ [.box d.cells]) ∧ ∃ p, ρ'.loc σ.length 0 = some p ∧ p.blk = W.heap.size := by
  obtain ⟨hs, hr⟩ := hv.cells ho
  let p : Pl := ⟨W.heap.size, 1, d.cells.length⟩
  let ρ' : Ren := { ρ with loc := fun i v => if i = σ.length then (if v = 0 then some p else none) else ρ.loc i v }
  have := hR.push (ρ' := ρ') (W' := W.alloc (.cells v.cells t)) (o' := .box d.cells) (by simp) rfl rfl rfl
    (fun b hb => heap_alloc_old W _ hb) (fun j v hj => by simp [ρ', hj]) (fun v q hq => by
      simp only [ρ', if_true] at hq
      split at hq
      · cases hq; simp [p]
      · cases hq) (fun _ => Iff.rfl) rfl
    (fun L => ⟨p, v.cells, t, by simp [ρ'], heap_alloc_at W _, hs, fun j e he => ((hr j e he).1).later L⟩)
  exact ⟨ρ', _, by simp [newVar, newRow], this.1, this.2, p, by simp [ρ'], rfl⟩

end
end Go.AI

namespace Go.AI
open Go

theorem mapM_some {α β : Type} {f : α → Option β} : ∀ {l : List α} {r : List β}, l.mapM f = some r →
    r.length = l.length ∧ ∀ (j : Nat) (x : α), l[j]? = some x → ∃ y, f x = some y ∧ r[j]? = some y
  | [], r, h => by simp at h; subst h; exact ⟨rfl, fun j x hx => by simp at hx⟩
  | a :: l, r, h => by
    simp only [List.mapM_cons, Option.bind_eq_bind, Option.pure_def, Option.bind_eq_some_iff] at h
    obtain ⟨b, hb, r', hr', he⟩ := h
    cases he
    obtain ⟨h1, h2⟩ := mapM_some hr'
    refine ⟨by simp [h1], fun j x hx => ?_⟩
    cases j with
    | zero => simp at hx; subst hx; exact ⟨b, hb, rfl⟩
    | succ j => exact h2 j x (by simpa using hx)

section
variable {P : Program} {ρ : Ren} {W : World} {σ : St}

theorem valD1_sound {v : Value} {d : D} (h : valD1 v = some d) : R ρ W d v := by
  unfold valD1 at h
  split at h <;> first | (cases h; done) | (cases h; constructor; done) | skip
  all_goals (cases h; exact .empty _)

theorem valD_sound {v : Value} {d : D} (h : valD v = some d) : R ρ W d v := by
  unfold valD at h
  split at h
  · rename_i cs
    obtain ⟨ds, hm, rfl⟩ := Option.map_eq_some_iff.1 h
    obtain ⟨h1, h2⟩ := mapM_some hm
    refine .agg (by simp [h1]) fun j e he => ?_
    have hj : j < cs.size := by have := (List.getElem?_eq_some_iff.1 he).1; simpa [h1] using this
    obtain ⟨y, hy, hy'⟩ := h2 j cs[j] (by simp [hj])
    rw [he] at hy'
    cases hy'
    have := valD1_sound (ρ := ρ) (W := W) hy
    simpa [Array.getD_eq_getD_getElem?, hj] using this
  · rename_i vs
    split at h
    · rename_i hz
      cases h
      obtain rfl : vs = #[] := Array.eq_empty_of_size_eq_zero hz
      exact .undef
    · cases h
  · exact valD1_sound h

/-- What is known of the package-level variables. -/
def GlobR (ρ : Ren) (W : World) (glob : Gl) : Prop := ∀ g cs, glob.g g = some cs → R ρ W (.tptr cs) (.pointer (some ⟨g, 0, none⟩)) ∧ ∃ c ty fz, W.heap[g]? = some (.cells c ty fz) ∧ c.size = cs.length

theorem GlobR.later {ρ' : Ren} {W' : World} {glob : Gl} (h : GlobR ρ W glob) (L : Later ρ W ρ' W') : GlobR ρ' W' glob := fun g cs hg => by
  obtain ⟨h1, h2⟩ := h g cs hg
  refine ⟨h1.later L, ?_⟩
  cases h1 with
  | tptr hf _ _ => rw [L.heap g hf]; exact h2

theorem opd_sound {glob : Gl} {e : Env} {a : Act} (hE : RE ρ W e a.tmps) (hG : GlobR ρ W glob) {x : Operand} {ax : AOpd} (h : opd x = some ax) :
    R ρ W (lookA glob e ax) (a.eval x) := by
  cases x with
  | tmp t => cases h; exact hE t
  | const v =>
    obtain ⟨d, hd, rfl⟩ := Option.map_eq_some_iff.1 h
    exact valD_sound hd
  | global g =>
    cases h
    simp only [lookA, Act.eval]
    cases hg : glob.g g with
    | none => exact .any _
    | some cs => exact (hG g cs hg).1
  | func f => cases h; exact .func rfl rfl (fun j d hd => by simp at hd) (fun j d hd => by simp at hd)

theorem opds_sound {glob : Gl} {e : Env} {a : Act} (hE : RE ρ W e a.tmps) (hG : GlobR ρ W glob) {xs : Array Operand} {axs : List AOpd} (h : xs.toList.mapM opd = some axs) :
    Rs ρ W (axs.map (lookA glob e)) (xs.map a.eval) := by
  obtain ⟨h1, h2⟩ := mapM_some h
  refine ⟨by simp [h1], fun j d hd => ?_⟩
  rw [List.getElem?_map] at hd
  obtain ⟨ax, hax, rfl⟩ := Option.map_eq_some_iff.1 hd
  have hj : j < xs.size := by have := (List.getElem?_eq_some_iff.1 hax).1; simpa [h1] using this
  obtain ⟨y, hy, hy'⟩ := h2 j xs[j] (by simp [hj])
  rw [hax] at hy'
  cases hy'
  have := opd_sound hE hG hy
  simpa [Array.getD_eq_getD_getElem?, hj] using this

theorem bytes_beq (a b : ByteArray) : (a == b) = (a.data.toList == b.data.toList) := by
  rw [beq_toListBytes, ByteArray.toList_eq, ByteArray.toList_eq]

/-- Scalars of one type. -/
theorem kindEq_sound {t : TypeId} {k : Nat} (hk : scalarK P t = some k) {x y : D} {vx vy : Value} (hx : R ρ W x vx) (hy : R ρ W y vy) {b : Bool} (h : D.kindEq k x y = some b)
    (d : Nat) (w : World) : (Op.equalIn (d + 1) t vx vy).run P w = .ok b w := by
  unfold scalarK at hk
  cases hd : P.underlying t with
  | none => simp [hd] at hk
  | some u =>
    rw [hd] at hk
    cases u <;> simp only [Option.some.injEq, reduceCtorEq] at hk <;> subst hk <;> cases hx <;> simp only [D.kindEq] at h <;> try (cases h; done)
    all_goals (cases hy <;> simp only at h <;> try (cases h; done))
    · cases h; exact run_equalIn_bool w d t _ _ hd
    · split at h
      · rename_i hjk; subst hjk; cases h; exact run_equalIn_int w d t _ _ _ _ hd
      · cases h
    · cases h
      rw [run_equalIn_string w d t _ _ hd, ByteArray.toList_eq, ByteArray.toList_eq]

theorem aggT_scalar {t : TypeId} {k : Nat} (hk : scalarK P t = some k) : aggT P t = some false := by
  unfold scalarK at hk
  unfold aggT
  cases hd : P.underlying t with
  | none => simp [hd] at hk
  | some u => rw [hd] at hk; cases u <;> simp_all

theorem eqFields_sound {xs ys : Array Value} : ∀ (fs : List Field) (i : Nat) (ks : List Nat) (x y : List D), fieldKs P i fs = some ks →
    (∀ j d, x[j]? = some d → ∃ v, xs[i + j]? = some v ∧ R ρ W d v) → (∀ j d, y[j]? = some d → ∃ v, ys[i + j]? = some v ∧ R ρ W d v) →
    ∀ b, flatEqs ks x y = some b → ∀ (d : Nat) (w : World), (Op.eqFields (d + 1) xs ys fs).run P w = .ok b w
  | [], i, ks, x, y, hk, _, _, b, h, d, w => by
    cases hk
    cases x <;> cases y <;> simp only [flatEqs] at h <;> first | (cases h; done) | (cases h; rfl)
  | f :: fs, i, ks, x, y, hk, hx, hy, b, h, d, w => by
    simp only [fieldKs] at hk
    split at hk
    · rename_i hc
      simp only [Bool.and_eq_true, bne_iff_ne, ne_eq, beq_iff_eq] at hc
      simp only [Option.bind_eq_bind, Option.pure_def, Option.bind_eq_some_iff] at hk
      obtain ⟨k, hk1, ks', hk2, he⟩ := hk
      cases he
      cases x with
      | nil => simp [flatEqs] at h
      | cons a x =>
        cases y with
        | nil => simp [flatEqs] at h
        | cons c y =>
          simp only [flatEqs] at h
          split at h
          · rename_i t ht
            obtain ⟨b', hb', rfl⟩ := Option.map_eq_some_iff.1 h
            obtain ⟨va, hva, ra⟩ := hx 0 a rfl
            obtain ⟨vc, hvc, rc⟩ := hy 0 c rfl
            simp only [Nat.add_zero] at hva hvc
            have ih := eqFields_sound fs (i + 1) ks' x y hk2 (fun j d hd => by have := hx (j + 1) d (by simpa using hd); rwa [show i + (j + 1) = i + 1 + j by omega] at this)
              (fun j d hd => by have := hy (j + 1) d (by simpa using hd); rwa [show i + (j + 1) = i + 1 + j by omega] at this) b' hb' d
            have p1 : ∀ w, (part f.type xs f.offset).run P w = .ok va w := fun w => by simp [part, run_isAgg (aggT_scalar hk1), hc.2, hva]
            have p2 : ∀ w, (part f.type ys f.offset).run P w = .ok vc w := fun w => by simp [part, run_isAgg (aggT_scalar hk1), hc.2, hvc]
            simp only [Op.eqFields, ne_eq, hc.1, not_false_eq_true, if_true, Sem.run_bind, p1, p2, Result.andThen_ok, kindEq_sound hk1 ra rc ht d]
            cases t
            · simp
            · simp [ih]
          · cases h
    · cases hk

end
end Go.AI

namespace Go.AI
open Go

section
variable {P : Program} {ρ : Ren} {W : World} {σ : St}

theorem intArith_sound {op : BinOp} (hs : op ≠ .shl ∧ op ≠ .shr) {k : IntKind} {a b : Int} {d : D} (h : intArith op k a b = some d) (t : TypeId) :
    ∃ v, (binOp op t (.int k a) (.int k b)).run P W = .ok v W ∧ R ρ W d v := by
  cases op <;> simp only [intArith] at h <;> first
    | (cases h; done)
    | exact absurd rfl hs.1
    | exact absurd rfl hs.2
    | (cases h; exact ⟨_, by simp [binOp, Op.intArith, Op.intBits, Op.intCmp], .int _ _⟩)
    | (cases h; exact ⟨_, by simp [binOp, Op.intCmp], .bool _⟩)
    | (split at h
       · cases h
       · rename_i hb; cases h; exact ⟨_, by simp [binOp, Op.intDiv, hb], .int _ _⟩)

theorem toList_data (s : ByteArray) : s.toList = s.data.toList := ByteArray.toList_eq s

theorem strArith_sound {op : BinOp} {a b : ByteArray} {d : D} (h : strArith op a.data.toList b.data.toList = some d) (t : TypeId) :
    ∃ v, (binOp op t (.string a) (.string b)).run P W = .ok v W ∧ R ρ W d v := by
  cases op <;> simp only [strArith] at h <;> first
    | (cases h; done)
    | (cases h; exact ⟨_, by simp [binOp, Op.stringOp, toList_data, bytesLess], .bool _⟩)
    | skip
  split at h
  · rename_i hl
    cases h
    refine ⟨.string (a ++ b), ?_, ?_⟩
    · have hm : IntKind.i64.max = 9223372036854775807 := rfl
      have : ¬ (((a.size + b.size : Nat) : Int) > IntKind.i64.max) := by
        rw [hm]
        have h1 : a.size = a.data.toList.length := (Array.length_toList (xs := a.data)).symm
        have h2 : b.size = b.data.toList.length := (Array.length_toList (xs := b.data)).symm
        omega
      simp only [binOp, Op.stringOp, this, if_false, Sem.run_pure]
    · have : (a ++ b).data.toList = a.data.toList ++ b.data.toList := by simp
      rw [← this]
      exact .str _
  · cases h

theorem eqD_sound {t : TypeId} {x y : D} {vx vy : Value} (hx : R ρ W x vx) (hy : R ρ W y vy) {b : Bool} (h : eqD (eqC P t) x y = some b) :
    (Op.equal t vx vy).run P W = .ok b W := by
  obtain ⟨n, hn⟩ : ∃ n, Op.maxDepth = n + 1 + 1 := ⟨9998, rfl⟩
  unfold Op.equal
  rw [hn]
  unfold eqC at h
  cases hd : P.underlying t with
  | none => rw [hd] at h; simp [eqD] at h
  | some u =>
    rw [hd] at h
    cases u <;> try (simp [eqD] at h; done)
    case struct fs =>
      cases hks : fieldKs P 0 fs.toList with
      | none => simp [hks, eqD] at h
      | some ks =>
        simp only [hks] at h
        by_cases hc : (P.stoodInHeld t || P.eqGuardType P.depth t) = true
        · simp [hc, eqD] at h
        · rw [if_neg hc] at h
          simp only [Bool.or_eq_true, not_or, Bool.not_eq_true] at hc
          cases hx <;> simp only [eqD] at h <;> try (cases h; done)
          cases hy <;> simp only at h <;> try (cases h; done)
          rename_i xs vs h1 r1 ys vs' h2 r2
          have hf : P.fieldsOf t = fs := by simp [Program.fieldsOf, hd]
          rw [run_equalIn_struct W _ t _ _ (by rw [hf]; exact hd) hc.1, hf]
          refine eqFields_sound (ρ := ρ) (W := W) fs.toList 0 ks xs ys hks (fun j d hj => ?_) (fun j d hj => ?_) b h _ _
          · have hlt : j < vs.size := by rw [h1]; exact (List.getElem?_eq_some_iff.1 hj).1
            exact ⟨vs[j], by simp [hlt], by have := r1 j d hj; simpa [Array.getD_eq_getD_getElem?, hlt] using this⟩
          · have hlt : j < vs'.size := by rw [h2]; exact (List.getElem?_eq_some_iff.1 hj).1
            exact ⟨vs'[j], by simp [hlt], by have := r2 j d hj; simpa [Array.getD_eq_getD_getElem?, hlt] using this⟩
    all_goals
      simp only [eqD] at h
      split at h <;> first | (cases h; done) | skip
      all_goals (rename_i heq; first | (cases heq; done) | skip)
      all_goals (cases h; cases hx; cases hy; unfold Op.equalIn; rw [Sem.run_bind, run_underlying hd, Result.andThen_ok]; rfl)

end
end Go.AI

namespace Go.AI
open Go

section
variable {P : Program} {ρ : Ren} {W : World} {σ : St}

theorem eqGuard_plain {t : TypeId} {vx vy : Value} (h1 : ∀ a b, ¬ (vx = .agg a ∧ vy = .agg b)) (h2 : ¬ (vx = .nilIface ∧ vy = .nilIface)) (op : BinOp) (xo yo : Operand) :
    (eqGuard op t xo yo vx vy).run P W = .ok () W := by
  have key : ∀ s : Sem Unit, (match vx, vy with
    | .nilIface, .nilIface => s
    | .agg _, .agg _ => do
      if !(← program).eqGuardType (← program).depth t then return
      if ← Op.eqGuardIn Op.maxDepth t vx vy then unsupported (.noEntry "binop/eql: two nil values of an interface type with methods, in a part of a struct or an array")
    | _, _ => pure ()).run P W = .ok () W := by
    intro s
    split
    · exact absurd ⟨rfl, rfl⟩ h2
    · exact absurd ⟨rfl, rfl⟩ (h1 _ _)
    · rfl
  cases op <;> first | rfl | exact key _

theorem eqGuard_ok {t : TypeId} {x y : D} {vx vy : Value} (hx : R ρ W x vx) (hy : R ρ W y vy) {b : Bool} (h : eqD (eqC P t) x y = some b) (op : BinOp) (xo yo : Operand) :
    (eqGuard op t xo yo vx vy).run P W = .ok () W := by
  by_cases hg : ∃ xs ys, x = .agg xs ∧ y = .agg ys
  · obtain ⟨xs, ys, rfl, rfl⟩ := hg
    cases hx; cases hy
    refine run_eqGuard_agg W op t xo yo _ _ ?_
    unfold eqC at h
    cases hd : P.underlying t with
    | none => simp [hd, eqD] at h
    | some u =>
      rw [hd] at h
      cases u <;> try (simp [eqD] at h; done)
      case struct fs =>
        cases hks : fieldKs P 0 fs.toList with
        | none => simp [hks, eqD] at h
        | some ks =>
          simp only [hks] at h
          by_cases hc : (P.stoodInHeld t || P.eqGuardType P.depth t) = true
          · simp [hc, eqD] at h
          · simp only [Bool.or_eq_true, not_or, Bool.not_eq_true] at hc
            exact hc.2
  · refine eqGuard_plain (fun a b hab => ?_) (fun hab => ?_) op xo yo
    · obtain ⟨rfl, rfl⟩ := hab
      generalize eqC P t = c at h
      cases hx <;> cases hy <;> first
        | exact absurd ⟨_, _, rfl, rfl⟩ hg
        | (exfalso; cases c <;> simp [eqD] at h; done)
    · obtain ⟨rfl, rfl⟩ := hab
      generalize eqC P t = c at h
      cases hx <;> cases hy <;> (exfalso; cases c <;> simp [eqD] at h; done)

theorem arithD_sound {op : BinOp} {t : TypeId} {x y d : D} {vx vy : Value} (hx : R ρ W x vx) (hy : R ρ W y vy) (h : arithD op (eqC P t) x y = some d) (xo yo : Operand) :
    ∃ v, (do eqGuard op t xo yo vx vy; binOp op t vx vy : Sem Value).run P W = .ok v W ∧ R ρ W d v := by
  unfold arithD at h
  split at h
  · cases hx; cases hy
    split at h
    · cases h
    · rename_i hb
      cases h
      exact ⟨_, by rw [Sem.run_bind, eqGuard_plain (by simp) (by simp), Result.andThen_ok]; simp [binOp, Op.shift, hb], .int _ _⟩
  · cases hx; cases hy
    split at h
    · cases h
    · rename_i hb
      cases h
      exact ⟨_, by rw [Sem.run_bind, eqGuard_plain (by simp) (by simp), Result.andThen_ok]; simp [binOp, Op.shift, hb], .int _ _⟩
  · rename_i op k a k' b h1 h2
    cases hx; cases hy
    split at h
    · rename_i hk
      subst hk
      obtain ⟨v, hv, hr⟩ := intArith_sound (ρ := ρ) (W := W) (P := P) ⟨fun e => h1 e, fun e => h2 e⟩ h t
      exact ⟨v, by rw [Sem.run_bind, eqGuard_plain (by simp) (by simp), Result.andThen_ok]; exact hv, hr⟩
    · cases h
  · cases hx; cases hy
    obtain ⟨v, hv, hr⟩ := strArith_sound (ρ := ρ) (W := W) (P := P) h t
    exact ⟨v, by rw [Sem.run_bind, eqGuard_plain (by simp) (by simp), Result.andThen_ok]; exact hv, hr⟩
  · obtain ⟨b, hb, rfl⟩ := Option.map_eq_some_iff.1 h
    refine ⟨.bool b, ?_, .bool b⟩
    rw [Sem.run_bind, eqGuard_ok hx hy hb, Result.andThen_ok]
    have he := eqD_sound (P := P) hx hy hb
    generalize eqC P t = c at hb
    cases hx <;> cases hy <;> first
      | (simp [binOp, he]; done)
      | (exfalso; cases c <;> simp [eqD] at hb)
  · obtain ⟨b, hb, rfl⟩ := Option.map_eq_some_iff.1 h
    refine ⟨.bool (!b), ?_, .bool _⟩
    rw [Sem.run_bind, eqGuard_ok hx hy hb, Result.andThen_ok]
    have he := eqD_sound (P := P) hx hy hb
    generalize eqC P t = c at hb
    cases hx <;> cases hy <;> first
      | (simp [binOp, he]; done)
      | (exfalso; cases c <;> simp [eqD] at hb)
  · cases h

end
end Go.AI

namespace Go.AI
open Go

section
variable {P : Program} {ρ : Ren} {W : World} {σ : St}

/-- Cells that are told by abstract ones. -/
def CellsR (ρ : Ren) (W : World) (ds : List D) (vs : Array Value) : Prop := vs.size = ds.length ∧ ∀ j d, ds[j]? = some d → R ρ W d (vs.getD j undef)

theorem foldl_set (off : Nat) : ∀ (l : List Value) (n : Nat) (cs : Array Value), off + n + l.length ≤ cs.size →
    ((l.zipIdx n).foldl (fun cs (c : Value × Nat) => cs.setIfInBounds (off + c.2) c.1) cs).size = cs.size ∧
    ∀ j, ((l.zipIdx n).foldl (fun cs (c : Value × Nat) => cs.setIfInBounds (off + c.2) c.1) cs).getD j undef =
      if off + n ≤ j ∧ j < off + n + l.length then l.getD (j - (off + n)) undef else cs.getD j undef
  | [], n, cs, _ => ⟨rfl, fun j => by simp; omega⟩
  | x :: l, n, cs, h => by
    simp only [List.zipIdx_cons, List.foldl_cons]
    have hl : (x :: l).length = l.length + 1 := rfl
    obtain ⟨h1, h2⟩ := foldl_set off l (n + 1) (cs.setIfInBounds (off + n) x) (by simp only [Array.size_setIfInBounds]; omega)
    refine ⟨by rw [h1]; simp, fun j => ?_⟩
    rw [h2]
    by_cases hj : off + (n + 1) ≤ j ∧ j < off + (n + 1) + l.length
    · rw [if_pos hj, if_pos (by omega)]
      have : j - (off + n) = (j - (off + (n + 1))) + 1 := by omega
      rw [this]; rfl
    · rw [if_neg hj]
      by_cases hj2 : j = off + n
      · subst hj2
        rw [if_pos (by omega)]
        have : off + n < cs.size := by omega
        simp [Array.getD_eq_getD_getElem?, this]
      · rw [if_neg (by omega)]
        simp [Array.getD_eq_getD_getElem?, Ne.symm hj2]

/-- Parts, side by side. -/
def PartsR (ρ : Ren) (W : World) (place : Nat → Option (Nat × Nat)) : List (Nat × Value) → List (Nat × Nat × D) → Prop
  | [], [] => True
  | (i, v) :: l, (off, size, d) :: m => place i = some (off, size) ∧ R ρ W d v ∧ PartsR ρ W place l m
  | _, _ => False

theorem fill_sound (place : Nat → Option (Nat × Nat)) : ∀ (l : List (Nat × Value)) (m : List (Nat × Nat × D)) (ds ds' : List D) (cs : Array Value),
    PartsR ρ W place l m → CellsR ρ W ds cs → fillD ds m = some ds' → ∃ cs', Instr.fill place cs l = some cs' ∧ CellsR ρ W ds' cs'
  | [], [], ds, ds', cs, _, hc, h => by cases h; exact ⟨cs, rfl, hc⟩
  | [], _ :: _, _, _, _, hp, _, _ => hp.elim
  | _ :: _, [], _, _, _, hp, _, _ => hp.elim
  | (i, v) :: l, (off, size, d) :: m, ds, ds', cs, hp, hc, h => by
    obtain ⟨h1, h2, h3⟩ := hp
    simp only [fillD] at h
    split at h
    · rename_i hsz
      split at h
      · rename_i ds1 hput
        obtain ⟨hl, hone, rfl, hlen⟩ := putCells_some hput
        obtain ⟨hvs, hvr⟩ := h2.cells hone
        have hsz' : v.cells.size = size := by rw [hvs, hsz]
        have hfit : off + v.cells.size ≤ cs.size := by rw [hvs, hc.1]; exact hl
        have hfold := foldl_set off v.cells.toList 0 cs (by simpa using hfit)
        have hz : v.cells.zipIdx.foldl (fun cs (c : Value × Nat) => cs.setIfInBounds (off + c.2) c.1) cs = (v.cells.toList.zipIdx 0).foldl (fun cs (c : Value × Nat) => cs.setIfInBounds (off + c.2) c.1) cs := by
          rw [← Array.foldl_toList]; simp
        rw [← hz] at hfold
        simp only [Nat.add_zero, Array.length_toList] at hfold
        generalize hg : v.cells.zipIdx.foldl (fun cs (c : Value × Nat) => cs.setIfInBounds (off + c.2) c.1) cs = cs1 at hfold
        have hc1 : CellsR ρ W (ds.take off ++ d.cells ++ ds.drop (off + d.cells.length)) cs1 := by
          refine ⟨by rw [hfold.1, hc.1, hlen], fun j e he => ?_⟩
          rw [hfold.2 j]
          rw [getElem?_put _ _ _ hl] at he
          by_cases hj : j < off
          · rw [if_pos hj] at he; rw [if_neg (by omega)]; exact hc.2 j e he
          · rw [if_neg hj] at he
            by_cases hj2 : j < off + d.cells.length
            · rw [if_pos hj2] at he
              rw [if_pos (by omega)]
              have := (hvr _ e he).1
              simpa [Array.getD_eq_getD_getElem?, List.getD_eq_getElem?_getD] using this
            · rw [if_neg hj2] at he; rw [if_neg (by omega)]; exact hc.2 j e he
        obtain ⟨cs', hcs', hr'⟩ := fill_sound place l m _ ds' cs1 h3 hc1 h
        refine ⟨cs', ?_, hr'⟩
        simp only [Instr.fill, h1]
        rw [if_neg (by simp [hsz']; omega)]
        have hg' : Array.foldl (fun cs (x : Value × Nat) => match x with | (c, j) => cs.setIfInBounds (off + j) c) cs v.cells.zipIdx = cs1 := hg
        rw [hg']
        exact hcs'
      · cases h
    · cases h

/-- A part of a struct or an array. -/
theorem part_sound {t : TypeId} {agg : Bool} {off size : Nat} (ha : aggT P t = some agg) (hs : sizeT P t = some size) {cs : List D} {vs : Array Value} (hc : CellsR ρ W cs vs)
    (hl : off + size ≤ cs.length) {d : D} (h : cutCells agg size (cs.drop off) = some d) : ∃ v, (part t vs off).run P W = .ok v W ∧ R ρ W d v := by
  unfold cutCells at h
  cases agg with
  | true =>
    simp only [if_true] at h
    split at h
    · cases h
      refine ⟨.agg (vs.extract off (off + size)), by simp [part, run_isAgg ha, run_size hs], .agg ?_ fun j e he => ?_⟩
      · have := hc.1; simp; omega
      · have hj : j < size := by
          have := (List.getElem?_eq_some_iff.1 he).1
          simp at this; omega
        rw [List.getElem?_take_of_lt hj, List.getElem?_drop] at he
        have := hc.2 _ e he
        have e1 : (vs.extract off (off + size)).getD j undef = vs.getD (off + j) undef := by
          have h2 := hc.1
          simp only [Array.getD_eq_getD_getElem?]
          have h3 : off + j < vs.size := by omega
          rw [Array.getElem?_extract_of_lt (by omega), Array.getElem?_eq_getElem h3]
        rw [e1]; exact this
    · cases h
  | false =>
    simp only [Bool.false_eq_true, if_false] at h
    split at h
    · rename_i h1
      subst h1
      have hlt : off < vs.size := by rw [hc.1]; omega
      rw [List.head?_drop] at h
      have := hc.2 _ d h
      refine ⟨vs[off], by simp [part, run_isAgg ha, hlt], ?_⟩
      simpa [Array.getD_eq_getD_getElem?, hlt] using this
    · cases h

theorem agg_cells {cs : List D} {v : Value} (h : R ρ W (.agg cs) v) : ∃ vs, v = .agg vs ∧ CellsR ρ W cs vs := by
  cases h with
  | agg hs hr => exact ⟨_, rfl, hs, hr⟩

/-- An optional operand. -/
def OptR (ρ : Ren) (W : World) : Option D → Option Value → Prop
  | none, none => True
  | some d, some v => R ρ W d v
  | _, _ => False

theorem bound_sound {n dflt : Nat} {d : Option D} {m : Nat} (h : bound n dflt d = some m) {v : Option Value} (hv : OptR ρ W d v) {N : Nat} (hN : n ≤ N) :
    (d = none ∧ v = none ∧ m = dflt) ∨ (∃ x, v = some x ∧ m ≤ n ∧ ∀ code w, (Instr.sliceBound x N code).run P w = .ok m w) := by
  cases d with
  | none =>
    cases v with
    | none => simp only [bound, Option.some.injEq] at h; exact .inl ⟨rfl, rfl, h.symm⟩
    | some v => exact hv.elim
  | some d =>
    cases v with
    | none => exact hv.elim
    | some v =>
      simp only [OptR] at hv
      cases hv <;> simp only [bound] at h <;> try (cases h; done)
      split at h
      · rename_i hc
        cases h
        rename_i k i
        refine .inr ⟨_, rfl, by omega, fun code w => ?_⟩
        have hc2 : 0 ≤ i ∧ i ≤ (N : Int) := ⟨hc.1, by have := hc.2; omega⟩
        simp [Instr.sliceBound, asIntOf, hc2]
      · cases h

theorem bounds_sound {len cap : Nat} {lo hi : Option D} {b h : Nat} {vlo vhi : Option Value} (h1 : bound len len hi = some h) (h2 : bound h 0 lo = some b) (hlo : OptR ρ W lo vlo) (hhi : OptR ρ W hi vhi)
    (hcap : len ≤ cap) (isSlice : Bool) (w : World) : (Instr.sliceBounds isSlice len cap vlo vhi none).run P w = .ok (b, h, cap) w ∧ b ≤ h ∧ h ≤ len := by
  rcases bound_sound (P := P) h1 hhi hcap with ⟨rfl, rfl, rfl⟩ | ⟨x, rfl, hl, hx⟩
  · rcases bound_sound (P := P) h2 hlo (Nat.le_refl _) with ⟨rfl, rfl, rfl⟩ | ⟨y, rfl, hl2, hy⟩
    · exact ⟨by simp [Instr.sliceBounds], by omega, Nat.le_refl _⟩
    · exact ⟨by simp [Instr.sliceBounds, hy], hl2, Nat.le_refl _⟩
  · rcases bound_sound (P := P) h2 hlo (Nat.le_refl _) with ⟨rfl, rfl, rfl⟩ | ⟨y, rfl, hl2, hy⟩
    · exact ⟨by simp [Instr.sliceBounds, hx], by omega, hl⟩
    · exact ⟨by simp [Instr.sliceBounds, hx, hy], hl2, hl⟩

end
end Go.AI

namespace Go.AI
open Go

section
variable {P : Program} {ρ : Ren} {W : World} {σ : St}

theorem size_data (s : ByteArray) : s.data.toList.length = s.size := by
  show s.data.toList.length = s.data.size
  simp

theorem sliceStr_sound {t : TypeId} (ht : P.underlying t = some .string) {s : ByteArray} {lo hi : Option D} {b h : Nat} {vlo vhi : Option Value}
    (h1 : bound s.data.toList.length s.data.toList.length hi = some h) (h2 : bound h 0 lo = some b) (hlo : OptR ρ W lo vlo) (hhi : OptR ρ W hi vhi) :
    ∃ v, (Instr.sliceAt t (.string s) vlo vhi none).run P W = .ok v W ∧ R ρ W (.str ((s.data.toList.take h).drop b)) v := by
  rw [size_data] at h1
  obtain ⟨hb, hle, hle2⟩ := bounds_sound (P := P) h1 h2 hlo hhi (Nat.le_refl _) false W
  refine ⟨.string (s.extract b h), ?_, ?_⟩
  · simp [Instr.sliceAt, Instr.slice, run_underlying ht, hb]
  · have : (s.extract b h).data.toList = (s.data.toList.take h).drop b := by
      simp [ByteArray.data_extract, List.drop_take]
    rw [← this]
    exact .str _

theorem getElem?_dt {α : Type} (l : List α) (h b j : Nat) : ((l.take h).drop b)[j]? = if b + j < h then l[b + j]? else none := by
  rw [List.getElem?_drop, List.getElem?_take]

theorem sliceTree_sound {t e : TypeId} {sz : Nat} (ht : P.underlying t = some (.slice e)) (hs : sizeT P e = some sz) {es : List D} {vx : Value} (hx : R ρ W (.slice es) vx)
    (hall : (es.all fun e => e.cells.length == sz) = true) {lo hi : Option D} {b h : Nat} {vlo vhi : Option Value}
    (h1 : bound es.length es.length hi = some h) (h2 : bound h 0 lo = some b) (hlo : OptR ρ W lo vlo) (hhi : OptR ρ W hi vhi) :
    ∃ v, (Instr.sliceAt t vx vlo vhi none).run P W = .ok v W ∧ R ρ W (.slice ((es.take h).drop b)) v := by
  cases hx with
  | slice0 a c =>
    obtain ⟨hb, hle, hle2⟩ := bounds_sound (P := P) (cap := c) h1 h2 hlo hhi (by simp) true W
    simp only [List.length_nil, Nat.le_zero_eq] at hle2
    subst hle2
    obtain rfl : b = 0 := by omega
    simp only [List.length_nil] at hb
    exact ⟨.slice (if c = 0 then a else a.map (·.add (0 * sz))) 0 c, by simp [Instr.sliceAt, Instr.slice, run_underlying ht, hb, run_size hs], by simpa using R.slice0 _ _⟩
  | slice hf hn hcap hsz hc hr =>
    rename_i bk off n c sz' f
    subst hn
    obtain ⟨hb, hle, hle2⟩ := bounds_sound (P := P) h1 h2 hlo hhi hcap true W
    refine ⟨.slice (if c = b then some ⟨bk, off, none⟩ else some ((⟨bk, off, none⟩ : Addr).add (b * sz))) (h - b) (c - b), by simp [Instr.sliceAt, Instr.slice, run_underlying ht, hb, run_size hs], ?_⟩
    by_cases hem : (es.take h).drop b = []
    · rw [hem]
      have : h - b = 0 := by
        have := congrArg List.length hem
        simp at this; omega
      rw [this]
      exact .slice0 _ _
    · have hlt : b < h := by
        rcases Nat.lt_or_ge b h with h' | h'
        · exact h'
        · exact absurd (List.eq_nil_of_length_eq_zero (by simp; omega)) hem
      rw [if_neg (by omega), add_none]
      have hsz1 : ∀ (i : Nat) (e : D), es[i]? = some e → e.cells.length = sz := fun i e he => by
        have := List.all_eq_true.1 hall e (List.mem_of_getElem? he)
        simpa using this
      have hsz2 : sz' = sz := by
        have h0 : b < es.length := by omega
        rw [← hsz b _ (List.getElem?_eq_getElem h0), ← hsz1 b _ (List.getElem?_eq_getElem h0)]
      subst hsz2
      refine .slice (sz := sz') (f := fun i j => f (b + i) j) hf (by simp; omega) (by omega) (fun i e he => ?_) (fun i j e d he hd => ?_) (fun i j e d he hd => ?_)
      · rw [getElem?_dt] at he
        split at he
        · exact hsz _ e he
        · cases he
      · rw [getElem?_dt] at he
        split at he
        · have := hc _ j e d he hd
          rw [show off + b * sz' + (i * sz' + j) = off + ((b + i) * sz' + j) by rw [Nat.add_mul]; omega]
          exact this
        · cases he
      · rw [getElem?_dt] at he
        split at he
        · exact hr _ j e d he hd
        · cases he

theorem sliceArr_sound {t e : TypeId} {sz : Nat} (ht : P.underlying t = some (.slice e)) (hs : sizeT P e = some sz) {i ver off n : Nat} {vx : Value} (hx : R ρ W (.arr i ver off n) vx)
    (hsz : ∀ p, ρ.loc i ver = some p → p.sz = sz) {lo hi : Option D} {b h : Nat} {vlo vhi : Option Value}
    (h1 : bound n n hi = some h) (h2 : bound h 0 lo = some b) (hlo : OptR ρ W lo vlo) (hhi : OptR ρ W hi vhi) :
    ∃ v, (Instr.sliceAt t vx vlo vhi none).run P W = .ok v W ∧ R ρ W (if b = h then .slice [] else .arr i ver (off + b) (h - b)) v := by
  cases hx with
  | arr0 =>
    obtain ⟨hb, hle, hle2⟩ := bounds_sound (P := P) (cap := 0) h1 h2 hlo hhi (Nat.le_refl _) true W
    obtain rfl : h = 0 := by omega
    obtain rfl : b = 0 := by omega
    exact ⟨.slice none 0 0, by simp [Instr.sliceAt, Instr.slice, run_underlying ht, hb, run_size hs], by simpa using R.slice0 _ _⟩
  | arr hp hn hc =>
    rename_i c p
    obtain ⟨hb, hle, hle2⟩ := bounds_sound (P := P) h1 h2 hlo hhi hn true W
    refine ⟨.slice (if c = b then some ⟨p.blk, off * p.sz, none⟩ else some ((⟨p.blk, off * p.sz, none⟩ : Addr).add (b * sz))) (h - b) (c - b), by simp [Instr.sliceAt, Instr.slice, run_underlying ht, hb, run_size hs], ?_⟩
    by_cases hbh : b = h
    · rw [if_pos hbh]
      subst hbh
      rw [Nat.sub_self]
      exact .slice0 _ _
    · rw [if_neg hbh, if_neg (by omega), add_none, ← hsz p hp, ← Nat.add_mul]
      exact .arr hp (by omega) (by omega)

theorem RowR.sz {i sz : Nat} {es : List D} {since ver : Nat} {p : Pl} (h : RowR ρ W i sz es since) (h1 : since ≤ ver) (h2 : ver ≤ es.length) (hp : ρ.loc i ver = some p) : p.sz = sz := by
  obtain ⟨_, _, _, hv⟩ := h
  rcases hv ver h1 h2 with ⟨rfl, hn⟩ | ⟨q, c, ty, hq, hs, _⟩
  · rw [hp] at hn; cases hn
  · rw [hp] at hq; cases hq; exact hs

theorem asInt_run (k : IntKind) (n : Int) (w : World) : (asIntOf (.int k n)).run P w = .ok (k, n) w := rfl

theorem indexTree_sound {t e : TypeId} {sz : Nat} (ht : P.underlying t = some (.slice e)) (hs : sizeT P e = some sz) {es : List D} {vx : Value} (hx : R ρ W (.slice es) vx)
    {k : IntKind} {n : Int} (h0 : 0 ≤ n) (h1 : n < es.length) {e1 : D} (he : es[n.toNat]? = some e1) (hsz : e1.cells.length = sz) :
    ∃ v, (Instr.indexAt t vx (.int k n)).run P W = .ok v W ∧ R ρ W (.tptr e1.cells) v := by
  cases hx with
  | slice0 a c => simp at h1; omega
  | slice hf hn hcap hsz' hc hr =>
    rename_i b off m c sz' f
    have e2 : sz' = sz := by rw [← hsz' _ _ he, hsz]
    subst e2
    subst hn
    refine ⟨.pointer (some ⟨b, off + n.toNat * sz', none⟩), by simp [Instr.indexAt, asInt_run, run_underlying ht, run_size hs, h0, h1, add_none], ?_⟩
    refine .tptr (f := fun j => f n.toNat j) hf (fun j hj => ?_) fun j d hd => hr _ j _ d he hd
    have := hc n.toNat j e1 _ he (List.getElem?_eq_getElem hj)
    rw [Nat.add_assoc]; exact this

theorem indexArr_sound {t e : TypeId} {sz : Nat} (ht : P.underlying t = some (.slice e)) (hs : sizeT P e = some sz) {i ver off m : Nat} {vx : Value} (hx : R ρ W (.arr i ver off m) vx)
    (hsz : ∀ p, ρ.loc i ver = some p → p.sz = sz) {k : IntKind} {n : Int} (h0 : 0 ≤ n) (h1 : n < m) :
    ∃ v, (Instr.indexAt t vx (.int k n)).run P W = .ok v W ∧ R ρ W (.rptr i ver (off + n.toNat) 0) v := by
  cases hx with
  | arr0 => omega
  | arr hp hn hc =>
    rename_i c p
    refine ⟨.pointer (some ⟨p.blk, (off + n.toNat) * p.sz + 0, none⟩), ?_, .rptr hp⟩
    rw [hsz p hp, Nat.add_mul, Nat.add_zero]
    simp [Instr.indexAt, asInt_run, run_underlying ht, run_size hs, h0, h1, add_none]

/-- A pointer goes on to a place behind. -/
theorem drop_tptr {cs : List D} {b off : Nat} {f : Nat → Value} (hf : ρ.fix b)
    (hc : ∀ j, j < cs.length → W.cell? ⟨b, off + j, none⟩ = some (f j)) (hr : ∀ j d, cs[j]? = some d → R ρ W d (f j)) (m : Nat) :
    R ρ W (.tptr (cs.drop m)) (.pointer (some ⟨b, off + m, none⟩)) := by
  refine .tptr (f := fun j => f (m + j)) hf (fun j hj => ?_) fun j d hd => ?_
  · rw [Nat.add_assoc]; exact hc _ (by simp at hj; omega)
  · rw [List.getElem?_drop] at hd; exact hr _ d hd

theorem fieldAt_run {t : TypeId} {fs : Array Field} {i : Nat} {f : Field} {sz : Nat} (ht : P.underlying t = some (.struct fs)) (hf : fs[i]? = some f) (hs : sizeT P f.type = some sz) (hz : sz ≠ 0)
    (b off : Nat) : (Instr.fieldAt t (.pointer (some ⟨b, off, none⟩)) i).run P W = .ok (.pointer (some ⟨b, off + f.offset, none⟩)) W := by
  simp [Instr.fieldAt, run_underlying ht, hf, Instr.sureAddr, fieldPlace, run_size hs, hz, add_none]

theorem indexAtA_run {t e : TypeId} {len sz : Nat} (ht : P.underlying t = some (.array len e)) (hs : sizeT P e = some sz) {k : IntKind} {n : Int} (h0 : 0 ≤ n) (h1 : n < len)
    (b off : Nat) : (Instr.indexAt t (.pointer (some ⟨b, off, none⟩)) (.int k n)).run P W = .ok (.pointer (some ⟨b, off + n.toNat * sz, none⟩)) W := by
  simp [Instr.indexAt, asInt_run, run_underlying ht, run_size hs, h0, h1, add_none, Instr.sureAddr]

theorem indexStr_sound {t : TypeId} (ht : P.underlying t = some .string) {s : ByteArray} {k : IntKind} {n : Int} (h0 : 0 ≤ n) (h1 : n < s.data.toList.length) {b : UInt8}
    (hb : s.data.toList[n.toNat]? = some b) : (Instr.index t (.string s) (.int k n)).run P W = .ok (.int .u8 b.toNat) W := by
  have : s[n.toNat]? = some b := by
    have hlt : n.toNat < s.size := by rw [size_data] at h1; omega
    rw [getElem?_pos s n.toNat hlt]
    have h2 : n.toNat < s.data.toList.length := by omega
    rw [List.getElem?_eq_getElem h2] at hb
    simp only [Option.some.injEq] at hb
    rw [← hb]
    rfl
  simp [Instr.index, asInt_run, run_underlying ht, h0, this]

theorem sameNow_kind {u : TypeDesc} {t : TypeId} {kc : Nat} (hu : P.underlying t = some u) (hk : scalarK P t = some kc) {x y : D} {vx vy : Value} (hx : R ρ W x vx) (hy : R ρ W y vy) {b : Bool}
    (h : D.kindEq kc x y = some b) : Instr.sameNow u vx vy = some b := by
  unfold scalarK at hk
  rw [hu] at hk
  cases u <;> simp only [Option.some.injEq, reduceCtorEq] at hk <;> subst hk <;> cases hx <;> simp only [D.kindEq] at h <;> try (cases h; done)
  all_goals (cases hy <;> simp only at h <;> try (cases h; done))
  · cases h; rfl
  · split at h
    · rename_i hjk; subst hjk; cases h; simp [Instr.sameNow]
    · cases h
  · cases h
    simp [Instr.sameNow, bytes_beq]

/-- Entries of a map. -/
def EntsR (ρ : Ren) (W : World) : List (D × D) → List MapEntry → Prop
  | [], [] => True
  | (k, v) :: l, e :: m => R ρ W k e.key ∧ R ρ W v e.val ∧ EntsR ρ W l m
  | _, _ => False

theorem entsR_of : ∀ {l : List (D × D)} {m : List MapEntry}, m.length = l.length → (∀ (j : Nat) (k v : D), l[j]? = some (k, v) → ∃ e : MapEntry, m[j]? = some e ∧ R ρ W k e.key ∧ R ρ W v e.val) → EntsR ρ W l m
  | [], [], _, _ => trivial
  | [], _ :: _, h, _ => by simp at h
  | _ :: _, [], h, _ => by simp at h
  | (k, v) :: l, e :: m, h, hr => by
    obtain ⟨e', he, h1, h2⟩ := hr 0 k v rfl
    cases he
    exact ⟨h1, h2, entsR_of (by simpa using h) fun j k v hj => hr (j + 1) k v (by simpa using hj)⟩

theorem entsR_to : ∀ {l : List (D × D)} {m : List MapEntry}, EntsR ρ W l m → m.length = l.length ∧ ∀ (j : Nat) (k v : D), l[j]? = some (k, v) → ∃ e : MapEntry, m[j]? = some e ∧ R ρ W k e.key ∧ R ρ W v e.val
  | [], [], _ => ⟨rfl, fun j k v h => by simp at h⟩
  | [], _ :: _, h => h.elim
  | _ :: _, [], h => h.elim
  | (k, v) :: l, e :: m, ⟨h1, h2, h3⟩ => by
    obtain ⟨a, b⟩ := entsR_to h3
    refine ⟨by simp [a], fun j k' v' hj => ?_⟩
    cases j with
    | zero => simp at hj; obtain ⟨rfl, rfl⟩ := hj; exact ⟨e, rfl, h1, h2⟩
    | succ j => exact b j k' v' (by simpa using hj)

/-- What a map holds under a key, and what was found. -/
def FoundR (ρ : Ren) (W : World) : Option D → Option (Nat × Value) → Prop
  | none, none => True
  | some d, some (_, v) => R ρ W d v
  | _, _ => False

theorem find_sound {u : TypeDesc} {t : TypeId} {kc : Nat} (hu : P.underlying t = some u) (hk : scalarK P t = some kc) {x : D} {vx : Value} (hx : R ρ W x vx) :
    ∀ {l : List (D × D)} {m : List MapEntry} {r : Option D} (i : Nat), EntsR ρ W l m → mapFind kc x l = some r →
      ∃ o, Instr.findNow u vx m i = some o ∧ FoundR ρ W r o
  | [], [], r, i, _, h => by cases h; exact ⟨none, rfl, trivial⟩
  | [], _ :: _, _, _, h, _ => h.elim
  | _ :: _, [], _, _, h, _ => h.elim
  | (k, v) :: l, e :: m, r, i, ⟨h1, h2, h3⟩, h => by
    simp only [mapFind] at h
    split at h
    · rename_i hk'
      cases h
      refine ⟨some (i, e.val), ?_, h2⟩
      simp [Instr.findNow, sameNow_kind hu hk hx h1 hk']
    · rename_i hk'
      obtain ⟨o, ho, hr⟩ := find_sound hu hk hx (i + 1) h3 h
      exact ⟨o, by simp [Instr.findNow, sameNow_kind hu hk hx h1 hk', ho], hr⟩
    · cases h

theorem checkKey_run {t : TypeId} {kc : Nat} (hk : scalarK P t = some kc) (b : Bool) (v : Value) (w : World) : (Instr.checkKey b 10000 t v).run P w = .ok () w := by
  unfold scalarK at hk
  cases hd : P.underlying t with
  | none => simp [hd] at hk
  | some u =>
    rw [hd] at hk
    show (Instr.checkKey b (9999 + 1) t v).run P w = .ok () w
    unfold Instr.checkKey
    rw [Sem.run_bind, run_underlying hd, Result.andThen_ok]
    cases u <;> first | (simp at hk; done) | rfl

end
end Go.AI

namespace Go.AI
open Go

section
variable {P : Program} {ρ : Ren} {W : World} {σ : St}

/-- The cells of a row's elements. -/
def RC (ρ : Ren) (W : World) (sz : Nat) (es : List D) (cs : Array Value) : Prop :=
  cs.size = es.length * sz ∧ (∀ (k : Nat) (e : D), es[k]? = some e → e.cells.length = sz) ∧
  ∀ (idx : Nat) (e : D) (j : Nat) (d : D), es[idx]? = some e → e.cells[j]? = some d → R ρ W d (cs.getD (idx * sz + j) undef)

theorem RC.later {ρ' : Ren} {W' : World} (L : Later ρ W ρ' W') {sz : Nat} {es : List D} {cs : Array Value} (h : RC ρ W sz es cs) : RC ρ' W' sz es cs :=
  ⟨h.1, h.2.1, fun idx e j d he hd => (h.2.2 idx e j d he hd).later L⟩

theorem R.undef_irrel {d : D} {a b : Value} (h : a = b) (r : R ρ W d a) : R ρ W d b := h ▸ r

/-- Zero elements. -/
theorem RC.zeros {z : D} {zv : Value} (hz : R ρ W z zv) (ho : z.cells.all D.one = true) {sz : Nat} (hs : z.cells.length = sz) (n : Nat) :
    RC ρ W sz (List.replicate n z) ((Array.range (n * sz)).map (fun i => zv.cells[i % zv.cells.size]!)) := by
  obtain ⟨h1, h2⟩ := hz.cells ho
  have hsz : zv.cells.size = sz := by rw [h1, hs]
  refine ⟨by simp, fun k e he => ?_, fun idx e j d he hd => ?_⟩
  · obtain rfl := List.eq_of_mem_replicate (List.mem_of_getElem? he)
    exact hs
  · obtain rfl := List.eq_of_mem_replicate (List.mem_of_getElem? he)
    have hj : j < sz := by rw [← hs]; exact (List.getElem?_eq_some_iff.1 hd).1
    have hi : idx < n := by have := (List.getElem?_eq_some_iff.1 he).1; simpa using this
    have hlt : idx * sz + j < n * sz := mul_lt hi hj
    have hmod : (idx * sz + j) % sz = j := by rw [Nat.mul_comm, Nat.mul_add_mod]; exact Nat.mod_eq_of_lt hj
    have hjz : j < zv.cells.size := by omega
    refine R.undef_irrel ?_ (h2 j d hd).1
    simp [Array.getD_eq_getD_getElem?, hlt, hsz, hmod]
    rw [getElem!_pos zv.cells j hjz, Array.getElem?_eq_getElem hjz]
    rfl

/-- Elements laid into a row. -/
theorem fillRow_sound (sz : Nat) : ∀ (l : List (Nat × Value)) (m : List (Nat × D)) (es es' : List D) (cs : Array Value),
    (l.length = m.length ∧ ∀ (j : Nat) (i : Nat) (d : D), m[j]? = some (i, d) → ∃ v, l[j]? = some (i, v) ∧ R ρ W d v) → RC ρ W sz es cs → fillRow sz es m = some es' →
    ∃ cs', Instr.fill (fun i => some (i * sz, sz)) cs l = some cs' ∧ RC ρ W sz es' cs' ∧ es'.length = es.length
  | [], [], es, es', cs, _, hc, h => by cases h; exact ⟨cs, rfl, hc, rfl⟩
  | [], _ :: _, _, _, _, hp, _, _ => by simp at hp
  | _ :: _, [], _, _, _, hp, _, _ => by simp at hp
  | (i, v) :: l, (i', d) :: m, es, es', cs, ⟨hp1, hp2⟩, hc, h => by
    obtain ⟨v', hv', hr⟩ := hp2 0 i' d rfl
    simp only [List.getElem?_cons_zero, Option.some.injEq, Prod.mk.injEq] at hv'
    obtain ⟨rfl, rfl⟩ := hv'
    simp only [fillRow] at h
    split at h
    · rename_i hcond
      obtain ⟨hdl, hi, hone⟩ := hcond
      obtain ⟨hvs, hvr⟩ := hr.cells hone
      have hsz' : v.cells.size = sz := by rw [hvs, hdl]
      have hfit : i * sz + v.cells.size ≤ cs.size := by
        rw [hc.1, hsz']
        have : (i + 1) * sz ≤ es.length * sz := Nat.mul_le_mul_right sz hi
        rwa [Nat.succ_mul] at this
      have hfold := foldl_set (i * sz) v.cells.toList 0 cs (by simpa using hfit)
      have hz : v.cells.zipIdx.foldl (fun cs (c : Value × Nat) => cs.setIfInBounds (i * sz + c.2) c.1) cs = (v.cells.toList.zipIdx 0).foldl (fun cs (c : Value × Nat) => cs.setIfInBounds (i * sz + c.2) c.1) cs := by
        rw [← Array.foldl_toList]; simp
      rw [← hz] at hfold
      simp only [Nat.add_zero, Array.length_toList] at hfold
      generalize hg : v.cells.zipIdx.foldl (fun cs (c : Value × Nat) => cs.setIfInBounds (i * sz + c.2) c.1) cs = cs1 at hfold
      have hc1 : RC ρ W sz (es.set i d) cs1 := by
        refine ⟨by rw [hfold.1, hc.1, List.length_set], fun k e he => ?_, fun idx e j x he hx => ?_⟩
        · rw [List.getElem?_set] at he
          by_cases hik : i = k
          · rw [if_pos hik, if_pos hi] at he; cases he; exact hdl
          · rw [if_neg hik] at he; exact hc.2.1 k e he
        · rw [hfold.2]
          rw [List.getElem?_set] at he
          by_cases hik : i = idx
          · subst hik
            rw [if_pos rfl, if_pos hi] at he
            cases he
            have hj : j < sz := by rw [← hdl]; exact (List.getElem?_eq_some_iff.1 hx).1
            rw [if_pos (by omega)]
            refine R.undef_irrel ?_ (hvr j x hx).1
            have : i * sz + j - i * sz = j := by omega
            rw [this]
            simp [Array.getD_eq_getD_getElem?, List.getD_eq_getElem?_getD]
          · rw [if_neg hik] at he
            have hj : j < sz := by rw [← hc.2.1 idx e he]; exact (List.getElem?_eq_some_iff.1 hx).1
            have hne : idx * sz + j < i * sz ∨ i * sz + sz ≤ idx * sz + j := by
              rcases Nat.lt_or_gt_of_ne hik with hlt | hgt
              · right
                have : (i + 1) * sz ≤ idx * sz := Nat.mul_le_mul_right sz hlt
                rw [Nat.succ_mul] at this; omega
              · left
                have : (idx + 1) * sz ≤ i * sz := Nat.mul_le_mul_right sz hgt
                rw [Nat.succ_mul] at this; omega
            rw [if_neg (by omega)]
            exact hc.2.2 idx e j x he hx
      obtain ⟨cs', hcs', hr', hl'⟩ := fillRow_sound sz l m (es.set i d) es' cs1 ⟨by simpa using hp1, fun j k x hj => hp2 (j + 1) k x (by simpa using hj)⟩ hc1 h
      refine ⟨cs', ?_, hr', by rw [hl', List.length_set]⟩
      simp only [Instr.fill]
      rw [if_neg (by simp [hsz']; omega)]
      have hg' : Array.foldl (fun cs (x : Value × Nat) => match x with | (c, j) => cs.setIfInBounds (i * sz + j) c) cs v.cells.zipIdx = cs1 := hg
      rw [hg']
      exact hcs'
    · cases h

/-- A new block that holds elements: told as a tree. -/
theorem newTree_sound (hR : Rel ρ W σ) (t : TypeId) {sz : Nat} {es : List D} {cs : Array Value} (hc : RC ρ W sz es cs) (w0 : World) (hw : w0 = W.alloc (.cells cs t)) :
    ∃ ρ', Later ρ W ρ' w0 ∧ Rel ρ' w0 σ ∧ R ρ' w0 (.slice es) (.slice (some ⟨W.heap.size, 0, none⟩) es.length es.length) := by
  subst hw
  obtain ⟨L, hR'⟩ := hR.tree (.cells cs t)
  refine ⟨_, L, hR', .slice (sz := sz) (f := fun i j => cs.getD (i * sz + j) undef) (.inr rfl) rfl (Nat.le_refl _) hc.2.1 (fun i j e d he hd => ?_) fun i j e d he hd => ((hc.later L).2.2 i e j d he hd)⟩
  have hj : j < sz := by rw [← hc.2.1 i e he]; exact (List.getElem?_eq_some_iff.1 hd).1
  have hi : i < es.length := (List.getElem?_eq_some_iff.1 he).1
  have hlt : i * sz + j < cs.size := by rw [hc.1]; exact mul_lt hi hj
  rw [cell?_cells (heap_alloc_at W _), Nat.zero_add]
  simp [Array.getD_eq_getD_getElem?, hlt]

/-- A new block that holds elements, and room behind them: an object. -/
theorem newRow_sound (hR : Rel ρ W σ) (t : TypeId) {sz cap : Nat} {es : List D} {cs : Array Value} {since : Nat} (hcap : es.length ≤ cap) (hsize : cs.size = cap * sz) (hs : since ≤ es.length)
    (hlen : ∀ (k : Nat) (e : D), es[k]? = some e → e.cells.length = sz ∧ e.cells.all D.one = true)
    (hc : ∀ (idx : Nat) (e : D) (j : Nat) (d : D), es[idx]? = some e → e.cells[j]? = some d → R ρ W d (cs.getD (idx * sz + j) undef)) (w0 : World) (hw : w0 = W.alloc (.cells cs t)) :
    ∃ ρ', Later ρ W ρ' w0 ∧ Rel ρ' w0 (σ ++ [.row sz es since]) ∧ R ρ' w0 (.arr σ.length es.length 0 es.length) (.slice (some ⟨W.heap.size, 0, none⟩) es.length cap) := by
  subst hw
  let p : Pl := ⟨W.heap.size, sz, cap⟩
  let ρ' : Ren := { ρ with loc := fun i v => if i = σ.length then (if v ≤ es.length then some p else none) else ρ.loc i v }
  have hp : ∀ v, v ≤ es.length → ρ'.loc σ.length v = some p := fun v hv => by simp [ρ', hv]
  have := hR.push (ρ' := ρ') (W' := W.alloc (.cells cs t)) (o' := .row sz es since) (by simp) rfl rfl rfl
    (fun b hb => heap_alloc_old W _ hb) (fun j v hj => by simp [ρ', hj]) (fun v q hq => by
      simp only [ρ', if_true] at hq
      split at hq
      · cases hq; simp [p]
      · cases hq) (fun _ => Iff.rfl) rfl
    (fun L => ⟨hs, hlen, fun ver hv => by simp [ρ', Nat.not_le.2 hv], fun ver _ hv => .inr ⟨p, cs, t, hp ver hv, rfl, Nat.le_trans hv hcap, heap_alloc_at W _, hsize, fun idx e j d _ he hd => (hc idx e j d he hd).later L⟩⟩)
  refine ⟨ρ', this.1, this.2, ?_⟩
  have := R.arr (ρ := ρ') (W := W.alloc (.cells cs t)) (i := σ.length) (ver := es.length) (off := 0) (n := es.length) (c := cap) (hp _ (Nat.le_refl _)) hcap (by simp [p])
  simpa [p] using this

/-- What a slice's value holds, as a source of an append. -/
theorem rowOf_src (hR : Rel ρ W σ) {x : D} {vx : Value} (hx : R ρ W x vx) {xs : List D} (h : rowOf σ x = some xs) {sz : Nat} (h0 : 0 < sz)
    (hall : (xs.all fun e => e.cells.length == sz && e.cells.all D.one) = true) {tx e' : TypeId} (hk : P.underlying tx = some (.slice e')) :
    ∃ news : List Value, Src P sz tx vx xs.length news W ∧ RC ρ W sz xs news.toArray := by
  have hlen : ∀ (k : Nat) (e : D), xs[k]? = some e → e.cells.length = sz := fun k e he => by
    have := List.all_eq_true.1 hall e (List.mem_of_getElem? he)
    simp at this; exact this.1
  have hone : ∀ (k : Nat) (e : D), xs[k]? = some e → e.cells.all D.one = true := fun k e he => by
    have := List.all_eq_true.1 hall e (List.mem_of_getElem? he)
    simp only [Bool.and_eq_true] at this; exact this.2
  -- the cells lie behind an address
  have main : ∀ (b off c : Nat), (∀ (idx : Nat) (e : D) (j : Nat) (d : D), xs[idx]? = some e → e.cells[j]? = some d → ∃ v, W.cell? ⟨b, off + (idx * sz + j), none⟩ = some v ∧ R ρ W d v) →
      ∃ news : List Value, Src P sz tx (.slice (some ⟨b, off, none⟩) xs.length c) xs.length news W ∧ RC ρ W sz xs news.toArray := by
    intro b off c hcell
    let f : Nat → Value := fun k => (W.cell? ⟨b, off + k, none⟩).getD undef
    have key : ∀ k, k < xs.length * sz → ∃ e d, xs[k / sz]? = some e ∧ e.cells[k % sz]? = some d ∧ W.cell? ⟨b, off + k, none⟩ = some (f k) ∧ R ρ W d (f k) ∧ (f k).oneCell' = true := by
      intro k hk'
      have hq : k / sz < xs.length := Nat.div_lt_of_lt_mul (by rw [Nat.mul_comm]; exact hk')
      have hm : k % sz < sz := Nat.mod_lt _ h0
      have he := List.getElem?_eq_getElem hq
      have hl := hlen _ _ he
      have hd := List.getElem?_eq_getElem (l := xs[k / sz].cells) (i := k % sz) (by rw [hl]; exact hm)
      obtain ⟨v, hv, hr⟩ := hcell _ _ _ _ he hd
      have hkk : k / sz * sz + k % sz = k := by rw [Nat.mul_comm]; exact Nat.div_add_mod k sz
      rw [hkk] at hv
      refine ⟨_, _, he, hd, by simp [f, hv], by simpa [f, hv] using hr, ?_⟩
      have h1 := List.all_eq_true.1 (hone _ _ he) _ (List.mem_of_getElem? hd)
      simpa [f, hv] using (hr.one h1).1
    refine ⟨(List.range (xs.length * sz)).map f, Src.ofSlice W hk _ _ _ _ (by simp) (fun j u hj => ?_) (fun u hu => ?_), by simp, hlen, fun idx e j d he hd => ?_⟩
    · rw [List.getElem?_map] at hj
      obtain ⟨k, hk1, rfl⟩ := Option.map_eq_some_iff.1 hj
      have hlt : j < xs.length * sz := by have := (List.getElem?_eq_some_iff.1 hk1).1; simpa using this
      rw [List.getElem?_range hlt] at hk1
      cases hk1
      obtain ⟨_, _, _, _, hc, _⟩ := key j hlt
      rw [add_none]; exact hc
    · obtain ⟨k, hk1, rfl⟩ := List.mem_map.1 hu
      obtain ⟨_, _, _, _, _, _, h1⟩ := key k (by simpa using hk1)
      exact h1
    · have hj : j < sz := by rw [← hlen idx e he]; exact (List.getElem?_eq_some_iff.1 hd).1
      have hi : idx < xs.length := (List.getElem?_eq_some_iff.1 he).1
      have hlt : idx * sz + j < xs.length * sz := mul_lt hi hj
      obtain ⟨v, hv, hr⟩ := hcell idx e j d he hd
      refine R.undef_irrel ?_ hr
      simp [Array.getD_eq_getD_getElem?, hlt, f, hv]
  have nothing : ∀ (a : Option Addr) (c : Nat), xs = [] → ∃ news : List Value, Src P sz tx (.slice a 0 c) xs.length news W ∧ RC ρ W sz xs news.toArray := by
    intro a c he
    subst he
    refine ⟨[], ?_, by simp, fun k e h => by simp at h, fun idx e j d h => by simp at h⟩
    cases a with
    | none => exact Src.ofNil W hk c
    | some a => exact Src.ofSlice W hk a 0 c [] (by simp) (fun j u h => by simp at h) (fun u h => by cases h)
  cases hx <;> simp only [rowOf] at h <;> try (cases h; done)
  case empty a => cases h; exact nothing a 0 rfl
  case slice0 a c => cases h; exact nothing a c rfl
  case slice es b off n c sz' f hf hn hcap hsz hc hr =>
    cases h
    subst hn
    by_cases hem : xs = []
    · subst hem; exact nothing _ _ rfl
    · have h1 : 0 < xs.length := by
        cases xs with
        | nil => exact absurd rfl hem
        | cons => simp
      have e1 : sz' = sz := by rw [← hsz 0 _ (List.getElem?_eq_getElem h1), ← hlen 0 _ (List.getElem?_eq_getElem h1)]
      subst e1
      exact main b off c fun idx e j d he hd => ⟨f idx j, hc idx j e d he hd, hr idx j e d he hd⟩
  case arr i ver off n c p hp hn hc =>
    have key : ∀ sz' es since, RowR ρ W i sz' es since → (if since ≤ ver ∧ off + n ≤ ver ∧ ver ≤ es.length then some ((es.drop off).take n) else none) = some xs →
        ∃ news : List Value, Src P sz tx (.slice (some ⟨p.blk, off * p.sz, none⟩) n c) xs.length news W ∧ RC ρ W sz xs news.toArray := by
      intro sz' es since hrow h
      split at h
      · rename_i hcond
        cases h
        have hxl : ((es.drop off).take n).length = n := by simp; omega
        have hget : ∀ (idx : Nat) (e : D), ((es.drop off).take n)[idx]? = some e → idx < n ∧ es[off + idx]? = some e := by
          intro idx e he
          have hi : idx < n := by have := (List.getElem?_eq_some_iff.1 he).1; omega
          rw [List.getElem?_take_of_lt hi, List.getElem?_drop] at he
          exact ⟨hi, he⟩
        have e1 : p.sz = sz' := hrow.sz hcond.1 hcond.2.2 hp
        by_cases hn0 : n = 0
        · subst hn0
          have hem : (es.drop off).take 0 = [] := by simp
          have := nothing (some ⟨p.blk, off * p.sz, none⟩) c hem
          exact this
        · have e2 : sz' = sz := by
            have h1 : 0 < ((es.drop off).take n).length := by omega
            have he := List.getElem?_eq_getElem h1
            have := (hrow.2.1 _ _ (hget 0 _ he).2).1
            rw [← this, ← hlen 0 _ he]
          subst e2
          have := main p.blk (off * p.sz) c fun idx e j d he hd => by
            obtain ⟨hi, he'⟩ := hget idx e he
            obtain ⟨_, _, hel⟩ := hrow.elem hcond.1 hcond.2.2 hp (by omega : off + idx < ver) he'
            obtain ⟨v, hv, hr⟩ := hel j d hd
            refine ⟨v, ?_, hr⟩
            rw [e1, show off * sz' + (idx * sz' + j) = (off + idx) * sz' + j by rw [Nat.add_mul]; omega]
            exact hv
          rw [hxl] at this ⊢
          exact this
      · cases h
    split at h
    · rename_i sz' es since hes; exact key _ _ _ (hR.obj i _ hes) h
    · rename_i sz' es since hes; exact key _ _ _ (hR.obj i _ hes).1 h
    · cases h
  case arr0 i =>
    have key : ∀ (es : List D) (since : Nat), (if since ≤ 0 ∧ 0 + 0 ≤ 0 ∧ 0 ≤ es.length then some ((es.drop 0).take 0) else none) = some xs → xs = [] := by
      intro es since h
      split at h
      · cases h; simp
      · cases h
    split at h
    · exact nothing _ _ (key _ _ h)
    · exact nothing _ _ (key _ _ h)
    · cases h

end
end Go.AI

namespace Go.AI
open Go

section
variable {P : Program} {ρ : Ren} {W : World} {σ : St}

theorem le_grownCap (w : World) (need old : Nat) (e : TypeId) : need ≤ grownCap w need old e := by
  unfold grownCap Question.cut; simp only []; omega

theorem zeroCells_size (z : Array Value) (n : Nat) : (Builtin.zeroCells z n).size = n * z.size := by simp [Builtin.zeroCells]

theorem RC.append {sz : Nat} {es xs : List D} {olds news : List Value} (h1 : RC ρ W sz es olds.toArray) (h2 : RC ρ W sz xs news.toArray) : RC ρ W sz (es ++ xs) (olds ++ news).toArray := by
  obtain ⟨a1, a2, a3⟩ := h1
  obtain ⟨b1, b2, b3⟩ := h2
  simp only [List.size_toArray] at a1 b1
  refine ⟨by simp [a1, b1, Nat.add_mul], fun k e he => ?_, fun idx e j d he hd => ?_⟩
  · by_cases hk : k < es.length
    · rw [List.getElem?_append_left hk] at he; exact a2 k e he
    · rw [List.getElem?_append_right (by omega)] at he; exact b2 _ e he
  · by_cases hk : idx < es.length
    · rw [List.getElem?_append_left hk] at he
      have hj : j < sz := by rw [← a2 idx e he]; exact (List.getElem?_eq_some_iff.1 hd).1
      have hlt : idx * sz + j < olds.length := by rw [a1]; exact mul_lt hk hj
      refine R.undef_irrel ?_ (a3 idx e j d he hd)
      simp [Array.getD_eq_getD_getElem?, List.getElem?_append_left hlt]
    · rw [List.getElem?_append_right (by omega)] at he
      have hge : olds.length ≤ idx * sz + j := by
        rw [a1]
        have := Nat.mul_le_mul_right sz (Nat.le_of_not_lt hk); omega
      refine R.undef_irrel ?_ (b3 (idx - es.length) e j d he hd)
      have : (idx - es.length) * sz + j = idx * sz + j - olds.length := by
        rw [a1, Nat.sub_mul]
        have := Nat.mul_le_mul_right sz (Nat.le_of_not_lt hk); omega
      simp [Array.getD_eq_getD_getElem?, List.getElem?_append_right hge, this]

theorem getD_append_left {a b : Array Value} {k : Nat} (h : k < a.size) : (a ++ b).getD k undef = a.getD k undef := by
  simp [Array.getD_eq_getD_getElem?, Array.getElem?_append_left h]

theorem arr_inv {i ver off n : Nat} {v : Value} (h : R ρ W (.arr i ver off n) v) :
    (v = .slice none 0 0 ∧ ver = 0 ∧ off = 0 ∧ n = 0) ∨ ∃ c p, v = .slice (some ⟨p.blk, off * p.sz, none⟩) n c ∧ ρ.loc i ver = some p ∧ n ≤ c ∧ off + c ≤ p.cap := by
  cases h with
  | arr hp hn hc => exact .inr ⟨_, _, rfl, hp, hn, hc⟩
  | arr0 => exact .inl ⟨rfl, rfl, rfl, rfl⟩

theorem append_sound (hR : Rel ρ W σ) {t tx e e' ty : TypeId} {sz bytes : Nat} (ht : P.underlying t = some (.slice e)) (htx : P.underlying tx = some (.slice e')) (hs : sizeT P e = some sz)
    (hb : bytesT P e = some bytes) {z : D} (hz : zeroT P e = some z) (hzl : z.cells.length = sz) (hzo : z.cells.all D.one = true) {look : AOpd → D} {s x : AOpd} {vs vx : Value}
    (hvs : R ρ W (look s) vs) (hvx : R ρ W (look x) vx) {nx : Nx} {σ' : St} (h : stepOp look σ (.append sz bytes s x) = some (nx, σ')) :
    ∃ ρ' W' v d, nx = .value d ∧ (Builtin.append_ #[t, tx] ty #[vs, vx]).run P W = .ok v W' ∧ Later ρ W ρ' W' ∧ Rel ρ' W' σ' ∧ R ρ' W' d v := by
  obtain ⟨i, hi, hsz⟩ := Option.map_eq_some_iff.1 hs
  have hby : i.bytes = bytes := by unfold bytesT at hb; rw [hi] at hb; simpa using hb
  obtain ⟨zv, hzv, hzr⟩ : ∃ zv, i.zero = some zv ∧ valD zv = some z := by
    unfold zeroT at hz
    rw [hi] at hz
    simp only at hz
    cases hq : i.zero with
    | none => rw [hq] at hz; cases hz
    | some zv => rw [hq] at hz; exact ⟨zv, rfl, hz⟩
  have hzsize : zv.cells.size = sz := by rw [((valD_sound (ρ := ρ) (W := W) hzr).cells hzo).1, hzl]
  simp only [stepOp] at h
  split at h
  · rename_i xs hxs
    split at h
    · rename_i hcond
      obtain ⟨hall, hsz0, hbytes0⟩ := hcond
      obtain ⟨news, hsrc, hnews⟩ := rowOf_src hR hvx hxs hsz0 hall htx
      subst hsz
      have hxone : ∀ (k : Nat) (e : D), xs[k]? = some e → e.cells.all D.one = true := fun k e he => by
        have := List.all_eq_true.1 hall e (List.mem_of_getElem? he)
        simp only [Bool.and_eq_true] at this; exact this.2
      -- a new row, the elements being es behind which xs come
      have grow : ∀ (es : List D) (base : Option Addr) (c : Nat) (olds : List Value), vs = .slice base es.length c → c < es.length + xs.length → (es.length + xs.length) * bytes ≤ 140737488355328 →
          (Builtin.firstCells i.size es.length (.slice base es.length c)).run P W.drew = .ok olds.toArray W.drew → RC ρ W i.size es olds.toArray →
          ∃ (cells : Array Value) (nc : Nat), (Builtin.append_ #[t, tx] ty #[vs, vx]).run P W = .ok (.slice (some ⟨W.heap.size, 0, none⟩) (es.length + xs.length) nc) (W.drew.alloc (.cells cells e)) ∧
            es.length + xs.length ≤ nc ∧ cells.size = nc * i.size ∧ (∀ (k : Nat) (e : D), (es ++ xs)[k]? = some e → e.cells.length = i.size) ∧
            ∀ (idx : Nat) (e : D) (j : Nat) (d : D), (es ++ xs)[idx]? = some e → e.cells[j]? = some d → R ρ W d (cells.getD (idx * i.size + j) undef) := by
        intro es base c olds hv hc hlim hold holdR
        subst hv
        have hlen : es.length + xs.length ≤ 140737488355328 := Nat.le_trans (Nat.le_mul_of_pos_right _ hbytes0) hlim
        have hfit := growslice_fits (bytes := i.bytes) hc (by rw [hby]; exact hlim)
        have hrun := run_append_grow_src W t tx ty e i zv ht hi hzv base es.length c olds hold vx xs.length news hsrc hc (by omega) hfit
        have hRC := holdR.append hnews
        have hsize0 : (olds ++ news).toArray.size = (es.length + xs.length) * i.size := by rw [hRC.1, List.length_append]
        refine ⟨_, _, hrun, le_grownCap .., ?_, hRC.2.1, fun idx e1 j d he hd => ?_⟩
        · rw [Array.size_append, hsize0, zeroCells_size, hzsize, ← Nat.add_mul]
          congr 1
          have := le_grownCap W (es.length + xs.length) c e
          omega
        · have hj : j < i.size := by rw [← hRC.2.1 idx e1 he]; exact (List.getElem?_eq_some_iff.1 hd).1
          have hix : idx < es.length + xs.length := by have := (List.getElem?_eq_some_iff.1 he).1; simpa using this
          rw [getD_append_left (by rw [hsize0]; exact mul_lt hix hj)]
          exact hRC.2.2 idx e1 j d he hd
      have nilRC : RC ρ W i.size [] ([] : List Value).toArray := ⟨by simp, fun k e h => by simp at h, fun idx e j d h => by simp at h⟩
      have hfirst0 : ∀ (a : Option Addr) (c : Nat), (Builtin.firstCells i.size 0 (.slice a 0 c)).run P W.drew = .ok ([] : List Value).toArray W.drew := by
        intro a c
        cases a with
        | none => exact run_firstCells_none _ _ _ _ _
        | some a => exact run_firstCells_some _ _ _ _ _ _ [] (by simp) (fun j v h => by simp at h)
      split at h
      · -- an empty slice without room
        rename_i hls
        rw [hls] at hvs
        cases hvs with
        | empty a =>
          split at h
          · rename_i hlim
            split at h
            · rename_i hnil
              cases h
              subst hnil
              refine ⟨ρ, W, .slice a 0 0, .empty, rfl, ?_, Later.refl _ _, hR, .empty a⟩
              have hn0 : news = [] := List.eq_nil_of_length_eq_zero (by simpa using hsrc.newsLen)
              subst hn0
              have hl := hsrc.len
              have hcl := hsrc.cells
              simp only [List.length_nil] at hl hcl
              cases a <;> simp [Builtin.append_, run_underlying ht, run_underlying htx, sizeOf, typeInfo, hi, hl, hcl, storeCells]
            · rename_i hnil
              cases h
              have hpos : 0 < xs.length := by
                cases xs with
                | nil => exact absurd rfl hnil
                | cons => simp
              obtain ⟨cells, nc, hrun, hle, hcs, hcl, hcr⟩ := grow [] a 0 [] rfl (by simpa using hpos) (by simpa using hlim) (hfirst0 a 0) nilRC
              simp only [List.length_nil, Nat.zero_add, List.nil_append] at hrun hle hcl hcr
              obtain ⟨L0, hR0⟩ := hR.drew
              obtain ⟨ρ', L, hR', hr'⟩ := newRow_sound hR0 e hle hcs (Nat.le_refl _) (fun k e1 he => ⟨hcl k e1 he, hxone k e1 he⟩) (fun idx e1 j d he hd => (hcr idx e1 j d he hd).later L0) _ rfl
              exact ⟨ρ', _, _, _, rfl, hrun, L0.trans L, hR', hr'⟩
          · cases h
      · -- an object
        rename_i i0 ver off n hls
        rw [hls] at hvs
        split at h
        · rename_i sz' es since hes
          split at h
          · rename_i hcond
            obtain ⟨rfl, rfl, rfl, rfl, hlim, hsince⟩ := hcond
            cases h
            have hrow := hR.obj i0 _ hes
            obtain ⟨hrs, hrl, hrn, hrv⟩ := id hrow
            -- in place
            have place : ∀ (p : Pl) (c : Nat), ρ.loc i0 es.length = some p → vs = .slice (some ⟨p.blk, 0 * p.sz, none⟩) es.length c → 0 + c ≤ p.cap → es.length + xs.length ≤ c →
                ∃ ρ' W' v d, Nx.value (.arr i0 (es.length + xs.length) 0 (es.length + xs.length)) = .value d ∧ (Builtin.append_ #[t, tx] ty #[vs, vx]).run P W = .ok v W' ∧ Later ρ W ρ' W' ∧
                  Rel ρ' W' (σ.set i0 (.row i.size (es ++ xs) since)) ∧ R ρ' W' d v := by
              intro p c hp hv hc hroom
              subst hv
              rcases hrv es.length hrs (Nat.le_refl _) with ⟨hz0, hn⟩ | ⟨q, cur, cty, hq, hqs, hqc, hh, hcz, hr⟩
              · rw [hz0, hn] at hp; cases hp
              rw [hp] at hq; cases hq
              have hnl : news.length = xs.length * i.size := hsrc.newsLen
              have hfit : es.length * i.size + news.length ≤ cur.size := by
                rw [hnl, hcz, ← Nat.add_mul]; exact Nat.mul_le_mul_right _ (by omega)
              have hst := run_storeCells_at (P := P) p.blk (es.length * i.size) cty news 0 cur W hh (by simpa using hfit) hsrc.one
              simp only [Nat.add_zero] at hst
              have hrun : (Builtin.append_ #[t, tx] ty #[.slice (some ⟨p.blk, 0 * p.sz, none⟩) es.length c, vx]).run P W =
                  .ok (.slice (some ⟨p.blk, 0 * p.sz, none⟩) (es.length + xs.length) c) (W.setRow p.blk (cur.toList.take (es.length * i.size) ++ news ++ cur.toList.drop (es.length * i.size + news.length)).toArray) := by
                simp [Builtin.append_, run_underlying ht, run_underlying htx, sizeOf, typeInfo, hi, hsrc.len, hroom, hsrc.cells, add_none, hst]
              have hg := getD_put hfit
              have hgz := size_put hfit
              generalize (cur.toList.take (es.length * i.size) ++ news ++ cur.toList.drop (es.length * i.size + news.length)).toArray = cn at hrun hg hgz
              let ρ' : Ren := { ρ with loc := fun k v => if k = i0 then (if v ≤ es.length then ρ.loc i0 v else if v ≤ es.length + xs.length then some p else none) else ρ.loc k v }
              have hold : ∀ v, v ≤ es.length → ρ'.loc i0 v = ρ.loc i0 v := fun v hv => by simp [ρ', hv]
              have hnewv : ∀ v, es.length < v → v ≤ es.length + xs.length → ρ'.loc i0 v = some p := fun v hv hv' => by simp [ρ', Nat.not_le.2 hv, hv']
              have hch := hR.change (ρ' := ρ') (W' := W.setRow p.blk cn) hes rfl (o' := .row i.size (es ++ xs) since) (by simp) rfl rfl rfl
                (fun b _ hne => setRow_other W p.blk b cn (fun hbe => hne _ p hp hbe.symm)) (fun j v hj => by simp [ρ', hj])
                (fun v q hq => by
                  by_cases hv : v ≤ es.length
                  · rw [hold v hv]; exact hq
                  · rw [hrn v (by omega)] at hq; cases hq)
                (fun v q hq => by
                  by_cases hv : v ≤ es.length
                  · rw [hold v hv] at hq; exact .inl ⟨v, q, hq, rfl⟩
                  · by_cases hv' : v ≤ es.length + xs.length
                    · rw [hnewv v (by omega) hv'] at hq; cases hq; exact .inl ⟨_, p, hp, rfl⟩
                    · simp [ρ', hv, hv'] at hq)
                (fun _ => Iff.rfl) rfl
                (fun L => by
                  refine ⟨by simp; omega, fun k e1 he => ?_, fun v hv => ?_, fun v hv1 hv2 => ?_⟩
                  · by_cases hk : k < es.length
                    · rw [List.getElem?_append_left hk] at he; exact hrl k e1 he
                    · rw [List.getElem?_append_right (by omega)] at he; exact ⟨hnews.2.1 _ e1 he, hxone _ e1 he⟩
                  · simp only [List.length_append] at hv
                    simp only [ρ', if_true]
                    rw [if_neg (by omega), if_neg (by omega)]
                  · simp only [List.length_append] at hv2
                    -- the cells of the elements that were there stay in this block
                    have keep : ∀ (idx : Nat) (e1 : D) (j : Nat) (d : D), idx < es.length → es[idx]? = some e1 → e1.cells[j]? = some d → cn.getD (idx * i.size + j) undef = cur.getD (idx * i.size + j) undef := by
                      intro idx e1 j d hidx he hd
                      have hj : j < i.size := by rw [← (hrl idx e1 he).1]; exact (List.getElem?_eq_some_iff.1 hd).1
                      rw [hg, if_pos (mul_lt hidx hj)]
                    by_cases hv : v ≤ es.length
                    · rcases hrv v hv1 hv with ⟨hv0, hn⟩ | ⟨q, c1, ty1, hq1, hqs1, hqc1, hh1, hcz1, hr1⟩
                      · exact .inl ⟨hv0, by rw [hold 0 (by omega)]; exact hn⟩
                      · right
                        by_cases hqb : q.blk = p.blk
                        · rw [hqb, hh] at hh1
                          cases hh1
                          refine ⟨q, cn, cty, by rw [hold v hv]; exact hq1, hqs1, hqc1, by rw [hqb]; exact setRow_heap W p.blk cur _ cty _ hh, by rw [hgz, hcz1], fun idx e1 j d hidx he hd => ?_⟩
                          rw [List.getElem?_append_left (by omega)] at he
                          rw [keep idx e1 j d (by omega) he hd]
                          exact (hr1 idx e1 j d hidx he hd).later L
                        · refine ⟨q, c1, ty1, by rw [hold v hv]; exact hq1, hqs1, hqc1, by rw [setRow_other W p.blk q.blk cn hqb]; exact hh1, hcz1, fun idx e1 j d hidx he hd => ?_⟩
                          rw [List.getElem?_append_left (by omega)] at he
                          exact (hr1 idx e1 j d hidx he hd).later L
                    · right
                      refine ⟨p, cn, cty, hnewv v (by omega) hv2, hqs, by omega, setRow_heap W p.blk cur _ cty _ hh, by rw [hgz, hcz], fun idx e1 j d hidx he hd => ?_⟩
                      by_cases hk : idx < es.length
                      · rw [List.getElem?_append_left hk] at he
                        rw [keep idx e1 j d hk he hd]
                        exact (hr idx e1 j d hk he hd).later L
                      · rw [List.getElem?_append_right (by omega)] at he
                        have hj : j < i.size := by rw [← hnews.2.1 _ e1 he]; exact (List.getElem?_eq_some_iff.1 hd).1
                        have hix : idx - es.length < xs.length := (List.getElem?_eq_some_iff.1 he).1
                        have hge : es.length * i.size ≤ idx * i.size := Nat.mul_le_mul_right _ (by omega)
                        have hsub : (idx - es.length) * i.size + j = idx * i.size + j - es.length * i.size := by rw [Nat.sub_mul]; omega
                        have hlt := mul_lt hix hj
                        rw [hg, if_neg (by omega), if_pos (by rw [hnl]; omega)]
                        have := ((hnews.later L).2.2 _ e1 j d he hd)
                        rw [hsub] at this
                        simpa [Array.getD_eq_getD_getElem?, List.getD_eq_getElem?_getD] using this)
              refine ⟨ρ', _, _, _, rfl, hrun, hch.1, hch.2, ?_⟩
              have hpl : ρ'.loc i0 (es.length + xs.length) = some p := by
                by_cases hx0 : xs.length = 0
                · rw [hx0, Nat.add_zero, hold _ (Nat.le_refl _)]; exact hp
                · exact hnewv _ (by omega) (Nat.le_refl _)
              exact .arr hpl hroom hc
            -- a new row
            have fresh : ∀ (base : Option Addr) (c : Nat) (olds : List Value), vs = .slice base es.length c → c < es.length + xs.length →
                (Builtin.firstCells i.size es.length (.slice base es.length c)).run P W.drew = .ok olds.toArray W.drew → RC ρ W i.size es olds.toArray →
                ∃ ρ' W' v d, Nx.value (.arr i0 (es.length + xs.length) 0 (es.length + xs.length)) = .value d ∧ (Builtin.append_ #[t, tx] ty #[vs, vx]).run P W = .ok v W' ∧ Later ρ W ρ' W' ∧
                  Rel ρ' W' (σ.set i0 (.row i.size (es ++ xs) since)) ∧ R ρ' W' d v := by
              intro base c olds hv hc hold0 holdR
              obtain ⟨cells, nc, hrun, hle, hcs, hcl, hcr⟩ := grow es base c olds hv hc hlim hold0 holdR
              let p : Pl := ⟨W.heap.size, i.size, nc⟩
              let ρ' : Ren := { ρ with loc := fun k v => if k = i0 then (if v ≤ es.length then ρ.loc i0 v else if v ≤ es.length + xs.length then some p else none) else ρ.loc k v }
              have hpos : 0 < xs.length ∨ xs.length = 0 := by omega
              have hold : ∀ v, v ≤ es.length → ρ'.loc i0 v = ρ.loc i0 v := fun v hv => by simp [ρ', hv]
              have hnewv : ∀ v, es.length < v → v ≤ es.length + xs.length → ρ'.loc i0 v = some p := fun v hv hv' => by simp [ρ', Nat.not_le.2 hv, hv']
              have hheap : ∀ b, b < W.heap.size → (W.drew.alloc (.cells cells e)).heap[b]? = W.heap[b]? := fun b hb => heap_alloc_old W.drew _ hb
              have hat : (W.drew.alloc (.cells cells e)).heap[W.heap.size]? = some (.cells cells e) := heap_alloc_at W.drew _
              have hch := hR.change (ρ' := ρ') (W' := W.drew.alloc (.cells cells e)) hes rfl (o' := .row i.size (es ++ xs) since) (by simp) rfl rfl rfl
                (fun b hb _ => hheap b hb) (fun j v hj => by simp [ρ', hj])
                (fun v q hq => by
                  by_cases hv : v ≤ es.length
                  · rw [hold v hv]; exact hq
                  · rw [hrn v (by omega)] at hq; cases hq)
                (fun v q hq => by
                  by_cases hv : v ≤ es.length
                  · rw [hold v hv] at hq; exact .inl ⟨v, q, hq, rfl⟩
                  · by_cases hv' : v ≤ es.length + xs.length
                    · rw [hnewv v (by omega) hv'] at hq; cases hq; right; simp [p]
                    · simp [ρ', hv, hv'] at hq)
                (fun _ => Iff.rfl) rfl
                (fun L => by
                  refine ⟨by simp; omega, fun k e1 he => ⟨hcl k e1 he, ?_⟩, fun v hv => ?_, fun v hv1 hv2 => ?_⟩
                  · by_cases hk : k < es.length
                    · rw [List.getElem?_append_left hk] at he; exact (hrl k e1 he).2
                    · rw [List.getElem?_append_right (by omega)] at he; exact hxone _ e1 he
                  · simp only [List.length_append] at hv
                    simp only [ρ', if_true]
                    rw [if_neg (by omega), if_neg (by omega)]
                  · simp only [List.length_append] at hv2
                    by_cases hv : v ≤ es.length
                    · rcases hrv v hv1 hv with ⟨hv0, hn⟩ | ⟨q, c1, ty1, hq1, hqs1, hqc1, hh1, hcz1, hr1⟩
                      · exact .inl ⟨hv0, by rw [hold 0 (by omega)]; exact hn⟩
                      · right
                        refine ⟨q, c1, ty1, by rw [hold v hv]; exact hq1, hqs1, hqc1, by rw [hheap q.blk (hR.blk i0 v q hq1).1]; exact hh1, hcz1, fun idx e1 j d hidx he hd => ?_⟩
                        rw [List.getElem?_append_left (by omega)] at he
                        exact (hr1 idx e1 j d hidx he hd).later L
                    · right
                      exact ⟨p, cells, e, hnewv v (by omega) hv2, rfl, Nat.le_trans hv2 hle, hat, hcs, fun idx e1 j d _ he hd => (hcr idx e1 j d he hd).later L⟩)
              refine ⟨ρ', _, _, _, rfl, hrun, hch.1, hch.2, ?_⟩
              have hx0 : xs.length ≠ 0 ∨ xs.length = 0 := by omega
              by_cases hx0 : xs.length = 0
              · exfalso
                subst hv
                have hle' : es.length ≤ c := by
                  rcases arr_inv hvs with ⟨h1, _, _, h2⟩ | ⟨c', p', h1, _, h2, _⟩
                  · omega
                  · cases h1; exact h2
                omega
              · have := R.arr (ρ := ρ') (W := W.drew.alloc (.cells cells e)) (off := 0) (hnewv (es.length + xs.length) (by omega) (Nat.le_refl _)) hle (by simp [p])
                simpa [p] using this
            have hself : rowOf σ (.arr i0 es.length 0 es.length) = some es := by
              simp only [rowOf, hes]
              rw [if_pos ⟨hrs, by omega, Nat.le_refl _⟩]
              simp
            rcases arr_inv hvs with ⟨h1, h2, _, _⟩ | ⟨c, p, h1, hp, hn, hc⟩
            · obtain rfl : es = [] := List.eq_nil_of_length_eq_zero h2
              by_cases hx0 : xs = []
              · subst hx0
                subst h1
                have hn0 : news = [] := List.eq_nil_of_length_eq_zero (by simpa using hsrc.newsLen)
                subst hn0
                have hl := hsrc.len
                have hcl := hsrc.cells
                simp only [List.length_nil] at hl hcl
                refine ⟨ρ, W, .slice none 0 0, _, rfl, ?_, Later.refl _ _, ?_, .arr0 i0⟩
                · simp [Builtin.append_, run_underlying ht, run_underlying htx, sizeOf, typeInfo, hi, hl, hcl]
                · have : σ.set i0 (.row i.size ([] ++ []) since) = σ := by
                    apply List.ext_getElem?
                    intro k
                    rw [List.getElem?_set]
                    by_cases hk : i0 = k
                    · subst hk
                      rw [if_pos rfl, if_pos (List.getElem?_eq_some_iff.1 hes).1, hes]
                      rfl
                    · rw [if_neg hk]
                  rw [this]; exact hR
              · have hpos : 0 < xs.length := by
                  cases xs with
                  | nil => exact absurd rfl hx0
                  | cons => simp
                exact fresh none 0 [] h1 (by simpa using hpos) (hfirst0 none 0) nilRC
            · by_cases hroom : es.length + xs.length ≤ c
              · exact place p c hp h1 hc hroom
              · have hall0 : (es.all fun e => e.cells.length == i.size && e.cells.all D.one) = true := by
                  refine List.all_eq_true.2 fun x hx => ?_
                  obtain ⟨k, hk⟩ := List.mem_iff_getElem?.1 hx
                  obtain ⟨a, b⟩ := hrl k x hk
                  simp [a, b]
                obtain ⟨olds, osrc, oRC⟩ := rowOf_src hR hvs hself hsz0 hall0 ht
                refine fresh _ c olds h1 (by omega) ?_ oRC
                rw [← h1]; exact osrc.cellsD
          · cases h
        · cases h
      · cases h
    · cases h
  · cases h

end
end Go.AI
