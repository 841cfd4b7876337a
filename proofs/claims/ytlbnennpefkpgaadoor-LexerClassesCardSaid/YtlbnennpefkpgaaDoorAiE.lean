/- An interpreter over trees: functions; layers of known functions; the words of the walk. No conditions of its own. -/
import Derived.Test.YtlbnennpefkpgaaDoorAiD
import Derived.RangeFuncIn
set_option linter.unusedVariables false
set_option linter.unusedSimpArgs false
namespace Go.AI
open Go

theorem R.mono {ρ ρ' : Ren} {W W' : World} (hl : ∀ i v p, ρ.loc i v = some p → ρ'.loc i v = some p) (hf : ∀ b, ρ.fix b → ρ'.fix b) (hh : ∀ b, ρ.fix b → W'.heap[b]? = W.heap[b]?)
    {d : D} {v : Value} (r : R ρ W d v) : R ρ' W' d v := by
  induction r with
  | bool b => exact .bool b
  | int k n => exact .int k n
  | str s => exact .str s
  | ptr hp => exact .ptr (hl _ _ _ hp)
  | rptr hp => exact .rptr (hl _ _ _ hp)
  | tptr h hc hr ih => exact .tptr (hf _ h) (fun j hj => (cell?_of_heap (hh _ h) _).trans (hc j hj)) ih
  | nilptr => exact .nilptr
  | empty a => exact .empty a
  | slice0 a c => exact .slice0 a c
  | slice h hn hcap hsz hc hr ih => exact .slice (hf _ h) hn hcap hsz (fun i j e d he hd => (cell?_of_heap (hh _ h) _).trans (hc i j e d he hd)) ih
  | arr hp hn hc => exact .arr (hl _ _ _ hp) hn hc
  | arr0 i => exact .arr0 i
  | map hp => exact .map (hl _ _ _ hp)
  | nilmap => exact .nilmap
  | func h1 h2 hf hc ihf ihc => exact .func h1 h2 ihf ihc
  | nilfunc => exact .nilfunc
  | yield hp => exact .yield (hl _ _ _ hp)
  | iface _ ih => exact .iface ih
  | niliface => exact .niliface
  | agg hs hr ih => exact .agg hs ih
  | tuple hs hr ih => exact .tuple hs ih
  | undef => exact .undef
  | any v => exact .any v

theorem treeL_get : ∀ {l : List D} (_ : treeL l = true) {j : Nat} {d : D}, l[j]? = some d → d.tree = true
  | [], _, j, d, h => by simp at h
  | x :: l, ht, j, d, h => by
    simp only [treeL, Bool.and_eq_true] at ht
    cases j with
    | zero => simp at h; subst h; exact ht.1
    | succ j => exact treeL_get ht.2 (by simpa using h)

theorem treeL_of : ∀ {l : List D}, (∀ (j : Nat) (d : D), l[j]? = some d → d.tree = true) → treeL l = true
  | [], _ => rfl
  | x :: l, h => by
    simp only [treeL, Bool.and_eq_true]
    exact ⟨h 0 x rfl, treeL_of fun j d hj => h (j + 1) d (by simpa using hj)⟩

theorem tree_cells {e : D} (h : e.tree = true) {j : Nat} {d : D} (hd : e.cells[j]? = some d) : d.tree = true := by
  cases e with
  | agg cs => simp only [D.tree] at h; exact treeL_get h hd
  | _ =>
    have : j = 0 := by have := (List.getElem?_eq_some_iff.1 hd).1; simp [D.cells] at this; omega
    subst this
    simp only [D.cells, List.getElem?_cons_zero, Option.some.injEq] at hd
    subst hd
    exact h

/-- The objects' places do not matter to trees. -/
def bare (fx : Nat → Prop) : Ren := ⟨fun _ _ => none, fx, fun _ _ => False⟩

theorem R.tree {ρ : Ren} {W : World} {d : D} {v : Value} (r : R ρ W d v) : d.tree = true → R (bare ρ.fix) W d v := by
  induction r with
  | bool b => exact fun _ => .bool b
  | int k n => exact fun _ => .int k n
  | str s => exact fun _ => .str s
  | ptr hp => intro h; simp [D.tree] at h
  | rptr hp => intro h; simp [D.tree] at h
  | tptr h hc hr ih => intro h; simp [D.tree] at h
  | nilptr => exact fun _ => .nilptr
  | empty a => exact fun _ => .empty a
  | slice0 a c => exact fun _ => .slice0 a c
  | slice h hn hcap hsz hc hr ih =>
    intro ht
    simp only [D.tree] at ht
    exact .slice h hn hcap hsz hc fun i j e d he hd => ih i j e d he hd (tree_cells (treeL_get ht he) hd)
  | arr hp hn hc => intro h; simp [D.tree] at h
  | arr0 i => intro h; simp [D.tree] at h
  | map hp => intro h; simp [D.tree] at h
  | nilmap => exact fun _ => .nilmap
  | func h1 h2 hf hc ihf ihc =>
    intro ht
    simp only [D.tree, Bool.and_eq_true] at ht
    exact .func h1 h2 (fun j d hd => ihf j d hd (treeL_get ht.1 hd)) (fun j d hd => ihc j d hd (treeL_get ht.2 hd))
  | nilfunc => exact fun _ => .nilfunc
  | yield hp => intro h; simp [D.tree] at h
  | iface _ ih => intro ht; simp only [D.tree] at ht; exact .iface (ih ht)
  | niliface => exact fun _ => .niliface
  | agg hs hr ih => intro ht; simp only [D.tree] at ht; exact .agg hs fun j d hd => ih j d hd (treeL_get ht hd)
  | tuple hs hr ih => intro ht; simp only [D.tree] at ht; exact .tuple hs fun j d hd => ih j d hd (treeL_get ht hd)
  | undef => intro h; simp [D.tree] at h
  | any v => intro h; simp [D.tree] at h

/-- What is flat lies nowhere. -/
theorem R.flat {ρ ρ' : Ren} {W W' : World} {d : D} {v : Value} (h : d.flat = true) (r : R ρ W d v) : R ρ' W' d v := by
  cases r <;> simp only [D.flat, Bool.false_eq_true] at h
  · exact .bool _
  · exact .int _ _
  · exact .str _
  · exact .niliface
  · rename_i cs vs hs hr
    refine .tuple hs fun j d hd => ?_
    have h1 := hr j d hd
    have h2 := List.all_eq_true.1 h d (List.mem_of_getElem? hd)
    generalize vs.getD j Go.undef = x at h1
    cases h1 <;> simp at h2
    · exact .bool _
    · exact .int _ _
    · exact .str _

/-- The blocks of objects that are lent. -/
def lent (ρ : Ren) (l : List Nat) : Nat → Prop := fun b => ρ.fix b ∨ ∃ i v p, i ∈ l ∧ ρ.loc i v = some p ∧ b = p.blk

theorem strip_tree : ∀ (n : Nat) (σ : St) (d d' : D), strip n σ d = some d' → d'.tree = true
  | 0, σ, d, d', h => by
    simp only [strip] at h
    split at h
    · cases h; assumption
    · cases h
  | n + 1, σ, d, d', h => by
    have many : ∀ {l l' : List D}, l.mapM (strip n σ) = some l' → treeL l' = true := fun {l l'} hm => by
      obtain ⟨h1, h2⟩ := mapM_some hm
      refine treeL_of fun j d hd => ?_
      have hj : j < l.length := by rw [← h1]; exact (List.getElem?_eq_some_iff.1 hd).1
      obtain ⟨y, hy, hy'⟩ := h2 j _ (List.getElem?_eq_getElem hj)
      rw [hd] at hy'; cases hy'
      exact strip_tree n σ _ _ hy
    simp only [strip] at h
    split at h
    · cases h; assumption
    · split at h
      · split at h
        · obtain ⟨l', hl, rfl⟩ := Option.map_eq_some_iff.1 h; simpa [D.tree] using many hl
        · cases h
      · obtain ⟨l', hl, rfl⟩ := Option.map_eq_some_iff.1 h; simpa [D.tree] using many hl
      · obtain ⟨l', hl, rfl⟩ := Option.map_eq_some_iff.1 h; simpa [D.tree] using many hl
      · obtain ⟨l', hl, rfl⟩ := Option.map_eq_some_iff.1 h; simpa [D.tree] using many hl
      · cases h

/-- The cells of what is written out. -/
theorem strip_cells : ∀ (n : Nat) (σ : St) (e e' : D), strip n σ e = some e' → e'.cells.length = e.cells.length ∧
    ∀ (j : Nat) (c : D), e.cells[j]? = some c → ∃ c' m, e'.cells[j]? = some c' ∧ m ≤ n ∧ strip m σ c = some c' ∧ ∀ i ∈ leads m σ c, i ∈ leads n σ e := by
  intro n σ e e' h
  by_cases ht : e.tree = true
  · have he : e' = e := by
      cases n <;> simp only [strip, ht, if_true, Option.some.injEq] at h <;> exact h.symm
    subst he
    refine ⟨rfl, fun j c hc => ⟨c, 0, hc, Nat.zero_le _, ?_, fun i hi => by simp [leads] at hi⟩⟩
    simp [strip, tree_cells ht hc]
  · cases n with
    | zero => simp [strip, ht] at h
    | succ n =>
      have single : e'.cells = [e'] → e.cells = [e] → e'.cells.length = e.cells.length ∧
          ∀ (j : Nat) (c : D), e.cells[j]? = some c → ∃ c' m, e'.cells[j]? = some c' ∧ m ≤ n + 1 ∧ strip m σ c = some c' ∧ ∀ i ∈ leads m σ c, i ∈ leads (n + 1) σ e := by
        intro h1 h2
        rw [h1, h2]
        refine ⟨rfl, fun j c hc => ?_⟩
        have hj : j = 0 := by have := (List.getElem?_eq_some_iff.1 hc).1; simp at this; omega
        subst hj
        simp only [List.getElem?_cons_zero, Option.some.injEq] at hc
        subst hc
        exact ⟨e', n + 1, rfl, Nat.le_refl _, h, fun i hi => hi⟩
      have h0 := h
      simp only [strip, ht, Bool.false_eq_true, if_false] at h
      split at h
      · split at h
        · obtain ⟨l', hl, rfl⟩ := Option.map_eq_some_iff.1 h; exact single rfl rfl
        · cases h
      · obtain ⟨l', hl, rfl⟩ := Option.map_eq_some_iff.1 h; exact single rfl rfl
      · rename_i cs
        obtain ⟨l', hl, rfl⟩ := Option.map_eq_some_iff.1 h
        obtain ⟨h1, h2⟩ := mapM_some hl
        refine ⟨h1, fun j c hc => ?_⟩
        obtain ⟨c', hc', hg⟩ := h2 j c hc
        refine ⟨c', n, hg, Nat.le_succ n, hc', fun i hi => ?_⟩
        simp only [leads, ht, Bool.false_eq_true, if_false]
        exact List.mem_flatMap.2 ⟨c, List.mem_of_getElem? hc, hi⟩
      · obtain ⟨l', hl, rfl⟩ := Option.map_eq_some_iff.1 h; exact single rfl rfl
      · cases h

theorem strip_sound {ρ : Ren} {W : World} {σ : St} (hR : Rel ρ W σ) (l : List Nat) : ∀ (N n : Nat), n ≤ N → ∀ (d d' : D) (v : Value), R ρ W d v → strip n σ d = some d' → (∀ i ∈ leads n σ d, i ∈ l) → R (bare (lent ρ l)) W d' v := by
  intro N
  induction N with
  | zero =>
    intro n hn d d' v r h hl
    obtain rfl : n = 0 := by omega
    simp only [strip] at h
    split at h
    · rename_i ht
      cases h
      exact R.mono (ρ := bare ρ.fix) (ρ' := bare (lent ρ l)) (fun _ _ _ h => h) (fun b h => Or.inl h) (fun _ _ => rfl) (r.tree ht)
    · cases h
  | succ N ih =>
    intro n hn d d' v r h hl
    by_cases ht : d.tree = true
    · have he : d' = d := by
        cases n <;> simp only [strip, ht, if_true, Option.some.injEq] at h <;> exact h.symm
      subst he
      exact R.mono (ρ := bare ρ.fix) (ρ' := bare (lent ρ l)) (fun _ _ _ h => h) (fun b h => Or.inl h) (fun _ _ => rfl) (r.tree ht)
    · cases n with
      | zero => simp [strip, ht] at h
      | succ n =>
        have hnN : n ≤ N := by omega
        have hcell : ∀ (es es' : List D), es.mapM (strip n σ) = some es' → (∀ e ∈ es, ∀ i ∈ leads n σ e, i ∈ l) → es'.length = es.length ∧ ∀ (i : Nat) (e' : D), es'[i]? = some e' → ∃ e, es[i]? = some e ∧ e'.cells.length = e.cells.length ∧
            ∀ (j : Nat) (c' : D), e'.cells[j]? = some c' → ∃ c, e.cells[j]? = some c ∧ ∀ u, R ρ W c u → R (bare (lent ρ l)) W c' u := by
          intro es es' hm hle
          obtain ⟨h1, h2⟩ := mapM_some hm
          refine ⟨h1, fun i e' he' => ?_⟩
          have hi : i < es.length := by rw [← h1]; exact (List.getElem?_eq_some_iff.1 he').1
          obtain ⟨y, hy, hy'⟩ := h2 i _ (List.getElem?_eq_getElem hi)
          rw [he'] at hy'; cases hy'
          obtain ⟨s1, s2⟩ := strip_cells n σ _ _ hy
          refine ⟨es[i], List.getElem?_eq_getElem hi, s1, fun j c' hc' => ?_⟩
          have hj : j < es[i].cells.length := by rw [← s1]; exact (List.getElem?_eq_some_iff.1 hc').1
          obtain ⟨c2, m, hc2, hm2, hst, hld⟩ := s2 j _ (List.getElem?_eq_getElem hj)
          rw [hc'] at hc2; cases hc2
          exact ⟨_, List.getElem?_eq_getElem hj, fun u hu => ih m (by omega) _ _ u hu hst fun i' hi' => hle _ (List.getElem_mem hi) i' (hld i' hi')⟩
        simp only [strip, ht, Bool.false_eq_true, if_false] at h
        simp only [leads, ht, Bool.false_eq_true, if_false] at hl
        split at h
        · -- a row
          rename_i i ver off k
          simp only at hl
          split at h
          · rename_i es hrow
            obtain ⟨es', hm, rfl⟩ := Option.map_eq_some_iff.1 h
            rw [hrow] at hl
            obtain ⟨hlen, hel⟩ := hcell es es' hm fun e he i' hi' => hl i' (List.mem_cons_of_mem _ (List.mem_flatMap.2 ⟨e, he, hi'⟩))
            have hmem : i ∈ l := hl i List.mem_cons_self
            have key : ∀ sz fs since, RowR ρ W i sz fs since → (if since ≤ ver ∧ off + k ≤ ver ∧ ver ≤ fs.length then some ((fs.drop off).take k) else none) = some es → R (bare (lent ρ l)) W (.slice es') v := by
              intro sz fs since hro hif
              split at hif
              · rename_i hcond
                cases hif
                have hxl : ((fs.drop off).take k).length = k := by simp; omega
                have hget : ∀ (idx : Nat) (e : D), ((fs.drop off).take k)[idx]? = some e → idx < k ∧ fs[off + idx]? = some e := by
                  intro idx e he
                  have hi : idx < k := by have := (List.getElem?_eq_some_iff.1 he).1; omega
                  rw [List.getElem?_take_of_lt hi, List.getElem?_drop] at he
                  exact ⟨hi, he⟩
                cases r with
                | arr0 =>
                  have : es' = [] := List.eq_nil_of_length_eq_zero (by rw [hlen]; simp)
                  rw [this]; exact .slice0 _ _
                | arr hp hn' hc' =>
                  rename_i c p
                  have e1 : p.sz = sz := hro.sz hcond.1 hcond.2.2 hp
                  have cellv : ∀ (a j : Nat) (e' c' : D), es'[a]? = some e' → e'.cells[j]? = some c' → ∃ u, W.cell? ⟨p.blk, off * p.sz + (a * sz + j), none⟩ = some u ∧ R (bare (lent ρ l)) W c' u := by
                    intro a j e' c' he' hc''
                    obtain ⟨e, he, hl1, hl2⟩ := hel a e' he'
                    obtain ⟨c0, hc0, hto⟩ := hl2 j c' hc''
                    obtain ⟨ha, hfe⟩ := hget a e he
                    obtain ⟨_, _, hcells⟩ := hro.elem hcond.1 hcond.2.2 hp (by omega : off + a < ver) hfe
                    obtain ⟨u, hu, hur⟩ := hcells j c0 hc0
                    refine ⟨u, ?_, hto u hur⟩
                    rw [e1, show off * sz + (a * sz + j) = (off + a) * sz + j by rw [Nat.add_mul]; omega]
                    exact hu
                  refine .slice (sz := sz) (f := fun a j => (W.cell? ⟨p.blk, off * p.sz + (a * sz + j), none⟩).getD Go.undef) (.inr ⟨i, ver, p, hmem, hp, rfl⟩) (by rw [hlen, hxl]) hn' (fun a e' he' => ?_) (fun a j e' c' he' hc'' => ?_) (fun a j e' c' he' hc'' => ?_)
                  · obtain ⟨e, he, hl1, _⟩ := hel a e' he'
                    rw [hl1]; exact (hro.2.1 _ _ (hget a e he).2).1
                  · obtain ⟨u, hu, _⟩ := cellv a j e' c' he' hc''
                    rw [hu]; rfl
                  · obtain ⟨u, hu, hur⟩ := cellv a j e' c' he' hc''
                    rw [hu]; exact hur
              · cases hif
            simp only [rowOf] at hrow
            split at hrow
            · rename_i sz fs since hes; exact key _ _ _ (hR.obj i _ hes) hrow
            · rename_i sz fs since hes; exact key _ _ _ (hR.obj i _ hes).1 hrow
            · cases hrow
          · cases h
        · rename_i es
          obtain ⟨es', hm, rfl⟩ := Option.map_eq_some_iff.1 h
          obtain ⟨hlen, hel⟩ := hcell es es' hm fun e he i' hi' => hl i' (List.mem_flatMap.2 ⟨e, he, hi'⟩)
          cases r with
          | slice0 a c =>
            have : es' = [] := List.eq_nil_of_length_eq_zero (by rw [hlen]; rfl)
            rw [this]; exact .slice0 _ _
          | slice hf hn' hcap hsz hc hr =>
            rename_i sz f
            refine .slice (sz := sz) (f := f) (.inl hf) (by rw [hlen]; exact hn') hcap (fun a e' he' => ?_) (fun a j e' c' he' hc' => ?_) (fun a j e' c' he' hc' => ?_)
            · obtain ⟨e, he, hl1, _⟩ := hel a e' he'
              rw [hl1]; exact hsz a e he
            · obtain ⟨e, he, hl1, hl2⟩ := hel a e' he'
              obtain ⟨c0, hc0, _⟩ := hl2 j c' hc'
              exact hc a j e c0 he hc0
            · obtain ⟨e, he, hl1, hl2⟩ := hel a e' he'
              obtain ⟨c0, hc0, hto⟩ := hl2 j c' hc'
              exact hto _ (hr a j e c0 he hc0)
        · rename_i cs
          obtain ⟨cs', hm, rfl⟩ := Option.map_eq_some_iff.1 h
          obtain ⟨h1, h2⟩ := mapM_some hm
          cases r with
          | agg hs hr =>
            refine .agg (by rw [hs, h1]) fun j d hd => ?_
            have hj : j < cs.length := by rw [← h1]; exact (List.getElem?_eq_some_iff.1 hd).1
            obtain ⟨y, hy, hy'⟩ := h2 j _ (List.getElem?_eq_getElem hj)
            rw [hd] at hy'; cases hy'
            exact ih n hnN _ _ _ (hr j _ (List.getElem?_eq_getElem hj)) hy fun i' hi' => hl i' (List.mem_flatMap.2 ⟨_, List.getElem_mem hj, hi'⟩)
        · rename_i cs
          obtain ⟨cs', hm, rfl⟩ := Option.map_eq_some_iff.1 h
          obtain ⟨h1, h2⟩ := mapM_some hm
          cases r with
          | tuple hs hr =>
            refine .tuple (by rw [hs, h1]) fun j d hd => ?_
            have hj : j < cs.length := by rw [← h1]; exact (List.getElem?_eq_some_iff.1 hd).1
            obtain ⟨y, hy, hy'⟩ := h2 j _ (List.getElem?_eq_getElem hj)
            rw [hd] at hy'; cases hy'
            exact ih n hnN _ _ _ (hr j _ (List.getElem?_eq_getElem hj)) hy fun i' hi' => hl i' (List.mem_flatMap.2 ⟨_, List.getElem_mem hj, hi'⟩)
        · cases h

end Go.AI

namespace Go.AI
open Go

/-- The table of globals tells trees. -/
def GlobT (glob : Gl) : Prop := ∀ g cs, glob.g g = some cs → treeL cs = true

theorem GlobR.bare {ρ : Ren} {W : World} {glob : Gl} (hT : GlobT glob) (h : GlobR ρ W glob) : GlobR (bare ρ.fix) W glob := by
  intro g cs hg
  have ht := hT g cs hg
  obtain ⟨h1, h2⟩ := h g cs hg
  refine ⟨?_, h2⟩
  cases h1 with
  | tptr hf hc hr => exact .tptr hf hc fun j d hd => (hr j d hd).tree (treeL_get ht hd)

/-- What a call of a function gives that is known by what it computes: the blocks that there are stay, and what is new no longer changes. -/
def Gives (W : World) (fx : Nat → Prop) (r : D) (en : Ending) (w : World) : Prop :=
  ∃ (fx' : Nat → Prop) (v : Value), en = .returned v ∧ (∀ b, fx b → fx' b) ∧ (∀ b, fx' b → fx b ∨ (W.heap.size ≤ b ∧ b < w.heap.size)) ∧
    (∀ b, b < W.heap.size → w.heap[b]? = W.heap[b]?) ∧ W.heap.size ≤ w.heap.size ∧ w.os = W.os ∧ w.tape = W.tape ∧ w.output = W.output ∧ R (bare fx') w r v

def PureCall (P : Program) (glob : Gl) (f : FuncId) (args : List D) (r : D) : Prop :=
  ∀ (fx : Nat → Prop) (W : World) (vs : Array Value), (∀ b, fx b → b < W.heap.size) → GlobR (bare fx) W glob → Rs (bare fx) W args vs → Calls P f vs W (Gives W fx r)

/-- The table of known functions tells the truth. -/
def ExtR (P : Program) (glob : Gl) (ext : Ext) : Prop :=
  ∀ f g, ext f = some g → Real P f ∧ ∀ args r, treeL args = true → g args = some r → r.tree = true ∧ PureCall P glob f args r

def TabR (P : Program) (T : FuncId → Option AFunc) : Prop :=
  ∀ f af, T f = some af → ∃ fn acc keep, P.funcs[f]? = some fn ∧ cFunc P acc keep fn = some af

/-- A world in which nothing is told but what no longer changes. -/
def cold (P : Program) (fx : Nat → Prop) : Ren := ⟨fun _ _ => none, fx, codeP P⟩

theorem cold_rel {P : Program} {fx : Nat → Prop} {W : World} (h : ∀ b, fx b → b < W.heap.size) : Rel (cold P fx) W [] :=
  ⟨fun i o h => by simp at h, fun i v p h => by simp [cold] at h, fun i v p j w q h => by simp [cold] at h, fun i o v p h => by simp at h, h⟩

/-- A known function, called where the objects are. -/
theorem pure_lift {P : Program} {glob : Gl} {f : FuncId} {args : List D} {r : D} {ρ : Ren} {W : World} {σ : St} {vs : Array Value} (h : PureCall P glob f args r) (hR : Rel ρ W σ) (hT : GlobT glob) (hG : GlobR ρ W glob)
    (ha : Rs (bare ρ.fix) W args vs) : Calls P f vs W (EndR ρ W σ (.ret r)) := by
  refine Calls.mono (h ρ.fix W vs hR.fixlt (hG.bare hT) ha) fun en w hg => ?_
  obtain ⟨fx', v, rfl, h1, h2, h3, h4, h5, h6, h7, hr⟩ := hg
  obtain ⟨L, hR'⟩ := hR.grow (ρ' := ⟨ρ.loc, fx', ρ.code⟩) (W' := w) h4 h5 h6 h7 h3 rfl rfl h2 h1
  exact ⟨⟨ρ.loc, fx', ρ.code⟩, L, hR', R.mono (ρ := bare fx') (ρ' := ⟨ρ.loc, fx', ρ.code⟩) (fun i v p h => by simp [bare] at h) (fun b h => h) (fun _ _ => rfl) hr⟩

theorem Rs.tree {ρ : Ren} {W : World} {args : List D} {vs : Array Value} (h : Rs ρ W args vs) (ht : treeL args = true) : Rs (bare ρ.fix) W args vs :=
  ⟨h.1, fun j d hd => (h.2 j d hd).tree (treeL_get ht hd)⟩

/-- The objects to which a value leads are rows. -/
theorem leads_row : ∀ (n : Nat) (σ : St) (d d' : D), strip n σ d = some d' → ∀ i ∈ leads n σ d, (∃ sz es since, σ[i]? = some (.row sz es since)) ∨ (∃ sz es since, σ[i]? = some (.fro sz es since))
  | 0, σ, d, d', h, i, hi => by simp [leads] at hi
  | n + 1, σ, d, d', h, i, hi => by
    have many : ∀ {l l' : List D}, l.mapM (strip n σ) = some l' → ∀ i ∈ l.flatMap (leads n σ), (∃ sz es since, σ[i]? = some (.row sz es since)) ∨ (∃ sz es since, σ[i]? = some (.fro sz es since)) := fun {l l'} hm i hi => by
      obtain ⟨e, he, hie⟩ := List.mem_flatMap.1 hi
      obtain ⟨j, hj⟩ := List.mem_iff_getElem?.1 he
      obtain ⟨y, hy, _⟩ := (mapM_some hm).2 j e hj
      exact leads_row n σ e y hy i hie
    by_cases ht : d.tree = true
    · simp [leads, ht] at hi
    · simp only [strip, ht, Bool.false_eq_true, if_false] at h
      simp only [leads, ht, Bool.false_eq_true, if_false] at hi
      split at h
      · rename_i k ver off m
        simp only at hi
        split at h
        · rename_i es hrow
          obtain ⟨l', hl, rfl⟩ := Option.map_eq_some_iff.1 h
          rw [hrow] at hi
          rcases List.mem_cons.1 hi with rfl | hi
          · simp only [rowOf] at hrow
            split at hrow
            · rename_i hes; exact .inl ⟨_, _, _, hes⟩
            · rename_i hes; exact .inr ⟨_, _, _, hes⟩
            · cases hrow
          · exact many hl i hi
        · cases h
      · obtain ⟨l', hl, rfl⟩ := Option.map_eq_some_iff.1 h; exact many hl i hi
      · obtain ⟨l', hl, rfl⟩ := Option.map_eq_some_iff.1 h; exact many hl i hi
      · obtain ⟨l', hl, rfl⟩ := Option.map_eq_some_iff.1 h; exact many hl i hi
      · cases h

/-- A known function, its arguments written out. -/
theorem callExt_sound {P : Program} {glob : Gl} {f : FuncId} {g : List D → Option D} (hg : ∀ args r, treeL args = true → g args = some r → r.tree = true ∧ PureCall P glob f args r) (hT : GlobT glob)
    {args : List D} {σ : St} {r : FRes} {σ' : St} (h : callExt g args σ = some (r, σ')) {ρ : Ren} {W : World} {vs : Array Value} (hR : Rel ρ W σ) (hG : GlobR ρ W glob) (ha : Rs ρ W args vs) :
    Calls P f vs W (EndR ρ W σ' r) := by
  unfold callExt at h
  split at h
  · rename_i ht
    obtain ⟨d, hd, hx⟩ := Option.map_eq_some_iff.1 h
    cases hx
    exact pure_lift (hg args d ht hd).2 hR hT hG (ha.tree ht)
  · split at h
    · rename_i as has
      split at h
      · rename_i d hd
        obtain ⟨m1, m2⟩ := mapM_some has
        have hast : treeL as = true := treeL_of fun j x hx => by
          have hj : j < args.length := by rw [← m1]; exact (List.getElem?_eq_some_iff.1 hx).1
          obtain ⟨y, hy, hy'⟩ := m2 j _ (List.getElem?_eq_getElem hj)
          rw [hx] at hy'; cases hy'
          exact strip_tree _ _ _ _ hy
        -- the blocks that are lent
        have hra : ∀ (ρ1 : Ren), (∀ b, lent ρ (args.flatMap (leads 16 σ)) b → ρ1.fix b) → Rs (bare ρ1.fix) W as vs := by
          intro ρ1 hle
          refine ⟨by rw [ha.1, m1], fun j x hx => ?_⟩
          have hj : j < args.length := by rw [← m1]; exact (List.getElem?_eq_some_iff.1 hx).1
          obtain ⟨y, hy, hy'⟩ := m2 j _ (List.getElem?_eq_getElem hj)
          rw [hx] at hy'; cases hy'
          have := strip_sound hR (args.flatMap (leads 16 σ)) 16 16 (Nat.le_refl _) _ _ _ (ha.2 j _ (List.getElem?_eq_getElem hj)) hy fun i hi => List.mem_flatMap.2 ⟨_, List.getElem_mem hj, hi⟩
          exact this.mono (fun i v p h => by simp [bare] at h) hle (fun _ _ => rfl)
        split at h
        · rename_i hflat
          cases h
          -- lent for the call alone
          have hlt : ∀ b, lent ρ (args.flatMap (leads 16 σ)) b → b < W.heap.size := by
            rintro b (h | ⟨i, v, p, _, hp, rfl⟩)
            · exact hR.fixlt b h
            · exact (hR.blk i v p hp).1
          have hGl : GlobR (bare (lent ρ (args.flatMap (leads 16 σ)))) W glob := fun g cs hgc =>
            ⟨R.mono (ρ := bare ρ.fix) (ρ' := bare (lent ρ (args.flatMap (leads 16 σ)))) (fun _ _ _ h => h) (fun b h => Or.inl h) (fun _ _ => rfl) (hG.bare hT g cs hgc).1, (hG g cs hgc).2⟩
          refine Calls.mono ((hg as d hast hd).2 (lent ρ (args.flatMap (leads 16 σ))) W vs hlt hGl (hra (bare (lent ρ (args.flatMap (leads 16 σ)))) fun b h => h)) fun en w hgv => ?_
          obtain ⟨fx', v, rfl, h1, h2, h3, h4, h5, h6, h7, hr⟩ := hgv
          obtain ⟨L, hR'⟩ := hR.grow (ρ' := ρ) (W' := w) h4 h5 h6 h7 h3 rfl rfl (fun b h => .inl h) (fun b h => h)
          exact ⟨ρ, L, hR', hr.flat hflat⟩
        · cases h
          obtain ⟨L, hR1⟩ := hR.freeze (args.flatMap (leads 16 σ))
          -- frozen objects and those that are frozen already are the lent ones
          refine Calls.mono (pure_lift (hg as d hast hd).2 hR1 hT (hG.later L) (hra _ fun b hb => ?_)) fun en w he => ?_
          · rcases hb with h | ⟨i, v, p, hi, hp, rfl⟩
            · exact .inl h
            · obtain ⟨x, hx, hix⟩ := List.mem_flatMap.1 hi
              obtain ⟨j, hj⟩ := List.mem_iff_getElem?.1 hx
              obtain ⟨y, hy, _⟩ := m2 j x hj
              rcases leads_row 16 σ x y hy i hix with ⟨sz, es, since, hs⟩ | ⟨sz, es, since, hs⟩
              · exact .inr ⟨i, sz, es, since, v, p, hi, hs, hp, rfl⟩
              · exact .inl ((hR.obj i _ hs).2 v p hp)
          · obtain ⟨ρ2, L2, h2⟩ := he
            exact ⟨ρ2, L.trans L2, h2⟩
      · cases h
    · cases h


theorem extOK {T : FuncId → Option AFunc} {ext : Ext} {glob : Gl} (k : Nat) : ExtOK (fun f => (ext f).isSome) (evalFn T ext glob k) := by
  intro f args σ r σ' hx h
  cases k with
  | zero => cases h
  | succ k =>
    obtain ⟨g, hg⟩ := Option.isSome_iff_exists.1 hx
    simp only [evalFn, hg] at h
    unfold callExt at h
    split at h
    · rename_i ht
      obtain ⟨d, hd, hq⟩ := Option.map_eq_some_iff.1 h
      cases hq
      exact ⟨d, rfl, fun _ => rfl⟩
    · rename_i ht
      split at h
      · split at h
        · rename_i d hd
          split at h
          · cases h; exact ⟨d, rfl, fun _ => rfl⟩
          · rename_i hf
            cases h
            refine ⟨d, rfl, fun hh => ?_⟩
            rcases hh with hh | hh
            · exact absurd hh hf
            · exact absurd hh ht
        · cases h
      · cases h

theorem argsE_get : ∀ (l : List D) (i t : Nat), getE (argsE i l) t = if i ≤ t ∧ t < i + l.length then l.getD (t - i) .any else .any
  | [], i, t => by simp [argsE, getE]
  | d :: l, i, t => by
    simp only [argsE, getE]
    split
    · rename_i h
      subst h
      simp
    · rename_i h
      rw [argsE_get l (i + 1) t]
      by_cases hc : i ≤ t ∧ t < i + (d :: l).length
      · rw [if_pos hc, if_pos (by simp at hc; omega)]
        rw [show t - i = (t - (i + 1)) + 1 by omega]
        rfl
      · rw [if_neg hc, if_neg (by simp at hc; omega)]

theorem args_RE {ρ : Ren} {W : World} {args : List D} {vs : Array Value} (h : Rs ρ W args vs) (m : Nat) : RE ρ W (argsE 0 args) (vs ++ Array.replicate m Go.undef) := by
  intro t
  rw [argsE_get]
  split
  · rename_i hc
    have ht : t < args.length := by omega
    have htv : t < vs.size := by rw [h.1]; exact ht
    have := h.2 t _ (List.getElem?_eq_getElem ht)
    refine R.undef_irrel ?_ (by rw [List.getD_eq_getElem?_getD, Nat.sub_zero, List.getElem?_eq_getElem ht]; exact this)
    simp [Array.getD_eq_getD_getElem?, Array.getElem?_append_left htv]
  · exact .any _

theorem resOf_sound {P : Program} {ρ : Ren} {W : World} {σ : St} {e : Env} {tmps : Array Value} (hR : Rel ρ W σ) (hE : RE ρ W e tmps) {v : ResultVar} {av : ARes} (hv : cRes P v = some av) {d : D} (h : resOf e σ av = some d) :
    ∃ u, (match v with | .tmp t => pure (tmps.getD t Go.undef) | .cell a t => (do loadVar t (← asAddr (tmps.getD a Go.undef))) : Sem Value).run P W = .ok u W ∧ R ρ W d u := by
  cases v with
  | tmp t =>
    simp only [cRes, Option.some.injEq] at hv
    subst hv
    simp only [resOf, Option.some.injEq] at h
    subst h
    exact ⟨_, rfl, hE t⟩
  | cell a t =>
    simp only [cRes, Option.bind_eq_bind, Option.pure_def, Option.bind_eq_some_iff, Option.some.injEq] at hv
    obtain ⟨ag, h1, sz, h2, rfl⟩ := hv
    obtain ⟨u, hu, hr⟩ := load_sound hR h1 h2 (hE a) h
    refine ⟨u, ?_, hr⟩
    show ((do loadVar t (← asAddr (tmps.getD a Go.undef))) : Sem Value).run P W = _
    generalize tmps.getD a Go.undef = x at hu ⊢
    unfold Instr.loadAt at hu
    simp only [Sem.run_bind] at hu ⊢
    unfold Instr.sureAddr at hu
    split at hu
    · exact hu
    · cases hu

theorem results_list {P : Program} {ρ : Ren} {W : World} {σ : St} {e : Env} {tmps : Array Value} (hR : Rel ρ W σ) (hE : RE ρ W e tmps) : ∀ {l : List ResultVar} {al : List ARes} {ds : List D},
    l.mapM (cRes P) = some al → al.mapM (resOf e σ) = some ds →
    ∃ us : List Value, (l.mapM fun v => (match v with | .tmp t => pure (tmps.getD t Go.undef) | .cell a t => (do loadVar t (← asAddr (tmps.getD a Go.undef))) : Sem Value)).run P W = .ok us W ∧ us.length = ds.length ∧
      ∀ (j : Nat) (d : D), ds[j]? = some d → R ρ W d (us.getD j Go.undef)
  | [], al, ds, h1, h2 => by
    simp at h1; subst h1
    simp at h2; subst h2
    exact ⟨[], rfl, rfl, fun j d h => by simp at h⟩
  | v :: l, al, ds, h1, h2 => by
    simp only [List.mapM_cons, Option.bind_eq_bind, Option.pure_def, Option.bind_eq_some_iff, Option.some.injEq] at h1
    obtain ⟨av, hav, al', hal, rfl⟩ := h1
    simp only [List.mapM_cons, Option.bind_eq_bind, Option.pure_def, Option.bind_eq_some_iff, Option.some.injEq] at h2
    obtain ⟨d, hd, ds', hds, rfl⟩ := h2
    obtain ⟨u, hu, hr⟩ := resOf_sound hR hE hav hd
    obtain ⟨us, hus, hl, hrs⟩ := results_list hR hE hal hds
    refine ⟨u :: us, ?_, by simp [hl], fun j x hx => ?_⟩
    · rw [List.mapM_cons, Sem.run_bind, hu, Result.andThen_ok, Sem.run_bind, hus, Result.andThen_ok]
      rfl
    · cases j with
      | zero => simp at hx; subst hx; exact hr
      | succ j => exact hrs j x (by simpa using hx)

theorem results_sound {P : Program} {ρ : Ren} {W : World} {σ : St} {e : Env} {tmps : Array Value} (hR : Rel ρ W σ) (hE : RE ρ W e tmps) {fn : Func} {al : List ARes} (hal : fn.results.toList.mapM (cRes P) = some al) {d : D}
    (h : resultsOf e σ al = some d) : ∃ v, (results fn tmps).run P W = .ok v W ∧ R ρ W d v := by
  unfold resultsOf at h
  cases hds : al.mapM (resOf e σ) with
  | none => rw [hds] at h; cases h
  | some ds =>
    rw [hds] at h
    obtain ⟨us, hus, hl, hrs⟩ := results_list hR hE hal hds
    have hmap : (fn.results.mapM fun v => (match v with | .tmp t => pure (tmps.getD t Go.undef) | .cell a t => (do loadVar t (← asAddr (tmps.getD a Go.undef))) : Sem Value)).run P W = .ok us.toArray W := by
      rw [Array.mapM_eq_mapM_toList]
      simp only [Sem.run_map, hus]
      rfl
    have hres : (results fn tmps).run P W = .ok (if h : us.toArray.size = 1 then us.toArray[0] else .tuple us.toArray) W := by
      unfold results
      rw [Sem.run_bind]
      erw [hmap]
      rfl
    rw [hres]
    match ds, us, hl, hrs, h with
    | [x], [u], _, hrs, h =>
      simp only [Option.some.injEq] at h
      subst h
      exact ⟨u, rfl, hrs 0 x rfl⟩
    | [], [], _, _, h =>
      simp only [Option.some.injEq] at h
      subst h
      exact ⟨.tuple #[], rfl, .tuple rfl fun j d h => by simp at h⟩
    | x :: y :: ds, u1 :: u2 :: us, hl, hrs, h =>
      simp only [Option.some.injEq] at h
      subst h
      refine ⟨.tuple (u1 :: u2 :: us).toArray, by simp, .tuple (by simpa using hl) fun j d hd => ?_⟩
      have := hrs j d hd
      simpa [Array.getD_eq_getD_getElem?, List.getD_eq_getElem?_getD] using this

theorem Rs.snd {ρ : Ren} {W : World} {d : D} {ds : List D} {v : Value} {vs : List Value} (h : Rs ρ W (d :: ds) (v :: vs).toArray) : R ρ W d v ∧ Rs ρ W ds vs.toArray :=
  ⟨h.2 0 d rfl, by have := h.1; simpa using this, fun j x hx => by have := h.2 (j + 1) x (by simpa using hx); simpa [Array.getD_eq_getD_getElem?] using this⟩

/-- The parameters of a round. -/
theorem putParams_sound {ρ : Ren} {W : World} {n : Nat} : ∀ (ps : List Nat) (ds : List D) (vs : List Value) (e e' : Env) (tmps : Array Value), putParams n ps ds e = some e' → Rs ρ W ds vs.toArray → RE ρ W e tmps → tmps.size = n →
    RE ρ W e' ((ps.zip vs).foldl (fun tmps (t, a) => tmps.setIfInBounds t a) tmps) ∧ ((ps.zip vs).foldl (fun tmps (t, a) => tmps.setIfInBounds t a) tmps).size = n ∧ vs.length = ps.length
  | [], [], vs, e, e', tmps, h, hv, hE, hn => by
    cases h
    have : vs = [] := List.eq_nil_of_length_eq_zero (by simpa using hv.1)
    subst this
    exact ⟨hE, hn, rfl⟩
  | [], _ :: _, _, _, _, _, h, _, _, _ => by cases h
  | _ :: _, [], _, _, _, _, h, _, _, _ => by cases h
  | p :: ps, d :: ds, vs, e, e', tmps, h, hv, hE, hn => by
    match vs, hv with
    | [], hv => simp [Rs] at hv
    | v :: vs, hv =>
      obtain ⟨h1, h2⟩ := Rs.snd hv
      simp only [putParams] at h
      split at h
      · rename_i e1 hput
        obtain ⟨hE1, hn1⟩ := RE.put (a := { tmps, defers := [] }) hE hn hput h1
        obtain ⟨a1, a2, a3⟩ := putParams_sound ps ds vs e1 e' (tmps.setIfInBounds p v) h h2 hE1 hn1
        exact ⟨by simpa using a1, by simpa using a2, by simpa using a3⟩
      · cases h

/-- The end of a round. -/
theorem endR_sound {P : Program} {ρ : Ren} {W : World} {σ : St} (hR : Rel ρ W σ) {i : Nat} {p : Pl} (hp : ρ.loc i 0 = some p) {j : Option AJump} {r : FRes} {σ' : St} (h : endR i j σ = some (r, σ')) :
    ∃ v w', (Instr.endRound p.blk (j.map AJump.code)).run P W = .ok v w' ∧ EndR ρ W σ' r (.returned v) w' := by
  unfold endR at h
  split at h
  · rename_i n env ps as bd st pd hs
    cases h
    obtain ⟨p', rec, hp', hh, r1, r2, r3, r4, r5, r6, r7⟩ := hR.obj _ _ hs
    rw [hp] at hp'
    cases hp'
    obtain ⟨rst, rpe, rfn, rtm, rps, ras, rbd, rdf⟩ := rec
    simp only at r1 r2 r3 r4 r5 r6 r7
    have hend := run_endRound (P := P) (j.map AJump.code) hh
    have hj : (j.map AJump.code).isNone = j.isNone := by cases j <;> rfl
    rw [hj] at hend
    obtain ⟨L, hR'⟩ := setObj_change hR hs rfl hp (.loop { state := if j.isNone then .ready else .done, pending := j.map AJump.code, fn := rfn, tmps := rtm, params := rps, assign := ras, body := rbd, defers := rdf })
      (o' := .loop n env ps as bd (if j.isNone then .ready else .done) j) (fun L => ⟨p, _, hp, heap_set_at hh, rfl, rfl, r3, r4, r5, r6, fun t => (r7 t).later L⟩)
    exact ⟨.bool j.isNone, _, hend, ρ, L, hR', .bool _⟩
  · cases h

/-- A round. -/
theorem round_sound {P : Program} {glob : Gl} {callf : CallF} {ext : FuncId → Bool} {k : Nat} (hcall : CallOK P glob callf) (hext : ExtOK ext callf) (hord : P.follows .mixedOrders = true) {i : Nat} {args : List D} {σ : St} {r : FRes} {σ' : St}
    (h : evalRound (fun n => evalCode callf ext glob n k true) i args σ = some (r, σ')) {ρ : Ren} {W : World} {vs : Array Value} {p : Pl} (hR : Rel ρ W σ) (hG : GlobR ρ W glob) (hcd : ρ.code = codeP P) (ha : Rs ρ W args vs) (hp : ρ.loc i 0 = some p) :
    ∃ l f tmps assign body, (Instr.yield p.blk vs).run P W = .ok (.round l f tmps assign body) W ∧ RoundIn (FR none) 0 P l f tmps assign body W (EndR ρ W σ' r) := by
  unfold evalRound at h
  split at h
  · rename_i n env ps as bd hs
    obtain ⟨p', rec, hp', hh, r1, r2, r3, r4, r5, r6, r7⟩ := hR.obj _ _ hs
    rw [hp] at hp'
    cases hp'
    split at h
    · rename_i e hput
      obtain ⟨q1, q2, q3⟩ := putParams_sound ps args vs.toList env e rec.tmps hput (by simpa using ha) r7 r6
      have hsz : vs.size = rec.params.size := by
        have := q3; rw [← r3] at this; simpa using this
      have hfold : (rec.params.zip vs).foldl (fun tmps (t, a) => tmps.setIfInBounds t a) rec.tmps = (ps.zip vs.toList).foldl (fun tmps (t, a) => tmps.setIfInBounds t a) rec.tmps := by
        rw [← Array.foldl_toList, ← r3]
        simp
      refine ⟨p.blk, rec.fn, _, rec.assign, rec.body, run_yield hh hsz, roundIn_of_wpIn trivial ?_⟩
      rw [hfold]
      obtain ⟨acc1, keep1, hc1⟩ : codeP P as rec.assign := by rw [← hcd]; exact r4
      obtain ⟨acc2, keep2, hc2⟩ : codeP P bd rec.body := by rw [← hcd]; exact r5
      split at h
      · rename_i e1 σ1 hev1
        refine wpIn_mono (code_sound (ro := some p.blk) (base := W.heap.size) hcall hext hord (fun h => by cases h) _ rec.assign (Nat.le_refl _) as e σ _ e1 σ1 ρ W _ hc1 hev1 hR hG hcd (Nat.le_refl _) q1 q2 (DefR.nil _ _ _)) fun ex a1 w1 hpost => ?_
        obtain ⟨ρ1, L1, hR1, hn1, hd1, hx⟩ := hpost
        cases ex <;> first | exact hx.elim | skip
        split at h
        · rename_i n1 env1 ps1 as1 bd1 pd1 hs1
          obtain ⟨p1, rec1, hp1, hh1, t1, t2, t3, t4, t5, t6, t7⟩ := hR1.obj _ _ hs1
          rw [L1.loc _ _ _ hp] at hp1
          cases hp1
          obtain ⟨L2, hR2⟩ := setObj_change hR1 hs1 rfl (L1.loc _ _ _ hp) (.loop { rec1 with state := .busy }) (o' := .loop n1 env1 ps1 as1 bd1 .busy pd1)
            (fun L => ⟨p, _, L1.loc _ _ _ hp, heap_set_at hh1, rfl, t2, t3, t4, t5, t6, fun t => (t7 t).later L⟩)
          refine ⟨_, run_beginRound hh1 t1, ?_⟩
          have go : ∀ x e2 σ2, evalCode callf ext glob n k true bd e1 (σ1.set i (.loop n1 env1 ps1 as1 bd1 .busy pd1)) = some (x, e2, σ2) →
              rec.body.wpIn ((FR none).inRound p.blk) 0 P (PostR n W.heap.size ρ1 w1 x e2 σ2) a1 (w1.putObj p.blk (.loop { rec1 with state := .busy })) := fun x e2 σ2 hev =>
            wpIn_mono (code_sound (ro := some p.blk) (base := W.heap.size) hcall hext hord (fun h => by cases h) _ rec.body (Nat.le_refl _) bd e1 _ x e2 σ2 ρ1 _ a1 hc2 hev hR2 ((hG.later L1).later L2) (L1.code.trans hcd) (Nat.le_trans L1.size L2.size) (hx.later L2) hn1 (hd1.later L2)) fun ex a w hpp => hpp.later L2
          have fin : ∀ (j : Option AJump) σ2, endR i j σ2 = some (r, σ') → ∀ ρ2 w2, Later ρ1 w1 ρ2 w2 → Rel ρ2 w2 σ2 → ∃ v w', (Instr.endRound p.blk (j.map AJump.code)).run P w2 = .ok v w' ∧ EndR ρ W σ' r (.returned v) w' := by
            intro j σ2 hend ρ2 w2 LL hRR
            obtain ⟨v, w', h1, ρ3, L3, h3⟩ := endR_sound (P := P) hRR (LL.loc _ _ _ (L1.loc _ _ _ hp)) hend
            exact ⟨v, w', h1, ρ3, (L1.trans LL).trans L3, h3⟩
          split at h
          · rename_i e2 σ2 hev
            refine wpIn_mono (go _ _ _ hev) fun ex a w hpp => ?_
            obtain ⟨ρ2, LL, hRR, _, _, hxx⟩ := hpp
            cases ex <;> first | exact hxx.elim | exact fin none σ2 h ρ2 w LL hRR
          · rename_i e2 σ2 hev
            refine wpIn_mono (go _ _ _ hev) fun ex a w hpp => ?_
            obtain ⟨ρ2, LL, hRR, _, _, hxx⟩ := hpp
            cases ex <;> first | exact hxx.elim | exact fin (some .ret) σ2 h ρ2 w LL hRR
          · rename_i id e2 σ2 hev
            refine wpIn_mono (go _ _ _ hev) fun ex a w hpp => ?_
            obtain ⟨ρ2, LL, hRR, _, _, hxx⟩ := hpp
            cases ex <;> first | exact hxx.elim | skip
            obtain ⟨rfl, _⟩ := hxx
            exact fin (some (.exit _)) σ2 h ρ2 w LL hRR
          · rename_i l e2 σ2 hev
            refine wpIn_mono (go _ _ _ hev) fun ex a w hpp => ?_
            obtain ⟨ρ2, LL, hRR, _, _, hxx⟩ := hpp
            cases ex <;> first | exact hxx.elim | skip
            obtain ⟨rfl, _⟩ := hxx
            exact fin (some (.goto _)) σ2 h ρ2 w LL hRR
          · cases h
        · cases h
      · cases h
    · cases h
  · cases h

end Go.AI

namespace Go.AI
open Go

/-- A block that nothing tells is turned. -/
theorem take_one {ρ0 ρ : Ren} {W0 w : World} {σ : St} (h0 : ∀ b, ρ0.fix b → b < W0.heap.size) (L : Later ρ0 W0 ρ w) (hR : Rel ρ w σ) {D : Nat} (hD : W0.heap.size ≤ D) (hloc : ∀ i v p, ρ.loc i v = some p → p.blk ≠ D) (hfix : ¬ρ.fix D) (o : Go.Obj) :
    Later ρ0 W0 ρ (w.putObj D o) ∧ Rel ρ (w.putObj D o) σ ∧ Soft ρ w ρ (w.putObj D o) := by
  have S : Soft ρ w ρ (w.putObj D o) := ⟨fun _ _ _ h => h, fun _ h => h, fun b hb => World.putObj_heap_other (fun h => hfix (h ▸ hb)), rfl⟩
  refine ⟨⟨L.loc, L.fix, fun b hb => ?_, by rw [World.putObj_size]; exact L.size, L.os, L.tape, L.output, fun b hb hn => ?_, L.new, L.fixnew, L.code⟩, ⟨fun i o' ho => ?_, fun i v p hp => ?_, hR.inj, hR.apart, fun b hb => ?_⟩, S⟩
  · rw [World.putObj_heap_other (by have := h0 b hb; omega)]; exact L.heap b hb
  · rw [World.putObj_heap_other (by omega)]; exact L.own b hb hn
  · exact (hR.obj i o' ho).soft S (fun v p hp => World.putObj_heap_other (hloc i v p hp)) fun _ => rfl
  · rw [World.putObj_size]; exact hR.blk i v p hp
  · rw [World.putObj_size]; exact hR.fixlt b hb

/-- Out of a function, its marks taken. -/
theorem leaves {P : Program} {fn : Func} {tmps : Array Value} {Rq : Ending → World → Prop} {ρ0 ρ : Ren} {W0 : World} {σ : St} {u : FrameMode} (hu : u ≠ .run) (h0 : ∀ b, ρ0.fix b → b < W0.heap.size) :
    ∀ (Ds : List Nat) (w : World), Ds.Nodup → (∀ D ∈ Ds, W0.heap.size ≤ D ∧ D < w.heap.size ∧ w.heap[D]? = some (.deferred (some [])) ∧ (∀ i v p, ρ.loc i v = some p → p.blk ≠ D) ∧ ¬ρ.fix D) →
      Later ρ0 W0 ρ w → Rel ρ w σ → (∀ w', Later ρ0 W0 ρ w' → Rel ρ w' σ → Soft ρ w ρ w' → LeavesIn (FR none) 0 P fn tmps Rq [] u w') →
      LeavesInM (FR none) 0 P fn tmps Rq (Ds.map fun D => { target := .collected D, args := #[] }) u w
  | [], w, _, _, L, hR, h => h w L hR ⟨fun _ _ _ h => h, fun _ h => h, fun _ _ => rfl, rfl⟩
  | D :: Ds, w, hnd, hDs, L, hR, h => by
    obtain ⟨d1, d2, d3, d4, d5⟩ := hDs D List.mem_cons_self
    obtain ⟨L1, hR1, S⟩ := take_one h0 L hR d1 d4 d5 (.deferred none)
    refine ⟨hu, .inl ⟨D, w.putObj D (.deferred none), rfl, run_takeDeferred d3, ?_⟩⟩
    refine leaves hu h0 Ds _ (List.nodup_cons.1 hnd).2 (fun E hE => ?_) L1 hR1 fun w' L' hR' S' => h w' L' hR' ⟨fun i v p hp => S'.loc i v p (S.loc i v p hp), fun b hb => S'.fix b (S.fix b hb), fun b hb => (S'.heap b (S.fix b hb)).trans (S.heap b hb), rfl⟩
    obtain ⟨e1, e2, e3, e4, e5⟩ := hDs E (List.mem_cons_of_mem _ hE)
    have hne : E ≠ D := fun h => (List.nodup_cons.1 hnd).1 (h ▸ hE)
    exact ⟨e1, by rw [World.putObj_size]; exact e2, by rw [World.putObj_heap_other hne]; exact e3, e4, e5⟩

/-- Functions do what the interpreter says. -/
theorem evalFn_sound {P : Program} {glob : Gl} {T : FuncId → Option AFunc} {ext : Ext} (hX : ExtR P glob ext) (hTab : TabR P T) (hT : GlobT glob) (hN : NatR P glob) (hord : P.follows .mixedOrders = true) : ∀ k, CallOK P glob (evalFn T ext glob k) := by
  intro k
  induction k with
  | zero => exact ⟨hN, fun t args σ r σ' h => by cases h⟩
  | succ k ih =>
    refine ⟨hN, ?_⟩
    intro t args σ r σ' h
    cases t with
    | round i =>
      intro ρ W vs p hR hG hcd ha hp
      simp only [evalFn] at h
      exact round_sound ih (extOK k) hord h hR hG hcd ha hp
    | fn f =>
      simp only [evalFn] at h
      split at h
      · rename_i g hg
        exact ⟨(hX f g hg).1, fun ρ W vs hR hG _ ha => callExt_sound (hX f g hg).2 hT h hR hG ha⟩
      · split at h
        · rename_i af haf
          obtain ⟨fn, acc, keep, hfn, hcf⟩ := hTab f af haf
          unfold cFunc at hcf
          cases hbody : fn.body with
          | none => rw [hbody] at hcf; cases hcf
          | some c =>
            rw [hbody] at hcf
            simp only [Option.bind_eq_bind, Option.bind_some] at hcf
            split at hcf
            · cases hcf
            · rename_i hname
              simp only [Option.pure_def, Option.bind_eq_some_iff, Option.some.injEq] at hcf
              obtain ⟨al, hal, ac, hac, rfl⟩ := hcf
              refine ⟨⟨fn, hfn, by rw [hbody]; rfl, by simpa using hname⟩, fun ρ W vs hR hG hcd ha => ?_⟩
              split at h
              · rename_i hlen
                refine callsIn_FR (r := none) (n := 0) |>.1 (callsIn_of_wp_marks hfn hbody trivial ?_ rfl)
                obtain ⟨hlen, hle⟩ := hlen
                simp only at hle h
                have hsz : (vs ++ Array.replicate (fn.ntmps - vs.size) Go.undef).size = fn.ntmps := by
                  have := ha.1
                  simp only at hlen
                  simp; omega
                have go : ∀ x e σ1, evalCode (evalFn T ext glob k) (fun f => (ext f).isSome) glob fn.ntmps k false ac (argsE 0 args) σ = some (x, e, σ1) →
                    c.wpIn (FR none) 0 P (PostR fn.ntmps W.heap.size ρ W x e σ1) { tmps := vs ++ Array.replicate (fn.ntmps - vs.size) Go.undef, defers := [] } W := fun x e σ1 hev =>
                  code_sound ih (extOK k) hord (fun _ => rfl) _ c (Nat.le_refl _) ac _ σ x e σ1 ρ W _ hac hev hR hG hcd (Nat.le_refl _) (args_RE ha _) hsz (DefR.nil _ _ _)
                have ends : ∀ e σ1, (resultsOf e σ1 al).map (fun d => (FRes.ret d, σ1)) = some (r, σ') → ∀ (ρ1 : Ren) (a : Act) (w : World), Later ρ W ρ1 w → Rel ρ1 w σ1 → DefR ρ1 w W.heap.size a.defers → RE ρ1 w e a.tmps →
                    LeavesInM (FR none) 0 P fn a.tmps (EndR ρ W σ' r) a.defers .returning w := by
                  intro e σ1 hres ρ1 a w L hR1 hd hE
                  obtain ⟨d, hd', hx⟩ := Option.map_eq_some_iff.1 hres
                  cases hx
                  obtain ⟨Ds, d1, d2, d3⟩ := hd
                  rw [d2]
                  refine leaves (by simp) hR.fixlt Ds w d1 d3 L hR1 fun w' L' hR' S => ?_
                  obtain ⟨v, hv, hr⟩ := results_sound hR' (fun t => (hE t).soft S) hal hd'
                  exact ⟨v, hv, ρ1, L', hR', hr⟩
                split at h
                · rename_i e σ1 hev
                  refine wpIn_mono (go _ e σ1 hev) fun ex a w hp => ?_
                  obtain ⟨ρ1, L, hR1, hn, hd, hx⟩ := hp
                  cases ex <;> first | exact hx.elim | exact ends e σ1 h ρ1 a w L hR1 hd hx
                · rename_i e σ1 hev
                  refine wpIn_mono (go _ e σ1 hev) fun ex a w hp => ?_
                  obtain ⟨ρ1, L, hR1, hn, hd, hx⟩ := hp
                  cases ex <;> first | exact hx.elim | exact ends e σ1 h ρ1 a w L hR1 hd hx
                · rename_i d e σ1 hev
                  cases h
                  refine wpIn_mono (go _ e σ' hev) fun ex a w hp => ?_
                  obtain ⟨ρ1, L, hR1, hn, hd, hx⟩ := hp
                  cases ex <;> first | exact hx.elim | skip
                  obtain ⟨Ds, d1, d2, d3⟩ := hd
                  obtain ⟨v, rfl, hv⟩ := hx
                  show LeavesInM (FR none) 0 P fn a.tmps (EndR ρ W σ' (.panic d)) a.defers _ w
                  rw [d2]
                  exact leaves (by simp) hR.fixlt Ds w d1 d3 L hR1 fun w' L' hR' S => ⟨ρ1, L', hR', v, rfl, hv.soft S⟩
                · cases h
              · cases h
        · cases h

/-- What a function computes of trees, written out. -/
def fnTree (T : FuncId → Option AFunc) (ext : Ext) (glob : Gl) (k : Nat) (f : FuncId) (args : List D) : Option D :=
  match evalFn T ext glob k (.fn f) args [] with
  | some (.ret d, σ) => strip 16 σ d
  | _ => none

theorem pure_of_eval {P : Program} {glob : Gl} {T : FuncId → Option AFunc} {ext : Ext} (hX : ExtR P glob ext) (hTab : TabR P T) (hT : GlobT glob) (hN : NatR P glob) (hord : P.follows .mixedOrders = true) {k : Nat} {f : FuncId} {args : List D} {r : D}
    (h : fnTree T ext glob k f args = some r) : Real P f ∧ (r.tree = true ∧ PureCall P glob f args r) := by
  unfold fnTree at h
  split at h
  · rename_i d σ hev
    obtain ⟨hreal, hcalls⟩ := (evalFn_sound hX hTab hT hN hord k).2 (.fn f) args [] (.ret d) σ hev
    refine ⟨hreal, strip_tree _ _ _ _ h, fun fx W vs hfx hG ha => ?_⟩
    have up : ∀ {d v}, R (bare fx) W d v → R (cold P fx) W d v := fun hr => R.mono (ρ := bare fx) (ρ' := cold P fx) (fun i v p h => by simp [bare] at h) (fun _ h => h) (fun _ _ => rfl) hr
    refine Calls.mono (hcalls (cold P fx) W vs (cold_rel hfx) (fun g cs hg => ⟨up (hG g cs hg).1, (hG g cs hg).2⟩) rfl ⟨ha.1, fun j x hx => up (ha.2 j x hx)⟩) fun en w he => ?_
    obtain ⟨ρ1, L, hR1, hr⟩ := he
    cases en with
    | returned v =>
      refine ⟨lent ρ1 (leads 16 σ d), v, rfl, fun b hb => .inl (L.fix b hb), fun b hb => ?_, fun b hb => L.own b hb (fun i v p h => by simp [cold] at h), L.size, L.os, L.tape, L.output, ?_⟩
      · rcases hb with hb | ⟨i, v, p, _, hp, rfl⟩
        · rcases L.fixnew b hb with h | ⟨j, u, q, hq, _⟩ | hge
          · exact .inl h
          · simp [cold] at hq
          · exact .inr ⟨hge, hR1.fixlt b hb⟩
        · rcases L.new i v p hp with ⟨j, u, q, hq, _⟩ | hge
          · simp [cold] at hq
          · exact .inr ⟨hge, (hR1.blk i v p hp).1⟩
      · exact strip_sound hR1 (leads 16 σ d) 16 16 (Nat.le_refl _) d r v hr h fun i hi => hi
    | _ => exact hr.elim
  · cases h

end Go.AI

namespace Go.AI
open Go

mutual
/-- An empty slice, whatever its capacity. -/
def D.weak : D → D
  | .empty => .slice []
  | .slice es => .slice (weakL es)
  | .agg cs => .agg (weakL cs)
  | .tuple vs => .tuple (weakL vs)
  | .iface t v => .iface t v.weak
  | d => d
def weakL : List D → List D
  | [] => []
  | d :: r => d.weak :: weakL r
end

theorem weakL_get : ∀ (l : List D) (j : Nat), (weakL l)[j]? = (l[j]?).map D.weak
  | [], j => by simp [weakL]
  | d :: r, 0 => by simp [weakL]
  | d :: r, j + 1 => by simp only [weakL, List.getElem?_cons_succ]; exact weakL_get r j

theorem weakL_length : ∀ (l : List D), (weakL l).length = l.length
  | [] => rfl
  | d :: r => by simp only [weakL, List.length_cons, weakL_length r]

theorem weak_cells (d : D) : d.weak.cells = weakL d.cells := by
  cases d <;> simp [D.weak, D.cells, weakL]

theorem weak_get {l : List D} {j : Nat} {d : D} (h : (weakL l)[j]? = some d) : ∃ e, l[j]? = some e ∧ d = e.weak := by
  rw [weakL_get] at h
  obtain ⟨e, he, hd⟩ := Option.map_eq_some_iff.1 h
  exact ⟨e, he, hd.symm⟩

theorem R.weak {ρ : Ren} {W : World} {d : D} {v : Value} (r : R ρ W d v) : R ρ W d.weak v := by
  induction r with
  | bool b => exact .bool b
  | int k n => exact .int k n
  | str s => exact .str s
  | ptr hp => exact .ptr hp
  | rptr hp => exact .rptr hp
  | tptr h hc hr ih => exact .tptr h hc hr
  | nilptr => exact .nilptr
  | empty a => exact .slice0 a 0
  | slice0 a c => exact .slice0 a c
  | @slice es b off n c sz f h hn hcap hsz hc hr ih =>
    simp only [D.weak]
    refine .slice h (by rw [weakL_length]; exact hn) hcap (sz := sz) (f := f) ?_ ?_ ?_
    · intro i e he
      obtain ⟨e', he', rfl⟩ := weak_get he
      rw [weak_cells, weakL_length]; exact hsz i e' he'
    · intro i j e d he hd
      obtain ⟨e', he', rfl⟩ := weak_get he
      rw [weak_cells] at hd
      obtain ⟨d', hd', rfl⟩ := weak_get hd
      exact hc i j e' d' he' hd'
    · intro i j e d he hd
      obtain ⟨e', he', rfl⟩ := weak_get he
      rw [weak_cells] at hd
      obtain ⟨d', hd', rfl⟩ := weak_get hd
      exact ih i j e' d' he' hd'
  | arr h hn hc => exact .arr h hn hc
  | arr0 i => exact .arr0 i
  | map h => exact .map h
  | nilmap => exact .nilmap
  | func h1 h2 hf hc ihf ihc => exact .func h1 h2 hf hc
  | nilfunc => exact .nilfunc
  | yield h => exact .yield h
  | iface h ih => exact .iface ih
  | niliface => exact .niliface
  | agg h hr ih =>
    simp only [D.weak]
    refine .agg (by rw [weakL_length]; exact h) fun j d hd => ?_
    obtain ⟨e, he, rfl⟩ := weak_get hd
    exact ih j e he
  | tuple h hr ih =>
    simp only [D.weak]
    refine .tuple (by rw [weakL_length]; exact h) fun j d hd => ?_
    obtain ⟨e, he, rfl⟩ := weak_get hd
    exact ih j e he
  | undef => exact .undef
  | any v => exact .any v

mutual
theorem D.weak_tree : ∀ (d : D), d.tree = true → d.weak.tree = true
  | .bool _, h => h | .int .., h => h | .str _, h => h | .nilptr, h => h | .nilmap, h => h | .nilfunc, h => h | .niliface, h => h
  | .empty, _ => rfl
  | .slice es, h => by simp only [D.weak, D.tree] at *; exact weakL_tree es h
  | .agg es, h => by simp only [D.weak, D.tree] at *; exact weakL_tree es h
  | .tuple es, h => by simp only [D.weak, D.tree] at *; exact weakL_tree es h
  | .iface t v, h => by simp only [D.weak, D.tree] at *; exact D.weak_tree v h
  | .func .., h => h
  | .ptr .., h => h | .rptr .., h => h | .tptr .., h => h | .arr .., h => h | .map _, h => h | .yield _, h => h | .undef, h => h | .any, h => h
theorem weakL_tree : ∀ (l : List D), treeL l = true → treeL (weakL l) = true
  | [], _ => rfl
  | d :: r, h => by
    simp only [treeL, weakL, Bool.and_eq_true] at *
    exact ⟨D.weak_tree d h.1, weakL_tree r h.2⟩
end

theorem Gives.weak {W : World} {fx : Nat → Prop} {r : D} {en : Ending} {w : World} (h : Gives W fx r en w) : Gives W fx r.weak en w := by
  obtain ⟨fx', v, h1, h2, h3, h4, h5, h6, h7, h8, hr⟩ := h
  exact ⟨fx', v, h1, h2, h3, h4, h5, h6, h7, h8, hr.weak⟩

/-- What a function computes, up to the capacity of empty slices. -/
def Comp (T : FuncId → Option AFunc) (ext : Ext) (glob : Gl) (f : FuncId) (args : List D) (r : D) : Prop :=
  ∃ k d, fnTree T ext glob k f args = some d ∧ d.weak = r

/-- A table of known functions, as a list. -/
abbrev ExtL := List (FuncId × (List D → Option D))
def extOf : ExtL → Ext
  | [], _ => none
  | (g, h) :: r, f => if f = g then some fun a => h (weakL a) else extOf r f

theorem extOf_hit {g : FuncId} {h : List D → Option D} {r : ExtL} : extOf ((g, h) :: r) g = some fun a => h (weakL a) := by simp [extOf]

theorem PureCall.ofWeak {P : Program} {glob : Gl} {f : FuncId} {args : List D} {r : D} (h : PureCall P glob f (weakL args) r) : PureCall P glob f args r := by
  intro fx W vs hfx hG ha
  refine h fx W vs hfx hG ⟨by rw [ha.1, weakL_length], fun j d hd => ?_⟩
  obtain ⟨e, he, rfl⟩ := weak_get hd
  exact (ha.2 j e he).weak

/-- A function more, by a contract. -/
theorem ExtR.cons {P : Program} {glob : Gl} {L : ExtL} (hL : ExtR P glob (extOf L)) {f : FuncId} {g : List D → Option D} (hf : Real P f)
    (h : ∀ args r, treeL args = true → g args = some r → r.tree = true ∧ PureCall P glob f args r) : ExtR P glob (extOf ((f, g) :: L)) := by
  intro f' g' he
  simp only [extOf] at he
  split at he
  · rename_i hff
    subst hff
    cases he
    refine ⟨hf, fun args r ht hr => ?_⟩
    obtain ⟨h1, h2⟩ := h (weakL args) r (weakL_tree _ ht) hr
    exact ⟨h1, h2.ofWeak⟩
  · exact hL f' g' he

/-- A function more, by what it computes. -/
theorem ExtR.more {P : Program} {glob : Gl} {L : ExtL} {T : FuncId → Option AFunc} (hTab : TabR P T) (hT : GlobT glob) (hN : NatR P glob) (hord : P.follows .mixedOrders = true)
    (hL : ExtR P glob (extOf L)) {f : FuncId} {g : List D → Option D} (hf : Real P f)
    (h : ∀ args r, g args = some r → Comp T (extOf L) glob f args r) : ExtR P glob (extOf ((f, g) :: L)) := by
  refine hL.cons hf fun args r ht hr => ?_
  obtain ⟨k, d, hd, rfl⟩ := h args r hr
  obtain ⟨_, h1, h2⟩ := pure_of_eval hL hTab hT hN hord hd
  exact ⟨D.weak_tree d h1, fun fx W vs hfx hG ha => (h2 fx W vs hfx hG ha).mono fun en w hw => hw.weak⟩

/-- What a function computes holds of the program. -/
theorem Comp.pure {P : Program} {glob : Gl} {ext : Ext} {T : FuncId → Option AFunc} (hTab : TabR P T) (hT : GlobT glob) (hN : NatR P glob) (hord : P.follows .mixedOrders = true)
    (hL : ExtR P glob ext) {f : FuncId} {args : List D} {r : D} (h : Comp T ext glob f args r) : PureCall P glob f args r := by
  obtain ⟨k, d, hd, rfl⟩ := h
  obtain ⟨_, h1, h2⟩ := pure_of_eval hL hTab hT hN hord hd
  exact fun fx W vs hfx hG ha => (h2 fx W vs hfx hG ha).mono fun en w hw => hw.weak

end Go.AI

namespace Go.AI
open Go
/-- The temporaries that stay, by region. -/
def keepL (l : List (Nat × List Nat)) (id : Nat) : Option (List Nat) := match l with
  | [] => none
  | (i, s) :: r => if i = id then some s else keepL r id
def findL : List (FuncId × AFunc) → FuncId → Option AFunc
  | [], _ => none
  | (k, a) :: r, f => if f = k then some a else findL r f
def Good (P : Program) (x : FuncId × AFunc) : Prop := ∃ fn acc keep, P.funcs[x.1]? = some fn ∧ cFunc P acc keep fn = some x.2
theorem findL_good {P : Program} : ∀ (l : List (FuncId × AFunc)), (∀ x ∈ l, Good P x) → ∀ f af, findL l f = some af → Good P (f, af)
  | [], _, f, af, h => by cases h
  | (k, a) :: r, hl, f, af, h => by
    simp only [findL] at h
    split at h
    · rename_i hk; cases h; subst hk; exact hl _ List.mem_cons_self
    · exact findL_good r (fun x hx => hl x (List.mem_cons_of_mem _ hx)) f af h
end Go.AI

namespace Go.AI
open Go

theorem evalFn_ext {T : FuncId → Option AFunc} {ext : Ext} {glob : Gl} {k : Nat} {f : FuncId} {args : List D} {σ : St} {g : List D → Option D} (h : ext f = some g) :
    evalFn T ext glob (k + 1) (.fn f) args σ = callExt g args σ := by simp only [evalFn, h]

theorem callExt_tree {g : List D → Option D} {args : List D} {σ : St} {r : D} (ht : treeL args = true) (h : g args = some r) : callExt g args σ = some (.ret r, σ) := by
  simp only [callExt, ht, if_true, h, Option.map_some]

/-- A function by its body. -/
theorem comp_run {T : FuncId → Option AFunc} {ext : Ext} {glob : Gl} {f : FuncId} {args : List D} {r : D} {af : AFunc} (k : Nat) {x : AExit} {e : Env} {σ : St} {d d' : D}
    (hx : ext f = none) (hT : T f = some af) (hn : args.length = af.nparams ∧ af.nparams ≤ af.ntmps)
    (h : evalCode (evalFn T ext glob k) (fun f => (ext f).isSome) glob af.ntmps k false af.body (argsE 0 args) [] = some (x, e, σ))
    (hxx : x = .normal ∨ x = .ret) (hr : resultsOf e σ af.results = some d) (hs : strip 16 σ d = some d') (hw : d'.weak = r) : Comp T ext glob f args r := by
  refine ⟨k + 1, d', ?_, hw⟩
  simp only [fnTree, evalFn, hx, hT, if_pos hn, h]
  rcases hxx with rfl | rfl <;> simp only [hr, Option.map_some, hs]

/-- What the body of a function comes to. -/
def runF (callf : CallF) (ext : FuncId → Bool) (glob : Gl) (k : Nat) (af : AFunc) (args : List D) : Option D :=
  match evalCode callf ext glob af.ntmps k false af.body (argsE 0 args) [] with
  | some (.normal, e, σ) | some (.ret, e, σ) => (resultsOf e σ af.results).bind fun d => (strip 16 σ d).map D.weak
  | _ => none

theorem comp_runF {T : FuncId → Option AFunc} {ext : Ext} {glob : Gl} {f : FuncId} {args : List D} {r : D} {af : AFunc} (k : Nat)
    (hx : ext f = none) (hT : T f = some af) (hn : args.length = af.nparams ∧ af.nparams ≤ af.ntmps)
    (h : runF (evalFn T ext glob k) (fun f => (ext f).isSome) glob k af args = some r) : Comp T ext glob f args r := by
  unfold runF at h
  split at h
  · rename_i e σ he
    obtain ⟨d, hd, h⟩ := Option.bind_eq_some_iff.1 h
    obtain ⟨d', hd', h⟩ := Option.map_eq_some_iff.1 h
    exact comp_run k hx hT hn he (.inl rfl) hd hd' h
  · rename_i e σ he
    obtain ⟨d, hd, h⟩ := Option.bind_eq_some_iff.1 h
    obtain ⟨d', hd', h⟩ := Option.map_eq_some_iff.1 h
    exact comp_run k hx hT hn he (.inr rfl) hd hd' h
  · cases h

attribute [simp] lookA evalCode runOps stepOper stepVal stepGo stepOp getE setE putE keepE val argsE resultsOf resOf D.weak weakL D.tree treeL loadD storeD cutCells D.cells arithD intArith strArith D.one putCells

theorem strip_of_tree {n : Nat} {σ : St} {d : D} (h : d.tree = true) : strip n σ d = some d := by
  cases n <;> simp only [strip, h, if_true]
@[simp] theorem strip_step {n : Nat} {σ : St} {d : D} : strip (n + 1) σ d = if d.tree = true then some d else match d with
    | .arr i v o m => (rowOf σ (.arr i v o m)).bind fun es => (es.mapM (strip n σ)).map .slice
    | .slice es => (es.mapM (strip n σ)).map .slice
    | .agg cs => (cs.mapM (strip n σ)).map .agg
    | .tuple vs => (vs.mapM (strip n σ)).map .tuple
    | _ => none := by
  simp only [strip]
  split
  · rfl
  · cases d <;> try rfl
    rename_i i v o m _
    simp only
    cases rowOf σ (.arr i v o m) <;> rfl
end Go.AI
