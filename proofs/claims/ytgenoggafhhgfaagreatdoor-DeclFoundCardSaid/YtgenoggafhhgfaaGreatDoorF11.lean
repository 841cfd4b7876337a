/- Texts of the proof: what functions of the program compute, step by step. No conditions of its own. -/
import Derived.Test.YtgenoggafhhgfaaGreatDoorF10
set_option linter.unusedVariables false
set_option linter.unusedSimpArgs false
namespace Go.AI
open Go Go.Proofs Go.Lx

theorem hasS_mem {l : List Bs} {s : Bs} : hasS l s = true ↔ s ∈ l := by unfold hasS; exact List.contains_iff_mem
theorem hasS_not {l : List Bs} {s : Bs} (h : hasS l s = false) : s ∉ l := fun hm => by rw [hasS_mem.2 hm] at h; cases h
theorem nodup_snoc {l : List Bs} {s : Bs} (hl : l.Nodup) (hs : s ∉ l) : (l ++ [s]).Nodup := by
  rw [List.nodup_append]
  exact ⟨hl, by simp, fun a ha b hb => by simp only [List.mem_singleton] at hb; subst hb; exact fun he => hs (he ▸ ha)⟩

theorem cons_names {p : Prg} {params : List Bs} : ∀ {l : List Con} {i : Nat} {b b' : List Bs}, foldS (consStep p params) l i b = .inl b' → b' = b ++ l.map Con.name ∧ (b.Nodup → b'.Nodup) ∧ ∀ c ∈ l, ∀ t ∈ c.args, t.ord p params = 0
  | [], i, b, b', h => by cases h; simp
  | c :: r, i, b, b', h => by
    simp only [foldS] at h
    cases hs : consStep p params i c b with
    | inr e => rw [hs] at h; cases h
    | inl b1 =>
      rw [hs] at h
      obtain ⟨h1, h2, h3⟩ := cons_names h
      unfold consStep at hs
      split at hs
      · cases hs
      · rename_i hn
        rw [Bool.not_eq_true] at hn
        split at hs
        · rename_i hz
          cases hs
          refine ⟨by rw [h1]; simp, fun hb => h2 (nodup_snoc hb (hasS_not hn)), ?_⟩
          rw [firstE_zero] at hz
          simp only [List.forall_mem_map] at hz
          intro c' hc'
          cases hc' with
          | head => exact hz
          | tail _ hc' => exact h3 c' hc'
        · cases hs
theorem dat_names {p : Prg} : ∀ {l : List Dat} {i : Nat} {x x' : List Bs × List Bs}, foldS (datStep p) l i x = .inl x' →
    x'.1 = x.1 ++ l.map Dat.name ∧ x'.2 = x.2 ++ l.flatMap (fun d => d.cons.map Con.name) ∧ (x.1.Nodup → x'.1.Nodup) ∧ (x.2.Nodup → x'.2.Nodup) ∧ ∀ d ∈ l, ∀ c ∈ d.cons, ∀ t ∈ c.args, t.ord p d.params = 0
  | [], i, x, x', h => by cases h; simp
  | d :: r, i, x, x', h => by
    simp only [foldS] at h
    cases hs : datStep p i d x with
    | inr e => rw [hs] at h; cases h
    | inl y =>
      rw [hs] at h
      obtain ⟨h1, h2, h3, h4, h5⟩ := dat_names h
      unfold datStep at hs
      split at hs
      · cases hs
      · rename_i hn
        rw [Bool.not_eq_true] at hn
        split at hs
        · rename_i b hb
          cases hs
          obtain ⟨c1, c2, c3⟩ := cons_names hb
          refine ⟨by rw [h1]; simp, by rw [h2]; simp [c1], fun ha => h3 (nodup_snoc ha (hasS_not hn)), fun hb => h4 (c2 hb), ?_⟩
          intro d' hd'
          cases hd' with
          | head => exact c3
          | tail _ hd' => exact h5 d' hd'
        · cases hs
theorem opn_names {p : Prg} : ∀ {l : List Opn} {i : Nat} {b b' : List Bs}, foldS (opnStep p) l i b = .inl b' → b' = b ++ l.map Opn.name ∧ (b.Nodup → b'.Nodup) ∧ ∀ o ∈ l, o.arg.ord p [] = 0 ∧ o.res.ord p [] = 0
  | [], i, b, b', h => by cases h; simp
  | c :: r, i, b, b', h => by
    simp only [foldS] at h
    cases hs : opnStep p i c b with
    | inr e => rw [hs] at h; cases h
    | inl b1 =>
      rw [hs] at h
      obtain ⟨h1, h2, h3⟩ := opn_names h
      unfold opnStep at hs
      split at hs
      · cases hs
      · rename_i hn
        rw [Bool.not_eq_true] at hn
        split at hs
        · rename_i hz
          cases hs
          refine ⟨by rw [h1]; simp, fun hb => h2 (nodup_snoc hb (hasS_not hn)), ?_⟩
          unfold opnErr at hz
          intro c' hc'
          cases hc' with
          | head =>
            split at hz
            · rename_i h0; exact ⟨h0, hz⟩
            · rename_i h0; exact absurd hz h0
          | tail _ hc' => exact h3 c' hc'
        · cases hs
theorem eff_names {p : Prg} : ∀ {l : List Eff} {i : Nat} {x x' : List Bs × List Bs}, foldS (effStep p) l i x = .inl x' →
    x'.1 = x.1 ++ l.map Eff.name ∧ x'.2 = x.2 ++ l.flatMap (fun d => d.ops.map Opn.name) ∧ (x.1.Nodup → x'.1.Nodup) ∧ (x.2.Nodup → x'.2.Nodup) ∧ ∀ e ∈ l, ∀ o ∈ e.ops, o.arg.ord p [] = 0 ∧ o.res.ord p [] = 0
  | [], i, x, x', h => by cases h; simp
  | d :: r, i, x, x', h => by
    simp only [foldS] at h
    cases hs : effStep p i d x with
    | inr e => rw [hs] at h; cases h
    | inl y =>
      rw [hs] at h
      obtain ⟨h1, h2, h3, h4, h5⟩ := eff_names h
      unfold effStep at hs
      split at hs
      · cases hs
      · rename_i hn
        rw [Bool.not_eq_true] at hn
        split at hs
        · rename_i b hb
          cases hs
          obtain ⟨c1, c2, c3⟩ := opn_names hb
          refine ⟨by rw [h1]; simp, by rw [h2]; simp [c1], fun ha => h3 (nodup_snoc ha (hasS_not hn)), fun hb => h4 (c2 hb), ?_⟩
          intro d' hd'
          cases hd' with
          | head => exact c3
          | tail _ hd' => exact h5 d' hd'
        · cases hs

/-- What declarations in order are. -/
structure Prg.InOrder (p : Prg) : Prop where
  syn : p.bare.syn = 0
  dn : (builtins ++ p.data.map Dat.name).Nodup
  cn : (p.data.flatMap fun d => d.cons.map Con.name).Nodup
  en : ([nIO] ++ p.effects.map Eff.name).Nodup
  on : ([nPrint, nRead] ++ p.effects.flatMap fun d => d.ops.map Opn.name).Nodup
  args : ∀ d ∈ p.data, ∀ c ∈ d.cons, ∀ t ∈ c.args, t.ord p d.params = 0
  ops : ∀ e ∈ p.effects, ∀ o ∈ e.ops, o.arg.ord p [] = 0 ∧ o.res.ord p [] = 0
theorem Prg.inOrder {p : Prg} (h : p.decls = 0) : p.InOrder := by
  obtain ⟨hs, ho⟩ := orE_zero.1 h
  unfold Prg.ordE at ho
  cases h1 : foldS (datStep p) p.data 0 (builtins, []) with
  | inr e =>
    rw [h1] at ho
    have hne : e ≠ 0 := foldS_inr (P := fun e => e ≠ 0) _ (fun _ _ _ _ _ h => datStep_ne h) _ _ _ h1
    exact absurd ho hne
  | inl x =>
    rw [h1] at ho
    simp only at ho
    cases h2 : foldS (effStep p) p.effects 0 ([nIO], [nPrint, nRead]) with
    | inr e =>
      rw [h2] at ho
      have hne : e ≠ 0 := foldS_inr (P := fun e => e ≠ 0) _ (fun _ _ _ _ _ h => effStep_ne h) _ _ _ h2
      exact absurd ho hne
    | inl y =>
      obtain ⟨a1, a2, a3, a4, a5⟩ := dat_names h1
      obtain ⟨b1, b2, b3, b4, b5⟩ := eff_names h2
      refine ⟨hs, ?_, ?_, ?_, ?_, a5, b5⟩
      · rw [← a1]; exact a3 (by decide)
      · rw [← List.nil_append (p.data.flatMap _), ← a2]; exact a4 (by simp)
      · rw [← b1]; exact b3 (by decide)
      · rw [← b2]; exact b4 (by decide)

theorem findIdx_nodup {α : Type} (g : α → Bs) : ∀ (l : List α) (k : Nat) (c : α), (l.map g).Nodup → l[k]? = some c → l.findIdx? (fun x => g x == g c) = some k
  | [], k, c, _, h => by simp at h
  | a :: r, 0, c, _, h => by
    simp only [List.getElem?_cons_zero, Option.some.injEq] at h
    subst h
    simp [List.findIdx?_cons]
  | a :: r, k + 1, c, hn, h => by
    simp only [List.getElem?_cons_succ] at h
    simp only [List.map_cons, List.nodup_cons] at hn
    have hm : g c ∈ r.map g := List.mem_map_of_mem (List.mem_of_getElem? h)
    have hne : (g a == g c) = false := by
      rw [beq_eq_false_iff_ne]; intro he; exact hn.1 (he ▸ hm)
    rw [List.findIdx?_cons, hne]
    simp only [Bool.false_eq_true, if_false]
    rw [findIdx_nodup g r k c hn.2 h]
    rfl
theorem findIdx_notin {α : Type} (g : α → Bs) (l : List α) (s : Bs) (h : s ∉ l.map g) : l.findIdx? (fun x => g x == s) = none := by
  rw [List.findIdx?_eq_none_iff]
  intro x hx
  rw [beq_eq_false_iff_ne]
  intro he
  exact h (he ▸ List.mem_map_of_mem hx)
theorem findConL_at : ∀ (l : List Dat) (off i k : Nat) (d : Dat) (c : Con), (l.flatMap fun d => d.cons.map Con.name).Nodup → l[i]? = some d → d.cons[k]? = some c → findConL c.name l off = some (off + i, k)
  | [], off, i, k, d, c, _, h, _ => by simp at h
  | a :: r, off, 0, k, d, c, hn, h, hc => by
    simp only [List.getElem?_cons_zero, Option.some.injEq] at h
    subst h
    rw [List.flatMap_cons, List.nodup_append] at hn
    simp only [findConL, findIdx_nodup Con.name a.cons k c hn.1 hc]
    rfl
  | a :: r, off, i + 1, k, d, c, hn, h, hc => by
    simp only [List.getElem?_cons_succ] at h
    rw [List.flatMap_cons, List.nodup_append] at hn
    have hm : c.name ∈ r.flatMap fun d => d.cons.map Con.name := List.mem_flatMap.2 ⟨d, List.mem_of_getElem? h, List.mem_map_of_mem (List.mem_of_getElem? hc)⟩
    have h0 := findIdx_notin Con.name a.cons c.name (fun hx => hn.2.2 _ hx _ hm rfl)
    simp only [findConL, h0]
    rw [findConL_at r (off + 1) i k d c hn.2.1 h hc, show off + 1 + i = off + (i + 1) by omega]
theorem findIdx_map {α : Type} (g : α → Bs) (l : List α) (s : Bs) : (l.map g).findIdx? (· == s) = l.findIdx? (fun x => g x == s) := by
  rw [List.findIdx?_map]; rfl
theorem findOpL_at : ∀ (l : List Eff) (off i k : Nat) (d : Eff) (c : Opn), (l.flatMap fun d => d.ops.map Opn.name).Nodup → l[i]? = some d → d.ops[k]? = some c → findOpL c.name l off = some (off + i, k)
  | [], off, i, k, d, c, _, h, _ => by simp at h
  | a :: r, off, 0, k, d, c, hn, h, hc => by
    simp only [List.getElem?_cons_zero, Option.some.injEq] at h
    subst h
    rw [List.flatMap_cons, List.nodup_append] at hn
    simp only [findOpL, findIdx_map, findIdx_nodup Opn.name a.ops k c hn.1 hc]
    rfl
  | a :: r, off, i + 1, k, d, c, hn, h, hc => by
    simp only [List.getElem?_cons_succ] at h
    rw [List.flatMap_cons, List.nodup_append] at hn
    have hm : c.name ∈ r.flatMap fun d => d.ops.map Opn.name := List.mem_flatMap.2 ⟨d, List.mem_of_getElem? h, List.mem_map_of_mem (List.mem_of_getElem? hc)⟩
    have h0 := findIdx_notin Opn.name a.ops c.name (fun hx => hn.2.2 _ hx _ hm rfl)
    simp only [findOpL, findIdx_map, h0]
    rw [findOpL_at r (off + 1) i k d c hn.2.1 h hc, show off + 1 + i = off + (i + 1) by omega]
theorem findOpL_none : ∀ (l : List Eff) (off : Nat) (s : Bs), s ∉ (l.flatMap fun d => d.ops.map Opn.name) → findOpL s l off = none
  | [], off, s, _ => rfl
  | a :: r, off, s, h => by
    rw [List.flatMap_cons, List.mem_append, not_or] at h
    simp only [findOpL, findIdx_map, findIdx_notin Opn.name a.ops s h.1]
    exact findOpL_none r (off + 1) s h.2
theorem findEff_at {l : List Eff} {i : Nat} {e : Eff} (hn : (l.map Eff.name).Nodup) (h : l[i]? = some e) : findEffI l e.name = i ∧ findEffE l e.name = 0 := by
  have h1 : idxOf (fun x : Eff => x.name == e.name) l = i := by unfold idxOf; rw [findIdx_nodup Eff.name l i e hn h]
  unfold findEffI findEffE
  rw [h1]
  have : (0 : Int) ≤ (i : Int) := by omega
  simp [this]
end Go.AI
namespace Go.AI
open Go Go.Proofs Go.Lx
set_option maxRecDepth 100000

theorem k16 (σ : St) : CI (.fn 16) [] σ = some (.ret (.bool true), σ) := by
  exact callI_ext postN (g := fun a => g16 (weakL a)) rfl rfl
theorem find_none {α : Type} (l : List α) : l.findIdx? (fun _ => false) = none := by
  rw [List.findIdx?_eq_none_iff]; intros; rfl

set_option maxHeartbeats 1000000 in
theorem it12_0 (p : Prg) (hok : p.ok) (hin : p.InOrder) (i : Nat) (hi : i < p.data.length) (q : Nat) (σ : St) (hq : σ[q]? = some (.box p.cs)) :
    iterI (evalI CI XB GI 151 false lp12_0) [(1, .ptr q 0), (3, .int .i64 i), (4, .int .i64 0)] σ = some (.exit 2, [(1, .ptr q 0), (3, .int .i64 i), (4, .int .i64 p.data[i].cons.length), (37, .bool false)], σ) := by
  have hgi : p.data[i]? = some p.data[i] := by simp [hi]
  have hx := hok.d _ (List.getElem_mem hi)
  have hpl := p.cs_len
  have hpt := p.cs_take
  have hh : p.cs.head? = some (.slice (p.data.map Dat.d)) := by rw [p.cs_eq]; rfl
  have hget : (p.data.map Dat.d)[i]? = some (Dat.d p.data[i]) := by simp [hi]
  have hlen : (p.data.map Dat.d).length = p.data.length := by simp
  have h30 := fun (k : Nat) (c : Con) (hc : p.data[i].cons[k]? = some c) σ => (c30 p hok c.name σ).trans (by rw [findConL_at p.data 0 i k _ c hin.cn hgi hc, Nat.zero_add])
  generalize p.data.map Dat.d = dd at *
  have h2 : i < dd.length := by omega
  have h3 : dd[i] = Dat.d p.data[i] := by rw [List.getElem?_eq_getElem h2] at hget; exact Option.some.inj hget
  generalize p.cs = pc at *
  generalize p.data[i] = d at *
  rcases d with ⟨dn, params, cons⟩
  obtain ⟨_, hcl, _⟩ := hx
  simp only [Dat.d, Dat.cs, slD] at *
  have hcdl : (cons.map Con.d).length = cons.length := by simp
  have hcg : ∀ k (hk : k < cons.length), (cons.map Con.d)[k]? = some (Con.d cons[k]) := fun k hk => by simp [hk]
  generalize cons.map Con.d = cd at *
  generalize params.map D.str = pd at *
  have q30 : qI 30 = false := rfl
  have x30 : XB 30 = false := rfl
  have := loop_find (f := evalI CI XB GI 151 false lp12_0) (σ := σ) cons (fun k => [(1, .ptr q 0), (3, .int .i64 i), (4, .int .i64 (k : Nat))]) (fun _ => false) (fun _ => (.ret, [], σ)) (.exit 2, [(1, .ptr q 0), (3, .int .i64 i), (4, .int .i64 cons.length), (37, .bool false)], σ) (by simp) (by simp)
    (fun k hk => by
      have hw := wrap_nat (n := k) (by unfold maxL at hcl; omega)
      have h30 := h30 k cons[k] (by simp [hk])
      have hcg := hcg k hk
      have h4 : k < cd.length := by omega
      have h5 : cd[k] = Con.d cons[k] := by rw [List.getElem?_eq_getElem h4] at hcg; exact Option.some.inj hcg
      generalize cons[k] = c at *
      rcases c with ⟨cn, args⟩
      simp only [Con.d, Con.cs, conD] at *
      generalize tysD args = ad at *
      simp [lp12_0, hq, hpl, hpt, hh, h2, h3, h4, h5, hk, hw, hcdl, h30, q30, x30, Nat.testBit_eq_decide_div_mod_eq])
    (by simp [lp12_0, hq, hpl, hpt, hh, h2, h3, hcdl])
  rw [find_none, Int.natCast_zero] at this
  exact this

theorem it12_1 (p : Prg) (hok : p.ok) (hin : p.InOrder) (q : Nat) (σ : St) (hq : σ[q]? = some (.box p.cs)) :
    iterI (evalI CI XB GI 151 false lp12_1) [(1, .ptr q 0), (3, .int .i64 0)] σ = some (.exit 0, [(1, .ptr q 0), (3, .int .i64 p.data.length), (26, .bool false)], σ) := by
  have hdl := hok.dl
  have hh : p.cs.head? = some (.slice (p.data.map Dat.d)) := by rw [p.cs_eq]; rfl
  have hlen : (p.data.map Dat.d).length = p.data.length := by simp
  have h0 := fun i hi => it12_0 p hok hin i hi q σ hq
  generalize p.data.map Dat.d = dd at *
  generalize p.cs = pc at *
  have := loop_find (f := evalI CI XB GI 151 false lp12_1) (σ := σ) p.data (fun i => [(1, .ptr q 0), (3, .int .i64 (i : Nat))]) (fun _ => false) (fun _ => (.ret, [], σ)) (.exit 0, [(1, .ptr q 0), (3, .int .i64 p.data.length), (26, .bool false)], σ) (by simp) (by simp)
    (fun i hi => by
      have hw := wrap_nat (n := i) (by unfold maxL at hdl; omega)
      have h0 := h0 i hi
      simp [lp12_1, hq, hh, hi, hw, hlen, h0])
    (by simp [lp12_1, hq, hh, hlen])
  rw [find_none, Int.natCast_zero] at this
  exact this

set_option maxHeartbeats 1000000 in
theorem it12_2 (p : Prg) (hok : p.ok) (hin : p.InOrder) (i : Nat) (hi : i < p.effects.length) (q : Nat) (σ : St) (hq : σ[q]? = some (.box p.cs)) :
    iterI (evalI CI XB GI 151 false lp12_2) [(1, .ptr q 0), (8, .int .i64 i), (11, .int .i64 0)] σ = some (.exit 6, [(1, .ptr q 0), (8, .int .i64 i), (11, .int .i64 p.effects[i].ops.length), (101, .bool false)], σ) := by
  have hgi : p.effects[i]? = some p.effects[i] := by simp [hi]
  have hx := hok.e _ (List.getElem_mem hi)
  have hpl := p.cs_len
  have hpt := p.cs_take
  have hh : p.cs[1]? = some (.slice (p.effects.map Eff.d)) := by rw [p.cs_eq]; rfl
  have hget : (p.effects.map Eff.d)[i]? = some (Eff.d p.effects[i]) := by simp [hi]
  have hlen : (p.effects.map Eff.d).length = p.effects.length := by simp
  have hon := (List.nodup_append.1 hin.on).2.1
  have h32 := fun (k : Nat) (c : Opn) (hc : p.effects[i].ops[k]? = some c) σ => (c32 p hok c.name σ).trans (by rw [findOpL_at p.effects 0 i k _ c hon hgi hc, Nat.zero_add])
  generalize p.effects.map Eff.d = dd at *
  have h2 : i < dd.length := by omega
  have h3 : dd[i] = Eff.d p.effects[i] := by rw [List.getElem?_eq_getElem h2] at hget; exact Option.some.inj hget
  generalize p.cs = pc at *
  have hh2 : ∀ h : 1 < pc.length, pc[1] = .slice dd := fun h => by rw [List.getElem?_eq_getElem h] at hh; exact Option.some.inj hh
  generalize p.effects[i] = d at *
  rcases d with ⟨dn, ops⟩
  obtain ⟨hcl, _⟩ := hx
  simp only [Eff.d, Eff.cs] at *
  have hcdl : (ops.map Opn.d).length = ops.length := by simp
  have hcg : ∀ k (hk : k < ops.length), (ops.map Opn.d)[k]? = some (Opn.d ops[k]) := fun k hk => by simp [hk]
  generalize ops.map Opn.d = cd at *
  have q32 : qI 32 = false := rfl
  have x32 : XB 32 = false := rfl
  have := loop_find (f := evalI CI XB GI 151 false lp12_2) (σ := σ) ops (fun k => [(1, .ptr q 0), (8, .int .i64 i), (11, .int .i64 (k : Nat))]) (fun _ => false) (fun _ => (.ret, [], σ)) (.exit 6, [(1, .ptr q 0), (8, .int .i64 i), (11, .int .i64 ops.length), (101, .bool false)], σ) (by simp) (by simp)
    (fun k hk => by
      have hw := wrap_nat (n := k) (by unfold maxL at hcl; omega)
      have h32 := h32 k ops[k] (by simp [hk])
      have hcg := hcg k hk
      have h4 : k < cd.length := by omega
      have h5 : cd[k] = Opn.d ops[k] := by rw [List.getElem?_eq_getElem h4] at hcg; exact Option.some.inj hcg
      have hol : (Opn.cs ops[k]).length = 14 := by simp [Opn.cs]
      have ho0 : (Opn.cs ops[k]).head? = some (.str ops[k].name) := rfl
      simp only [Opn.d] at h5
      generalize ops[k].name = cn at *
      generalize Opn.cs ops[k] = oc at *
      simp only [opD] at *
      simp [lp12_2, hq, hpl, hpt, hh2, h2, h3, h4, h5, hk, hw, hcdl, h32, q32, x32, hol, ho0, Nat.testBit_eq_decide_div_mod_eq])
    (by simp [lp12_2, hq, hpl, hpt, hh2, h2, h3, hcdl])
  rw [find_none, Int.natCast_zero] at this
  exact this
set_option maxHeartbeats 1000000 in
theorem it12_3 (p : Prg) (hok : p.ok) (hin : p.InOrder) (q : Nat) (σ : St) (hq : σ[q]? = some (.box p.cs)) :
    iterI (evalI CI XB GI 151 false lp12_3) [(1, .ptr q 0), (8, .int .i64 0)] σ = some (.exit 4, [(1, .ptr q 0), (8, .int .i64 p.effects.length), (72, .bool false)], σ) := by
  have hel := hok.el
  have hpl := p.cs_len
  have hpt := p.cs_take
  have hh : p.cs[1]? = some (.slice (p.effects.map Eff.d)) := by rw [p.cs_eq]; rfl
  have hlen : (p.effects.map Eff.d).length = p.effects.length := by simp
  have hcg : ∀ k (hk : k < p.effects.length), (p.effects.map Eff.d)[k]? = some (Eff.d p.effects[k]) := fun k hk => by simp [hk]
  have hen := (List.nodup_append.1 hin.en).2.1
  have h34 := fun (i : Nat) (hi : i < p.effects.length) σ => (c34 p hel p.effects[i].name σ).trans (by rw [(findEff_at hen (show p.effects[i]? = some p.effects[i] by simp [hi])).1, (findEff_at hen (show p.effects[i]? = some p.effects[i] by simp [hi])).2])
  have h2 := fun i hi => it12_2 p hok hin i hi q σ hq
  generalize p.effects.map Eff.d = dd at *
  generalize p.cs = pc at *
  have hh2 : ∀ h : 1 < pc.length, pc[1] = .slice dd := fun h => by rw [List.getElem?_eq_getElem h] at hh; exact Option.some.inj hh
  have q34 : qI 34 = false := rfl
  have x34 : XB 34 = false := rfl
  have := loop_find (f := evalI CI XB GI 151 false lp12_3) (σ := σ) p.effects (fun i => [(1, .ptr q 0), (8, .int .i64 (i : Nat))]) (fun _ => false) (fun _ => (.ret, [], σ)) (.exit 4, [(1, .ptr q 0), (8, .int .i64 p.effects.length), (72, .bool false)], σ) (by simp) (by simp)
    (fun i hi => by
      have hw := wrap_nat (n := i) (by unfold maxL at hel; omega)
      have h34 := h34 i hi
      have h2 := h2 i hi
      have hcg := hcg i hi
      have h4 : i < dd.length := by omega
      have h5 : dd[i] = Eff.d p.effects[i] := by rw [List.getElem?_eq_getElem h4] at hcg; exact Option.some.inj hcg
      generalize p.effects[i] = e at *
      rcases e with ⟨en, ops⟩
      simp only [Eff.d, Eff.cs] at *
      generalize ops.map Opn.d = od at *
      simp [lp12_3, hq, hpl, hpt, hh2, hi, hw, hlen, h4, h5, h34, q34, x34, h2, Nat.testBit_eq_decide_div_mod_eq])
    (by simp [lp12_3, hq, hpl, hh2, hlen])
  rw [find_none, Int.natCast_zero] at this
  exact this

/-- The law DeclFound. -/
theorem law12 (p : Prg) (hok : p.ok) (σ : St) : CI (.fn 12) [.agg p.cs] σ = some (.ret (.bool true), σ) := by
  have hτ : bodyI CI XB GI af12 [.agg p.cs] σ = some (.ret (.bool true), σ ++ [.box p.cs]) := by
    have h14 := fun σ => c14 p hok σ
    have h16 := k16
    have h32 := fun σ => c32 p hok nPrint σ
    have hall := p.cs_all
    have hpl := p.cs_len
    have hpt := p.cs_take
    have hq : (σ ++ [.box p.cs])[σ.length]? = some (.box p.cs) := getA0
    by_cases h : p.decls = 0
    · have hin := Prg.inOrder h
      have h1 := it12_1 p hok hin σ.length _ hq
      have h3 := it12_3 p hok hin σ.length _ hq
      have hno : findOpL nPrint p.effects 0 = none := findOpL_none _ _ _ fun hm => (List.nodup_append.1 hin.on).2.2 nPrint (by simp) _ hm rfl
      have h32' : ∀ σ, CI (.fn 32) [.agg p.cs, .str [112, 114, 105, 110, 116]] σ = some (.ret (.tuple [.int .i64 (-1), .int .i64 0, .int .i64 0]), σ) := fun σ => by
        have := h32 σ
        rw [hno] at this
        exact this
      rw [h] at h14
      generalize p.cs = pc at *
      simp [bodyI, af12, getA0, hall, hpl, hpt, h14, h1, h3, h32', h16]
    · have hb : (p.decls != 0) = true := by simpa using h
      generalize p.cs = pc at *
      simp [bodyI, af12, getA0, hall, hpl, hpt, h14, hb, h, h16]
  exact CI_tree tab12 hτ rfl rfl
end Go.AI

