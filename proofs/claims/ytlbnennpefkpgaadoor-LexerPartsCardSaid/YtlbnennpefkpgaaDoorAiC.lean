/- An interpreter over trees: its operations (second part). No conditions of its own. -/
import Derived.Test.YtlbnennpefkpgaaDoorAiB
import Derived.Laws.MakeOwn
import Derived.Laws.Tables
set_option linter.unusedVariables false
set_option linter.unusedSimpArgs false
namespace Go.AI
open Go

section
variable {P : Program} {ρ : Ren} {W : World} {σ : St}

theorem getObj_run {r : Nat} {o : Go.Obj} (h : W.heap[r]? = some o) (hn : ∀ c t f, o ≠ .cells c t f) : (getObj r).run P W = .ok o W := by
  simp only [getObj, Sem.run, h]

theorem setObj_run {r : Nat} {o o' : Go.Obj} (h : W.heap[r]? = some o) (hn : ∀ c t f, o ≠ .cells c t f) : (setObj r o').run P W = .ok () { W with heap := W.heap.setIfInBounds r o' } := by
  simp only [setObj, Sem.run, h]

/-- A block that is no row of cells changes. -/
theorem setObj_change (hR : Rel ρ W σ) {i : Nat} {o o' : Obj} (ho : σ[i]? = some o) (hlive : o.live = true) {ver : Nat} {p : Pl} (hp : ρ.loc i ver = some p) (ob : Go.Obj)
    (hobj : Later ρ W ρ { W with heap := W.heap.setIfInBounds p.blk ob } → ObjR ρ { W with heap := W.heap.setIfInBounds p.blk ob } i o') :
    Later ρ W ρ { W with heap := W.heap.setIfInBounds p.blk ob } ∧ Rel ρ { W with heap := W.heap.setIfInBounds p.blk ob } (σ.set i o') :=
  hR.change ho hlive (by simp) rfl rfl rfl (fun b _ hne => by simp [hne ver p hp]) (fun _ _ _ => rfl) (fun _ _ h => h)
    (fun v q hq => .inl ⟨v, q, hq, rfl⟩) (fun _ => Iff.rfl) rfl hobj

theorem heap_set_at {r : Nat} {o ob : Go.Obj} (h : W.heap[r]? = some o) : ({ W with heap := W.heap.setIfInBounds r ob } : World).heap[r]? = some ob := by
  have : r < W.heap.size := (Array.getElem?_eq_some_iff.1 h).1
  simp [this]

/-- A new block that is no row of cells. -/
theorem newObj_sound (hR : Rel ρ W σ) (ob : Go.Obj) (o' : Obj)
    (hobj : ∀ ρ' p, ρ'.loc σ.length 0 = some p → p.blk = W.heap.size → ObjR ρ' (W.alloc ob) σ.length o') :
    ∃ ρ' p, (newObj ob).run P W = .ok W.heap.size (W.alloc ob) ∧ Later ρ W ρ' (W.alloc ob) ∧ Rel ρ' (W.alloc ob) (σ ++ [o']) ∧ ρ'.loc σ.length 0 = some p ∧ p.blk = W.heap.size := by
  let p : Pl := ⟨W.heap.size, 1, 0⟩
  let ρ' : Ren := { ρ with loc := fun i v => if i = σ.length then (if v = 0 then some p else none) else ρ.loc i v }
  have hp : ρ'.loc σ.length 0 = some p := by simp [ρ']
  have := hR.push (ρ' := ρ') (W' := W.alloc ob) (o' := o') (by simp) rfl rfl rfl
    (fun b hb => heap_alloc_old W _ hb) (fun j v hj => by simp [ρ', hj]) (fun v q hq => by
      simp only [ρ', if_true] at hq
      split at hq
      · cases hq; simp [p]
      · cases hq) (fun _ => Iff.rfl) rfl (fun _ => hobj ρ' p hp rfl)
  exact ⟨ρ', p, rfl, this.1, this.2, hp, rfl⟩

theorem mkMap_sound (hR : Rel ρ W σ) (t : TypeId) : ∃ ρ' W' v, (Instr.makeMap t none).run P W = .ok v W' ∧ Later ρ W ρ' W' ∧ Rel ρ' W' (σ ++ [.map []]) ∧ R ρ' W' (.map σ.length) v := by
  obtain ⟨ρ', p, hrun, L, hR', hp, hb⟩ := newObj_sound (P := P) hR (.map #[] 0) (.map []) (fun ρ' p hp hb => ⟨p, #[], 0, hp, by rw [hb]; exact heap_alloc_at W _, rfl, fun j k v h => by simp at h⟩)
  refine ⟨ρ', _, .map (some p.blk), ?_, L, hR', .map hp⟩
  simp [Instr.makeMap, hb]

theorem rangeStr_sound (hR : Rel ρ W σ) {t : TypeId} (ht : P.underlying t = some .string) (s : ByteArray) :
    ∃ ρ' W' v, (Instr.range t (.string s)).run P W = .ok v W' ∧ Later ρ W ρ' W' ∧ Rel ρ' W' (σ ++ [.siter s.data.toList 0]) ∧ R ρ' W' (.ptr σ.length 0) v := by
  obtain ⟨ρ', p, hrun, L, hR', hp, hb⟩ := newObj_sound (P := P) hR (.stringIter s 0) (.siter s.data.toList 0) (fun ρ' p hp hb => ⟨p, s, hp, by rw [hb]; exact heap_alloc_at W _, rfl⟩)
  refine ⟨ρ', _, .pointer (some ⟨p.blk, 0, none⟩), ?_, L, hR', .ptr hp⟩
  simp [Instr.range, run_underlying ht, hb]

theorem bytes_of (s : ByteArray) : (⟨s.data.toList.toArray⟩ : ByteArray) = s := by cases s; simp

theorem nextStr_sound (hR : Rel ρ W σ) {i : Nat} {v : Value} (hv : R ρ W (.ptr i 0) v) {l : List UInt8} {pos : Nat} (hs : σ[i]? = some (.siter l pos)) (t : TypeId) :
    (pos < l.length → ∃ W' u, (Instr.next v true t).run P W = .ok u W' ∧ Later ρ W ρ W' ∧ Rel ρ W' (σ.set i (.siter l (pos + (Utf8.decode ⟨l.toArray⟩ pos).2))) ∧
      R ρ W' (.tuple [.bool true, .int .i64 pos, .int .i32 (Utf8.decode ⟨l.toArray⟩ pos).1]) u) ∧
    (¬ pos < l.length → ∃ u, (Instr.next v true t).run P W = .ok u W ∧ R ρ W (.tuple [.bool false]) u) := by
  cases hv with
  | ptr hp =>
    rename_i p
    obtain ⟨q, s, hq, hh, rfl⟩ := hR.obj i _ hs
    rw [hp] at hq; cases hq
    have hg := getObj_run (P := P) hh (by intro c t f h; cases h)
    rw [size_data]
    constructor
    · intro hlt
      rw [bytes_of]
      have hset := setObj_run (P := P) (o' := .stringIter s (pos + (Utf8.decode s pos).2)) hh (by intro c t f h; cases h)
      obtain ⟨L, hR'⟩ := setObj_change hR hs rfl hp (.stringIter s (pos + (Utf8.decode s pos).2)) (o' := .siter s.data.toList (pos + (Utf8.decode s pos).2)) (fun L => ⟨p, s, hp, heap_set_at hh, rfl⟩)
      refine ⟨_, .tuple #[.bool true, goInt pos, .int .i32 (Utf8.decode s pos).1], ?_, L, hR', .tuple rfl fun j d hd => ?_⟩
      · simp [Instr.next, hg, hlt, hset]
      · match j, hd with
        | 0, hd => cases hd; exact .bool _
        | 1, hd => cases hd; exact .int _ _
        | 2, hd => cases hd; exact .int _ _
        | j + 3, hd => simp at hd
    · intro hlt
      refine ⟨.tuple #[.bool false], by simp [Instr.next, hg, hlt], .tuple rfl fun j d hd => ?_⟩
      match j, hd with
      | 0, hd => cases hd; exact .bool _
      | j + 1, hd => simp at hd

theorem lookup_sound (hR : Rel ρ W σ) {t kt e : TypeId} (ht : P.underlying t = some (.map kt e)) {kc : Nat} (hk : scalarK P kt = some kc) {z : D} (hz : zeroT P e = some z) {x k : D} {vx vk : Value}
    (hx : R ρ W x vx) (hkv : R ρ W k vk) {r : Option D} (h : (match (generalizing := false) x with
      | .nilmap => some none
      | .map i => match σ[i]? with
        | some (.map kvs) => mapFind kc k kvs
        | _ => none
      | _ => none) = some r) (ok : Bool) :
    ∃ v, (Instr.lookup t vx vk ok).run P W = .ok v W ∧ R ρ W (if ok then .tuple [r.getD z, .bool r.isSome] else r.getD z) v := by
  obtain ⟨u, hu⟩ : ∃ u, P.underlying kt = some u := by
    cases hd : P.underlying kt with
    | none => simp [scalarK, hd] at hk
    | some u => exact ⟨u, rfl⟩
  obtain ⟨zv, hzv, hzr⟩ : ∃ zv, (∀ w : World, (zeroValue e).run P w = .ok zv w) ∧ R ρ W z zv := by
    unfold zeroT at hz
    cases hi : P.info? e with
    | none => rw [hi] at hz; cases hz
    | some i =>
      rw [hi] at hz
      simp only at hz
      cases hq : i.zero with
      | none => rw [hq] at hz; cases hz
      | some zv => rw [hq] at hz; exact ⟨zv, fun w => by simp [zeroValue, typeInfo, hi, hq], valD_sound hz⟩
  have fin : ∀ (o : Option (Nat × Value)) (es : Array MapEntry), Instr.findNow u vk es.toList 0 = some o → FoundR ρ W r o →
      (∀ f : Array MapEntry → Sem Value, (∀ es', f es' = (do
        Instr.checkKey es'.isEmpty 10000 kt vk
        let (v, b) ← match ← Instr.findKey kt vk es'.toList with
          | some (_, v) => pure (v, true)
          | none => pure (← zeroValue e, false)
        pure (if ok then .tuple #[v, .bool b] else v))) → ∃ v, (f es).run P W = .ok v W ∧ R ρ W (if ok then .tuple [r.getD z, .bool r.isSome] else r.getD z) v) := by
    intro o es ho hr f hf
    rw [hf]
    have hfind : (Instr.findKey kt vk es.toList).run P W = .ok o W := by simp [Instr.findKey, run_underlying hu, ho]
    rw [Sem.run_bind, checkKey_run hk, Result.andThen_ok, Sem.run_bind, hfind, Result.andThen_ok]
    have tup : ∀ (d : D) (v : Value) (b : Bool), R ρ W d v → R ρ W (if ok = true then .tuple [d, .bool b] else d) (if ok = true then .tuple #[v, .bool b] else v) := by
      intro d v b hd
      cases ok
      · exact hd
      · refine .tuple rfl fun j x hx => ?_
        match j, hx with
        | 0, hx => cases hx; exact hd
        | 1, hx => cases hx; exact .bool _
        | j + 2, hx => simp at hx
    cases r with
    | none =>
      cases o with
      | none => exact ⟨_, by simp [hzv], tup _ _ _ hzr⟩
      | some o => exact hr.elim
    | some d =>
      cases o with
      | none => exact hr.elim
      | some o => exact ⟨_, by simp, tup _ _ _ hr⟩
  cases hx <;> simp only at h <;> try (cases h; done)
  case nilmap =>
    cases h
    obtain ⟨v, hv, hr⟩ := fin none #[] rfl trivial _ (fun _ => rfl)
    refine ⟨v, ?_, hr⟩
    simp only [Instr.lookup, Sem.run_bind, run_underlying ht, Result.andThen_ok, Sem.run_pure]
    simp only [Sem.run_bind] at hv
    exact hv
  case map i p hp =>
    split at h
    · rename_i kvs hs
      obtain ⟨q, ents, clock, hq, hh, hl, hr⟩ := hR.obj i _ hs
      rw [hp] at hq; cases hq
      have hents : EntsR ρ W kvs ents.toList := entsR_of (by simpa using hl) fun j k v hj => by simpa using hr j k v hj
      obtain ⟨o, ho, hor⟩ := find_sound hu hk hkv 0 hents h
      obtain ⟨v, hv, hr⟩ := fin o ents ho hor _ (fun _ => rfl)
      refine ⟨v, ?_, hr⟩
      have hg := getObj_run (P := P) hh (by intro c t f h; cases h)
      simp only [Instr.lookup, Sem.run_bind, run_underlying ht, Result.andThen_ok, Sem.run_pure, hg]
      simp only [Sem.run_bind] at hv
      exact hv
    · cases h

/-- Where a key stands, and that nothing before it is the same. -/
theorem set_sound {u : TypeDesc} {kt : TypeId} {kc : Nat} (hu : P.underlying kt = some u) (hk : scalarK P kt = some kc) {x : D} {vx : Value} (hx : R ρ W x vx) {y : D} {vy : Value} (hy : R ρ W y vy) (clock : Nat) :
    ∀ {l l' : List (D × D)} {m : List MapEntry} (i : Nat), EntsR ρ W l m → mapSet kc x y l = some l' →
      (Instr.findNow u vx m i = some none ∧ EntsR ρ W l' (m ++ [{ key := vx, val := vy, born := clock }])) ∨
      (∃ (j : Nat) (old : MapEntry), Instr.findNow u vx m i = some (some (i + j, old.val)) ∧ m[j]? = some old ∧ (∃ k', R ρ W k' old.key ∧ D.kindEq kc x k' = some true) ∧
        EntsR ρ W l' (m.modify j fun e => { e with key := vx, val := vy }))
  | [], l', [], i, _, h => by cases h; exact .inl ⟨rfl, hx, hy, trivial⟩
  | [], _, _ :: _, _, h, _ => h.elim
  | _ :: _, _, [], _, h, _ => h.elim
  | (k, v) :: l, l', e :: m, i, ⟨h1, h2, h3⟩, h => by
    simp only [mapSet] at h
    split at h
    · rename_i hk'
      cases h
      refine .inr ⟨0, e, by simp [Instr.findNow, sameNow_kind hu hk hx h1 hk'], rfl, ⟨k, h1, hk'⟩, ?_⟩
      exact ⟨hx, hy, h3⟩
    · rename_i hk'
      obtain ⟨l1, hl1, rfl⟩ := Option.map_eq_some_iff.1 h
      rcases set_sound hu hk hx hy clock (i + 1) h3 hl1 with ⟨a, b⟩ | ⟨j, old, a, b, c, d⟩
      · exact .inl ⟨by simp [Instr.findNow, sameNow_kind hu hk hx h1 hk', a], h1, h2, b⟩
      · exact .inr ⟨j + 1, old, by simp [Instr.findNow, sameNow_kind hu hk hx h1 hk', a, Nat.add_assoc, Nat.add_comm 1 j], by simpa using b, c, h1, h2, d⟩
    · cases h

theorem sameBits_kind {kc : Nat} {x y : D} {vx vy : Value} (hx : R ρ W x vx) (hy : R ρ W y vy) (h : D.kindEq kc x y = some true) (n : Nat) : Instr.sameBits n vy vx = true := by
  unfold D.kindEq at h
  split at h
  · cases hx; cases hy; simp at h; subst h; cases n <;> simp [Instr.sameBits]
  · split at h
    · rename_i hjk
      cases hx; cases hy
      simp at h
      subst h; subst hjk
      cases n <;> simp [Instr.sameBits]
    · cases h
  · cases hx; cases hy
    rename_i s s'
    simp at h
    have : s' == s := by rw [bytes_beq]; simpa using h.symm
    cases n <;> simpa [Instr.sameBits] using this
  · cases h

theorem mapUpdate_sound (hR : Rel ρ W σ) {t kt e : TypeId} (ht : P.underlying t = some (.map kt e)) {kc : Nat} (hk : scalarK P kt = some kc) {i : Nat} {k v : D} {vm vk vv : Value}
    (hm : R ρ W (.map i) vm) (hkv : R ρ W k vk) (hv : R ρ W v vv) {kvs kvs' : List (D × D)} (hs : σ[i]? = some (.map kvs)) (h : mapSet kc k v kvs = some kvs') :
    ∃ W', (Instr.mapUpdate t vm vk vv).run P W = .ok () W' ∧ Later ρ W ρ W' ∧ Rel ρ W' (σ.set i (.map kvs')) := by
  obtain ⟨u, hu⟩ : ∃ u, P.underlying kt = some u := by
    cases hd : P.underlying kt with
    | none => simp [scalarK, hd] at hk
    | some u => exact ⟨u, rfl⟩
  cases hm with
  | map hp =>
    rename_i p
    obtain ⟨q, ents, clock, hq, hh, hl, hr⟩ := hR.obj i _ hs
    rw [hp] at hq; cases hq
    have hents : EntsR ρ W kvs ents.toList := entsR_of (by simpa using hl) fun j k v hj => by simpa using hr j k v hj
    have hg := getObj_run (P := P) hh (by intro c t f h; cases h)
    have fin : ∀ (es' : Array MapEntry) (clock' : Nat), EntsR ρ W kvs' es'.toList →
        Later ρ W ρ { W with heap := W.heap.setIfInBounds p.blk (.map es' clock') } ∧ Rel ρ { W with heap := W.heap.setIfInBounds p.blk (.map es' clock') } (σ.set i (.map kvs')) := by
      intro es' clock' he
      refine setObj_change hR hs rfl hp _ fun L => ?_
      obtain ⟨a, b⟩ := entsR_to he
      refine ⟨p, es', clock', hp, heap_set_at hh, by simpa using a, fun j k v hj => ?_⟩
      obtain ⟨e, he, h1, h2⟩ := b j k v hj
      exact ⟨e, by simpa using he, h1.later L, h2.later L⟩
    rcases set_sound hu hk hkv hv clock 0 hents h with ⟨a, b⟩ | ⟨j, old, a, b, ⟨k', c1, c2⟩, d⟩
    · have hfind : (Instr.findKey kt vk ents.toList).run P W = .ok none W := by simp [Instr.findKey, run_underlying hu, a]
      obtain ⟨L, hR'⟩ := fin (ents.push { key := vk, val := vv, born := clock }) (clock + 1) (by simpa using b)
      refine ⟨_, ?_, L, hR'⟩
      have hset := setObj_run (P := P) (o' := .map (ents.push { key := vk, val := vv, born := clock }) (clock + 1)) hh (by intro c t f h; cases h)
      simp [Instr.mapUpdate, run_underlying ht, hg, checkKey_run hk, hfind, hset]
    · have hfind : (Instr.findKey kt vk ents.toList).run P W = .ok (some (j, old.val)) W := by simp [Instr.findKey, run_underlying hu, a]
      obtain ⟨L, hR'⟩ := fin (ents.modify j fun e => { e with key := vk, val := vv }) clock (by rw [Array.toList_modify]; exact d)
      refine ⟨_, ?_, L, hR'⟩
      have hset := setObj_run (P := P) (o' := .map (ents.modify j fun e => { e with key := vk, val := vv }) clock) hh (by intro c t f h; cases h)
      have hold : ents[j]? = some old := by simpa using b
      have hkeep : (Instr.keyThatStays old.key vk).run P W = .ok vk W := by
        unfold Instr.keyThatStays
        rw [sameBits_kind hkv c1 c2]
        rfl
      simp [Instr.mapUpdate, run_underlying ht, hg, checkKey_run hk, hfind, hold, hkeep, hset]

end
end Go.AI

namespace Go.AI
open Go

section
variable {P : Program} {ρ : Ren} {W : World} {σ : St}

/-- A type's zero value. -/
theorem zeroT_some {t : TypeId} {z : D} (h : zeroT P t = some z) : ∃ i zv, P.info? t = some i ∧ i.zero = some zv ∧ valD zv = some z ∧ (∀ w : World, (zeroValue t).run P w = .ok zv w) := by
  unfold zeroT at h
  cases hi : P.info? t with
  | none => rw [hi] at h; cases h
  | some i =>
    rw [hi] at h
    simp only at h
    cases hq : i.zero with
    | none => rw [hq] at h; cases h
    | some zv => rw [hq] at h; exact ⟨i, zv, rfl, hq, h, fun w => by simp [zeroValue, typeInfo, hi, hq]⟩

theorem sizeT_some {t : TypeId} {n : Nat} (h : sizeT P t = some n) : ∃ i, P.info? t = some i ∧ i.size = n := by
  unfold sizeT at h
  cases hi : P.info? t with
  | none => rw [hi] at h; cases h
  | some i => rw [hi] at h; exact ⟨i, rfl, by simpa using h⟩

/-- A new row without elements and without a place. -/
theorem emptyRow (hR : Rel ρ W σ) (sz : Nat) : Rel ρ W (σ ++ [.row sz [] 0]) := by
  have none_at : ∀ v, ρ.loc σ.length v = none := fun v => by
    cases h : ρ.loc σ.length v with
    | none => rfl
    | some p => exact absurd (hR.blk _ _ _ h).2 (Nat.lt_irrefl _)
  refine (hR.push (ρ' := ρ) (W' := W) (o' := .row sz [] 0) (Nat.le_refl _) rfl rfl rfl (fun _ _ => rfl) (fun _ _ _ => rfl) (fun v p h => by rw [none_at] at h; cases h) (fun _ => Iff.rfl) rfl fun _ => ?_).2
  refine ⟨Nat.le_refl _, fun k e h => by simp at h, fun ver _ => none_at ver, fun ver _ hv => .inl ⟨by simpa using hv, none_at 0⟩⟩

theorem allocRow_sound (hR : Rel ρ W σ) {elem : TypeId} (hz : zeroT P elem = some .empty) (sz : Nat) :
    ∃ ρ' W' v, (Instr.alloc elem true (.tuple #[])).run P W = .ok v W' ∧ Later ρ W ρ' W' ∧ Rel ρ' W' (σ ++ [.row sz [] 0, .box [.arr σ.length 0 0 0]]) ∧ R ρ' W' (.ptr (σ.length + 1) 0) v := by
  obtain ⟨i, zv, _, _, hv, hrun⟩ := zeroT_some hz
  have hzv : zv = .slice none 0 0 := by
    unfold valD at hv
    split at hv
    · simp at hv
    · split at hv <;> cases hv
    · unfold valD1 at hv
      split at hv <;> first | rfl | cases hv
  subst hzv
  have hR1 := emptyRow hR sz
  obtain ⟨ρ', W', h1, L, hR', p, hp, hb⟩ := newVar_sound (P := P) hR1 elem (d := .arr σ.length 0 0 0) (v := .slice none 0 0) (.arr0 _) rfl
  have hl : (σ ++ [Obj.row sz [] 0]).length = σ.length + 1 := by simp
  rw [hl] at hp
  refine ⟨ρ', W', .pointer (some ⟨p.blk, 0, none⟩), ?_, L, by simpa [D.cells] using hR', .ptr hp⟩
  simp [Instr.alloc, hrun, h1, hb]

theorem alloc_sound (hR : Rel ρ W σ) {elem : TypeId} {z : D} (hz : zeroT P elem = some z) (ho : z.cells.all D.one = true) :
    ∃ ρ' W' v, (Instr.alloc elem true (.tuple #[])).run P W = .ok v W' ∧ Later ρ W ρ' W' ∧ Rel ρ' W' (σ ++ [.box z.cells]) ∧ R ρ' W' (.ptr σ.length 0) v := by
  obtain ⟨i, zv, _, _, hv, hrun⟩ := zeroT_some hz
  obtain ⟨ρ', W', h1, L, hR', p, hp, hb⟩ := newVar_sound (P := P) hR elem (valD_sound (ρ := ρ) (W := W) hv) ho
  refine ⟨ρ', W', .pointer (some ⟨p.blk, 0, none⟩), ?_, L, hR', .ptr hp⟩
  simp [Instr.alloc, hrun, h1, hb]

theorem box_sound (hR : Rel ρ W σ) {elem : TypeId} {d : D} {v : Value} (hv : R ρ W d v) (ho : d.cells.all D.one = true) :
    ∃ ρ' W' u, (Instr.box elem v).run P W = .ok u W' ∧ Later ρ W ρ' W' ∧ Rel ρ' W' (σ ++ [.box d.cells]) ∧ R ρ' W' (.ptr σ.length 0) u := by
  obtain ⟨ρ', W', h1, L, hR', p, hp, hb⟩ := newVar_sound (P := P) hR elem hv ho
  refine ⟨ρ', W', .pointer (some ⟨p.blk, 0, none⟩), ?_, L, hR', .ptr hp⟩
  simp [Instr.box, h1, hb]

/-- Cells stand for elements by their cells alone. -/
theorem RC.congr {sz n : Nat} {a b : D} (h : a.cells = b.cells) {cs : Array Value} (r : RC ρ W sz (List.replicate n a) cs) : RC ρ W sz (List.replicate n b) cs := by
  obtain ⟨h1, h2, h3⟩ := r
  refine ⟨by simpa using h1, fun k e he => ?_, fun idx e j d he hd => ?_⟩
  · have hk : k < n := by have := (List.getElem?_eq_some_iff.1 he).1; simpa using this
    obtain rfl := List.eq_of_mem_replicate (List.mem_of_getElem? he)
    rw [← h]; exact h2 k a (by simp [hk])
  · have hk : idx < n := by have := (List.getElem?_eq_some_iff.1 he).1; simpa using this
    obtain rfl := List.eq_of_mem_replicate (List.mem_of_getElem? he)
    exact h3 idx a j d (by simp [hk]) (by rw [h]; exact hd)

theorem zeroElem_cells {sz : Nat} {z : D} (hz : z.cells.length = sz) : (if sz = 1 then z.cells.headD .any else D.agg z.cells).cells = z.cells ∨ (sz = 1 ∧ z.cells.all D.one = false) := by
  by_cases h : sz = 1
  · subst h
    rw [if_pos rfl]
    match hc : z.cells, hz with
    | [x], _ =>
      by_cases hx : x.one = true
      · left
        cases x <;> first | rfl | (simp [D.one] at hx)
      · right; simpa using hx
  · rw [if_neg h]; exact .inl rfl

theorem fillRow_ones {sz : Nat} : ∀ (m : List (Nat × D)) (es es' : List D), (∀ e ∈ es, e.cells.all D.one = true) → fillRow sz es m = some es' → ∀ e ∈ es', e.cells.all D.one = true
  | [], es, es', h, hf => by cases hf; exact h
  | (i, v) :: m, es, es', h, hf => by
    simp only [fillRow] at hf
    split at hf
    · rename_i hc
      refine fillRow_ones m (es.set i v) es' (fun e he => ?_) hf
      rcases List.mem_or_eq_of_mem_set he with h1 | h1
      · exact h e h1
      · subst h1; exact hc.2.2
    · cases hf

theorem buildSlice_run {t e : TypeId} (ht : P.underlying t = some (.slice e)) {sz len : Nat} (hs : sizeT P e = some sz) {z : D} (hz : zeroT P e = some z) (hzl : z.cells.length = sz)
    (h0 : 0 < sz) (hone : z.cells.all D.one = true) (hlen : ¬ len * sz > 2 ^ 24) {ps : Array (Nat × Value)} {m : List (Nat × D)} {es : List D}
    (hp : ps.toList.length = m.length ∧ ∀ (j : Nat) (i : Nat) (d : D), m[j]? = some (i, d) → ∃ v, ps.toList[j]? = some (i, v) ∧ R ρ W d v)
    (h : fillRow sz (List.replicate len (if sz = 1 then z.cells.headD .any else .agg z.cells)) m = some es) :
    ∃ cs, (Instr.buildSlice t len ps).run P W = .ok (.slice (some ⟨W.heap.size, 0, none⟩) len len) (W.alloc (.cells cs e)) ∧ RC ρ W sz es cs ∧ es.length = len ∧ ∀ e ∈ es, e.cells.all D.one = true := by
  obtain ⟨i, zv, _, _, hv, hrun⟩ := zeroT_some hz
  have hcell : (if sz = 1 then z.cells.headD .any else D.agg z.cells).cells = z.cells := by
    rcases zeroElem_cells hzl with h | ⟨_, h⟩
    · exact h
    · rw [h] at hone; cases hone
  have hrc := RC.congr hcell.symm (RC.zeros (valD_sound (ρ := ρ) (W := W) hv) hone hzl len)
  obtain ⟨cs, hcs, hr, hl⟩ := fillRow_sound sz ps.toList m _ es _ hp hrc h
  refine ⟨cs, ?_, hr, by simpa using hl, fillRow_ones m _ es (fun e he => ?_) h⟩
  · unfold Instr.buildSlice
    simp only [Sem.run_bind, run_underlying ht, Result.andThen_ok, run_size hs, if_neg hlen]
    by_cases hn : len * sz = 0
    · have hl0 : len = 0 := by rcases Nat.mul_eq_zero.1 hn with h | h <;> omega
      subst hl0
      have : (Array.range (0 * sz)).map (fun i => zv.cells[i % zv.cells.size]!) = (Array.range 0).map (fun i => (#[] : Array Value)[i % (#[] : Array Value).size]!) := by simp
      rw [this] at hcs
      simp [hn, newRow]
      simp at hcs
      simp [hcs]
    · simp [hn, hrun, newRow, hcs]
  · obtain rfl := List.eq_of_mem_replicate he
    rw [hcell]; exact hone

theorem makeSlice_sound (hR : Rel ρ W σ) {t e : TypeId} (ht : P.underlying t = some (.slice e)) {sz bytes : Nat} (hs : sizeT P e = some sz) (hb : bytesT P e = some bytes) {z : D} (hz : zeroT P e = some z)
    {n c : Int} (h0 : 0 ≤ n) (hnc : n ≤ c) (hroom : c.toNat * bytes ≤ 140737488355328) (hc : c.toNat ≤ 140737488355328) (hzl : z.cells.length = sz) (hone : z.cells.all D.one = true) (kl kc : IntKind) :
    ∃ ρ' W' v, (Instr.makeSlice t (.int kl n) (.int kc c)).run P W = .ok v W' ∧ Later ρ W ρ' W' ∧ Rel ρ' W' (σ ++ [.row sz (List.replicate n.toNat z) 0]) ∧ R ρ' W' (.arr σ.length n.toNat 0 n.toNat) v := by
  obtain ⟨i, zv, hi, hq, hv, hrun⟩ := zeroT_some hz
  obtain ⟨i', hi', hsz⟩ := sizeT_some hs
  rw [hi] at hi'; cases hi'
  have hbi : i.bytes = bytes := by simpa [bytesT, hi] using hb
  have hbb : (i.bytes : Int) * c ≤ 281474976710656 := by
    have h1 : ((c.toNat * bytes : Nat) : Int) ≤ 140737488355328 := by omega
    rw [Int.natCast_mul, Int.toNat_of_nonneg (by omega), Int.mul_comm] at h1
    rw [hbi]; omega
  have hmake := run_make (P := P) W t e i zv ht hi hq kl kc n c h0 hnc hbb (by omega)
  have hrc := RC.zeros (valD_sound (ρ := ρ) (W := W) hv) hone hzl c.toNat
  obtain ⟨ρ', L, hR', hr⟩ := newRow_sound hR e (sz := sz) (cap := c.toNat) (es := List.replicate n.toNat z) (cs := madeCells zv.cells (c.toNat * i.size)) (since := 0) (by simp; omega) (by simp [madeCells, hsz]) (Nat.zero_le _)
    (fun k x hk => by obtain rfl := List.eq_of_mem_replicate (List.mem_of_getElem? hk); exact ⟨hzl, hone⟩)
    (fun idx x j d hx hd => by
      have hk : idx < n.toNat := by have := (List.getElem?_eq_some_iff.1 hx).1; simpa using this
      have hx' : (List.replicate c.toNat z)[idx]? = some x := by
        obtain rfl := List.eq_of_mem_replicate (List.mem_of_getElem? hx)
        rw [List.getElem?_replicate, if_pos (by omega)]
      rw [hsz]
      exact hrc.2.2 idx x j d hx' hd) _ rfl
  simp only [List.length_replicate] at hr
  exact ⟨ρ', _, _, hmake, L, hR', hr⟩

/-- Parts of a struct or an array. -/
theorem parts_sound {glob : Gl} {e : Env} {a : Act} (hE : RE ρ W e a.tmps) (hG : GlobR ρ W glob) (place : Nat → Option (Nat × Nat)) :
    ∀ {l : List (Nat × Operand)} {ps : List (Nat × Nat × AOpd)}, (l.mapM fun (x : Nat × Operand) => (place x.1).bind fun q => (opd x.2).map fun y => (q.1, q.2, y)) = some ps →
      PartsR ρ W place (l.map fun x => (x.1, a.eval x.2)) (ps.map fun x => (x.1, x.2.1, lookA glob e x.2.2))
  | [], ps, h => by simp at h; subst h; trivial
  | (i, x) :: l, ps, h => by
    simp only [List.mapM_cons, Option.bind_eq_bind, Option.pure_def, Option.bind_eq_some_iff, Option.some.injEq] at h
    obtain ⟨y, ⟨q, hq, hy⟩, r, hr, rfl⟩ := h
    obtain ⟨u, hu, rfl⟩ := Option.map_eq_some_iff.1 hy
    exact ⟨hq, opd_sound hE hG hu, parts_sound hE hG place hr⟩

theorem elems_sound {glob : Gl} {e : Env} {a : Act} (hE : RE ρ W e a.tmps) (hG : GlobR ρ W glob) :
    ∀ {l : List (Nat × Operand)} {ps : List (Nat × AOpd)}, (l.mapM fun (x : Nat × Operand) => (opd x.2).map fun y => (x.1, y)) = some ps →
      (l.map fun x => (x.1, a.eval x.2)).length = (ps.map fun x => (x.1, lookA glob e x.2)).length ∧
      ∀ (j i : Nat) (d : D), (ps.map fun x => (x.1, lookA glob e x.2))[j]? = some (i, d) → ∃ v, (l.map fun x => (x.1, a.eval x.2))[j]? = some (i, v) ∧ R ρ W d v
  | [], ps, h => by simp at h; subst h; exact ⟨rfl, fun j i d h => by simp at h⟩
  | (i, x) :: l, ps, h => by
    simp only [List.mapM_cons, Option.bind_eq_bind, Option.pure_def, Option.bind_eq_some_iff, Option.some.injEq] at h
    obtain ⟨y, hy, r, hr, rfl⟩ := h
    obtain ⟨u, hu, rfl⟩ := Option.map_eq_some_iff.1 hy
    obtain ⟨a1, a2⟩ := elems_sound hE hG hr
    refine ⟨by simpa using a1, fun j k d hd => ?_⟩
    cases j with
    | zero => simp at hd; obtain ⟨rfl, rfl⟩ := hd; exact ⟨_, rfl, opd_sound hE hG hu⟩
    | succ j => exact a2 j k d (by simpa using hd)

theorem build_sound {t : TypeId} {z : D} (hz : zeroT P t = some z) (hone : z.cells.all D.one = true) {place : Nat → Option (Nat × Nat)} {parts : Array (Nat × Value)} {m : List (Nat × Nat × D)} {ds : List D}
    (hplace : ∀ zv i, P.info? t = some i → i.zero = some zv → P.built t parts.toList = Instr.fill place zv.cells parts.toList)
    (hp : PartsR ρ W place parts.toList m) (h : fillD z.cells m = some ds) : ∃ v, (Instr.build t parts).run P W = .ok v W ∧ R ρ W (.agg ds) v := by
  obtain ⟨i, zv, hi, hq, hv, hrun⟩ := zeroT_some hz
  have hc : CellsR ρ W z.cells zv.cells := by
    obtain ⟨a, b⟩ := (valD_sound (ρ := ρ) (W := W) hv).cells hone
    exact ⟨a, fun j d hd => (b j d hd).1⟩
  obtain ⟨cs, hcs, hr⟩ := fill_sound place parts.toList m z.cells ds zv.cells hp hc h
  exact ⟨_, run_build W t parts cs (by rw [hplace zv i hi hq, hcs]), .agg hr.1 hr.2⟩

end
end Go.AI

namespace Go.AI
open Go

section
variable {P : Program} {ρ : Ren} {W : World} {σ : St}

/-- What an operation of the model does, told by what it comes to. -/
def NxR (P : Program) (s : Sem Next) (W : World) (ρ' : Ren) (W' : World) : Nx → Prop
  | .value d => ∃ v, s.run P W = .ok (.value v) W' ∧ R ρ' W' d v
  | .skip => s.run P W = .ok .skip W'
  | .enter f args => ∃ vs, s.run P W = (callFunc f vs).run P W ∧ W' = W ∧ Rs ρ' W' args vs
  | .yield i args => ∃ (p : Pl) (vs : Array Value), ρ'.loc i 0 = some p ∧ s.run P W = (Instr.yield p.blk vs).run P W ∧ W' = W ∧ Rs ρ' W' args vs
  | .panic d => ∃ v, s.run P W = .halt (.panic v) W' ∧ R ρ' W' d v

def Steps (P : Program) (s : Sem Next) (ρ : Ren) (W : World) (nx : Nx) (σ' : St) : Prop :=
  ∃ ρ' W', Later ρ W ρ' W' ∧ Rel ρ' W' σ' ∧ NxR P s W ρ' W' nx

theorem val_some {d : Option D} {σ σ' : St} {nx : Nx} (h : val d σ = some (nx, σ')) : ∃ x, d = some x ∧ nx = .value x ∧ σ' = σ := by
  unfold val at h
  cases d with
  | none => cases h
  | some d => cases h; exact ⟨d, rfl, rfl, rfl⟩

theorem pureN (hR : Rel ρ W σ) {s : Sem Next} {v : Value} {d : D} (hs : s = pure (.value v)) (hv : R ρ W d v) : Steps P s ρ W (.value d) σ :=
  ⟨ρ, W, .refl _ _, hR, v, by rw [hs]; rfl, hv⟩

theorem pureV (hR : Rel ρ W σ) {s : Sem Next} {t : Sem Value} {d : D} (hs : s = (do pure (.value (← t)))) (ht : ∃ v, t.run P W = .ok v W ∧ R ρ W d v) : Steps P s ρ W (.value d) σ := by
  obtain ⟨v, h1, h2⟩ := ht
  exact ⟨ρ, W, .refl _ _, hR, v, by rw [hs, Sem.run_bind, h1]; rfl, h2⟩

theorem newV {s : Sem Next} {t : Sem Value} {d : D} {σ' : St} (hs : s = (do pure (.value (← t)))) (ht : ∃ ρ' W' v, t.run P W = .ok v W' ∧ Later ρ W ρ' W' ∧ Rel ρ' W' σ' ∧ R ρ' W' d v) :
    Steps P s ρ W (.value d) σ' := by
  obtain ⟨ρ', W', v, h1, L, hR', h2⟩ := ht
  exact ⟨ρ', W', L, hR', v, by rw [hs, Sem.run_bind, h1]; rfl, h2⟩

theorem unitV {s : Sem Next} {t : Sem Unit} {σ' : St} (hs : s = (do t; pure .skip)) (ht : ∃ W', t.run P W = .ok () W' ∧ Later ρ W ρ W' ∧ Rel ρ W' σ') : Steps P s ρ W .skip σ' := by
  obtain ⟨W', h1, L, hR'⟩ := ht
  exact ⟨ρ, W', L, hR', by show s.run P W = _; rw [hs, Sem.run_bind, h1]; rfl⟩

theorem opdO_sound {glob : Gl} {e : Env} {a : Act} (hE : RE ρ W e a.tmps) (hG : GlobR ρ W glob) {x : Option Operand} {ax : Option AOpd} (h : opdO x = some ax) :
    OptR ρ W (ax.map (lookA glob e)) (x.map a.eval) := by
  cases x with
  | none => cases h; trivial
  | some x =>
    obtain ⟨y, hy, rfl⟩ := Option.map_eq_some_iff.1 h
    exact opd_sound hE hG hy

theorem R.bool_inv {b : Bool} {v : Value} (h : R ρ W (.bool b) v) : v = .bool b := by cases h; rfl
theorem R.int_inv {k : IntKind} {n : Int} {v : Value} (h : R ρ W (.int k n) v) : v = .int k n := by cases h; rfl
theorem R.str_inv {l : List UInt8} {v : Value} (h : R ρ W (.str l) v) : ∃ s : ByteArray, v = .string s ∧ l = s.data.toList := by cases h; exact ⟨_, rfl, rfl⟩

theorem encode_ascii {n : Int} (h0 : 0 ≤ n) (h1 : n < 128) : (Utf8.encode n).data.toList = [UInt8.ofNat n.toNat] := by
  have hv : Utf8.valid n = true := by unfold Utf8.valid; simp; omega
  have hlt : n.toNat < 128 := by omega
  unfold Utf8.encode
  simp [hv, hlt]

/-- A slice with a last bound of nothing. -/
theorem slice00 {t e : TypeId} {sz : Nat} (ht : P.underlying t = some (.slice e)) (hs : sizeT P e = some sz) {a : Option Addr} {n c : Nat} {lo : Option Value}
    (hlo : lo = none ∨ ∃ k, lo = some (.int k 0)) {kh km : IntKind} : ∃ v, (Instr.sliceAt t (.slice a n c) lo (some (.int kh 0)) (some (.int km 0))).run P W = .ok v W ∧ R ρ W .empty v := by
  have hb : ∀ code N w, (Instr.sliceBound (.int kh 0) N code).run P w = .ok 0 w := fun code N w => by
    simp [Instr.sliceBound, asIntOf]
  have hb' : ∀ kk code N w, (Instr.sliceBound (.int kk 0) N code).run P w = .ok 0 w := fun kk code N w => by
    simp [Instr.sliceBound, asIntOf]
  rcases hlo with rfl | ⟨k, rfl⟩
  · exact ⟨_, by simp [Instr.sliceAt, Instr.slice, run_underlying ht, Instr.sliceBounds, hb', run_size hs]; rfl, .empty _⟩
  · exact ⟨_, by simp [Instr.sliceAt, Instr.slice, run_underlying ht, Instr.sliceBounds, hb', run_size hs]; rfl, .empty _⟩

end
end Go.AI

namespace Go.AI
open Go

section
variable {P : Program} {ρ : Ren} {W : World} {σ : St} {glob : Gl} {e : Env} {a : Act}

theorem isEmptyLit_eq {x : Operand} (h : isEmptyLit x = true) : x = .const (.slice none 0 0) := by
  unfold isEmptyLit at h
  split at h
  · rfl
  · cases h

theorem mv_sound (hR : Rel ρ W σ) (hE : RE ρ W e a.tmps) (hG : GlobR ρ W glob) {s : Sem Next} (x : Operand) (hs : s = pure (.value (a.eval x))) {c : Bool} {t : TypeId} {ao : AOp}
    (hc : (if c && isEmptyLit x then
      match P.underlying t with
      | some (.slice e) => do pure (.newrow (← sizeT P e))
      | _ => none
    else do pure (.mv (← opd x))) = some ao) {nx : Nx} {σ' : St} (h : stepOp (lookA glob e) σ ao = some (nx, σ')) : Steps P s ρ W nx σ' := by
  by_cases hcond : (c && isEmptyLit x) = true
  · rw [if_pos hcond] at hc
    split at hc
    · rename_i el _
      cases hs' : sizeT P el with
      | none => rw [hs'] at hc; cases hc
      | some sz =>
        rw [hs'] at hc
        cases hc
        simp only [stepOp, Option.some.injEq, Prod.mk.injEq] at h
        obtain ⟨rfl, rfl⟩ := h
        simp only [Bool.and_eq_true] at hcond
        obtain rfl := isEmptyLit_eq hcond.2
        exact ⟨ρ, W, .refl _ _, emptyRow hR sz, .slice none 0 0, by rw [hs]; rfl, .arr0 _⟩
    · cases hc
  · rw [if_neg hcond] at hc
    cases hx : opd x with
    | none => rw [hx] at hc; cases hc
    | some ax =>
      rw [hx] at hc
      cases hc
      simp only [stepOp, Option.some.injEq, Prod.mk.injEq] at h
      obtain ⟨rfl, rfl⟩ := h
      exact pureN hR hs (opd_sound hE hG hx)

theorem addOff_sound (hR : Rel ρ W σ) {x : AOpd} {vx : Value} (hx : R ρ W (lookA glob e x) vx) {off : Nat} {s : Sem Next} {f : Value → Sem Value}
    (hs : s = (do pure (.value (← f vx)))) (hf : ∀ b o, (f (.pointer (some ⟨b, o, none⟩))).run P W = .ok (.pointer (some ⟨b, o + off, none⟩)) W)
    {nx : Nx} {σ' : St} (h : stepOp (lookA glob e) σ (.addOff off x) = some (nx, σ')) : Steps P s ρ W nx σ' := by
  simp only [stepOp] at h
  split at h
  · rename_i i o hl
    cases h
    rw [hl] at hx
    cases hx with
    | ptr hp => exact pureV hR hs ⟨_, hf _ _, .ptr hp⟩
  · rename_i i v idx r hl
    cases h
    rw [hl] at hx
    cases hx with
    | rptr hp => exact pureV hR hs ⟨_, hf _ _, by rw [Nat.add_assoc]; exact .rptr hp⟩
  · rename_i cs hl
    cases h
    rw [hl] at hx
    cases hx with
    | tptr hf' hc hr => exact pureV hR hs ⟨_, hf _ _, drop_tptr hf' hc hr off⟩
  · cases h

theorem call_args {args : Array Operand} (hE : RE ρ W e a.tmps) (hG : GlobR ρ W glob) {as : List AOpd} (h : args.toList.mapM opd = some as) : Rs ρ W (as.map (lookA glob e)) (args.map a.eval) :=
  opds_sound hE hG h

theorem Rs.append {xs ys : List D} {vs us : Array Value} (h : Rs ρ W xs vs) (k : Rs ρ W ys us) : Rs ρ W (xs ++ ys) (vs ++ us) := by
  refine ⟨by simp [h.1, k.1], fun j d hd => ?_⟩
  by_cases hj : j < xs.length
  · rw [List.getElem?_append_left hj] at hd
    refine R.undef_irrel ?_ (h.2 j d hd)
    have : j < vs.size := by rw [h.1]; exact hj
    simp [Array.getD_eq_getD_getElem?, Array.getElem?_append_left this]
  · rw [List.getElem?_append_right (by omega)] at hd
    refine R.undef_irrel ?_ (k.2 _ d hd)
    have : vs.size ≤ j := by rw [h.1]; omega
    simp [Array.getD_eq_getD_getElem?, Array.getElem?_append_right this, h.1]

theorem rs_two {x y : D} {vs : Array Value} (h : Rs ρ W [x, y] vs) : ∃ v u, vs = #[v, u] ∧ R ρ W x v ∧ R ρ W y u := by
  obtain ⟨h1, h2⟩ := h
  match vs, h1 with
  | ⟨[v, u]⟩, _ => exact ⟨v, u, rfl, h2 0 x rfl, h2 1 y rfl⟩

theorem mapUp_sound (hR : Rel ρ W σ) {t kt el : TypeId} (hu : P.underlying t = some (.map kt el)) {kc : Nat} (hk : scalarK P kt = some kc) {m k v : AOpd} {vm vk vv : Value}
    (hm : R ρ W (lookA glob e m) vm) (hkv : R ρ W (lookA glob e k) vk) (hv : R ρ W (lookA glob e v) vv) {s : Sem Next} (hs : s = (do Instr.mapUpdate t vm vk vv; pure .skip))
    {nx : Nx} {σ' : St} (h : stepOp (lookA glob e) σ (.mapUpdate kc m k v) = some (nx, σ')) : Steps P s ρ W nx σ' := by
  simp only [stepOp] at h
  split at h
  · rename_i i hl
    rw [hl] at hm
    split at h
    · rename_i kvs hkvs
      split at h
      · cases h
      · obtain ⟨kvs', h1, h2⟩ := Option.map_eq_some_iff.1 h
        cases h2
        exact unitV hs (mapUpdate_sound hR hu hk hm hkv hv hkvs h1)
    · cases h
  · cases h

theorem call_sound (hR : Rel ρ W σ) (hE : RE ρ W e a.tmps) (hG : GlobR ρ W glob) {o : Oper} {c : Call} (ho : o.op = .call c) {ao : AOp}
    (hc : (match c.callee with
    | .builtin .len => match c.args.toList, c.argTypes.toList with
      | [x], [t] => match P.underlying t with
        | some .string => do pure (.len true (← opd x))
        | some (.slice _) => do pure (.len false (← opd x))
        | _ => none
      | _, _ => none
    | .builtin .append => match c.args.toList, c.argTypes.toList with
      | [s, x], [t, u] => match P.underlying t, P.underlying u with
        | some (.slice e), some (.slice _) => do
          let sz ← sizeT P e
          let z ← zeroT P e
          if z.cells.length = sz && z.cells.all D.one then pure (.append sz (← bytesT P e) (← opd s) (← opd x)) else none
        | _, _ => none
      | _, _ => none
    | .builtin .max => do pure (.max2 (← c.args.toList.mapM opd))
    | .builtin .min => do pure (.min2 (← c.args.toList.mapM opd))
    | .builtin .panic => match c.args.toList with
      | [x] => do pure (.panic (← opd x))
      | _ => none
    | .builtin _ => none
    | .invoke _ _ => none
    | .value (.func f) => do pure (.call (.fn f) (← c.args.toList.mapM opd))
    | .value x => do pure (.call (.val (← opd x)) (← c.args.toList.mapM opd))) = some ao)
    {nx : Nx} {σ' : St} (h : stepOp (lookA glob e) σ ao = some (nx, σ')) : Steps P (execOp a.eval o) ρ W nx σ' := by
  have look : ∀ {x : Operand} {ax : AOpd}, opd x = some ax → R ρ W (lookA glob e ax) (a.eval x) := fun h => opd_sound hE hG h
  obtain ⟨callee, args, argTypes⟩ := c
  simp only at hc
  split at hc
  · -- len
    have eqx : execOp a.eval o = (do pure (.value (← Builtin.len_ argTypes o.type (args.map a.eval)))) := by
      simp only [execOp, ho, resolve, invoke, builtin, pure_bind]
    split at hc
    · rename_i x t hargs htys
      obtain ⟨args⟩ := args
      obtain ⟨argTypes⟩ := argTypes
      cases hargs
      cases htys
      split at hc
      · rename_i hu
        simp only [Option.bind_eq_bind, Option.pure_def, Option.bind_eq_some_iff, Option.some.injEq] at hc
        obtain ⟨ax, h1, rfl⟩ := hc
        have hx := look h1
        simp only [stepOp] at h
        split at h
        · rename_i l _ hl
          cases h
          rw [hl] at hx
          obtain ⟨s, hv, rfl⟩ := hx.str_inv
          refine pureV hR eqx ⟨.int .i64 s.data.toList.length, ?_, .int _ _⟩
          simp [Builtin.len_, hv, run_underlying hu, goInt]
        · rename_i hb _; cases hb
        · rename_i hb _; cases hb
        · rename_i hb _; cases hb
        · cases h
      · rename_i el hu
        simp only [Option.bind_eq_bind, Option.pure_def, Option.bind_eq_some_iff, Option.some.injEq] at hc
        obtain ⟨ax, h1, rfl⟩ := hc
        have hx := look h1
        have sl : ∀ an n c, a.eval x = .slice an n c → ∃ v, (Builtin.len_ #[t] o.type (#[x].map a.eval)).run P W = .ok v W ∧ R ρ W (.int .i64 n) v := by
          intro an n c hv
          exact ⟨.int .i64 n, by simp [Builtin.len_, hv, run_underlying hu, goInt], .int _ _⟩
        generalize hv : a.eval x = v at hx
        simp only [stepOp] at h
        split at h
        · rename_i hb _; cases hb
        · rename_i l _ hl
          cases h
          rw [hl] at hx
          cases hx with
          | slice0 an c => exact pureV hR eqx (sl _ _ _ hv)
          | slice hf hn => subst hn; exact pureV hR eqx (sl _ _ _ hv)
        · rename_i _ hl
          cases h
          rw [hl] at hx
          cases hx
          exact pureV hR eqx (sl _ _ _ hv)
        · rename_i _ hl
          cases h
          rw [hl] at hx
          cases hx with
          | arr => exact pureV hR eqx (sl _ _ _ hv)
          | arr0 => exact pureV hR eqx (sl _ _ _ hv)
        · cases h
      · cases hc
    · cases hc
  · -- append
    have eqx : execOp a.eval o = (do pure (.value (← Builtin.append_ argTypes o.type (args.map a.eval)))) := by
      simp only [execOp, ho, resolve, invoke, builtin, pure_bind]
    split at hc
    · rename_i s x t u hargs htys
      obtain ⟨args⟩ := args
      obtain ⟨argTypes⟩ := argTypes
      cases hargs
      cases htys
      split at hc
      · rename_i el el' hu1 hu2
        simp only [Option.bind_eq_bind, Option.bind_eq_some_iff] at hc
        obtain ⟨sz, hs, z, hz, hc⟩ := hc
        split at hc
        · rename_i hcond
          simp only [Bool.and_eq_true, decide_eq_true_eq] at hcond
          simp only [Option.pure_def, Option.bind_eq_some_iff, Option.some.injEq] at hc
          obtain ⟨bytes, hb, as, h1, ax, h2, rfl⟩ := hc
          obtain ⟨ρ', W', v, d, rfl, hrun, L, hR', hr⟩ := append_sound (ty := o.type) hR hu1 hu2 hs hb hz hcond.1 hcond.2 (look h1) (look h2) h
          exact newV eqx ⟨ρ', W', v, by simpa using hrun, L, hR', hr⟩
        · cases hc
      · cases hc
    · cases hc
  · -- max
    have eqx : execOp a.eval o = (do pure (.value (← Builtin.max_ argTypes o.type (args.map a.eval)))) := by
      simp only [execOp, ho, resolve, invoke, builtin, pure_bind]
    simp only [Option.bind_eq_bind, Option.pure_def, Option.bind_eq_some_iff, Option.some.injEq] at hc
    obtain ⟨as, h1, rfl⟩ := hc
    have ha := call_args hE hG h1
    simp only [stepOp] at h
    split at h
    · rename_i k x k' y hl
      split at h
      · rename_i hk
        subst hk
        cases h
        rw [hl] at ha
        obtain ⟨v, u, hv, hx, hy⟩ := rs_two ha
        refine pureV hR eqx ⟨_, ?_, .int k (if y > x then y else x)⟩
        rw [hv, hx.int_inv, hy.int_inv]
        simp [Builtin.max_, Builtin.max2]
      · cases h
    · cases h
  · -- min
    have eqx : execOp a.eval o = (do pure (.value (← Builtin.min_ argTypes o.type (args.map a.eval)))) := by
      simp only [execOp, ho, resolve, invoke, builtin, pure_bind]
    simp only [Option.bind_eq_bind, Option.pure_def, Option.bind_eq_some_iff, Option.some.injEq] at hc
    obtain ⟨as, h1, rfl⟩ := hc
    have ha := call_args hE hG h1
    simp only [stepOp] at h
    split at h
    · rename_i k x k' y hl
      split at h
      · rename_i hk
        subst hk
        cases h
        rw [hl] at ha
        obtain ⟨v, u, hv, hx, hy⟩ := rs_two ha
        refine pureV hR eqx ⟨_, ?_, .int k (if y < x then y else x)⟩
        rw [hv, hx.int_inv, hy.int_inv]
        simp [Builtin.min_, Builtin.min2]
      · cases h
    · cases h
  · -- panic
    split at hc
    · rename_i x hargs
      obtain ⟨args⟩ := args
      cases hargs
      simp only [Option.bind_eq_bind, Option.pure_def, Option.bind_eq_some_iff, Option.some.injEq] at hc
      obtain ⟨ax, h1, rfl⟩ := hc
      simp only [stepOp] at h
      split at h
      · rename_i t v hl
        cases h
        have hx := look h1
        rw [hl] at hx
        refine ⟨ρ, W, .refl _ _, hR, a.eval x, ?_, hx⟩
        generalize hv : a.eval x = w at hx
        cases hx
        simp [execOp, ho, resolve, invoke, builtin, hv, Instr.panic, goPanic, Sem.run]
      · cases h
    · cases hc
  · cases hc
  · cases hc
  · -- a function
    rename_i f
    simp only [Option.bind_eq_bind, Option.pure_def, Option.bind_eq_some_iff, Option.some.injEq] at hc
    obtain ⟨as, h1, rfl⟩ := hc
    cases h
    have ha := call_args hE hG h1
    refine ⟨ρ, W, .refl _ _, hR, args.map a.eval, ?_, rfl, ha⟩
    simp [execOp, ho, resolve, invoke, Deferred.ofValue, Act.eval]
  · rename_i x hx
    simp only [Option.bind_eq_bind, Option.pure_def, Option.bind_eq_some_iff, Option.some.injEq] at hc
    obtain ⟨ax, h1, as, h2, rfl⟩ := hc
    have ha := call_args hE hG h2
    have hx := look h1
    simp only [stepOp] at h
    split at h
    · rename_i f first captured hl
      cases h
      rw [hl] at hx
      generalize hv : a.eval x = v at hx
      cases hx with
      | func h1 h2 hf hcap =>
        rename_i fa ca
        refine ⟨ρ, W, .refl _ _, hR, fa ++ args.map a.eval ++ ca, ?_, rfl, Rs.append (Rs.append ⟨h1, hf⟩ ha) ⟨h2, hcap⟩⟩
        simp [execOp, ho, resolve, invoke, Deferred.ofValue, hv]
    · rename_i i hl
      cases h
      rw [hl] at hx
      generalize hv : a.eval x = v at hx
      cases hx with
      | yield hp =>
        rename_i p
        refine ⟨ρ, W, .refl _ _, hR, p, args.map a.eval, hp, ?_, rfl, ha⟩
        simp [execOp, ho, resolve, invoke, Deferred.ofValue, hv]
    · cases h

theorem stepOp_sound (hR : Rel ρ W σ) (hE : RE ρ W e a.tmps) (hG : GlobR ρ W glob) {acc : Nat → Bool} {o : Oper} {ao : AOp} (hc : cOp P acc o = some ao) {nx : Nx} {σ' : St}
    (h : stepOp (lookA glob e) σ ao = some (nx, σ')) : Steps P (execOp a.eval o) ρ W nx σ' := by
  have look : ∀ {x : Operand} {ax : AOpd}, opd x = some ax → R ρ W (lookA glob e ax) (a.eval x) := fun h => opd_sound hE hG h
  cases ho : o.op with
  | move x => simp only [cOp, ho] at hc; exact mv_sound hR hE hG x (by simp only [execOp, ho]) hc h
  | assign x => simp only [cOp, ho] at hc; exact mv_sound hR hE hG x (by simp only [execOp, ho]) hc h
  | pick c x y =>
    simp only [cOp, ho, Option.bind_eq_bind, Option.pure_def, Option.bind_eq_some_iff, Option.some.injEq] at hc
    obtain ⟨ac, h1, ax, h2, ay, h3, rfl⟩ := hc
    simp only [stepOp] at h
    split at h
    · rename_i t ht
      cases h
      have := look h1
      rw [ht] at this
      have hb := this.bool_inv
      refine ⟨ρ, W, .refl _ _, hR, if t then a.eval x else a.eval y, by simp only [execOp, ho, hb]; simp [asBool], ?_⟩
      cases t
      · exact look h3
      · exact look h2
    · cases h
  | alloc elem =>
    simp only [cOp, ho] at hc
    split at hc
    · split at hc
      · rename_i hu hz
        simp only [Option.bind_eq_bind, Option.pure_def, Option.bind_eq_some_iff, Option.some.injEq] at hc
        obtain ⟨sz, hs, rfl⟩ := hc
        cases h
        exact newV (t := Instr.alloc elem true (.tuple #[])) (by simp only [execOp, ho]) (allocRow_sound hR hz sz)
      · cases hc
    · simp only [Option.bind_eq_bind, Option.bind_eq_some_iff] at hc
      obtain ⟨z, hz, hc⟩ := hc
      split at hc
      · rename_i hone
        cases hc
        cases h
        exact newV (t := Instr.alloc elem true (.tuple #[])) (by simp only [execOp, ho]) (alloc_sound hR hz hone)
      · cases hc
  | box t x =>
    simp only [cOp, ho, Option.bind_eq_bind, Option.pure_def, Option.bind_eq_some_iff, Option.some.injEq] at hc
    obtain ⟨ax, h1, rfl⟩ := hc
    simp only [stepOp] at h
    split at h
    · rename_i hone
      cases h
      exact newV (t := Instr.box t (a.eval x)) (by simp only [execOp, ho]) (box_sound hR (look h1) hone)
    · cases h
  | build t parts =>
    simp only [cOp, ho] at hc
    split at hc
    · rename_i fs hu
      simp only [Option.bind_eq_bind, Option.bind_eq_some_iff] at hc
      obtain ⟨places, h1, ps, h2, z, hz, hc⟩ := hc
      split at hc
      · rename_i hone
        cases hc
        simp only [stepOp] at h
        obtain ⟨d, hd, rfl, rfl⟩ := val_some h
        obtain ⟨ds, hf, rfl⟩ := Option.map_eq_some_iff.1 hd
        have hp := parts_sound hE hG (fun i => places[i]?) h2
        refine pureV hR (t := Instr.build t (parts.map fun (i, x) => (i, a.eval x))) (by simp only [execOp, ho]) ?_
        refine build_sound hz hone (place := fun i => places[i]?) (fun zv i hi hq => ?_) (m := ps.map fun x => (x.1, x.2.1, lookA glob e x.2.2)) (by simpa using hp) hf
        simp [Program.built, hi, hu, hq, h1]
      · cases hc
    · rename_i n el hu
      simp only [Option.bind_eq_bind, Option.bind_eq_some_iff] at hc
      obtain ⟨sz, hs, ps, h2, z, hz, hc⟩ := hc
      obtain ⟨ie, hie, hsz⟩ := sizeT_some hs
      split at hc
      · rename_i hone
        cases hc
        simp only [stepOp] at h
        obtain ⟨d, hd, rfl, rfl⟩ := val_some h
        obtain ⟨ds, hf, rfl⟩ := Option.map_eq_some_iff.1 hd
        have hp := parts_sound (l := parts.toList) (ps := ps) hE hG (fun i => some (i * sz, sz)) (by simpa using h2)
        refine pureV hR (t := Instr.build t (parts.map fun (i, x) => (i, a.eval x))) (by simp only [execOp, ho]) ?_
        refine build_sound hz hone (place := fun i => some (i * sz, sz)) (fun zv i hi hq => ?_) (m := ps.map fun x => (x.1, x.2.1, lookA glob e x.2.2)) (by simpa using hp) hf
        simp [Program.built, hi, hu, hq, hie, hsz]
      · cases hc
    · cases hc
  | buildSlice t len parts =>
    simp only [cOp, ho] at hc
    split at hc
    · rename_i el hu
      simp only [Option.bind_eq_bind, Option.bind_eq_some_iff] at hc
      obtain ⟨sz, hs, hc⟩ := hc
      split at hc
      · cases hc
      · rename_i hlen
        simp only [Option.bind_eq_some_iff] at hc
        obtain ⟨ps, h2, z, hz, hc⟩ := hc
        have hp := elems_sound hE hG h2
        split at hc
        · rename_i hzl
          have eqx : execOp a.eval o = (do pure (.value (← Instr.buildSlice t len (parts.map fun (i, x) => (i, a.eval x))))) := by simp only [execOp, ho]
          have hpl : (parts.map fun (i, x) => (i, a.eval x)).toList = parts.toList.map fun x => (x.1, a.eval x.2) := by simp
          split at hc
          · cases hc
            simp only [stepOp] at h
            split at h
            · rename_i hcond
              obtain ⟨es, hf, hx⟩ := Option.map_eq_some_iff.1 h
              cases hx
              obtain ⟨cs, hrun, hrc, hl, hones⟩ := buildSlice_run (P := P) hu hs hz hzl hcond.2.1 hcond.2.2 hlen (ps := parts.map fun (i, x) => (i, a.eval x)) (by rw [hpl]; exact hp) hf
              obtain ⟨ρ', L, hR', hr⟩ := newRow_sound hR el (sz := sz) (cap := len) (es := es) (cs := cs) (since := 0) (by omega) (by rw [hrc.1, hl]) (Nat.zero_le _)
                (fun k x hk => ⟨hrc.2.1 k x hk, hones x (List.mem_of_getElem? hk)⟩) hrc.2.2 _ rfl
              exact newV eqx ⟨ρ', _, _, hrun, L, hR', by rw [hl] at hr ⊢; exact hr⟩
            · cases h
          · cases hc
            simp only [stepOp] at h
            split at h
            · rename_i hcond
              obtain ⟨d, hd, rfl, rfl⟩ := val_some h
              obtain ⟨es, hf, rfl⟩ := Option.map_eq_some_iff.1 hd
              obtain ⟨cs, hrun, hrc, hl, hones⟩ := buildSlice_run (P := P) hu hs hz hzl hcond.2.1 hcond.2.2 hlen (ps := parts.map fun (i, x) => (i, a.eval x)) (by rw [hpl]; exact hp) hf
              obtain ⟨ρ', L, hR', hr⟩ := newTree_sound hR el hrc _ rfl
              refine newV eqx ⟨ρ', _, _, hrun, L, hR', ?_⟩
              by_cases hl0 : len = 0
              · subst hl0; rw [if_pos rfl]; exact .empty _
              · rw [if_neg hl0]; rw [hl] at hr; exact hr
            · cases h
        · cases hc
    · cases hc
  | load t x =>
    simp only [cOp, ho, Option.bind_eq_bind, Option.pure_def, Option.bind_eq_some_iff, Option.some.injEq] at hc
    obtain ⟨ag, h1, sz, h2, ax, h3, rfl⟩ := hc
    simp only [stepOp] at h
    obtain ⟨d, hd, rfl, rfl⟩ := val_some h
    exact pureV hR (t := Instr.loadAt t (a.eval x)) (by simp only [execOp, ho]) (load_sound hR h1 h2 (look h3) hd)
  | store t x y =>
    simp only [cOp, ho, Option.bind_eq_bind, Option.pure_def, Option.bind_eq_some_iff, Option.some.injEq] at hc
    obtain ⟨sz, h1, ax, h2, ay, h3, rfl⟩ := hc
    simp only [stepOp] at h
    obtain ⟨σ1, hd, hx⟩ := Option.map_eq_some_iff.1 h
    cases hx
    exact unitV (t := Instr.storeAt t (a.eval x) (a.eval y)) (by simp only [execOp, ho]) (store_sound hR h1 (look h2) (look h3) hd)
  | nilCheck x =>
    simp only [cOp, ho, Option.bind_eq_bind, Option.pure_def, Option.bind_eq_some_iff, Option.some.injEq] at hc
    obtain ⟨ax, h1, rfl⟩ := hc
    have hx := look h1
    simp only [stepOp] at h
    split at h <;> first | (cases h; done) | skip
    all_goals
      rename_i hl
      cases h
      rw [hl] at hx
      generalize hv : a.eval x = v at hx
      have hx' := hx
      cases hx
      exact pureN hR (by simp only [execOp, ho, hv]) hx'
  | binOp op t x y r =>
    simp only [cOp, ho, Option.bind_eq_bind, Option.pure_def, Option.bind_eq_some_iff, Option.some.injEq] at hc
    obtain ⟨ax, h1, ay, h2, rfl⟩ := hc
    simp only [stepOp] at h
    obtain ⟨d, hd, rfl, rfl⟩ := val_some h
    exact pureV hR (t := (do eqGuard op t x y (a.eval x) (a.eval y); binOp op t (a.eval x) (a.eval y))) (by simp only [execOp, ho]) (arithD_sound (look h1) (look h2) hd x y)
  | unOp op t x =>
    cases op with
    | neg =>
      simp only [cOp, ho, Option.bind_eq_bind, Option.pure_def, Option.bind_eq_some_iff, Option.some.injEq] at hc
      obtain ⟨ax, h1, rfl⟩ := hc
      simp only [stepOp] at h
      split at h
      · rename_i k n hl
        cases h
        have := look h1
        rw [hl] at this
        have hv := this.int_inv
        refine pureV hR (t := Op.unary .neg (a.eval x)) (by simp only [execOp, ho]) ⟨_, ?_, .int k (k.wrap (0 - n))⟩
        rw [hv]; rfl
      · cases h
    | not =>
      simp only [cOp, ho, Option.bind_eq_bind, Option.pure_def, Option.bind_eq_some_iff, Option.some.injEq] at hc
      obtain ⟨ax, h1, rfl⟩ := hc
      simp only [stepOp] at h
      split at h
      · rename_i b hl
        cases h
        have := look h1
        rw [hl] at this
        have hv := this.bool_inv
        refine pureV hR (t := Op.unary .not (a.eval x)) (by simp only [execOp, ho]) ⟨_, ?_, .bool (!b)⟩
        rw [hv]; rfl
      · cases h
    | _ => simp [cOp, ho] at hc
  | convert s d x =>
    simp only [cOp, ho] at hc
    have eqx : execOp a.eval o = (do pure (.value (← convert s d (a.eval x)))) := by simp only [execOp, ho]
    split at hc
    · rename_i k1 k2 hs hd
      simp only [Option.bind_eq_bind, Option.pure_def, Option.bind_eq_some_iff, Option.some.injEq] at hc
      obtain ⟨ax, h1, rfl⟩ := hc
      simp only [stepOp] at h
      split at h
      · rename_i k n hl
        cases h
        have := look h1
        rw [hl] at this
        have hv := this.int_inv
        refine pureV hR eqx ⟨_, ?_, .int k2 (k2.wrap n)⟩
        rw [hv]; simp [convert, run_underlying hs, run_underlying hd, Conv.intToInt]
      · cases h
    · rename_i k1 hs hd
      simp only [Option.bind_eq_bind, Option.pure_def, Option.bind_eq_some_iff, Option.some.injEq] at hc
      obtain ⟨ax, h1, rfl⟩ := hc
      have hx := look h1
      simp only [stepOp] at h
      split at h
      · rename_i k n hl
        split at h
        · rename_i hn
          cases h
          rw [hl] at hx
          have hv := hx.int_inv
          refine pureV hR eqx ⟨.string (Utf8.encode n), ?_, ?_⟩
          · rw [hv]; simp [convert, run_underlying hs, run_underlying hd, Conv.intToString]
          · rw [← encode_ascii hn.1 hn.2]; exact .str _
        · cases h
      · rename_i l hl
        cases h
        rw [hl] at hx
        obtain ⟨t, hv, rfl⟩ := hx.str_inv
        refine pureV hR eqx ⟨.string t, ?_, .str t⟩
        rw [hv]; simp [convert, run_underlying hs, run_underlying hd]
      · cases h
    · rename_i hs hd
      simp only [Option.bind_eq_bind, Option.pure_def, Option.bind_eq_some_iff, Option.some.injEq] at hc
      obtain ⟨ax, h1, rfl⟩ := hc
      have hx := look h1
      simp only [stepOp] at h
      split at h
      · rename_i k n hl
        split at h
        · rename_i hn
          cases h
          rw [hl] at hx
          have hv := hx.int_inv
          refine pureV hR eqx ⟨.string (Utf8.encode n), ?_, ?_⟩
          · rw [hv]; simp [convert, run_underlying hs, run_underlying hd, Conv.intToString]
          · rw [← encode_ascii hn.1 hn.2]; exact .str _
        · cases h
      · rename_i l hl
        cases h
        rw [hl] at hx
        obtain ⟨t, hv, rfl⟩ := hx.str_inv
        refine pureV hR eqx ⟨.string t, ?_, .str t⟩
        rw [hv]; simp [convert, run_underlying hs, run_underlying hd]
      · cases h
    · cases hc
  | makeInterface t x =>
    simp only [cOp, ho] at hc
    split at hc
    · cases hc
    · cases hc
    · rename_i hn1 hn2
      simp only [Option.bind_eq_bind, Option.pure_def, Option.bind_eq_some_iff, Option.some.injEq] at hc
      obtain ⟨ax, h1, rfl⟩ := hc
      cases h
      refine pureV hR (t := Instr.makeInterface t (a.eval x)) (by simp only [execOp, ho]) ⟨.iface t (a.eval x), ?_, .iface (look h1)⟩
      cases hu : P.underlying t with
      | none => exact absurd hu hn2
      | some u =>
        simp only [Instr.makeInterface, Sem.run_bind, run_underlying hu, Result.andThen_ok]
        cases u <;> first | rfl | exact absurd hu (hn1 _)
  | makeFunc f first captured =>
    cases f with
    | func g =>
      simp only [cOp, ho, Option.bind_eq_bind, Option.pure_def, Option.bind_eq_some_iff, Option.some.injEq] at hc
      obtain ⟨fs, h1, cs, h2, rfl⟩ := hc
      cases h
      have a1 := call_args hE hG h1
      have a2 := call_args hE hG h2
      exact pureV hR (t := Instr.makeFunc (.func g) (first.map a.eval) (captured.map a.eval)) (by simp only [execOp, ho]) ⟨_, rfl, .func a1.1 a2.1 a1.2 a2.2⟩
    | _ => simp [cOp, ho] at hc
  | makeMap t r =>
    cases r with
    | some r => simp [cOp, ho] at hc
    | none =>
      simp only [cOp, ho, Option.pure_def, Option.some.injEq] at hc
      subst hc
      cases h
      exact newV (t := Instr.makeMap t none) (by simp only [execOp, ho]; rfl) (mkMap_sound hR t)
  | makeSlice t l c =>
    simp only [cOp, ho] at hc
    split at hc
    · rename_i el hu
      simp only [Option.bind_eq_bind, Option.pure_def, Option.bind_eq_some_iff, Option.some.injEq] at hc
      obtain ⟨sz, h1, bytes, h2, z, h3, al, h4, ac, h5, rfl⟩ := hc
      simp only [stepOp] at h
      split at h
      · rename_i n m hl hm
        split at h
        · rename_i hcond
          cases h
          have e1 := look h4
          have e2 := look h5
          rw [hl] at e1
          rw [hm] at e2
          refine newV (t := Instr.makeSlice t (a.eval l) (a.eval c)) (by simp only [execOp, ho]) ?_
          rw [e1.int_inv, e2.int_inv]
          exact makeSlice_sound hR hu h1 h2 h3 hcond.1 hcond.2.1 hcond.2.2.1 hcond.2.2.2.1 hcond.2.2.2.2.1 hcond.2.2.2.2.2.2 _ _
        · cases h
      · cases h
    · cases hc
  | fieldAddr s x f =>
    simp only [cOp, ho] at hc
    split at hc
    · rename_i fs hu
      simp only [Option.bind_eq_bind, Option.bind_eq_some_iff] at hc
      obtain ⟨fl, hf, sz, hs, hc⟩ := hc
      split at hc
      · cases hc
      · rename_i hz
        simp only [Option.pure_def, Option.bind_eq_some_iff, Option.some.injEq] at hc
        obtain ⟨ax, h1, rfl⟩ := hc
        exact addOff_sound hR (look h1) (f := fun v => Instr.fieldAt s v f) (by simp only [execOp, ho]) (fun b o => fieldAt_run hu hf hs hz b o) h
    · cases hc
  | field t x f =>
    simp only [cOp, ho] at hc
    split at hc
    · rename_i fs hu
      simp only [Option.bind_eq_bind, Option.pure_def, Option.bind_eq_some_iff, Option.some.injEq] at hc
      obtain ⟨fl, hf, ag, hag, sz, hs, ax, h1, rfl⟩ := hc
      simp only [stepOp] at h
      split at h
      · rename_i cs hl
        split at h
        · rename_i hle
          obtain ⟨d, hd, rfl, rfl⟩ := val_some h
          have hx := look h1
          rw [hl] at hx
          obtain ⟨vs, hv, hcells⟩ := agg_cells hx
          obtain ⟨v, hrun, hr⟩ := part_sound (P := P) hag hs hcells hle hd
          refine pureV hR (t := Instr.field t (a.eval x) f) (by simp only [execOp, ho]) ⟨v, ?_, hr⟩
          rw [hv]
          simp [Instr.field, run_underlying hu, hf, asAgg, hrun]
        · cases h
      · cases h
    · cases hc
  | extract x i =>
    simp only [cOp, ho, Option.bind_eq_bind, Option.pure_def, Option.bind_eq_some_iff, Option.some.injEq] at hc
    obtain ⟨ax, h1, rfl⟩ := hc
    simp only [stepOp] at h
    split at h
    · rename_i vs hl
      obtain ⟨d, hd, rfl, rfl⟩ := val_some h
      have hx := look h1
      rw [hl] at hx
      generalize hv : a.eval x = v at hx
      cases hx with
      | tuple hs hr =>
        rename_i ws
        have hi : i < ws.size := by rw [hs]; exact (List.getElem?_eq_some_iff.1 hd).1
        refine pureV hR (t := Instr.extract (a.eval x) i) (by simp only [execOp, ho]) ⟨ws.getD i undef, ?_, hr i d hd⟩
        rw [hv]
        simp [Instr.extract, hi]
    · cases h
  | panic x =>
    simp only [cOp, ho, Option.bind_eq_bind, Option.pure_def, Option.bind_eq_some_iff, Option.some.injEq] at hc
    obtain ⟨ax, h1, rfl⟩ := hc
    simp only [stepOp] at h
    split at h
    · rename_i t v hl
      cases h
      have hx := look h1
      rw [hl] at hx
      refine ⟨ρ, W, .refl _ _, hR, a.eval x, ?_, hx⟩
      generalize hv : a.eval x = w at hx
      cases hx
      simp only [execOp, ho, hv]
      rfl
    · cases h
  | slice t x lo hi mx =>
    have eqx : execOp a.eval o = (do pure (.value (← Instr.sliceAt t (a.eval x) (lo.map a.eval) (hi.map a.eval) (mx.map a.eval)))) := by simp only [execOp, ho]
    simp only [cOp, ho] at hc
    split at hc
    · rename_i hu
      split at hc
      · cases hc
      · rename_i hm
        have hmx : mx = none := by cases mx with | none => rfl | some _ => simp at hm
        subst hmx
        simp only [Option.bind_eq_bind, Option.pure_def, Option.bind_eq_some_iff, Option.some.injEq] at hc
        obtain ⟨ax, h1, alo, h2, ahi, h3, rfl⟩ := hc
        simp only [stepOp] at h
        split at h
        · rename_i l hl
          split at h
          · rename_i hh hb1
            split at h
            · rename_i bb hb2
              cases h
              have hx := look h1
              rw [hl] at hx
              obtain ⟨s, hv, rfl⟩ := hx.str_inv
              refine pureV hR eqx ?_
              rw [hv]
              exact sliceStr_sound hu hb1 hb2 (opdO_sound hE hG h2) (opdO_sound hE hG h3)
            · cases h
          · cases h
        · cases h
    · rename_i el hu
      simp only [Option.bind_eq_bind, Option.pure_def, Option.bind_eq_some_iff, Option.some.injEq] at hc
      obtain ⟨ax, h1, alo, h2, ahi, h3, amx, h4, sz, hs, rfl⟩ := hc
      have hx := look h1
      have olo := opdO_sound hE hG h2
      have ohi := opdO_sound hE hG h3
      have omx := opdO_sound hE hG h4
      have full : ∀ (an : Option Addr) (n c : Nat), a.eval x = .slice an n c → ∀ m, amx = some m →
          (match alo.map (lookA glob e), ahi.map (lookA glob e), lookA glob e m with
            | none, some (.int _ 0), .int _ 0 => some (Nx.value .empty, σ)
            | some (.int _ 0), some (.int _ 0), .int _ 0 => some (.value .empty, σ)
            | _, _, _ => none) = some (nx, σ') → Steps P (execOp a.eval o) ρ W nx σ' := by
        clear h
        intro an n c hv m hm h
        subst hm
        have hmv : ∃ v, mx.map a.eval = some v ∧ R ρ W (lookA glob e m) v := by
          cases hq : mx.map a.eval with
          | none => rw [hq] at omx; exact omx.elim
          | some v => rw [hq] at omx; exact ⟨v, rfl, omx⟩
        obtain ⟨vm, hvm, rm⟩ := hmv
        have hhv : ∀ k, ahi.map (lookA glob e) = some (.int k 0) → hi.map a.eval = some (.int k 0) := fun k hk => by
          rw [hk] at ohi
          cases hq : hi.map a.eval with
          | none => rw [hq] at ohi; exact ohi.elim
          | some v => rw [hq] at ohi; rw [R.int_inv ohi]
        split at h
        · rename_i k1 k2 e1 e2 e3
          cases h
          rw [e3] at rm
          refine pureV hR eqx ?_
          rw [hv, hvm, rm.int_inv, hhv _ e2]
          refine slice00 hu hs (.inl ?_)
          rw [e1] at olo
          cases hq : lo.map a.eval with
          | none => rfl
          | some v => rw [hq] at olo; exact olo.elim
        · rename_i k0 k1 k2 e1 e2 e3
          cases h
          rw [e3] at rm
          refine pureV hR eqx ?_
          rw [hv, hvm, rm.int_inv, hhv _ e2]
          refine slice00 hu hs (.inr ⟨k0, ?_⟩)
          rw [e1] at olo
          cases hq : lo.map a.eval with
          | none => rw [hq] at olo; exact olo.elim
          | some v => rw [hq] at olo; rw [R.int_inv olo]
        · cases h
      have nomax : amx = none → mx.map a.eval = none := fun hm => by
        subst hm
        cases hq : mx.map a.eval with
        | none => rfl
        | some v => rw [hq] at omx; exact omx.elim
      simp only [stepOp] at h
      split at h
      · rename_i es hl
        rw [hl] at hx
        rw [nomax rfl] at eqx
        split at h
        · rename_i hh hb1
          split at h
          · rename_i bb hb2
            split at h
            · rename_i hall
              cases h
              exact pureV hR eqx (sliceTree_sound hu hs hx hall hb1 hb2 olo ohi)
            · cases h
          · cases h
        · cases h
      · rename_i i ver off n hl
        rw [hl] at hx
        rw [nomax rfl] at eqx
        have key : ∀ sz' es since, RowR ρ W i sz' es since → (if sz' = sz ∧ since ≤ ver ∧ ver ≤ es.length then
          match bound n n (ahi.map (lookA glob e)) with
          | some h => match bound h 0 (alo.map (lookA glob e)) with
            | some b => some (Nx.value (if b = h then .slice [] else .arr i ver (off + b) (h - b)), σ)
            | none => none
          | none => none
        else none) = some (nx, σ') → Steps P (execOp a.eval o) ρ W nx σ' := by
          intro sz' es since hrow h
          split at h
          · rename_i hcond
            split at h
            · rename_i hh hb1
              split at h
              · rename_i bb hb2
                cases h
                exact pureV hR eqx (sliceArr_sound hu hs hx (fun p hp => by rw [hrow.sz hcond.2.1 hcond.2.2 hp, hcond.1]) hb1 hb2 olo ohi)
              · cases h
            · cases h
          · cases h
        split at h
        · rename_i sz' es since hes; exact key _ _ _ (hR.obj i _ hes) h
        · rename_i sz' es since hes; exact key _ _ _ (hR.obj i _ hes).1 h
        · cases h
      · rename_i es m hl
        rw [hl] at hx
        generalize hv : a.eval x = v at hx
        cases hx with
        | slice0 an c => exact full _ _ _ hv m rfl h
        | slice => exact full _ _ _ hv m rfl h
      · rename_i i ver off n m hl
        rw [hl] at hx
        generalize hv : a.eval x = v at hx
        cases hx with
        | arr => exact full _ _ _ hv m rfl h
        | arr0 => exact full _ _ _ hv m rfl h
      · rename_i m hl
        rw [hl] at hx
        generalize hv : a.eval x = v at hx
        cases hx with
        | empty an => exact full _ _ _ hv m rfl h
      · rename_i hl
        rw [hl] at hx
        rw [nomax rfl] at eqx
        split at h
        · rename_i hh hb1
          split at h
          · rename_i bb hb2
            cases h
            generalize hv : a.eval x = v at hx
            cases hx with
            | empty an =>
              obtain ⟨hb, hle, hle2⟩ := bounds_sound (P := P) (cap := 0) hb1 hb2 olo ohi (Nat.le_refl _) true W
              obtain rfl : hh = 0 := by omega
              obtain rfl : bb = 0 := by omega
              refine pureV hR eqx ⟨.slice an 0 0, ?_, .empty _⟩
              rw [hv]
              simp [Instr.sliceAt, Instr.slice, run_underlying hu, hb, run_size hs]
          · cases h
        · cases h
      · cases h
    · cases hc
  | indexAddr t x i =>
    have eqx : execOp a.eval o = (do pure (.value (← Instr.indexAt t (a.eval x) (a.eval i)))) := by simp only [execOp, ho]
    simp only [cOp, ho] at hc
    split at hc
    · rename_i el hu
      simp only [Option.bind_eq_bind, Option.pure_def, Option.bind_eq_some_iff, Option.some.injEq] at hc
      obtain ⟨sz, hs, ax, h1, ai, h2, rfl⟩ := hc
      have hx := look h1
      have hi := look h2
      simp only [stepOp] at h
      split at h
      · rename_i es k n hl hn
        split at h
        · rename_i hcond
          split at h
          · rename_i e1 he1
            split at h
            · rename_i hsz
              cases h
              rw [hl] at hx
              rw [hn] at hi
              rw [hi.int_inv] at eqx
              exact pureV hR eqx (indexTree_sound hu hs hx hcond.1 hcond.2 he1 hsz)
            · cases h
          · cases h
        · cases h
      · rename_i j ver off m k n hl hn
        rw [hl] at hx
        rw [hn] at hi
        rw [hi.int_inv] at eqx
        split at h
        · rename_i hcond
          have key : ∀ sz' es since, RowR ρ W j sz' es since → (if sz' = sz ∧ since ≤ ver ∧ ver ≤ es.length then some (Nx.value (.rptr j ver (off + n.toNat) 0), σ) else none) = some (nx, σ') →
              Steps P (execOp a.eval o) ρ W nx σ' := by
            intro sz' es since hrow h
            split at h
            · rename_i hc2
              cases h
              exact pureV hR eqx (indexArr_sound hu hs hx (fun p hp => by rw [hrow.sz hc2.2.1 hc2.2.2 hp, hc2.1]) hcond.1 hcond.2)
            · cases h
          split at h
          · rename_i sz' es since hes; exact key _ _ _ (hR.obj j _ hes) h
          · rename_i sz' es since hes; exact key _ _ _ (hR.obj j _ hes).1 h
          · cases h
        · cases h
      · cases h
    · rename_i len el hu
      simp only [Option.bind_eq_bind, Option.pure_def, Option.bind_eq_some_iff, Option.some.injEq] at hc
      obtain ⟨sz, hs, ax, h1, ai, h2, rfl⟩ := hc
      have hx := look h1
      have hi := look h2
      simp only [stepOp] at h
      split at h
      · rename_i k n hn
        rw [hn] at hi
        rw [hi.int_inv] at eqx
        split at h
        · rename_i hcond
          refine addOff_sound (x := ax) (off := n.toNat * sz) hR hx (f := fun v => Instr.indexAt t v (.int k n)) eqx (fun b o => indexAtA_run hu hs hcond.1 hcond.2 b o) ?_
          simp only [stepOp]
          exact h
        · cases h
      · cases h
    · cases hc
  | index t x i =>
    have eqx : execOp a.eval o = (do pure (.value (← Instr.index t (a.eval x) (a.eval i)))) := by simp only [execOp, ho]
    simp only [cOp, ho] at hc
    split at hc
    · rename_i len el hu
      simp only [Option.bind_eq_bind, Option.pure_def, Option.bind_eq_some_iff, Option.some.injEq] at hc
      obtain ⟨ag, hag, sz, hs, ax, h1, ai, h2, rfl⟩ := hc
      have hx := look h1
      have hi := look h2
      simp only [stepOp] at h
      split at h
      · rename_i cs k n hl hn
        rw [hl] at hx
        rw [hn] at hi
        rw [hi.int_inv] at eqx
        split at h
        · rename_i hcond
          obtain ⟨d, hd, rfl, rfl⟩ := val_some h
          obtain ⟨vs, hv, hcells⟩ := agg_cells hx
          obtain ⟨v, hrun, hr⟩ := part_sound (P := P) hag hs hcells (by rw [Nat.succ_mul] at hcond; omega) hd
          refine pureV hR eqx ⟨v, ?_, hr⟩
          rw [hv]
          simp [Instr.index, asIntOf, run_underlying hu, run_size hs, hcond.1, hcond.2.1, hrun]
        · cases h
      · cases h
    · rename_i hu
      simp only [Option.bind_eq_bind, Option.pure_def, Option.bind_eq_some_iff, Option.some.injEq] at hc
      obtain ⟨ax, h1, ai, h2, rfl⟩ := hc
      have hx := look h1
      have hi := look h2
      simp only [stepOp] at h
      split at h
      · rename_i l k n hl hn
        rw [hl] at hx
        rw [hn] at hi
        rw [hi.int_inv] at eqx
        split at h
        · rename_i hcond
          split at h
          · rename_i b hb
            cases h
            obtain ⟨s, hv, rfl⟩ := hx.str_inv
            refine pureV hR eqx ⟨_, ?_, .int .u8 b.toNat⟩
            rw [hv]
            exact indexStr_sound hu hcond.1 hcond.2 hb
          · cases h
        · cases h
      · cases h
    · cases hc
  | lookup t x k ok =>
    have eqx : execOp a.eval o = (do pure (.value (← Instr.lookup t (a.eval x) (a.eval k) ok))) := by simp only [execOp, ho]
    simp only [cOp, ho] at hc
    split at hc
    · rename_i kt el hu
      simp only [Option.bind_eq_bind, Option.pure_def, Option.bind_eq_some_iff, Option.some.injEq] at hc
      obtain ⟨kc, hk, z, hz, ax, h1, ak, h2, rfl⟩ := hc
      simp only [stepOp] at h
      split at h
      · cases h
      · split at h
        · rename_i r hr
          cases h
          exact pureV hR eqx (lookup_sound hR hu hk hz (look h1) (look h2) hr ok)
        · cases h
    · cases hc
  | mapUpdate t m k v =>
    have eqx : execOp a.eval o = (do Instr.mapUpdate t (a.eval m) (a.eval k) (a.eval v); pure .skip) := by simp only [execOp, ho]
    simp only [cOp, ho] at hc
    split at hc
    · rename_i kt el hu
      simp only [Option.bind_eq_bind, Option.pure_def, Option.bind_eq_some_iff, Option.some.injEq] at hc
      obtain ⟨kc, hk, am, h1, ak, h2, av, h3, rfl⟩ := hc
      exact mapUp_sound hR hu hk (look h1) (look h2) (look h3) eqx h
    · cases hc
  | insert t m k v =>
    have eqx : execOp a.eval o = (do Instr.mapUpdate t (a.eval m) (a.eval k) (a.eval v); pure .skip) := by simp only [execOp, ho]
    simp only [cOp, ho] at hc
    split at hc
    · rename_i kt el hu
      simp only [Option.bind_eq_bind, Option.pure_def, Option.bind_eq_some_iff, Option.some.injEq] at hc
      obtain ⟨kc, hk, am, h1, ak, h2, av, h3, rfl⟩ := hc
      exact mapUp_sound hR hu hk (look h1) (look h2) (look h3) eqx h
    · cases hc
  | range t x =>
    simp only [cOp, ho] at hc
    split at hc
    · rename_i hu
      simp only [Option.bind_eq_bind, Option.pure_def, Option.bind_eq_some_iff, Option.some.injEq] at hc
      obtain ⟨ax, h1, rfl⟩ := hc
      simp only [stepOp] at h
      split at h
      · rename_i l hl
        cases h
        have hx := look h1
        rw [hl] at hx
        obtain ⟨s, hv, rfl⟩ := hx.str_inv
        refine newV (t := Instr.range t (a.eval x)) (by simp only [execOp, ho]) ?_
        rw [hv]
        exact rangeStr_sound hR hu s
      · cases h
    · cases hc
  | next it str =>
    cases str with
    | false => simp [cOp, ho] at hc
    | true =>
      simp only [cOp, ho, Option.bind_eq_bind, Option.pure_def, Option.bind_eq_some_iff, Option.some.injEq] at hc
      obtain ⟨ax, h1, rfl⟩ := hc
      have eqx : execOp a.eval o = (do pure (.value (← Instr.next (a.eval it) true o.type))) := by simp only [execOp, ho]
      have hx := look h1
      simp only [stepOp] at h
      split at h
      · rename_i i hl
        rw [hl] at hx
        split at h
        · rename_i l pos hs
          obtain ⟨n1, n2⟩ := nextStr_sound (P := P) hR hx hs o.type
          split at h
          · rename_i hlt
            cases h
            obtain ⟨W', u, hrun, L, hR', hr⟩ := n1 hlt
            exact newV eqx ⟨ρ, W', u, hrun, L, hR', hr⟩
          · rename_i hlt
            cases h
            exact pureV hR eqx (n2 hlt)
        · cases h
      · cases h
  | typeAssert x xt t ok =>
    have eqx : execOp a.eval o = (do pure (.value (← Instr.typeAssert (a.eval x) xt t ok))) := by simp only [execOp, ho]
    simp only [cOp, ho] at hc
    split at hc
    · cases hc
    · cases hc
    · rename_i hn1 hn2
      simp only [Option.bind_eq_bind, Option.pure_def, Option.bind_eq_some_iff, Option.some.injEq] at hc
      obtain ⟨z, hz, ax, h1, rfl⟩ := hc
      obtain ⟨iz, zv, _, _, hzv, hzrun⟩ := zeroT_some hz
      obtain ⟨u, hu⟩ : ∃ u, P.underlying t = some u := by
        cases hu : P.underlying t with
        | none => exact absurd hu hn2
        | some u => exact ⟨u, rfl⟩
      have hnot : ∀ w, u ≠ .interface w := fun w hw => hn1 w (by rw [hu, hw])
      have hx := look h1
      simp only [stepOp] at h
      split at h
      · rename_i t' v hl
        rw [hl] at hx
        generalize hv : a.eval x = w at hx
        rw [hv] at eqx
        cases hx with
        | iface hi =>
          rename_i w
          split at h
          · rename_i htt
            subst htt
            cases h
            refine pureV hR eqx ⟨if ok then .tuple #[w, .bool true] else w, ?_, ?_⟩
            · simp only [Instr.typeAssert, Sem.run_bind, run_underlying hu, Result.andThen_ok]
              cases u <;> first | (simp; done) | exact absurd rfl (hnot _)
            · cases ok
              · exact hi
              · refine .tuple rfl fun j d hd => ?_
                match j, hd with
                | 0, hd => cases hd; exact hi
                | 1, hd => cases hd; exact .bool _
                | j + 2, hd => simp at hd
          · rename_i htt
            split at h
            · rename_i hok
              subst hok
              cases h
              refine pureV hR eqx ⟨.tuple #[zv, .bool false], ?_, ?_⟩
              · simp only [Instr.typeAssert, Sem.run_bind, run_underlying hu, Result.andThen_ok]
                cases u <;> first | (simp [htt, hzrun]; done) | exact absurd rfl (hnot _)
              · refine .tuple rfl fun j d hd => ?_
                match j, hd with
                | 0, hd => cases hd; exact valD_sound hzv
                | 1, hd => cases hd; exact .bool _
                | j + 2, hd => simp at hd
            · cases h
      · cases h
  | call c =>
    simp only [cOp, ho] at hc
    exact call_sound hR hE hG ho hc h
  | _ => simp [cOp, ho] at hc

end
end Go.AI
