/- Functions of the library, by contracts. No conditions of its own. -/
import Derived.Test.YtlbnennpefkpgaaDoorLxG
import Derived.Test.YtlbnennpefkpgaaDoorAiE
import Derived.Test.YtlbnennpefkpgaaDoorLxP
import Derived.Test.YtlbnennpefkpgaaDoorShelf
import Derived.Test.YtlbnennpefkpgaaDoorChecked
import Derived.Laws.Externs
import Derived.Lib.Bytealg
import Derived.Below
set_option linter.unusedVariables false
set_option linter.unusedSimpArgs false
namespace Go.AI
open Go Go.Lx

abbrev slD (l : List Bs) : D := .slice (l.map .str)
abbrev tokD (t : Tok) : D := .agg [.int .i64 t.k, .str t.s, .int .i64 t.n, .int .i64 t.a]
abbrev toksD (l : List Tok) : D := .slice (l.map tokD)

def wk (g : List D → Option D) : List D → Option D := fun a => g (weakL a)

@[simp] theorem weakL_str (l : List Bs) : weakL (l.map .str) = l.map .str := by
  induction l with
  | nil => rfl
  | cons a r ih => simp only [List.map_cons, weakL, ih, D.weak]
@[simp] theorem treeL_str (l : List Bs) : treeL (l.map .str) = true := by
  induction l with
  | nil => rfl
  | cons a r ih => simp only [List.map_cons, treeL, ih, D.tree, Bool.and_self]
@[simp] theorem weakL_tok (l : List Tok) : weakL (l.map tokD) = l.map tokD := by
  induction l with
  | nil => rfl
  | cons a r ih => simp only [List.map_cons, weakL, ih, D.weak]
@[simp] theorem treeL_tok (l : List Tok) : treeL (l.map tokD) = true := by
  induction l with
  | nil => rfl
  | cons a r ih => simp only [List.map_cons, treeL, ih, D.tree, Bool.and_self]

theorem call_ext {T : FuncId → Option AFunc} {X : Ext} {G : Gl} {k : Nat} {f : FuncId} {g : List D → Option D} {args : List D} {σ : St} {r : D}
    (h : X f = some (wk g)) (ht : treeL args = true) (hw : weakL args = args) (hg : g args = some r) : evalFn T X G (k + 1) (.fn f) args σ = some (.ret r, σ) := by
  rw [evalFn_ext h]
  exact callExt_tree ht (by simp only [wk, hw, hg])

/-- A byte, as an argument. -/
def byteOf (n : Int) : Option UInt8 := if 0 ≤ n ∧ n < 256 then some (UInt8.ofNat n.toNat) else none
theorem byteOf_toNat (c : UInt8) : byteOf (c.toNat : Int) = some c := by
  unfold byteOf
  have := c.toNat_lt
  rw [if_pos ⟨by omega, by omega⟩]
  simp
theorem byteOf_some {n : Int} {c : UInt8} (h : byteOf n = some c) : n = (c.toNat : Int) := by
  unfold byteOf at h
  split at h
  · cases h; rename_i h; simp; omega
  · cases h

/-- A fact on bytes, by looking at all of them. -/
theorem all_bytes {p : UInt8 → Prop} (h : ∀ n : Fin 256, p (UInt8.ofNat n.val)) (c : UInt8) : p c := by
  have := h ⟨c.toNat, c.toNat_lt⟩
  simpa using this

def asInt : Option D → Option Int
  | some (.int .i64 n) => some n
  | _ => none
theorem asInt_eq {o : Option D} {n : Int} (h : asInt o = some n) : o = some (.int .i64 n) := by
  unfold asInt at h
  split at h <;> simp_all
def asBool : Option D → Option Bool
  | some (.bool n) => some n
  | _ => none
theorem asBool_eq {o : Option D} {n : Bool} (h : asBool o = some n) : o = some (.bool n) := by
  unfold asBool at h
  split at h <;> simp_all

end Go.AI

namespace Go.AI
open Go Go.Proofs Go.Lx
theorem ext92 : Extern.find Tryd.f92 = some Extern.BytealgIndexByte.indexByte := by kernel_rfl
theorem ext63 : Extern.find Tryd.f63 = some Extern.BytealgCount.count := by kernel_rfl
theorem extn92 : (Extern.findNext Tryd.f92).isNone = true := by kernel_rfl
theorem extn63 : (Extern.findNext Tryd.f63).isNone = true := by kernel_rfl

def natIdx : List D → Option D
  | [.str l, .int .u8 c] => some (.int .i64 (Lib.indexByte l c.toNat.toUInt8))
  | _ => none
def natCnt : List D → Option D
  | [.str l, .int .u8 c] => some (.int .i64 (Lib.countByte l c.toNat.toUInt8))
  | _ => none
def natT (f : FuncId) : Option (List D → Option D) := if f = 92 then some natIdx else if f = 63 then some natCnt else none

/-- What is known of the program's tables. -/
def globT (g : Nat) : Option (List D) :=
  if g = 1 then some (Lib.asciiSpaceTab.map (.int .u8)) else if g = 3 then some (Lib.pow10Tab.map (.int .u64)) else none
def G0 : Gl := ⟨globT, natT⟩

theorem treeL_int (k : IntKind) (l : List Int) : treeL (l.map (.int k)) = true := by
  induction l with
  | nil => rfl
  | cons a r ih => simp only [List.map_cons, treeL, ih, D.tree, Bool.and_self]
theorem globT_tree : GlobT G0 := by
  intro g cs h
  simp only [G0, globT] at h
  split at h
  · cases h; exact treeL_int _ _
  · split at h
    · cases h; exact treeL_int _ _
    · cases h

theorem strByte {ρ : Ren} {W : World} {l : List UInt8} {c : Int} {vs : Array Value} (h : Rs ρ W [.str l, .int .u8 c] vs) : ∃ s : ByteArray, l = s.data.toList ∧ vs = #[.string s, .int .u8 c] := by
  obtain ⟨v, u, rfl, h1, h2⟩ := rs_two h
  obtain ⟨s, rfl, hs⟩ := h1.str_inv
  exact ⟨s, hs, by rw [h2.int_inv]⟩

theorem natR : NatR Tryd.prog G0 := by
  intro f g hf args r hr ρ W vs hvs
  simp only [G0, natT] at hf
  split at hf
  · rename_i hf92; subst hf92
    cases hf
    unfold natIdx at hr
    split at hr
    · rename_i l c
      cases hr
      obtain ⟨s, rfl, rfl⟩ := strByte hvs
      refine ⟨_, ?_, .int _ _⟩
      rw [run_callFunc_extern Tryd.func92 (by kernel_rfl) (by kernel_rfl) (by simpa using extn92) ext92, Lib.run_indexByteString]
      rfl
    · cases hr
  · split at hf
    · rename_i hf63; subst hf63
      cases hf
      unfold natCnt at hr
      split at hr
      · rename_i l c
        cases hr
        obtain ⟨s, rfl, rfl⟩ := strByte hvs
        refine ⟨_, ?_, .int _ _⟩
        rw [run_callFunc_extern Tryd.func63 (by kernel_rfl) (by kernel_rfl) (by simpa using extn63) ext63, Lib.run_countString]
        rfl
      · cases hr
    · cases hf

/-- A table that is known. -/
theorem tab_of_glob {W : World} {fx : Nat → Prop} (hG : GlobR (bare fx) W G0) {name : String} {g : Nat} {k : IntKind} {zs : List Int} (hg : Tryd.prog.globalNamed name = some g) (hgl : G0.g g = some (zs.map (.int k))) :
    Lib.TabIs Tryd.prog W name k zs := by
  obtain ⟨h1, c, ty, fz, hb, hs⟩ := hG g _ hgl
  unfold Lib.TabIs World.var?
  rw [hg]
  simp only [Option.bind_some, hb, Option.some.injEq]
  cases h1 with
  | @tptr _ _ _ f hf hc hr =>
    apply Array.ext
    · rw [hs]; simp
    · intro i h1 h2
      have hi : i < (zs.map (D.int k)).length := by rw [← hs]; exact h1
      have hcell := hc i hi
      have hzi : i < zs.length := by simpa using hi
      have hrr := hr i (.int k zs[i]) (by simp [hzi])
      have hfi := hrr.int_inv
      rw [hfi] at hcell
      simp only [World.cell?, hb, Nat.zero_add] at hcell
      simp only [Array.getElem?_eq_getElem h1] at hcell
      have := Option.some.inj hcell
      rw [this]
      simp

theorem toList_mk (s : ByteArray) (l : List UInt8) (h : l = s.data.toList) : s = ⟨l.toArray⟩ := by
  subst h; simp

/-- Strings that lie in a new block. -/
theorem strs_R {fx' : Nat → Prop} {w : World} {l : List Bs} {b : Nat} (hb : fx' b) (hc : ∀ j, j < l.length → w.cell? ⟨b, j, none⟩ = some (.string ⟨(l.getD j []).toArray⟩)) :
    R (bare fx') w (slD l) (.slice (some ⟨b, 0, none⟩) l.length l.length) := by
  refine .slice (sz := 1) (f := fun i _ => .string ⟨(l.getD i []).toArray⟩) hb (by simp) (Nat.le_refl _) ?_ ?_ ?_
  · intro i e he
    obtain ⟨x, hx, rfl⟩ := List.mem_map.1 (List.mem_of_getElem? he)
    rfl
  · intro i j e d he hd
    have hi : i < l.length := by have := (List.getElem?_eq_some_iff.1 he).1; simpa using this
    obtain ⟨x, hx, rfl⟩ := List.mem_map.1 (List.mem_of_getElem? he)
    have hj : j = 0 := by have := (List.getElem?_eq_some_iff.1 hd).1; simp [D.cells] at this; omega
    subst hj
    simpa using hc i hi
  · intro i j e d he hd
    have hi : i < l.length := by have := (List.getElem?_eq_some_iff.1 he).1; simpa using this
    have hx : e = .str l[i] := by
      have := (List.getElem?_eq_some_iff.1 he).2
      simpa using this.symm
    subst hx
    have hj : j = 0 := by have := (List.getElem?_eq_some_iff.1 hd).1; simp [D.cells] at this; omega
    subst hj
    simp only [D.cells, List.getElem?_cons_zero, Option.some.injEq] at hd
    subst hd
    have : l.getD i [] = l[i] := by simp [List.getD, hi]
    simp only [this]
    exact R.str (ρ := bare fx') (W := w) ⟨l[i].toArray⟩

theorem str_args {ρ : Ren} {W : World} {l : Bs} {vs : Array Value} (h : Rs ρ W [.str l] vs) : vs = #[.string ⟨l.toArray⟩] := by
  obtain ⟨v, rfl⟩ : ∃ v, vs = #[v] := ⟨vs.getD 0 undef, by
    apply Array.ext
    · simp [h.1]
    · intro i h1 h2
      have : i = 0 := by simp at h2; omega
      subst this; simp [Array.getD, h1]⟩
  have := h.2 0 _ rfl
  obtain ⟨s, hs, hl⟩ := (show R ρ W (.str l) v from this).str_inv
  rw [hs, toList_mk s l hl]

theorem int_args {ρ : Ren} {W : World} {k : IntKind} {n : Int} {vs : Array Value} (h : Rs ρ W [.int k n] vs) : vs = #[.int k n] := by
  obtain ⟨v, rfl⟩ : ∃ v, vs = #[v] := ⟨vs.getD 0 undef, by
    apply Array.ext
    · simp [h.1]
    · intro i h1 h2
      have : i = 0 := by simp at h2; omega
      subst this; simp [Array.getD, h1]⟩
  have := h.2 0 _ rfl
  rw [(show R ρ W (.int k n) v from this).int_inv]

def asciiB (l : Bs) : Bool := l.all fun b => decide (b.toNat < 128)

def g68 : List D → Option D
  | [.str l] => if l.length < 4294967281 ∧ asciiB l = true then some (slD (Lib.fields l)) else none
  | _ => none
theorem pure68 (args : List D) (r : D) (_ht : treeL args = true) (h : g68 args = some r) : r.tree = true ∧ PureCall Tryd.prog G0 68 args r := by
  clear _ht
  unfold g68 at h
  split at h
  · rename_i l
    split at h
    · rename_i hh
      cases h
      refine ⟨by simp [D.tree], fun fx W vs hfx hG ha => ?_⟩
      rw [str_args ha]
      refine (Tryd.strings_Fields ⟨l.toArray⟩ W (by simpa [ByteArray.size] using hh.1) (fun j b hb => ?_) (tab_of_glob (g := 1) hG (by kernel_rfl) rfl)).mono ?_
      · have hm : b ∈ l := by
          have := List.mem_of_getElem? hb
          simpa using this
        have := List.all_eq_true.1 hh.2 b hm
        simpa using this
      · rintro e w ⟨rfl, rfl⟩
        have hb0 := (RowKit.Below.refl W.heap.size W).alloc (Nat.le_refl _) (.cells ((Lib.fields (⟨l.toArray⟩ : ByteArray).data.toList).map fun l => Value.string ⟨l.toArray⟩).toArray 9)
        refine ⟨fun b => fx b ∨ b = W.heap.size, _, rfl, fun b hb => .inl hb, fun b hb => ?_, fun b hb => hb0.block b hb, hb0.size, rfl, rfl, rfl, ?_⟩
        · rcases hb with hb | rfl
          · exact .inl hb
          · refine .inr ⟨Nat.le_refl _, ?_⟩
            show W.heap.size < (W.heap.push _).size
            simp
        · refine strs_R (.inr rfl) fun j hj => ?_
          have hj' : j < (Lib.fields l).length := hj
          rw [World.cell?_alloc_new]
          simp [List.getD, hj']
    · cases h
  · cases h

theorem digs_eq (f n : Nat) (h : n < 10 ^ (f + 1)) : digsF (f + 1) n = Lib.decDigits n := by
  induction f generalizing n with
  | zero => rw [Lib.decDigits, digsF]; simp at h; rw [if_pos h, dif_pos h]
  | succ f ih =>
    rw [Lib.decDigits, digsF]
    by_cases h10 : n < 10
    · rw [if_pos h10, dif_pos h10]
    · rw [if_neg h10, dif_neg h10, ih (n / 10) (by rw [Nat.pow_succ] at h; omega)]

theorem itoa_eq (n : Int) (h0 : -9223372036854775808 ≤ n) (h1 : n ≤ 9223372036854775807) : Lib.itoa n = itoa n := by
  unfold Lib.itoa itoa digs
  split
  · rw [digs_eq 19 n.natAbs (by omega)]
  · rw [digs_eq 19 n.toNat (by omega)]

def g46 : List D → Option D
  | [.int .i64 n] => if -9223372036854775808 ≤ n ∧ n ≤ 9223372036854775807 then some (.str (itoa n)) else none
  | _ => none
theorem pure46 (args : List D) (r : D) (_ht : treeL args = true) (h : g46 args = some r) : r.tree = true ∧ PureCall Tryd.prog G0 46 args r := by
  clear _ht
  unfold g46 at h
  split at h
  · rename_i n
    split at h
    · rename_i hh
      cases h
      refine ⟨rfl, fun fx W vs hfx hG ha => ?_⟩
      rw [int_args ha]
      refine (Tryd.strconv_Itoa n hh.1 hh.2 W (tab_of_glob (g := 3) hG (by kernel_rfl) rfl)).mono ?_
      rintro e w ⟨rfl, k, os, rfl⟩
      refine ⟨fx, _, rfl, fun b hb => hb, fun b hb => .inl hb, fun b hb => ?_, ?_, rfl, rfl, rfl, ?_⟩
      · show (W.heap ++ os)[b]? = _
        rw [Array.getElem?_append_left hb]
      · show _ ≤ (W.heap ++ os).size
        simp
      · rw [itoa_eq n hh.1 hh.2]
        exact R.str (ρ := bare fx) ⟨(itoa n).toArray⟩
    · cases h
  · cases h

def unstrs : List D → Option (List Bs)
  | [] => some []
  | .str s :: r => (unstrs r).map (s :: ·)
  | _ => none
theorem unstrs_map (l : List Bs) : unstrs (l.map .str) = some l := by
  induction l with
  | nil => rfl
  | cons a r ih => simp only [List.map_cons, unstrs, ih, Option.map_some]
theorem unstrs_some : ∀ {es : List D} {l : List Bs}, unstrs es = some l → es = l.map .str
  | [], l, h => by cases h; rfl
  | .str s :: r, l, h => by
    simp only [unstrs] at h
    obtain ⟨x, hx, rfl⟩ := Option.map_eq_some_iff.1 h
    rw [unstrs_some hx]; rfl
  | .bool _ :: _, _, h | .int .. :: _, _, h | .ptr .. :: _, _, h | .rptr .. :: _, _, h | .tptr _ :: _, _, h | .nilptr :: _, _, h | .empty :: _, _, h | .slice _ :: _, _, h | .arr .. :: _, _, h
  | .map _ :: _, _, h | .nilmap :: _, _, h | .func .. :: _, _, h | .nilfunc :: _, _, h | .yield _ :: _, _, h | .iface .. :: _, _, h | .niliface :: _, _, h | .agg _ :: _, _, h | .tuple _ :: _, _, h | .undef :: _, _, h | .any :: _, _, h => by cases h

theorem strs_inv {fx : Nat → Prop} {W : World} {l : List Bs} {v : Value} (h : R (bare fx) W (slD l) v) :
    (∃ a c, l = [] ∧ v = .slice a 0 c) ∨ (∃ b off c, fx b ∧ v = .slice (some ⟨b, off, none⟩) l.length c ∧ l.length ≤ c ∧ l ≠ [] ∧ ∀ (j : Nat) (x : Bs), l[j]? = some x → W.cell? ⟨b, off + j, none⟩ = some (.string ⟨x.toArray⟩)) := by
  generalize hD : slD l = dd at h
  cases h with
  | slice0 a c =>
    injection hD with hD
    exact .inl ⟨a, c, by simpa using hD, rfl⟩
  | @slice es' b off n c sz f hf hn hcap hsz hc hr =>
    injection hD with hD
    subst hD
    by_cases h0 : l = []
    · subst h0
      simp at hn
      subst hn
      exact .inl ⟨_, c, rfl, rfl⟩
    · have hsz1 : sz = 1 := by
        cases l with
        | nil => exact absurd rfl h0
        | cons x r => exact (hsz 0 (.str x) rfl).symm
      subst hsz1
      have hn' : n = l.length := by rw [hn]; simp
      subst hn'
      refine .inr ⟨b, off, c, hf, rfl, hcap, h0, fun j x hx => ?_⟩
      have he : (l.map D.str)[j]? = some (.str x) := by simp [hx]
      have h3 := hc j 0 _ (.str x) he rfl
      have h4 := hr j 0 _ (.str x) he rfl
      obtain ⟨s, hs, hsl⟩ := h4.str_inv
      rw [hs, toList_mk s _ hsl] at h3
      simpa using h3
  | _ => cases hD

theorem join_eq : ∀ (l : List Bs), Lib.join l [32] = joinS l
  | [] => rfl
  | [x] => Lib.join_one x [32]
  | x :: y :: r => by
    rw [Lib.join_cons, joinS, ← join_eq (y :: r), Lib.join_cons]
    simp [Lib.joinTail]

def g61 : List D → Option D
  | [.slice es, .str sep] => match unstrs es with
    | some l => if l.length ≤ 140737488355328 ∧ (joinS l).length ≤ 140737488355328 ∧ sep = [32] then some (.str (joinS l)) else none
    | none => none
  | _ => none
theorem pure61 (args : List D) (r : D) (_ht : treeL args = true) (h : g61 args = some r) : r.tree = true ∧ PureCall Tryd.prog G0 61 args r := by
  clear _ht
  unfold g61 at h
  split at h
  · rename_i es sep
    split at h
    · rename_i l hl
      split at h
      · rename_i hh
        cases h
        obtain ⟨hh1, hh2, rfl⟩ := hh
        rw [unstrs_some hl] at *
        refine ⟨rfl, fun fx W vs hfx hG ha => ?_⟩
        obtain ⟨v, u, rfl, h1, h2⟩ := rs_two ha
        obtain ⟨sp, rfl, hsp⟩ := h2.str_inv
        rw [toList_mk sp _ hsp]
        have none' : ∀ a c, l = [] → v = .slice a 0 c → Calls Tryd.prog 61 #[v, .string ⟨#[32]⟩] W (Gives W fx (.str (joinS l))) := by
          intro a c h0 hv
          subst h0; subst hv
          refine (Tryd.strings_Join_none a c ⟨#[32]⟩ W).mono ?_
          rintro e w ⟨rfl, rfl⟩
          exact ⟨fx, _, rfl, fun b hb => hb, fun b hb => .inl hb, fun b hb => rfl, Nat.le_refl _, rfl, rfl, rfl, R.str (ρ := bare fx) ⟨#[]⟩⟩
        rcases strs_inv h1 with ⟨a, c, h0, hv⟩ | ⟨b, off, c, hf, rfl, hcap, h0, hcl⟩
        · exact none' a c h0 hv
        · have hyl : (l.map fun s => (⟨s.toArray⟩ : ByteArray)).map (·.data.toList) = l := by simp [Function.comp_def]
          have hn' : l.length = (l.map fun s => (⟨s.toArray⟩ : ByteArray)).length := by simp
          rw [hn'] at hcap
          rw [show (Value.slice (some ⟨b, off, Option.none⟩) l.length c) = .slice (some ⟨b, off, Option.none⟩) (l.map fun s => (⟨s.toArray⟩ : ByteArray)).length c from by rw [← hn']]
          generalize hys : (l.map fun s => (⟨s.toArray⟩ : ByteArray)) = ys at *
          have hcells : ∀ (j : Nat) (x : ByteArray), ys[j]? = some x → W.cell? ⟨b, off + j, Option.none⟩ = some (.string x) := by
            intro j x hx
            subst hys
            have hj : j < l.length := by have := (List.getElem?_eq_some_iff.1 hx).1; simpa using this
            have h3 := hcl j l[j] (by simp [hj])
            rw [h3]
            have : x = ⟨l[j].toArray⟩ := by
              have := (List.getElem?_eq_some_iff.1 hx).2
              simpa using this.symm
            rw [this]
          have hN : ys.length ≤ 140737488355328 := by rw [← hn']; exact hh1
          have hlen : (Lib.join (ys.map (·.data.toList)) (⟨#[32]⟩ : ByteArray).data.toList).length ≤ 140737488355328 := by
            rw [hyl, show ((⟨#[32]⟩ : ByteArray).data.toList) = [32] from rfl, join_eq]; exact hh2
          refine (Tryd.strings_Join b off c ys ⟨#[32]⟩ W hcells (hfx b hf) hN hcap hlen).mono ?_
          · rintro e w ⟨rfl, hb⟩
            refine ⟨fx, _, rfl, fun b hb => hb, fun b hb => .inl hb, fun k hk => hb.block k hk, hb.size, hb.os, hb.tape, hb.output, ?_⟩
            rw [hyl, show ((⟨#[32]⟩ : ByteArray).data.toList) = [32] from rfl, join_eq]
            exact R.str (ρ := bare fx) ⟨(joinS l).toArray⟩
      · cases h
    · cases h
  · cases h

/-- The library's functions. -/
def X0 : ExtL := [(68, g68), (46, g46), (61, g61)]
theorem extR_nil {P : Program} {gl : Gl} : ExtR P gl (extOf []) := fun f g h => by cases h
theorem real68 : Real Tryd.prog 68 := ⟨_, Tryd.func68, by kernel_rfl, by kernel_rfl⟩
theorem real46 : Real Tryd.prog 46 := ⟨_, Tryd.func46, by kernel_rfl, by kernel_rfl⟩
theorem real61 : Real Tryd.prog 61 := ⟨_, Tryd.func61, by kernel_rfl, by kernel_rfl⟩
theorem extR0 : ExtR Tryd.prog G0 (extOf X0) := ((extR_nil.cons real61 pure61).cons real46 pure46).cons real68 pure68
theorem mixed : Tryd.prog.follows .mixedOrders = true := by kernel_rfl
end Go.AI
