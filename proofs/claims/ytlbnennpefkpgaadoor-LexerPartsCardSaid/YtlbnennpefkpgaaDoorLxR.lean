/- From what a law computes to what its row says. No conditions of its own. -/
import Derived.Test.YtlbnennpefkpgaaDoorLxF
import Derived.Test.YtlbnennpefkpgaaDoorTie
import Derived.Test.YtlbnennpefkpgaaDoorCards
import Derived.ProofKit
import Derived.OpenShut
import Derived.ShutString
import Derived.LaidMore
import Derived.Lay
import Derived.SevenTiedAt
import Derived.Stop.Joined
import Derived.Stop.LaidErr
import Derived.MakeChecks
import Derived.Lib.LaidTab
import Derived.SizedLaws
import Derived.ChangeOld
import Derived.Below
set_option linter.unusedVariables false
set_option linter.unusedSimpArgs false
namespace Go.Proofs.YtlbnennpefkpgaaDoor
open Go Go.AI Go.Lx Go.ChangeShapes Go.WideShapes Go.ChangeAt Go.RowKit

abbrev laid5 : List (String × DataW Unit) := [("math/bits.deBruijn32tab", Rows.laid_math_bits_deBruijn32tab), ("math/bits.deBruijn64tab", Rows.laid_math_bits_deBruijn64tab), ("internal/strconv.uint64pow10", Rows.laid_internal_strconv_uint64pow10), ("unicode.White_Space", Rows.laid_unicode_White_Space), ("strings.asciiSpace", Rows.laid_strings_asciiSpace)]
theorem plain5 : (laid5.all fun x => x.2.handleName?.isNone) = true := by kernel_rfl
theorem tab_pow {W : World} (h : laidMetH Tryd.prog laid5 W) : Lib.TabIs Tryd.prog W "internal/strconv.uint64pow10" .u64 Lib.pow10Tab := by
  rw [MakeChecks.laidMetH_plain _ _ _ plain5] at h
  have h3 := h.tail.tail
  have e : (Rows.laid_internal_strconv_uint64pow10 : DataW Unit) = Lib.tabData .u64 Lib.pow10Tab := by kernel_rfl
  rw [e] at h3
  exact Lib.tabIs_of_head (g := 3) (t := 118) (e := 102) (n := 20) (by kernel_rfl) (by kernel_rfl) (by kernel_rfl) (by kernel_rfl) (by kernel_rfl) (by kernel_rfl) h3
theorem tab_space {W : World} (h : laidMetH Tryd.prog laid5 W) : Lib.TabIs Tryd.prog W "strings.asciiSpace" .u8 Lib.asciiSpaceTab := by
  rw [MakeChecks.laidMetH_plain _ _ _ plain5] at h
  have h3 := h.tail.tail.tail.tail
  have e : (Rows.laid_strings_asciiSpace : DataW Unit) = Lib.tabData .u8 Lib.asciiSpaceTab := by kernel_rfl
  rw [e] at h3
  exact Lib.tabIs_of_head (g := 1) (t := 96) (e := 5) (n := 256) (by kernel_rfl) (by kernel_rfl) (by kernel_rfl) (by kernel_rfl) (by kernel_rfl) (by kernel_rfl) h3

/-- All blocks that lie in memory when the call begins. -/
def oldB (W : World) (b : Nat) : Prop := b < W.heap.size
theorem glob_of_tab {W : World} {name : String} {g : Nat} {k : IntKind} {zs : List Int} (hg : Tryd.prog.globalNamed name = some g) (h : Lib.TabIs Tryd.prog W name k zs) (_h0 : 0 < zs.length) :
    R (bare (oldB W)) W (.tptr (zs.map (.int k))) (.pointer (some ⟨g, 0, none⟩)) ∧ ∃ c ty fz, W.heap[g]? = some (.cells c ty fz) ∧ c.size = (zs.map (D.int k)).length := by
  have hcell := fun i hi => h.cell hg i hi
  unfold Lib.TabIs World.var? at h
  rw [hg] at h
  simp only [Option.bind_some] at h
  split at h
  · rename_i cs ty fz hb
    have hcs := Option.some.inj h
    refine ⟨.tptr (f := fun j => .int k (zs.getD j 0)) ?_ (fun j hj => ?_) (fun j d hd => ?_), cs, ty, fz, hb, by rw [hcs]; simp⟩
    · exact (Array.getElem?_eq_some_iff.1 hb).1
    · have := hcell j (by simpa using hj)
      simpa using this
    · have hj : j < zs.length := by have := (List.getElem?_eq_some_iff.1 hd).1; simpa using this
      have : d = .int k (zs.getD j 0) := by
        have := (List.getElem?_eq_some_iff.1 hd).2
        simp at this
        simp [List.getD, hj, this]
      rw [this]
      exact .int _ _
  · cases h
theorem glob_ok {W : World} (h : laidMetH Tryd.prog laid5 W) : GlobR (bare (oldB W)) W G0 := by
  intro g cs hg
  simp only [G0, globT] at hg
  split at hg
  · rename_i hg1; subst hg1
    cases hg
    exact glob_of_tab (by kernel_rfl) (tab_space h) (by rw [Lib.asciiSpaceTab_length]; omega)
  · split at hg
    · rename_i hg3; subst hg3
      cases hg
      exact glob_of_tab (by kernel_rfl) (tab_pow h) (by rw [Lib.pow10Tab_length]; omega)
    · cases hg

/-- The call of a law. -/
theorem calls_true {W : World} {f : FuncId} {ds : List D} {vs : Array Value} (hC : Comp tabT XX G0 f ds (.bool true)) (hL : laidMetH Tryd.prog laid5 W) (ha : Rs (bare (oldB W)) W ds vs) :
    Calls Tryd.prog f vs W fun e W' => e = .returned (.bool true) ∧ Below W.heap.size W W' := by
  refine ((hC.pure tabR globT_tree natR mixed extRL) (oldB W) W vs (fun b hb => hb) (glob_ok hL) ha).mono ?_
  rintro e w ⟨fx', v, rfl, -, -, h3, h4, h5, h6, h7, hr⟩
  exact ⟨by rw [hr.bool_inv], ⟨h5, h6, h7, h4, h3⟩⟩
theorem own : ownKnob Tryd.prog.godebug = none := by kernel_rfl
theorem laid_witness (os : Os) (args : Array Value) : laidMetH Tryd.prog laid5 ((World.laidAll Tryd.prog os laid5).forCall (fun _ _ => 0) ⟨#[], args, []⟩).memory := by
  rw [MakeChecks.laidMetH_plain _ _ _ plain5]; exact laidMet_laidAll _ (by kernel_rfl) (by kernel_rfl)
theorem shaped_witness (os : Os) (args : Array Value) (h : args = #[]) : ((World.laidAll Tryd.prog os laid5).forCall (fun _ _ => 0) ⟨#[], args, []⟩).Shaped Tryd.prog := by
  subst h; exact World.shaped_of_ZipB (by kernel_rfl) (by kernel_rfl)
theorem laidOut : laidOutB Tryd.prog = true := by kernel_rfl
theorem rs_mk1 {ρ : Ren} {W : World} {d : D} {v : Value} (h : R ρ W d v) : Rs ρ W [d] #[v] :=
  ⟨rfl, fun j x hx => by
    match j, hx with
    | 0, hx => cases hx; exact h⟩
theorem rs_mk2 {ρ : Ren} {W : World} {d d' : D} {v v' : Value} (h : R ρ W d v) (h' : R ρ W d' v') : Rs ρ W [d, d'] #[v, v'] :=
  ⟨rfl, fun j x hx => by
    match j, hx with
    | 0, hx => cases hx; exact h
    | 1, hx => cases hx; exact h'⟩
theorem inR_of {n : Int} (h : (Lit.int .i64 n).wf = true) : inR n := by
  simp [Lit.wf, IntKind.min, IntKind.max, IntKind.signed, IntKind.bits] at h
  unfold inR
  omega
theorem i32_of {n : Int} (h : (Lit.int .i32 n).wf = true) : -2147483648 ≤ n ∧ n ≤ 2147483647 := by
  simp [Lit.wf, IntKind.min, IntKind.max, IntKind.signed, IntKind.bits] at h
  omega
theorem u32_of {n : Int} (h : (Lit.int .u32 n).wf = true) : 0 ≤ n ∧ n ≤ 4294967295 := by
  simp [Lit.wf, IntKind.min, IntKind.max, IntKind.signed, IntKind.bits] at h
  omega
end Go.Proofs.YtlbnennpefkpgaaDoor
