/-
  NARROWER THAN 'FOR EVERY INPUT', by the rows' own cells (each row's printed sentence says how): DeclFields: loops, laid · DeclListed: loops, laid · DeclDecls: loops, laid · DeclChecks: loops, laid · DeclTypes: loops, laid · DeclFits: loops, laid · DeclValues: loops, laid · DeclKnown: laid · DeclParts: loops, laid · DeclFound: loops, laid · DeclMore: loops, laid.
  DERIVED. THE GIVEN ROWS OF THIS SEAT. 11 by the template 'for every input the law returns true; each argument reads behind the call as it read before'; 0 by the template 'total and deterministic' (their statements: YtgenoggafhhgfaaGreatDoorTotals.lean).
  GIVEN WITH THE SEED: the statements are not yours to turn. If you find one false, say at which input.
  Laid BY PROGRAM, IN A SANDBOX (cutbox-rows.mjs): the forced cells as the released guide's own fill.sh prints them over the translation 5f0763b121a66cc4… (all of the seat's roots in one cut). By AI agents, Wed Nov 11 2026. No macro, syntax, notation, axiom, sorry.
-/
import Derived.Test.YtgenoggafhhgfaaGreatDoorChecked
import GoSem.Claim
import GoSem.ClaimJoined
import GoSem.ClaimMapViews
import Derived.JoinedTies
import Derived.KernelRfl
namespace Go.Proofs.YtgenoggafhhgfaaGreatDoor
/- THE CELL 'sum', in the pinned program and in every row, IS THE sha256 OF THE DUMP (.gsa) THAT YtgenoggafhhgfaaGreatDoorProg.lean LOADS. Nothing in Lean hashes anything: it is a label: what it is worth is what the hold of that sum in a sandbox is worth. -/
noncomputable def Tryz.pinned : Pinned := { name := "ytgenoggafhhgfaagreatdoor", sum := "5f0763b121a66cc4d808b5f0e0f3707ef0700390800287efbcae37f6096541f5", checked := Tryz.checked }
namespace Rows
def none {H : Type} : Left H := { results := [], args := [] }

/- WHAT THE LISTED PACKAGE-LEVEL VARIABLES READ AS WHEN THE CALL BEGINS. Each datum BY PROGRAM (the guide's laid-datum.mjs) off the statement by which the dump's own 'gosem.cut.vars' lays the variable. In a bare row this is a premise. The card (YtgenoggafhhgfaaGreatDoorCards.lean) ties it to the program's text. -/
def laid_unicode_White_Space {H : Type} : DataW H := .ptr (.agg [.slice [.agg [.lit (.int .u16 9), .lit (.int .u16 13), .lit (.int .u16 1)], .agg [.lit (.int .u16 32), .lit (.int .u16 133), .lit (.int .u16 101)], .agg [.lit (.int .u16 160), .lit (.int .u16 5760), .lit (.int .u16 5600)], .agg [.lit (.int .u16 8192), .lit (.int .u16 8202), .lit (.int .u16 1)], .agg [.lit (.int .u16 8232), .lit (.int .u16 8233), .lit (.int .u16 1)], .agg [.lit (.int .u16 8239), .lit (.int .u16 8287), .lit (.int .u16 48)], .agg [.lit (.int .u16 12288), .lit (.int .u16 12288), .lit (.int .u16 1)]] [], .nil, .lit (.int .i64 2)])
def laid_strings_asciiSpace {H : Type} : DataW H := .agg [.lit (.int .u8 0), .lit (.int .u8 0), .lit (.int .u8 0), .lit (.int .u8 0), .lit (.int .u8 0), .lit (.int .u8 0), .lit (.int .u8 0), .lit (.int .u8 0), .lit (.int .u8 0), .lit (.int .u8 1), .lit (.int .u8 1), .lit (.int .u8 1), .lit (.int .u8 1), .lit (.int .u8 1), .lit (.int .u8 0), .lit (.int .u8 0), .lit (.int .u8 0), .lit (.int .u8 0), .lit (.int .u8 0), .lit (.int .u8 0), .lit (.int .u8 0), .lit (.int .u8 0), .lit (.int .u8 0), .lit (.int .u8 0), .lit (.int .u8 0), .lit (.int .u8 0), .lit (.int .u8 0), .lit (.int .u8 0), .lit (.int .u8 0), .lit (.int .u8 0), .lit (.int .u8 0), .lit (.int .u8 0), .lit (.int .u8 1), .lit (.int .u8 0), .lit (.int .u8 0), .lit (.int .u8 0), .lit (.int .u8 0), .lit (.int .u8 0), .lit (.int .u8 0), .lit (.int .u8 0), .lit (.int .u8 0), .lit (.int .u8 0), .lit (.int .u8 0), .lit (.int .u8 0), .lit (.int .u8 0), .lit (.int .u8 0), .lit (.int .u8 0), .lit (.int .u8 0), .lit (.int .u8 0), .lit (.int .u8 0), .lit (.int .u8 0), .lit (.int .u8 0), .lit (.int .u8 0), .lit (.int .u8 0), .lit (.int .u8 0), .lit (.int .u8 0), .lit (.int .u8 0), .lit (.int .u8 0), .lit (.int .u8 0), .lit (.int .u8 0), .lit (.int .u8 0), .lit (.int .u8 0), .lit (.int .u8 0), .lit (.int .u8 0), .lit (.int .u8 0), .lit (.int .u8 0), .lit (.int .u8 0), .lit (.int .u8 0), .lit (.int .u8 0), .lit (.int .u8 0), .lit (.int .u8 0), .lit (.int .u8 0), .lit (.int .u8 0), .lit (.int .u8 0), .lit (.int .u8 0), .lit (.int .u8 0), .lit (.int .u8 0), .lit (.int .u8 0), .lit (.int .u8 0), .lit (.int .u8 0), .lit (.int .u8 0), .lit (.int .u8 0), .lit (.int .u8 0), .lit (.int .u8 0), .lit (.int .u8 0), .lit (.int .u8 0), .lit (.int .u8 0), .lit (.int .u8 0), .lit (.int .u8 0), .lit (.int .u8 0), .lit (.int .u8 0), .lit (.int .u8 0), .lit (.int .u8 0), .lit (.int .u8 0), .lit (.int .u8 0), .lit (.int .u8 0), .lit (.int .u8 0), .lit (.int .u8 0), .lit (.int .u8 0), .lit (.int .u8 0), .lit (.int .u8 0), .lit (.int .u8 0), .lit (.int .u8 0), .lit (.int .u8 0), .lit (.int .u8 0), .lit (.int .u8 0), .lit (.int .u8 0), .lit (.int .u8 0), .lit (.int .u8 0), .lit (.int .u8 0), .lit (.int .u8 0), .lit (.int .u8 0), .lit (.int .u8 0), .lit (.int .u8 0), .lit (.int .u8 0), .lit (.int .u8 0), .lit (.int .u8 0), .lit (.int .u8 0), .lit (.int .u8 0), .lit (.int .u8 0), .lit (.int .u8 0), .lit (.int .u8 0), .lit (.int .u8 0), .lit (.int .u8 0), .lit (.int .u8 0), .lit (.int .u8 0), .lit (.int .u8 0), .lit (.int .u8 0), .lit (.int .u8 0), .lit (.int .u8 0), .lit (.int .u8 0), .lit (.int .u8 0), .lit (.int .u8 0), .lit (.int .u8 0), .lit (.int .u8 0), .lit (.int .u8 0), .lit (.int .u8 0), .lit (.int .u8 0), .lit (.int .u8 0), .lit (.int .u8 0), .lit (.int .u8 0), .lit (.int .u8 0), .lit (.int .u8 0), .lit (.int .u8 0), .lit (.int .u8 0), .lit (.int .u8 0), .lit (.int .u8 0), .lit (.int .u8 0), .lit (.int .u8 0), .lit (.int .u8 0), .lit (.int .u8 0), .lit (.int .u8 0), .lit (.int .u8 0), .lit (.int .u8 0), .lit (.int .u8 0), .lit (.int .u8 0), .lit (.int .u8 0), .lit (.int .u8 0), .lit (.int .u8 0), .lit (.int .u8 0), .lit (.int .u8 0), .lit (.int .u8 0), .lit (.int .u8 0), .lit (.int .u8 0), .lit (.int .u8 0), .lit (.int .u8 0), .lit (.int .u8 0), .lit (.int .u8 0), .lit (.int .u8 0), .lit (.int .u8 0), .lit (.int .u8 0), .lit (.int .u8 0), .lit (.int .u8 0), .lit (.int .u8 0), .lit (.int .u8 0), .lit (.int .u8 0), .lit (.int .u8 0), .lit (.int .u8 0), .lit (.int .u8 0), .lit (.int .u8 0), .lit (.int .u8 0), .lit (.int .u8 0), .lit (.int .u8 0), .lit (.int .u8 0), .lit (.int .u8 0), .lit (.int .u8 0), .lit (.int .u8 0), .lit (.int .u8 0), .lit (.int .u8 0), .lit (.int .u8 0), .lit (.int .u8 0), .lit (.int .u8 0), .lit (.int .u8 0), .lit (.int .u8 0), .lit (.int .u8 0), .lit (.int .u8 0), .lit (.int .u8 0), .lit (.int .u8 0), .lit (.int .u8 0), .lit (.int .u8 0), .lit (.int .u8 0), .lit (.int .u8 0), .lit (.int .u8 0), .lit (.int .u8 0), .lit (.int .u8 0), .lit (.int .u8 0), .lit (.int .u8 0), .lit (.int .u8 0), .lit (.int .u8 0), .lit (.int .u8 0), .lit (.int .u8 0), .lit (.int .u8 0), .lit (.int .u8 0), .lit (.int .u8 0), .lit (.int .u8 0), .lit (.int .u8 0), .lit (.int .u8 0), .lit (.int .u8 0), .lit (.int .u8 0), .lit (.int .u8 0), .lit (.int .u8 0), .lit (.int .u8 0), .lit (.int .u8 0), .lit (.int .u8 0), .lit (.int .u8 0), .lit (.int .u8 0), .lit (.int .u8 0), .lit (.int .u8 0), .lit (.int .u8 0), .lit (.int .u8 0), .lit (.int .u8 0), .lit (.int .u8 0), .lit (.int .u8 0), .lit (.int .u8 0), .lit (.int .u8 0), .lit (.int .u8 0), .lit (.int .u8 0), .lit (.int .u8 0), .lit (.int .u8 0), .lit (.int .u8 0), .lit (.int .u8 0), .lit (.int .u8 0), .lit (.int .u8 0), .lit (.int .u8 0), .lit (.int .u8 0), .lit (.int .u8 0), .lit (.int .u8 0), .lit (.int .u8 0), .lit (.int .u8 0), .lit (.int .u8 0), .lit (.int .u8 0), .lit (.int .u8 0), .lit (.int .u8 0), .lit (.int .u8 0), .lit (.int .u8 0), .lit (.int .u8 0)]
def laid_reprise_syntax_shapes {H : Type} : DataW H := .agg [.agg [.lit (.int .i64 1), .lit (.int .i64 0), .lit (.int .i64 0), .lit (.int .i64 0), .lit (.int .i64 0), .lit (.int .i64 0), .lit (.bool false), .lit (.int .i64 0), .lit (.int .i64 0)], .agg [.lit (.int .i64 0), .lit (.int .i64 0), .lit (.int .i64 0), .lit (.int .i64 0), .lit (.int .i64 0), .lit (.int .i64 0), .lit (.bool false), .lit (.int .i64 (-999999999)), .lit (.int .i64 999999999)], .agg [.lit (.int .i64 0), .lit (.int .i64 0), .lit (.int .i64 0), .lit (.int .i64 0), .lit (.int .i64 0), .lit (.int .i64 0), .lit (.bool false), .lit (.int .i64 0), .lit (.int .i64 1)], .agg [.lit (.int .i64 0), .lit (.int .i64 0), .lit (.int .i64 0), .lit (.int .i64 0), .lit (.int .i64 0), .lit (.int .i64 0), .lit (.bool false), .lit (.int .i64 0), .lit (.int .i64 0)], .agg [.lit (.int .i64 0), .lit (.int .i64 0), .lit (.int .i64 1), .lit (.int .i64 0), .lit (.int .i64 1), .lit (.int .i64 0), .lit (.bool false), .lit (.int .i64 0), .lit (.int .i64 0)], .agg [.lit (.int .i64 0), .lit (.int .i64 0), .lit (.int .i64 0), .lit (.int .i64 0), .lit (.int .i64 2), .lit (.int .i64 0), .lit (.bool false), .lit (.int .i64 0), .lit (.int .i64 0)], .agg [.lit (.int .i64 0), .lit (.int .i64 0), .lit (.int .i64 1), .lit (.int .i64 0), .lit (.int .i64 2), .lit (.int .i64 0), .lit (.bool false), .lit (.int .i64 0), .lit (.int .i64 0)], .agg [.lit (.int .i64 0), .lit (.int .i64 0), .lit (.int .i64 2), .lit (.int .i64 0), .lit (.int .i64 2), .lit (.int .i64 0), .lit (.bool false), .lit (.int .i64 0), .lit (.int .i64 0)], .agg [.lit (.int .i64 0), .lit (.int .i64 0), .lit (.int .i64 0), .lit (.int .i64 0), .lit (.int .i64 3), .lit (.int .i64 0), .lit (.bool false), .lit (.int .i64 0), .lit (.int .i64 0)], .agg [.lit (.int .i64 3), .lit (.int .i64 0), .lit (.int .i64 0), .lit (.int .i64 0), .lit (.int .i64 2), .lit (.int .i64 0), .lit (.bool false), .lit (.int .i64 0), .lit (.int .i64 0)], .agg [.lit (.int .i64 2), .lit (.int .i64 0), .lit (.int .i64 0), .lit (.int .i64 0), .lit (.int .i64 0), .lit (.int .i64 4), .lit (.bool false), .lit (.int .i64 0), .lit (.int .i64 0)], .agg [.lit (.int .i64 0), .lit (.int .i64 0), .lit (.int .i64 0), .lit (.int .i64 0), .lit (.int .i64 1), .lit (.int .i64 0), .lit (.bool true), .lit (.int .i64 0), .lit (.int .i64 0)], .agg [.lit (.int .i64 1), .lit (.int .i64 0), .lit (.int .i64 0), .lit (.int .i64 0), .lit (.int .i64 1), .lit (.int .i64 0), .lit (.bool false), .lit (.int .i64 0), .lit (.int .i64 0)], .agg [.lit (.int .i64 1), .lit (.int .i64 1), .lit (.int .i64 0), .lit (.int .i64 0), .lit (.int .i64 1), .lit (.int .i64 0), .lit (.bool false), .lit (.int .i64 0), .lit (.int .i64 0)], .agg [.lit (.int .i64 2), .lit (.int .i64 0), .lit (.int .i64 0), .lit (.int .i64 0), .lit (.int .i64 1), .lit (.int .i64 0), .lit (.bool true), .lit (.int .i64 0), .lit (.int .i64 1)], .agg [.lit (.int .i64 2), .lit (.int .i64 0), .lit (.int .i64 1), .lit (.int .i64 0), .lit (.int .i64 1), .lit (.int .i64 0), .lit (.bool true), .lit (.int .i64 0), .lit (.int .i64 0)], .agg [.lit (.int .i64 2), .lit (.int .i64 0), .lit (.int .i64 0), .lit (.int .i64 0), .lit (.int .i64 1), .lit (.int .i64 0), .lit (.bool false), .lit (.int .i64 0), .lit (.int .i64 0)], .agg [.lit (.int .i64 0), .lit (.int .i64 0), .lit (.int .i64 1), .lit (.int .i64 12), .lit (.int .i64 3), .lit (.int .i64 0), .lit (.bool false), .lit (.int .i64 0), .lit (.int .i64 0)], .agg [.lit (.int .i64 1), .lit (.int .i64 0), .lit (.int .i64 0), .lit (.int .i64 0), .lit (.int .i64 1), .lit (.int .i64 0), .lit (.bool false), .lit (.int .i64 0), .lit (.int .i64 0)], .agg [.lit (.int .i64 1), .lit (.int .i64 0), .lit (.int .i64 0), .lit (.int .i64 0), .lit (.int .i64 0), .lit (.int .i64 0), .lit (.bool false), .lit (.int .i64 0), .lit (.int .i64 0)]]

/-- 'repriselaw04.DeclFields': WHATEVER THE INPUT: true; the input reads as it did. -/
def declFieldsSpec : ChangeSpec := { name := "declFields", fn := fun _ => fun
  | [d1, d2, d3] => { results := [.lit (.bool true)], args := [d1, d2, d3] }
  | _ => none }
def declFieldsRow : OpenClaim := { program := "ytgenoggafhhgfaagreatdoor", sum := "5f0763b121a66cc4d808b5f0e0f3707ef0700390800287efbcae37f6096541f5", func := "reprise/repriselaw04.DeclFields", spec := "declFields", unfollowed := true, recurses := true, named := ["strings.asciiSpace", "unicode.White_Space", "reprise/syntax.shapes"], loops := true, apart := false, laid := [("unicode.White_Space", laid_unicode_White_Space), ("strings.asciiSpace", laid_strings_asciiSpace), ("reprise/syntax.shapes", laid_reprise_syntax_shapes)] }
def DeclFieldsSaid : Prop := declFieldsRow.holds Tryz.pinned (OpenSpec.ofChange declFieldsSpec)

/-- ITS FALSE NEIGHBOUR: 'it returns false'. Refute it at one input. -/
def declFieldsWrong : ChangeSpec := { name := "declFields", fn := fun _ => fun
  | [d1, d2, d3] => { results := [.lit (.bool false)], args := [d1, d2, d3] }
  | _ => none }
def DeclFieldsWrongFalsely : Prop := declFieldsRow.holds Tryz.pinned (OpenSpec.ofChange declFieldsWrong)

/-- 'repriselaw04.DeclListed': WHATEVER THE INPUT: true; the input reads as it did. -/
def declListedSpec : ChangeSpec := { name := "declListed", fn := fun _ => fun
  | [d1, d2, d3] => { results := [.lit (.bool true)], args := [d1, d2, d3] }
  | _ => none }
def declListedRow : OpenClaim := { program := "ytgenoggafhhgfaagreatdoor", sum := "5f0763b121a66cc4d808b5f0e0f3707ef0700390800287efbcae37f6096541f5", func := "reprise/repriselaw04.DeclListed", spec := "declListed", unfollowed := true, recurses := true, named := ["strings.asciiSpace", "unicode.White_Space", "reprise/syntax.shapes"], loops := true, apart := false, laid := [("unicode.White_Space", laid_unicode_White_Space), ("strings.asciiSpace", laid_strings_asciiSpace), ("reprise/syntax.shapes", laid_reprise_syntax_shapes)] }
def DeclListedSaid : Prop := declListedRow.holds Tryz.pinned (OpenSpec.ofChange declListedSpec)

/-- ITS FALSE NEIGHBOUR: 'it returns false'. Refute it at one input. -/
def declListedWrong : ChangeSpec := { name := "declListed", fn := fun _ => fun
  | [d1, d2, d3] => { results := [.lit (.bool false)], args := [d1, d2, d3] }
  | _ => none }
def DeclListedWrongFalsely : Prop := declListedRow.holds Tryz.pinned (OpenSpec.ofChange declListedWrong)

/-- 'repriselaw04.DeclDecls': WHATEVER THE INPUT: true; the input reads as it did. -/
def declDeclsSpec : ChangeSpec := { name := "declDecls", fn := fun _ => fun
  | [d1, d2] => { results := [.lit (.bool true)], args := [d1, d2] }
  | _ => none }
def declDeclsRow : OpenClaim := { program := "ytgenoggafhhgfaagreatdoor", sum := "5f0763b121a66cc4d808b5f0e0f3707ef0700390800287efbcae37f6096541f5", func := "reprise/repriselaw04.DeclDecls", spec := "declDecls", unfollowed := true, recurses := true, named := ["strings.asciiSpace", "unicode.White_Space", "reprise/syntax.shapes"], loops := true, apart := false, laid := [("unicode.White_Space", laid_unicode_White_Space), ("strings.asciiSpace", laid_strings_asciiSpace), ("reprise/syntax.shapes", laid_reprise_syntax_shapes)] }
def DeclDeclsSaid : Prop := declDeclsRow.holds Tryz.pinned (OpenSpec.ofChange declDeclsSpec)

/-- ITS FALSE NEIGHBOUR: 'it returns false'. Refute it at one input. -/
def declDeclsWrong : ChangeSpec := { name := "declDecls", fn := fun _ => fun
  | [d1, d2] => { results := [.lit (.bool false)], args := [d1, d2] }
  | _ => none }
def DeclDeclsWrongFalsely : Prop := declDeclsRow.holds Tryz.pinned (OpenSpec.ofChange declDeclsWrong)

/-- 'repriselaw04.DeclChecks': WHATEVER THE INPUT: true; the input reads as it did. -/
def declChecksSpec : ChangeSpec := { name := "declChecks", fn := fun _ => fun
  | [d1, d2] => { results := [.lit (.bool true)], args := [d1, d2] }
  | _ => none }
def declChecksRow : OpenClaim := { program := "ytgenoggafhhgfaagreatdoor", sum := "5f0763b121a66cc4d808b5f0e0f3707ef0700390800287efbcae37f6096541f5", func := "reprise/repriselaw04.DeclChecks", spec := "declChecks", unfollowed := true, recurses := true, named := ["strings.asciiSpace", "unicode.White_Space", "reprise/syntax.shapes"], loops := true, apart := false, laid := [("unicode.White_Space", laid_unicode_White_Space), ("strings.asciiSpace", laid_strings_asciiSpace), ("reprise/syntax.shapes", laid_reprise_syntax_shapes)] }
def DeclChecksSaid : Prop := declChecksRow.holds Tryz.pinned (OpenSpec.ofChange declChecksSpec)

/-- ITS FALSE NEIGHBOUR: 'it returns false'. Refute it at one input. -/
def declChecksWrong : ChangeSpec := { name := "declChecks", fn := fun _ => fun
  | [d1, d2] => { results := [.lit (.bool false)], args := [d1, d2] }
  | _ => none }
def DeclChecksWrongFalsely : Prop := declChecksRow.holds Tryz.pinned (OpenSpec.ofChange declChecksWrong)

/-- 'repriselaw04.DeclTypes': WHATEVER THE INPUT: true; the input reads as it did. -/
def declTypesSpec : ChangeSpec := { name := "declTypes", fn := fun _ => fun
  | [d1, d2, d3] => { results := [.lit (.bool true)], args := [d1, d2, d3] }
  | _ => none }
def declTypesRow : OpenClaim := { program := "ytgenoggafhhgfaagreatdoor", sum := "5f0763b121a66cc4d808b5f0e0f3707ef0700390800287efbcae37f6096541f5", func := "reprise/repriselaw04.DeclTypes", spec := "declTypes", unfollowed := true, recurses := true, named := ["strings.asciiSpace", "unicode.White_Space", "reprise/syntax.shapes"], loops := true, apart := false, laid := [("unicode.White_Space", laid_unicode_White_Space), ("strings.asciiSpace", laid_strings_asciiSpace), ("reprise/syntax.shapes", laid_reprise_syntax_shapes)] }
def DeclTypesSaid : Prop := declTypesRow.holds Tryz.pinned (OpenSpec.ofChange declTypesSpec)

/-- ITS FALSE NEIGHBOUR: 'it returns false'. Refute it at one input. -/
def declTypesWrong : ChangeSpec := { name := "declTypes", fn := fun _ => fun
  | [d1, d2, d3] => { results := [.lit (.bool false)], args := [d1, d2, d3] }
  | _ => none }
def DeclTypesWrongFalsely : Prop := declTypesRow.holds Tryz.pinned (OpenSpec.ofChange declTypesWrong)

/-- 'repriselaw04.DeclFits': WHATEVER THE INPUT: true; the input reads as it did. -/
def declFitsSpec : ChangeSpec := { name := "declFits", fn := fun _ => fun
  | [d1, d2, d3] => { results := [.lit (.bool true)], args := [d1, d2, d3] }
  | _ => none }
def declFitsRow : OpenClaim := { program := "ytgenoggafhhgfaagreatdoor", sum := "5f0763b121a66cc4d808b5f0e0f3707ef0700390800287efbcae37f6096541f5", func := "reprise/repriselaw04.DeclFits", spec := "declFits", unfollowed := true, recurses := true, named := ["strings.asciiSpace", "unicode.White_Space", "reprise/syntax.shapes"], loops := true, apart := false, laid := [("unicode.White_Space", laid_unicode_White_Space), ("strings.asciiSpace", laid_strings_asciiSpace), ("reprise/syntax.shapes", laid_reprise_syntax_shapes)] }
def DeclFitsSaid : Prop := declFitsRow.holds Tryz.pinned (OpenSpec.ofChange declFitsSpec)

/-- ITS FALSE NEIGHBOUR: 'it returns false'. Refute it at one input. -/
def declFitsWrong : ChangeSpec := { name := "declFits", fn := fun _ => fun
  | [d1, d2, d3] => { results := [.lit (.bool false)], args := [d1, d2, d3] }
  | _ => none }
def DeclFitsWrongFalsely : Prop := declFitsRow.holds Tryz.pinned (OpenSpec.ofChange declFitsWrong)

/-- 'repriselaw04.DeclValues': WHATEVER THE INPUT: true; the input reads as it did. -/
def declValuesSpec : ChangeSpec := { name := "declValues", fn := fun _ => fun
  | [d1, d2, d3] => { results := [.lit (.bool true)], args := [d1, d2, d3] }
  | _ => none }
def declValuesRow : OpenClaim := { program := "ytgenoggafhhgfaagreatdoor", sum := "5f0763b121a66cc4d808b5f0e0f3707ef0700390800287efbcae37f6096541f5", func := "reprise/repriselaw04.DeclValues", spec := "declValues", unfollowed := true, recurses := true, named := ["strings.asciiSpace", "unicode.White_Space", "reprise/syntax.shapes"], loops := true, apart := false, laid := [("unicode.White_Space", laid_unicode_White_Space), ("strings.asciiSpace", laid_strings_asciiSpace), ("reprise/syntax.shapes", laid_reprise_syntax_shapes)] }
def DeclValuesSaid : Prop := declValuesRow.holds Tryz.pinned (OpenSpec.ofChange declValuesSpec)

/-- ITS FALSE NEIGHBOUR: 'it returns false'. Refute it at one input. -/
def declValuesWrong : ChangeSpec := { name := "declValues", fn := fun _ => fun
  | [d1, d2, d3] => { results := [.lit (.bool false)], args := [d1, d2, d3] }
  | _ => none }
def DeclValuesWrongFalsely : Prop := declValuesRow.holds Tryz.pinned (OpenSpec.ofChange declValuesWrong)

/-- 'repriselaw04.DeclKnown': WHATEVER THE INPUT: true; the input reads as it did. -/
def declKnownSpec : ChangeSpec := { name := "declKnown", fn := fun _ => fun
  | [] => { results := [.lit (.bool true)], args := [] }
  | _ => none }
def declKnownRow : OpenClaim := { program := "ytgenoggafhhgfaagreatdoor", sum := "5f0763b121a66cc4d808b5f0e0f3707ef0700390800287efbcae37f6096541f5", func := "reprise/repriselaw04.DeclKnown", spec := "declKnown", unfollowed := true, recurses := true, named := ["strings.asciiSpace", "unicode.White_Space", "reprise/syntax.shapes"], apart := false, laid := [("unicode.White_Space", laid_unicode_White_Space), ("strings.asciiSpace", laid_strings_asciiSpace), ("reprise/syntax.shapes", laid_reprise_syntax_shapes)] }
def DeclKnownSaid : Prop := declKnownRow.holds Tryz.pinned (OpenSpec.ofChange declKnownSpec)

/-- ITS FALSE NEIGHBOUR: 'it returns false'. Refute it at one input. -/
def declKnownWrong : ChangeSpec := { name := "declKnown", fn := fun _ => fun
  | [] => { results := [.lit (.bool false)], args := [] }
  | _ => none }
def DeclKnownWrongFalsely : Prop := declKnownRow.holds Tryz.pinned (OpenSpec.ofChange declKnownWrong)

/-- 'repriselaw04.DeclParts': WHATEVER THE INPUT: true; the input reads as it did. -/
def declPartsSpec : ChangeSpec := { name := "declParts", fn := fun _ => fun
  | [d1, d2] => { results := [.lit (.bool true)], args := [d1, d2] }
  | _ => none }
def declPartsRow : OpenClaim := { program := "ytgenoggafhhgfaagreatdoor", sum := "5f0763b121a66cc4d808b5f0e0f3707ef0700390800287efbcae37f6096541f5", func := "reprise/repriselaw04.DeclParts", spec := "declParts", unfollowed := true, recurses := true, named := ["strings.asciiSpace", "unicode.White_Space", "reprise/syntax.shapes"], loops := true, apart := false, laid := [("unicode.White_Space", laid_unicode_White_Space), ("strings.asciiSpace", laid_strings_asciiSpace), ("reprise/syntax.shapes", laid_reprise_syntax_shapes)] }
def DeclPartsSaid : Prop := declPartsRow.holds Tryz.pinned (OpenSpec.ofChange declPartsSpec)

/-- ITS FALSE NEIGHBOUR: 'it returns false'. Refute it at one input. -/
def declPartsWrong : ChangeSpec := { name := "declParts", fn := fun _ => fun
  | [d1, d2] => { results := [.lit (.bool false)], args := [d1, d2] }
  | _ => none }
def DeclPartsWrongFalsely : Prop := declPartsRow.holds Tryz.pinned (OpenSpec.ofChange declPartsWrong)

/-- 'repriselaw04.DeclFound': WHATEVER THE INPUT: true; the input reads as it did. -/
def declFoundSpec : ChangeSpec := { name := "declFound", fn := fun _ => fun
  | [d] => { results := [.lit (.bool true)], args := [d] }
  | _ => none }
def declFoundRow : OpenClaim := { program := "ytgenoggafhhgfaagreatdoor", sum := "5f0763b121a66cc4d808b5f0e0f3707ef0700390800287efbcae37f6096541f5", func := "reprise/repriselaw04.DeclFound", spec := "declFound", unfollowed := true, recurses := true, named := ["strings.asciiSpace", "unicode.White_Space", "reprise/syntax.shapes"], loops := true, apart := false, laid := [("unicode.White_Space", laid_unicode_White_Space), ("strings.asciiSpace", laid_strings_asciiSpace), ("reprise/syntax.shapes", laid_reprise_syntax_shapes)] }
def DeclFoundSaid : Prop := declFoundRow.holds Tryz.pinned (OpenSpec.ofChange declFoundSpec)

/-- ITS FALSE NEIGHBOUR: 'it returns false'. Refute it at one input. -/
def declFoundWrong : ChangeSpec := { name := "declFound", fn := fun _ => fun
  | [d] => { results := [.lit (.bool false)], args := [d] }
  | _ => none }
def DeclFoundWrongFalsely : Prop := declFoundRow.holds Tryz.pinned (OpenSpec.ofChange declFoundWrong)

/-- 'repriselaw04.DeclMore': WHATEVER THE INPUT: true; the input reads as it did. -/
def declMoreSpec : ChangeSpec := { name := "declMore", fn := fun _ => fun
  | [d1, d2, d3] => { results := [.lit (.bool true)], args := [d1, d2, d3] }
  | _ => none }
def declMoreRow : OpenClaim := { program := "ytgenoggafhhgfaagreatdoor", sum := "5f0763b121a66cc4d808b5f0e0f3707ef0700390800287efbcae37f6096541f5", func := "reprise/repriselaw04.DeclMore", spec := "declMore", unfollowed := true, recurses := true, named := ["strings.asciiSpace", "unicode.White_Space", "reprise/syntax.shapes"], loops := true, apart := false, laid := [("unicode.White_Space", laid_unicode_White_Space), ("strings.asciiSpace", laid_strings_asciiSpace), ("reprise/syntax.shapes", laid_reprise_syntax_shapes)] }
def DeclMoreSaid : Prop := declMoreRow.holds Tryz.pinned (OpenSpec.ofChange declMoreSpec)

/-- ITS FALSE NEIGHBOUR: 'it returns false'. Refute it at one input. -/
def declMoreWrong : ChangeSpec := { name := "declMore", fn := fun _ => fun
  | [d1, d2, d3] => { results := [.lit (.bool false)], args := [d1, d2, d3] }
  | _ => none }
def DeclMoreWrongFalsely : Prop := declMoreRow.holds Tryz.pinned (OpenSpec.ofChange declMoreWrong)

/- THE SECOND FORM. 'bulk': how many values and letters a reading holds, each counted each time it is reached (what is shared counts as often as it is met; a slice's spare places count too). A statement '..UptoSaid' is the law's where the arguments, and the package variables that the reading takes, are together of bulk at most 1048576: NARROWER than '..Said'. Prove '..Said' where nothing that the law and all that it calls make is longer than what came in: it says more and counts as full. Else prove '..UptoSaid'. A law counts once. -/
mutual
def uptoBulk {H : Type} : DataW H → Nat
  | .lit (.string bytes) => bytes.length + 1
  | .lit _ => 1
  | .nil => 1
  | .ptr d => uptoBulk d + 1
  | .slice elems spare => uptoBulkAll elems + uptoBulkAll spare + 1
  | .agg parts => uptoBulkAll parts + 1
  | .iface _ d => uptoBulk d + 1
  | .map entries => uptoBulkEntries entries + 1
  | .held _ => 1
def uptoBulkAll {H : Type} : List (DataW H) → Nat
  | [] => 0
  | d :: r => uptoBulk d + uptoBulkAll r
def uptoBulkEntries {H : Type} : List (Lit × DataW H) → Nat
  | [] => 0
  | x :: r => uptoBulkEntry x + uptoBulkEntries r
def uptoBulkEntry {H : Type} : Lit × DataW H → Nat
  | (.string bytes, d) => bytes.length + uptoBulk d + 1
  | (_, d) => uptoBulk d + 1
 end
def uptoSmall : (H : Type) → List (DataW H) → Bool := fun _ ds => decide (uptoBulkAll ds ≤ 1048576)
def OpenSpec.upto (s : _root_.Go.ChangeSpec) : _root_.Go.OpenSpec := { _root_.Go.OpenSpec.ofChange s with cond := some uptoSmall }

/-- 'repriselaw04.DeclFields', WHERE WHAT IT READS IS OF BULK AT MOST 1048576: true; the input reads as it did. -/
def declFieldsUptoRow : OpenClaim := { program := "ytgenoggafhhgfaagreatdoor", sum := "5f0763b121a66cc4d808b5f0e0f3707ef0700390800287efbcae37f6096541f5", func := "reprise/repriselaw04.DeclFields", spec := "declFields", unfollowed := true, recurses := true, named := ["strings.asciiSpace", "unicode.White_Space", "reprise/syntax.shapes"], loops := true, apart := false, laid := [("unicode.White_Space", laid_unicode_White_Space), ("strings.asciiSpace", laid_strings_asciiSpace), ("reprise/syntax.shapes", laid_reprise_syntax_shapes)], narrowed := true }
def DeclFieldsUptoSaid : Prop := declFieldsUptoRow.holds Tryz.pinned (OpenSpec.upto declFieldsSpec)

/-- 'repriselaw04.DeclListed', WHERE WHAT IT READS IS OF BULK AT MOST 1048576: true; the input reads as it did. -/
def declListedUptoRow : OpenClaim := { program := "ytgenoggafhhgfaagreatdoor", sum := "5f0763b121a66cc4d808b5f0e0f3707ef0700390800287efbcae37f6096541f5", func := "reprise/repriselaw04.DeclListed", spec := "declListed", unfollowed := true, recurses := true, named := ["strings.asciiSpace", "unicode.White_Space", "reprise/syntax.shapes"], loops := true, apart := false, laid := [("unicode.White_Space", laid_unicode_White_Space), ("strings.asciiSpace", laid_strings_asciiSpace), ("reprise/syntax.shapes", laid_reprise_syntax_shapes)], narrowed := true }
def DeclListedUptoSaid : Prop := declListedUptoRow.holds Tryz.pinned (OpenSpec.upto declListedSpec)

/-- 'repriselaw04.DeclDecls', WHERE WHAT IT READS IS OF BULK AT MOST 1048576: true; the input reads as it did. -/
def declDeclsUptoRow : OpenClaim := { program := "ytgenoggafhhgfaagreatdoor", sum := "5f0763b121a66cc4d808b5f0e0f3707ef0700390800287efbcae37f6096541f5", func := "reprise/repriselaw04.DeclDecls", spec := "declDecls", unfollowed := true, recurses := true, named := ["strings.asciiSpace", "unicode.White_Space", "reprise/syntax.shapes"], loops := true, apart := false, laid := [("unicode.White_Space", laid_unicode_White_Space), ("strings.asciiSpace", laid_strings_asciiSpace), ("reprise/syntax.shapes", laid_reprise_syntax_shapes)], narrowed := true }
def DeclDeclsUptoSaid : Prop := declDeclsUptoRow.holds Tryz.pinned (OpenSpec.upto declDeclsSpec)

/-- 'repriselaw04.DeclChecks', WHERE WHAT IT READS IS OF BULK AT MOST 1048576: true; the input reads as it did. -/
def declChecksUptoRow : OpenClaim := { program := "ytgenoggafhhgfaagreatdoor", sum := "5f0763b121a66cc4d808b5f0e0f3707ef0700390800287efbcae37f6096541f5", func := "reprise/repriselaw04.DeclChecks", spec := "declChecks", unfollowed := true, recurses := true, named := ["strings.asciiSpace", "unicode.White_Space", "reprise/syntax.shapes"], loops := true, apart := false, laid := [("unicode.White_Space", laid_unicode_White_Space), ("strings.asciiSpace", laid_strings_asciiSpace), ("reprise/syntax.shapes", laid_reprise_syntax_shapes)], narrowed := true }
def DeclChecksUptoSaid : Prop := declChecksUptoRow.holds Tryz.pinned (OpenSpec.upto declChecksSpec)

/-- 'repriselaw04.DeclTypes', WHERE WHAT IT READS IS OF BULK AT MOST 1048576: true; the input reads as it did. -/
def declTypesUptoRow : OpenClaim := { program := "ytgenoggafhhgfaagreatdoor", sum := "5f0763b121a66cc4d808b5f0e0f3707ef0700390800287efbcae37f6096541f5", func := "reprise/repriselaw04.DeclTypes", spec := "declTypes", unfollowed := true, recurses := true, named := ["strings.asciiSpace", "unicode.White_Space", "reprise/syntax.shapes"], loops := true, apart := false, laid := [("unicode.White_Space", laid_unicode_White_Space), ("strings.asciiSpace", laid_strings_asciiSpace), ("reprise/syntax.shapes", laid_reprise_syntax_shapes)], narrowed := true }
def DeclTypesUptoSaid : Prop := declTypesUptoRow.holds Tryz.pinned (OpenSpec.upto declTypesSpec)

/-- 'repriselaw04.DeclFits', WHERE WHAT IT READS IS OF BULK AT MOST 1048576: true; the input reads as it did. -/
def declFitsUptoRow : OpenClaim := { program := "ytgenoggafhhgfaagreatdoor", sum := "5f0763b121a66cc4d808b5f0e0f3707ef0700390800287efbcae37f6096541f5", func := "reprise/repriselaw04.DeclFits", spec := "declFits", unfollowed := true, recurses := true, named := ["strings.asciiSpace", "unicode.White_Space", "reprise/syntax.shapes"], loops := true, apart := false, laid := [("unicode.White_Space", laid_unicode_White_Space), ("strings.asciiSpace", laid_strings_asciiSpace), ("reprise/syntax.shapes", laid_reprise_syntax_shapes)], narrowed := true }
def DeclFitsUptoSaid : Prop := declFitsUptoRow.holds Tryz.pinned (OpenSpec.upto declFitsSpec)

/-- 'repriselaw04.DeclValues', WHERE WHAT IT READS IS OF BULK AT MOST 1048576: true; the input reads as it did. -/
def declValuesUptoRow : OpenClaim := { program := "ytgenoggafhhgfaagreatdoor", sum := "5f0763b121a66cc4d808b5f0e0f3707ef0700390800287efbcae37f6096541f5", func := "reprise/repriselaw04.DeclValues", spec := "declValues", unfollowed := true, recurses := true, named := ["strings.asciiSpace", "unicode.White_Space", "reprise/syntax.shapes"], loops := true, apart := false, laid := [("unicode.White_Space", laid_unicode_White_Space), ("strings.asciiSpace", laid_strings_asciiSpace), ("reprise/syntax.shapes", laid_reprise_syntax_shapes)], narrowed := true }
def DeclValuesUptoSaid : Prop := declValuesUptoRow.holds Tryz.pinned (OpenSpec.upto declValuesSpec)

/-- 'repriselaw04.DeclKnown', WHERE WHAT IT READS IS OF BULK AT MOST 1048576: true; the input reads as it did. -/
def declKnownUptoRow : OpenClaim := { program := "ytgenoggafhhgfaagreatdoor", sum := "5f0763b121a66cc4d808b5f0e0f3707ef0700390800287efbcae37f6096541f5", func := "reprise/repriselaw04.DeclKnown", spec := "declKnown", unfollowed := true, recurses := true, named := ["strings.asciiSpace", "unicode.White_Space", "reprise/syntax.shapes"], apart := false, laid := [("unicode.White_Space", laid_unicode_White_Space), ("strings.asciiSpace", laid_strings_asciiSpace), ("reprise/syntax.shapes", laid_reprise_syntax_shapes)], narrowed := true }
def DeclKnownUptoSaid : Prop := declKnownUptoRow.holds Tryz.pinned (OpenSpec.upto declKnownSpec)

/-- 'repriselaw04.DeclParts', WHERE WHAT IT READS IS OF BULK AT MOST 1048576: true; the input reads as it did. -/
def declPartsUptoRow : OpenClaim := { program := "ytgenoggafhhgfaagreatdoor", sum := "5f0763b121a66cc4d808b5f0e0f3707ef0700390800287efbcae37f6096541f5", func := "reprise/repriselaw04.DeclParts", spec := "declParts", unfollowed := true, recurses := true, named := ["strings.asciiSpace", "unicode.White_Space", "reprise/syntax.shapes"], loops := true, apart := false, laid := [("unicode.White_Space", laid_unicode_White_Space), ("strings.asciiSpace", laid_strings_asciiSpace), ("reprise/syntax.shapes", laid_reprise_syntax_shapes)], narrowed := true }
def DeclPartsUptoSaid : Prop := declPartsUptoRow.holds Tryz.pinned (OpenSpec.upto declPartsSpec)

/-- 'repriselaw04.DeclFound', WHERE WHAT IT READS IS OF BULK AT MOST 1048576: true; the input reads as it did. -/
def declFoundUptoRow : OpenClaim := { program := "ytgenoggafhhgfaagreatdoor", sum := "5f0763b121a66cc4d808b5f0e0f3707ef0700390800287efbcae37f6096541f5", func := "reprise/repriselaw04.DeclFound", spec := "declFound", unfollowed := true, recurses := true, named := ["strings.asciiSpace", "unicode.White_Space", "reprise/syntax.shapes"], loops := true, apart := false, laid := [("unicode.White_Space", laid_unicode_White_Space), ("strings.asciiSpace", laid_strings_asciiSpace), ("reprise/syntax.shapes", laid_reprise_syntax_shapes)], narrowed := true }
def DeclFoundUptoSaid : Prop := declFoundUptoRow.holds Tryz.pinned (OpenSpec.upto declFoundSpec)

/-- 'repriselaw04.DeclMore', WHERE WHAT IT READS IS OF BULK AT MOST 1048576: true; the input reads as it did. -/
def declMoreUptoRow : OpenClaim := { program := "ytgenoggafhhgfaagreatdoor", sum := "5f0763b121a66cc4d808b5f0e0f3707ef0700390800287efbcae37f6096541f5", func := "reprise/repriselaw04.DeclMore", spec := "declMore", unfollowed := true, recurses := true, named := ["strings.asciiSpace", "unicode.White_Space", "reprise/syntax.shapes"], loops := true, apart := false, laid := [("unicode.White_Space", laid_unicode_White_Space), ("strings.asciiSpace", laid_strings_asciiSpace), ("reprise/syntax.shapes", laid_reprise_syntax_shapes)], narrowed := true }
def DeclMoreUptoSaid : Prop := declMoreUptoRow.holds Tryz.pinned (OpenSpec.upto declMoreSpec)

end Rows
end Go.Proofs.YtgenoggafhhgfaaGreatDoor
