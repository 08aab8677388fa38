/-
  NARROWER THAN 'FOR EVERY INPUT', by the rows' own cells (each row's printed sentence says how): FnExactYearFrom: laid · FnYearText: laid · FnYearFrom: laid · FnExactYearText: laid · FnYearTextEra: laid · FnYearTextNext: laid · FnYearOf: laid · FnExactFracText: laid · FnFracText: laid.
  DERIVED. THE GIVEN ROWS OF THIS SEAT. 9 by the template 'for every input the law returns true; each argument reads behind the call as it read before'; 0 by the template 'total and deterministic' (their statements: YtaikebigaiimaaaDoorTotals.lean).
  GIVEN WITH THE SEED: the statements are not yours to turn. If you find one false, say at which input.
  Laid BY PROGRAM, IN A SANDBOX (cutbox-rows.mjs): the forced cells as the released guide's own fill.sh prints them over the translation f0fbf34c687748b6… (all of the seat's roots in one cut). By AI agents, Wed Nov 11 2026. No macro, syntax, notation, axiom, sorry.
-/
import Derived.Test.YtaikebigaiimaaaDoorChecked
import GoSem.Claim
import GoSem.ClaimJoined
import GoSem.ClaimMapViews
import Derived.JoinedTies
import Derived.KernelRfl
namespace Go.Proofs.YtaikebigaiimaaaDoor
/- THE CELL 'sum', in the pinned program and in every row, IS THE sha256 OF THE DUMP (.gsa) THAT YtaikebigaiimaaaDoorProg.lean LOADS. Nothing in Lean hashes anything: it is a label: what it is worth is what the hold of that sum in a sandbox is worth. -/
noncomputable def Tryd.pinned : Pinned := { name := "ytaikebigaiimaaadoor", sum := "f0fbf34c687748b644e9f0cf52befd374bbf5975151a0ed882fbabea0be0211c", checked := Tryd.checked }
namespace Rows
def none {H : Type} : Left H := { results := [], args := [] }

/- WHAT THE LISTED PACKAGE-LEVEL VARIABLES READ AS WHEN THE CALL BEGINS. Each datum BY PROGRAM (the guide's laid-datum.mjs) off the statement by which the dump's own 'gosem.cut.vars' lays the variable. In a bare row this is a premise. The card (YtaikebigaiimaaaDoorCards.lean) ties it to the program's text. -/
def laid_math_bits_deBruijn32tab {H : Type} : DataW H := .agg [.lit (.int .u8 0), .lit (.int .u8 1), .lit (.int .u8 28), .lit (.int .u8 2), .lit (.int .u8 29), .lit (.int .u8 14), .lit (.int .u8 24), .lit (.int .u8 3), .lit (.int .u8 30), .lit (.int .u8 22), .lit (.int .u8 20), .lit (.int .u8 15), .lit (.int .u8 25), .lit (.int .u8 17), .lit (.int .u8 4), .lit (.int .u8 8), .lit (.int .u8 31), .lit (.int .u8 27), .lit (.int .u8 13), .lit (.int .u8 23), .lit (.int .u8 21), .lit (.int .u8 19), .lit (.int .u8 16), .lit (.int .u8 7), .lit (.int .u8 26), .lit (.int .u8 12), .lit (.int .u8 18), .lit (.int .u8 6), .lit (.int .u8 11), .lit (.int .u8 5), .lit (.int .u8 10), .lit (.int .u8 9)]
def laid_math_bits_deBruijn64tab {H : Type} : DataW H := .agg [.lit (.int .u8 0), .lit (.int .u8 1), .lit (.int .u8 56), .lit (.int .u8 2), .lit (.int .u8 57), .lit (.int .u8 49), .lit (.int .u8 28), .lit (.int .u8 3), .lit (.int .u8 61), .lit (.int .u8 58), .lit (.int .u8 42), .lit (.int .u8 50), .lit (.int .u8 38), .lit (.int .u8 29), .lit (.int .u8 17), .lit (.int .u8 4), .lit (.int .u8 62), .lit (.int .u8 47), .lit (.int .u8 59), .lit (.int .u8 36), .lit (.int .u8 45), .lit (.int .u8 43), .lit (.int .u8 51), .lit (.int .u8 22), .lit (.int .u8 53), .lit (.int .u8 39), .lit (.int .u8 33), .lit (.int .u8 30), .lit (.int .u8 24), .lit (.int .u8 18), .lit (.int .u8 12), .lit (.int .u8 5), .lit (.int .u8 63), .lit (.int .u8 55), .lit (.int .u8 48), .lit (.int .u8 27), .lit (.int .u8 60), .lit (.int .u8 41), .lit (.int .u8 37), .lit (.int .u8 16), .lit (.int .u8 46), .lit (.int .u8 35), .lit (.int .u8 44), .lit (.int .u8 21), .lit (.int .u8 52), .lit (.int .u8 32), .lit (.int .u8 23), .lit (.int .u8 11), .lit (.int .u8 54), .lit (.int .u8 26), .lit (.int .u8 40), .lit (.int .u8 15), .lit (.int .u8 34), .lit (.int .u8 20), .lit (.int .u8 31), .lit (.int .u8 10), .lit (.int .u8 25), .lit (.int .u8 14), .lit (.int .u8 19), .lit (.int .u8 9), .lit (.int .u8 13), .lit (.int .u8 8), .lit (.int .u8 7), .lit (.int .u8 6)]
def laid_internal_strconv_uint64pow10 {H : Type} : DataW H := .agg [.lit (.int .u64 1), .lit (.int .u64 10), .lit (.int .u64 100), .lit (.int .u64 1000), .lit (.int .u64 10000), .lit (.int .u64 100000), .lit (.int .u64 1000000), .lit (.int .u64 10000000), .lit (.int .u64 100000000), .lit (.int .u64 1000000000), .lit (.int .u64 10000000000), .lit (.int .u64 100000000000), .lit (.int .u64 1000000000000), .lit (.int .u64 10000000000000), .lit (.int .u64 100000000000000), .lit (.int .u64 1000000000000000), .lit (.int .u64 10000000000000000), .lit (.int .u64 100000000000000000), .lit (.int .u64 1000000000000000000), .lit (.int .u64 10000000000000000000)]
def laid_strconv_ErrRange {H : Type} : DataW H := .iface "*errors.errorString" (.ptr (.agg [.lit (.string [118, 97, 108, 117, 101, 32, 111, 117, 116, 32, 111, 102, 32, 114, 97, 110, 103, 101])]))
def laid_strconv_ErrSyntax {H : Type} : DataW H := .iface "*errors.errorString" (.ptr (.agg [.lit (.string [105, 110, 118, 97, 108, 105, 100, 32, 115, 121, 110, 116, 97, 120])]))

/-- 'laws.FnExactYearFrom': WHATEVER THE INPUT: true; the input reads as it did. -/
def fnExactYearFromSpec : ChangeSpec := { name := "fnExactYearFrom", fn := fun _ => fun
  | [d] => { results := [.lit (.bool true)], args := [d] }
  | _ => none }
def fnExactYearFromRow : OpenClaim := { program := "ytaikebigaiimaaadoor", sum := "f0fbf34c687748b644e9f0cf52befd374bbf5975151a0ed882fbabea0be0211c", func := "loop.example/icecores/laws.FnExactYearFrom", spec := "fnExactYearFrom", inPlace := ["internal/bytealg.IndexByteString", "internal/bytealg.IndexString"], recurses := true, named := ["internal/bytealg.MaxLen", "strconv.ErrSyntax", "strconv.ErrRange", "internal/strconv.uint64pow10", "math/bits.deBruijn32tab", "math/bits.deBruijn64tab"], apart := false, laid := [("math/bits.deBruijn32tab", laid_math_bits_deBruijn32tab), ("math/bits.deBruijn64tab", laid_math_bits_deBruijn64tab), ("internal/strconv.uint64pow10", laid_internal_strconv_uint64pow10), ("strconv.ErrRange", laid_strconv_ErrRange), ("strconv.ErrSyntax", laid_strconv_ErrSyntax)] }
def FnExactYearFromSaid : Prop := fnExactYearFromRow.holds Tryd.pinned (OpenSpec.ofChange fnExactYearFromSpec)

/-- ITS FALSE NEIGHBOUR: 'it returns false'. Refute it at one input. -/
def fnExactYearFromWrong : ChangeSpec := { name := "fnExactYearFrom", fn := fun _ => fun
  | [d] => { results := [.lit (.bool false)], args := [d] }
  | _ => none }
def FnExactYearFromWrongFalsely : Prop := fnExactYearFromRow.holds Tryd.pinned (OpenSpec.ofChange fnExactYearFromWrong)

/-- 'laws.FnYearText': WHATEVER THE INPUT: true; the input reads as it did. -/
def fnYearTextSpec : ChangeSpec := { name := "fnYearText", fn := fun _ => fun
  | [d] => { results := [.lit (.bool true)], args := [d] }
  | _ => none }
def fnYearTextRow : OpenClaim := { program := "ytaikebigaiimaaadoor", sum := "f0fbf34c687748b644e9f0cf52befd374bbf5975151a0ed882fbabea0be0211c", func := "loop.example/icecores/laws.FnYearText", spec := "fnYearText", inPlace := ["internal/bytealg.IndexByteString", "internal/bytealg.IndexString"], recurses := true, named := ["internal/strconv.uint64pow10", "math/bits.deBruijn32tab", "math/bits.deBruijn64tab", "internal/bytealg.MaxLen", "strconv.ErrSyntax", "strconv.ErrRange"], apart := false, laid := [("math/bits.deBruijn32tab", laid_math_bits_deBruijn32tab), ("math/bits.deBruijn64tab", laid_math_bits_deBruijn64tab), ("internal/strconv.uint64pow10", laid_internal_strconv_uint64pow10), ("strconv.ErrRange", laid_strconv_ErrRange), ("strconv.ErrSyntax", laid_strconv_ErrSyntax)] }
def FnYearTextSaid : Prop := fnYearTextRow.holds Tryd.pinned (OpenSpec.ofChange fnYearTextSpec)

/-- ITS FALSE NEIGHBOUR: 'it returns false'. Refute it at one input. -/
def fnYearTextWrong : ChangeSpec := { name := "fnYearText", fn := fun _ => fun
  | [d] => { results := [.lit (.bool false)], args := [d] }
  | _ => none }
def FnYearTextWrongFalsely : Prop := fnYearTextRow.holds Tryd.pinned (OpenSpec.ofChange fnYearTextWrong)

/-- 'laws.FnYearFrom': WHATEVER THE INPUT: true; the input reads as it did. -/
def fnYearFromSpec : ChangeSpec := { name := "fnYearFrom", fn := fun _ => fun
  | [d] => { results := [.lit (.bool true)], args := [d] }
  | _ => none }
def fnYearFromRow : OpenClaim := { program := "ytaikebigaiimaaadoor", sum := "f0fbf34c687748b644e9f0cf52befd374bbf5975151a0ed882fbabea0be0211c", func := "loop.example/icecores/laws.FnYearFrom", spec := "fnYearFrom", inPlace := ["internal/bytealg.IndexByteString", "internal/bytealg.IndexString"], recurses := true, named := ["internal/bytealg.MaxLen", "strconv.ErrSyntax", "strconv.ErrRange", "internal/strconv.uint64pow10", "math/bits.deBruijn32tab", "math/bits.deBruijn64tab"], apart := false, laid := [("math/bits.deBruijn32tab", laid_math_bits_deBruijn32tab), ("math/bits.deBruijn64tab", laid_math_bits_deBruijn64tab), ("internal/strconv.uint64pow10", laid_internal_strconv_uint64pow10), ("strconv.ErrRange", laid_strconv_ErrRange), ("strconv.ErrSyntax", laid_strconv_ErrSyntax)] }
def FnYearFromSaid : Prop := fnYearFromRow.holds Tryd.pinned (OpenSpec.ofChange fnYearFromSpec)

/-- ITS FALSE NEIGHBOUR: 'it returns false'. Refute it at one input. -/
def fnYearFromWrong : ChangeSpec := { name := "fnYearFrom", fn := fun _ => fun
  | [d] => { results := [.lit (.bool false)], args := [d] }
  | _ => none }
def FnYearFromWrongFalsely : Prop := fnYearFromRow.holds Tryd.pinned (OpenSpec.ofChange fnYearFromWrong)

/-- 'laws.FnExactYearText': WHATEVER THE INPUT: true; the input reads as it did. -/
def fnExactYearTextSpec : ChangeSpec := { name := "fnExactYearText", fn := fun _ => fun
  | [d] => { results := [.lit (.bool true)], args := [d] }
  | _ => none }
def fnExactYearTextRow : OpenClaim := { program := "ytaikebigaiimaaadoor", sum := "f0fbf34c687748b644e9f0cf52befd374bbf5975151a0ed882fbabea0be0211c", func := "loop.example/icecores/laws.FnExactYearText", spec := "fnExactYearText", recurses := true, named := ["internal/strconv.uint64pow10", "math/bits.deBruijn32tab", "math/bits.deBruijn64tab"], apart := false, laid := [("math/bits.deBruijn32tab", laid_math_bits_deBruijn32tab), ("math/bits.deBruijn64tab", laid_math_bits_deBruijn64tab), ("internal/strconv.uint64pow10", laid_internal_strconv_uint64pow10)] }
def FnExactYearTextSaid : Prop := fnExactYearTextRow.holds Tryd.pinned (OpenSpec.ofChange fnExactYearTextSpec)

/-- ITS FALSE NEIGHBOUR: 'it returns false'. Refute it at one input. -/
def fnExactYearTextWrong : ChangeSpec := { name := "fnExactYearText", fn := fun _ => fun
  | [d] => { results := [.lit (.bool false)], args := [d] }
  | _ => none }
def FnExactYearTextWrongFalsely : Prop := fnExactYearTextRow.holds Tryd.pinned (OpenSpec.ofChange fnExactYearTextWrong)

/-- 'laws.FnYearTextEra': WHATEVER THE INPUT: true; the input reads as it did. -/
def fnYearTextEraSpec : ChangeSpec := { name := "fnYearTextEra", fn := fun _ => fun
  | [d] => { results := [.lit (.bool true)], args := [d] }
  | _ => none }
def fnYearTextEraRow : OpenClaim := { program := "ytaikebigaiimaaadoor", sum := "f0fbf34c687748b644e9f0cf52befd374bbf5975151a0ed882fbabea0be0211c", func := "loop.example/icecores/laws.FnYearTextEra", spec := "fnYearTextEra", recurses := true, named := ["internal/strconv.uint64pow10", "math/bits.deBruijn32tab", "math/bits.deBruijn64tab"], apart := false, laid := [("math/bits.deBruijn32tab", laid_math_bits_deBruijn32tab), ("math/bits.deBruijn64tab", laid_math_bits_deBruijn64tab), ("internal/strconv.uint64pow10", laid_internal_strconv_uint64pow10)] }
def FnYearTextEraSaid : Prop := fnYearTextEraRow.holds Tryd.pinned (OpenSpec.ofChange fnYearTextEraSpec)

/-- ITS FALSE NEIGHBOUR: 'it returns false'. Refute it at one input. -/
def fnYearTextEraWrong : ChangeSpec := { name := "fnYearTextEra", fn := fun _ => fun
  | [d] => { results := [.lit (.bool false)], args := [d] }
  | _ => none }
def FnYearTextEraWrongFalsely : Prop := fnYearTextEraRow.holds Tryd.pinned (OpenSpec.ofChange fnYearTextEraWrong)

/-- 'laws.FnYearTextNext': WHATEVER THE INPUT: true; the input reads as it did. -/
def fnYearTextNextSpec : ChangeSpec := { name := "fnYearTextNext", fn := fun _ => fun
  | [d] => { results := [.lit (.bool true)], args := [d] }
  | _ => none }
def fnYearTextNextRow : OpenClaim := { program := "ytaikebigaiimaaadoor", sum := "f0fbf34c687748b644e9f0cf52befd374bbf5975151a0ed882fbabea0be0211c", func := "loop.example/icecores/laws.FnYearTextNext", spec := "fnYearTextNext", recurses := true, named := ["internal/strconv.uint64pow10", "math/bits.deBruijn32tab", "math/bits.deBruijn64tab"], apart := false, laid := [("math/bits.deBruijn32tab", laid_math_bits_deBruijn32tab), ("math/bits.deBruijn64tab", laid_math_bits_deBruijn64tab), ("internal/strconv.uint64pow10", laid_internal_strconv_uint64pow10)] }
def FnYearTextNextSaid : Prop := fnYearTextNextRow.holds Tryd.pinned (OpenSpec.ofChange fnYearTextNextSpec)

/-- ITS FALSE NEIGHBOUR: 'it returns false'. Refute it at one input. -/
def fnYearTextNextWrong : ChangeSpec := { name := "fnYearTextNext", fn := fun _ => fun
  | [d] => { results := [.lit (.bool false)], args := [d] }
  | _ => none }
def FnYearTextNextWrongFalsely : Prop := fnYearTextNextRow.holds Tryd.pinned (OpenSpec.ofChange fnYearTextNextWrong)

/-- 'laws.FnYearOf': WHATEVER THE INPUT: true; the input reads as it did. -/
def fnYearOfSpec : ChangeSpec := { name := "fnYearOf", fn := fun _ => fun
  | [d] => { results := [.lit (.bool true)], args := [d] }
  | _ => none }
def fnYearOfRow : OpenClaim := { program := "ytaikebigaiimaaadoor", sum := "f0fbf34c687748b644e9f0cf52befd374bbf5975151a0ed882fbabea0be0211c", func := "loop.example/icecores/laws.FnYearOf", spec := "fnYearOf", named := ["internal/strconv.uint64pow10", "math/bits.deBruijn32tab", "math/bits.deBruijn64tab"], apart := false, laid := [("math/bits.deBruijn32tab", laid_math_bits_deBruijn32tab), ("math/bits.deBruijn64tab", laid_math_bits_deBruijn64tab), ("internal/strconv.uint64pow10", laid_internal_strconv_uint64pow10)] }
def FnYearOfSaid : Prop := fnYearOfRow.holds Tryd.pinned (OpenSpec.ofChange fnYearOfSpec)

/-- ITS FALSE NEIGHBOUR: 'it returns false'. Refute it at one input. -/
def fnYearOfWrong : ChangeSpec := { name := "fnYearOf", fn := fun _ => fun
  | [d] => { results := [.lit (.bool false)], args := [d] }
  | _ => none }
def FnYearOfWrongFalsely : Prop := fnYearOfRow.holds Tryd.pinned (OpenSpec.ofChange fnYearOfWrong)

/-- 'laws.FnExactFracText': WHATEVER THE INPUT: true; the input reads as it did. -/
def fnExactFracTextSpec : ChangeSpec := { name := "fnExactFracText", fn := fun _ => fun
  | [d] => { results := [.lit (.bool true)], args := [d] }
  | _ => none }
def fnExactFracTextRow : OpenClaim := { program := "ytaikebigaiimaaadoor", sum := "f0fbf34c687748b644e9f0cf52befd374bbf5975151a0ed882fbabea0be0211c", func := "loop.example/icecores/laws.FnExactFracText", spec := "fnExactFracText", recurses := true, named := ["internal/strconv.uint64pow10", "math/bits.deBruijn32tab", "math/bits.deBruijn64tab"], apart := false, laid := [("math/bits.deBruijn32tab", laid_math_bits_deBruijn32tab), ("math/bits.deBruijn64tab", laid_math_bits_deBruijn64tab), ("internal/strconv.uint64pow10", laid_internal_strconv_uint64pow10)] }
def FnExactFracTextSaid : Prop := fnExactFracTextRow.holds Tryd.pinned (OpenSpec.ofChange fnExactFracTextSpec)

/-- ITS FALSE NEIGHBOUR: 'it returns false'. Refute it at one input. -/
def fnExactFracTextWrong : ChangeSpec := { name := "fnExactFracText", fn := fun _ => fun
  | [d] => { results := [.lit (.bool false)], args := [d] }
  | _ => none }
def FnExactFracTextWrongFalsely : Prop := fnExactFracTextRow.holds Tryd.pinned (OpenSpec.ofChange fnExactFracTextWrong)

/-- 'laws.FnFracText': WHATEVER THE INPUT: true; the input reads as it did. -/
def fnFracTextSpec : ChangeSpec := { name := "fnFracText", fn := fun _ => fun
  | [d] => { results := [.lit (.bool true)], args := [d] }
  | _ => none }
def fnFracTextRow : OpenClaim := { program := "ytaikebigaiimaaadoor", sum := "f0fbf34c687748b644e9f0cf52befd374bbf5975151a0ed882fbabea0be0211c", func := "loop.example/icecores/laws.FnFracText", spec := "fnFracText", recurses := true, named := ["internal/strconv.uint64pow10", "math/bits.deBruijn32tab", "math/bits.deBruijn64tab"], apart := false, laid := [("math/bits.deBruijn32tab", laid_math_bits_deBruijn32tab), ("math/bits.deBruijn64tab", laid_math_bits_deBruijn64tab), ("internal/strconv.uint64pow10", laid_internal_strconv_uint64pow10)] }
def FnFracTextSaid : Prop := fnFracTextRow.holds Tryd.pinned (OpenSpec.ofChange fnFracTextSpec)

/-- ITS FALSE NEIGHBOUR: 'it returns false'. Refute it at one input. -/
def fnFracTextWrong : ChangeSpec := { name := "fnFracText", fn := fun _ => fun
  | [d] => { results := [.lit (.bool false)], args := [d] }
  | _ => none }
def FnFracTextWrongFalsely : Prop := fnFracTextRow.holds Tryd.pinned (OpenSpec.ofChange fnFracTextWrong)

/- THE SECOND FORM. 'bulk': how many values and letters a reading holds, each counted each time it is reached (what is shared counts as often as it is met; a slice's spare places count too). A statement '..UptoSaid' is the law's where the arguments, and the package variables that the reading takes, are together of bulk at most 1048576: NARROWER than '..Said'. Prove '..Said' where nothing that the law and all that it calls make is longer than what came in: it says more and counts as full. Else prove '..UptoSaid'. A law counts once. -/
mutual
def uptoBulk {H : Type} : DataW H → Nat
  | .lit (.string bytes) => bytes.length + 1
  | .lit _ => 1
  | .nil => 1
  | .ptr d => uptoBulk d + 1
  | .slice elems spare => uptoBulkAll elems + uptoBulkAll spare + 1
  | .agg parts => uptoBulkAll parts + 1
  | .iface _ d => uptoBulk d + 1
  | .map entries => uptoBulkEntries entries + 1
  | .held _ => 1
def uptoBulkAll {H : Type} : List (DataW H) → Nat
  | [] => 0
  | d :: r => uptoBulk d + uptoBulkAll r
def uptoBulkEntries {H : Type} : List (Lit × DataW H) → Nat
  | [] => 0
  | x :: r => uptoBulkEntry x + uptoBulkEntries r
def uptoBulkEntry {H : Type} : Lit × DataW H → Nat
  | (.string bytes, d) => bytes.length + uptoBulk d + 1
  | (_, d) => uptoBulk d + 1
 end
def uptoSmall : (H : Type) → List (DataW H) → Bool := fun _ ds => decide (uptoBulkAll ds ≤ 1048576)
def OpenSpec.upto (s : _root_.Go.ChangeSpec) : _root_.Go.OpenSpec := { _root_.Go.OpenSpec.ofChange s with cond := some uptoSmall }

/-- 'laws.FnExactYearFrom', WHERE WHAT IT READS IS OF BULK AT MOST 1048576: true; the input reads as it did. -/
def fnExactYearFromUptoRow : OpenClaim := { program := "ytaikebigaiimaaadoor", sum := "f0fbf34c687748b644e9f0cf52befd374bbf5975151a0ed882fbabea0be0211c", func := "loop.example/icecores/laws.FnExactYearFrom", spec := "fnExactYearFrom", inPlace := ["internal/bytealg.IndexByteString", "internal/bytealg.IndexString"], recurses := true, named := ["internal/bytealg.MaxLen", "strconv.ErrSyntax", "strconv.ErrRange", "internal/strconv.uint64pow10", "math/bits.deBruijn32tab", "math/bits.deBruijn64tab"], apart := false, laid := [("math/bits.deBruijn32tab", laid_math_bits_deBruijn32tab), ("math/bits.deBruijn64tab", laid_math_bits_deBruijn64tab), ("internal/strconv.uint64pow10", laid_internal_strconv_uint64pow10), ("strconv.ErrRange", laid_strconv_ErrRange), ("strconv.ErrSyntax", laid_strconv_ErrSyntax)], narrowed := true }
def FnExactYearFromUptoSaid : Prop := fnExactYearFromUptoRow.holds Tryd.pinned (OpenSpec.upto fnExactYearFromSpec)

/-- 'laws.FnYearText', WHERE WHAT IT READS IS OF BULK AT MOST 1048576: true; the input reads as it did. -/
def fnYearTextUptoRow : OpenClaim := { program := "ytaikebigaiimaaadoor", sum := "f0fbf34c687748b644e9f0cf52befd374bbf5975151a0ed882fbabea0be0211c", func := "loop.example/icecores/laws.FnYearText", spec := "fnYearText", inPlace := ["internal/bytealg.IndexByteString", "internal/bytealg.IndexString"], recurses := true, named := ["internal/strconv.uint64pow10", "math/bits.deBruijn32tab", "math/bits.deBruijn64tab", "internal/bytealg.MaxLen", "strconv.ErrSyntax", "strconv.ErrRange"], apart := false, laid := [("math/bits.deBruijn32tab", laid_math_bits_deBruijn32tab), ("math/bits.deBruijn64tab", laid_math_bits_deBruijn64tab), ("internal/strconv.uint64pow10", laid_internal_strconv_uint64pow10), ("strconv.ErrRange", laid_strconv_ErrRange), ("strconv.ErrSyntax", laid_strconv_ErrSyntax)], narrowed := true }
def FnYearTextUptoSaid : Prop := fnYearTextUptoRow.holds Tryd.pinned (OpenSpec.upto fnYearTextSpec)

/-- 'laws.FnYearFrom', WHERE WHAT IT READS IS OF BULK AT MOST 1048576: true; the input reads as it did. -/
def fnYearFromUptoRow : OpenClaim := { program := "ytaikebigaiimaaadoor", sum := "f0fbf34c687748b644e9f0cf52befd374bbf5975151a0ed882fbabea0be0211c", func := "loop.example/icecores/laws.FnYearFrom", spec := "fnYearFrom", inPlace := ["internal/bytealg.IndexByteString", "internal/bytealg.IndexString"], recurses := true, named := ["internal/bytealg.MaxLen", "strconv.ErrSyntax", "strconv.ErrRange", "internal/strconv.uint64pow10", "math/bits.deBruijn32tab", "math/bits.deBruijn64tab"], apart := false, laid := [("math/bits.deBruijn32tab", laid_math_bits_deBruijn32tab), ("math/bits.deBruijn64tab", laid_math_bits_deBruijn64tab), ("internal/strconv.uint64pow10", laid_internal_strconv_uint64pow10), ("strconv.ErrRange", laid_strconv_ErrRange), ("strconv.ErrSyntax", laid_strconv_ErrSyntax)], narrowed := true }
def FnYearFromUptoSaid : Prop := fnYearFromUptoRow.holds Tryd.pinned (OpenSpec.upto fnYearFromSpec)

/-- 'laws.FnExactYearText', WHERE WHAT IT READS IS OF BULK AT MOST 1048576: true; the input reads as it did. -/
def fnExactYearTextUptoRow : OpenClaim := { program := "ytaikebigaiimaaadoor", sum := "f0fbf34c687748b644e9f0cf52befd374bbf5975151a0ed882fbabea0be0211c", func := "loop.example/icecores/laws.FnExactYearText", spec := "fnExactYearText", recurses := true, named := ["internal/strconv.uint64pow10", "math/bits.deBruijn32tab", "math/bits.deBruijn64tab"], apart := false, laid := [("math/bits.deBruijn32tab", laid_math_bits_deBruijn32tab), ("math/bits.deBruijn64tab", laid_math_bits_deBruijn64tab), ("internal/strconv.uint64pow10", laid_internal_strconv_uint64pow10)], narrowed := true }
def FnExactYearTextUptoSaid : Prop := fnExactYearTextUptoRow.holds Tryd.pinned (OpenSpec.upto fnExactYearTextSpec)

/-- 'laws.FnYearTextEra', WHERE WHAT IT READS IS OF BULK AT MOST 1048576: true; the input reads as it did. -/
def fnYearTextEraUptoRow : OpenClaim := { program := "ytaikebigaiimaaadoor", sum := "f0fbf34c687748b644e9f0cf52befd374bbf5975151a0ed882fbabea0be0211c", func := "loop.example/icecores/laws.FnYearTextEra", spec := "fnYearTextEra", recurses := true, named := ["internal/strconv.uint64pow10", "math/bits.deBruijn32tab", "math/bits.deBruijn64tab"], apart := false, laid := [("math/bits.deBruijn32tab", laid_math_bits_deBruijn32tab), ("math/bits.deBruijn64tab", laid_math_bits_deBruijn64tab), ("internal/strconv.uint64pow10", laid_internal_strconv_uint64pow10)], narrowed := true }
def FnYearTextEraUptoSaid : Prop := fnYearTextEraUptoRow.holds Tryd.pinned (OpenSpec.upto fnYearTextEraSpec)

/-- 'laws.FnYearTextNext', WHERE WHAT IT READS IS OF BULK AT MOST 1048576: true; the input reads as it did. -/
def fnYearTextNextUptoRow : OpenClaim := { program := "ytaikebigaiimaaadoor", sum := "f0fbf34c687748b644e9f0cf52befd374bbf5975151a0ed882fbabea0be0211c", func := "loop.example/icecores/laws.FnYearTextNext", spec := "fnYearTextNext", recurses := true, named := ["internal/strconv.uint64pow10", "math/bits.deBruijn32tab", "math/bits.deBruijn64tab"], apart := false, laid := [("math/bits.deBruijn32tab", laid_math_bits_deBruijn32tab), ("math/bits.deBruijn64tab", laid_math_bits_deBruijn64tab), ("internal/strconv.uint64pow10", laid_internal_strconv_uint64pow10)], narrowed := true }
def FnYearTextNextUptoSaid : Prop := fnYearTextNextUptoRow.holds Tryd.pinned (OpenSpec.upto fnYearTextNextSpec)

/-- 'laws.FnYearOf', WHERE WHAT IT READS IS OF BULK AT MOST 1048576: true; the input reads as it did. -/
def fnYearOfUptoRow : OpenClaim := { program := "ytaikebigaiimaaadoor", sum := "f0fbf34c687748b644e9f0cf52befd374bbf5975151a0ed882fbabea0be0211c", func := "loop.example/icecores/laws.FnYearOf", spec := "fnYearOf", named := ["internal/strconv.uint64pow10", "math/bits.deBruijn32tab", "math/bits.deBruijn64tab"], apart := false, laid := [("math/bits.deBruijn32tab", laid_math_bits_deBruijn32tab), ("math/bits.deBruijn64tab", laid_math_bits_deBruijn64tab), ("internal/strconv.uint64pow10", laid_internal_strconv_uint64pow10)], narrowed := true }
def FnYearOfUptoSaid : Prop := fnYearOfUptoRow.holds Tryd.pinned (OpenSpec.upto fnYearOfSpec)

/-- 'laws.FnExactFracText', WHERE WHAT IT READS IS OF BULK AT MOST 1048576: true; the input reads as it did. -/
def fnExactFracTextUptoRow : OpenClaim := { program := "ytaikebigaiimaaadoor", sum := "f0fbf34c687748b644e9f0cf52befd374bbf5975151a0ed882fbabea0be0211c", func := "loop.example/icecores/laws.FnExactFracText", spec := "fnExactFracText", recurses := true, named := ["internal/strconv.uint64pow10", "math/bits.deBruijn32tab", "math/bits.deBruijn64tab"], apart := false, laid := [("math/bits.deBruijn32tab", laid_math_bits_deBruijn32tab), ("math/bits.deBruijn64tab", laid_math_bits_deBruijn64tab), ("internal/strconv.uint64pow10", laid_internal_strconv_uint64pow10)], narrowed := true }
def FnExactFracTextUptoSaid : Prop := fnExactFracTextUptoRow.holds Tryd.pinned (OpenSpec.upto fnExactFracTextSpec)

/-- 'laws.FnFracText', WHERE WHAT IT READS IS OF BULK AT MOST 1048576: true; the input reads as it did. -/
def fnFracTextUptoRow : OpenClaim := { program := "ytaikebigaiimaaadoor", sum := "f0fbf34c687748b644e9f0cf52befd374bbf5975151a0ed882fbabea0be0211c", func := "loop.example/icecores/laws.FnFracText", spec := "fnFracText", recurses := true, named := ["internal/strconv.uint64pow10", "math/bits.deBruijn32tab", "math/bits.deBruijn64tab"], apart := false, laid := [("math/bits.deBruijn32tab", laid_math_bits_deBruijn32tab), ("math/bits.deBruijn64tab", laid_math_bits_deBruijn64tab), ("internal/strconv.uint64pow10", laid_internal_strconv_uint64pow10)], narrowed := true }
def FnFracTextUptoSaid : Prop := fnFracTextUptoRow.holds Tryd.pinned (OpenSpec.upto fnFracTextSpec)

end Rows
end Go.Proofs.YtaikebigaiimaaaDoor
