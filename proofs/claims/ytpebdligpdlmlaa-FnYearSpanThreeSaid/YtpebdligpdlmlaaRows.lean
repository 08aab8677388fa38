/-
  No cell of these rows narrows 'for every input' (looked for: loops, veiled, ifaces, maps, wideKeys, modest, calm, conditions, laid).
  DERIVED. THE GIVEN ROWS OF THIS SEAT. 11 by the template 'for every input the law returns true; each argument reads behind the call as it read before'; 0 by the template 'total and deterministic' (their statements: YtpebdligpdlmlaaTotals.lean).
  GIVEN WITH THE SEED: the statements are not yours to turn. If you find one false, say at which input.
  Laid BY PROGRAM, IN A SANDBOX (cutbox-rows.mjs): the forced cells as the released guide's own fill.sh prints them over the translation 850a850ee75577d3… (all of the seat's roots in one cut). By AI agents, Wed Nov 11 2026. No macro, syntax, notation, axiom, sorry.
-/
import Derived.Test.YtpebdligpdlmlaaChecked
import GoSem.Claim
import GoSem.ClaimJoined
import GoSem.ClaimMapViews
import Derived.JoinedTies
import Derived.KernelRfl
namespace Go.Proofs.Ytpebdligpdlmlaa
/- THE CELL 'sum', in the pinned program and in every row, IS THE sha256 OF THE DUMP (.gsa) THAT YtpebdligpdlmlaaProg.lean LOADS. Nothing in Lean hashes anything: it is a label: what it is worth is what the hold of that sum in a sandbox is worth. -/
noncomputable def Try.pinned : Pinned := { name := "ytpebdligpdlmlaa", sum := "850a850ee75577d300c88b8281b37158ef24c882bd1d0c762a049f8dd68f92df", checked := Try.checked }
namespace Rows
def none {H : Type} : Left H := { results := [], args := [] }

/-- 'laws.FnExactConstants': WHATEVER THE INPUT: true; the input reads as it did. -/
def fnExactConstantsSpec : ChangeSpec := { name := "fnExactConstants", fn := fun _ => fun
  | [] => { results := [.lit (.bool true)], args := [] }
  | _ => none }
def fnExactConstantsRow : OpenClaim := { program := "ytpebdligpdlmlaa", sum := "850a850ee75577d300c88b8281b37158ef24c882bd1d0c762a049f8dd68f92df", func := "loop.example/icecores/laws.FnExactConstants", spec := "fnExactConstants", apart := false }
def FnExactConstantsSaid : Prop := fnExactConstantsRow.holds Try.pinned (OpenSpec.ofChange fnExactConstantsSpec)

/-- ITS FALSE NEIGHBOUR: 'it returns false'. Refute it at one input. -/
def fnExactConstantsWrong : ChangeSpec := { name := "fnExactConstants", fn := fun _ => fun
  | [] => { results := [.lit (.bool false)], args := [] }
  | _ => none }
def FnExactConstantsWrongFalsely : Prop := fnExactConstantsRow.holds Try.pinned (OpenSpec.ofChange fnExactConstantsWrong)

/-- 'laws.FnExactYearAge': WHATEVER THE INPUT: true; the input reads as it did. -/
def fnExactYearAgeSpec : ChangeSpec := { name := "fnExactYearAge", fn := fun _ => fun
  | [d] => { results := [.lit (.bool true)], args := [d] }
  | _ => none }
def fnExactYearAgeRow : OpenClaim := { program := "ytpebdligpdlmlaa", sum := "850a850ee75577d300c88b8281b37158ef24c882bd1d0c762a049f8dd68f92df", func := "loop.example/icecores/laws.FnExactYearAge", spec := "fnExactYearAge", apart := false }
def FnExactYearAgeSaid : Prop := fnExactYearAgeRow.holds Try.pinned (OpenSpec.ofChange fnExactYearAgeSpec)

/-- ITS FALSE NEIGHBOUR: 'it returns false'. Refute it at one input. -/
def fnExactYearAgeWrong : ChangeSpec := { name := "fnExactYearAge", fn := fun _ => fun
  | [d] => { results := [.lit (.bool false)], args := [d] }
  | _ => none }
def FnExactYearAgeWrongFalsely : Prop := fnExactYearAgeRow.holds Try.pinned (OpenSpec.ofChange fnExactYearAgeWrong)

/-- 'laws.FnExactYearOf': WHATEVER THE INPUT: true; the input reads as it did. -/
def fnExactYearOfSpec : ChangeSpec := { name := "fnExactYearOf", fn := fun _ => fun
  | [d] => { results := [.lit (.bool true)], args := [d] }
  | _ => none }
def fnExactYearOfRow : OpenClaim := { program := "ytpebdligpdlmlaa", sum := "850a850ee75577d300c88b8281b37158ef24c882bd1d0c762a049f8dd68f92df", func := "loop.example/icecores/laws.FnExactYearOf", spec := "fnExactYearOf", apart := false }
def FnExactYearOfSaid : Prop := fnExactYearOfRow.holds Try.pinned (OpenSpec.ofChange fnExactYearOfSpec)

/-- ITS FALSE NEIGHBOUR: 'it returns false'. Refute it at one input. -/
def fnExactYearOfWrong : ChangeSpec := { name := "fnExactYearOf", fn := fun _ => fun
  | [d] => { results := [.lit (.bool false)], args := [d] }
  | _ => none }
def FnExactYearOfWrongFalsely : Prop := fnExactYearOfRow.holds Try.pinned (OpenSpec.ofChange fnExactYearOfWrong)

/-- 'laws.FnExactYearOld': WHATEVER THE INPUT: true; the input reads as it did. -/
def fnExactYearOldSpec : ChangeSpec := { name := "fnExactYearOld", fn := fun _ => fun
  | [d] => { results := [.lit (.bool true)], args := [d] }
  | _ => none }
def fnExactYearOldRow : OpenClaim := { program := "ytpebdligpdlmlaa", sum := "850a850ee75577d300c88b8281b37158ef24c882bd1d0c762a049f8dd68f92df", func := "loop.example/icecores/laws.FnExactYearOld", spec := "fnExactYearOld", apart := false }
def FnExactYearOldSaid : Prop := fnExactYearOldRow.holds Try.pinned (OpenSpec.ofChange fnExactYearOldSpec)

/-- ITS FALSE NEIGHBOUR: 'it returns false'. Refute it at one input. -/
def fnExactYearOldWrong : ChangeSpec := { name := "fnExactYearOld", fn := fun _ => fun
  | [d] => { results := [.lit (.bool false)], args := [d] }
  | _ => none }
def FnExactYearOldWrongFalsely : Prop := fnExactYearOldRow.holds Try.pinned (OpenSpec.ofChange fnExactYearOldWrong)

/-- 'laws.FnExactYearSpan': WHATEVER THE INPUT: true; the input reads as it did. -/
def fnExactYearSpanSpec : ChangeSpec := { name := "fnExactYearSpan", fn := fun _ => fun
  | [d1, d2] => { results := [.lit (.bool true)], args := [d1, d2] }
  | _ => none }
def fnExactYearSpanRow : OpenClaim := { program := "ytpebdligpdlmlaa", sum := "850a850ee75577d300c88b8281b37158ef24c882bd1d0c762a049f8dd68f92df", func := "loop.example/icecores/laws.FnExactYearSpan", spec := "fnExactYearSpan", apart := false }
def FnExactYearSpanSaid : Prop := fnExactYearSpanRow.holds Try.pinned (OpenSpec.ofChange fnExactYearSpanSpec)

/-- ITS FALSE NEIGHBOUR: 'it returns false'. Refute it at one input. -/
def fnExactYearSpanWrong : ChangeSpec := { name := "fnExactYearSpan", fn := fun _ => fun
  | [d1, d2] => { results := [.lit (.bool false)], args := [d1, d2] }
  | _ => none }
def FnExactYearSpanWrongFalsely : Prop := fnExactYearSpanRow.holds Try.pinned (OpenSpec.ofChange fnExactYearSpanWrong)

/-- 'laws.FnYearOld': WHATEVER THE INPUT: true; the input reads as it did. -/
def fnYearOldSpec : ChangeSpec := { name := "fnYearOld", fn := fun _ => fun
  | [d] => { results := [.lit (.bool true)], args := [d] }
  | _ => none }
def fnYearOldRow : OpenClaim := { program := "ytpebdligpdlmlaa", sum := "850a850ee75577d300c88b8281b37158ef24c882bd1d0c762a049f8dd68f92df", func := "loop.example/icecores/laws.FnYearOld", spec := "fnYearOld", apart := false }
def FnYearOldSaid : Prop := fnYearOldRow.holds Try.pinned (OpenSpec.ofChange fnYearOldSpec)

/-- ITS FALSE NEIGHBOUR: 'it returns false'. Refute it at one input. -/
def fnYearOldWrong : ChangeSpec := { name := "fnYearOld", fn := fun _ => fun
  | [d] => { results := [.lit (.bool false)], args := [d] }
  | _ => none }
def FnYearOldWrongFalsely : Prop := fnYearOldRow.holds Try.pinned (OpenSpec.ofChange fnYearOldWrong)

/-- 'laws.FnYearOfRange': WHATEVER THE INPUT: true; the input reads as it did. -/
def fnYearOfRangeSpec : ChangeSpec := { name := "fnYearOfRange", fn := fun _ => fun
  | [d] => { results := [.lit (.bool true)], args := [d] }
  | _ => none }
def fnYearOfRangeRow : OpenClaim := { program := "ytpebdligpdlmlaa", sum := "850a850ee75577d300c88b8281b37158ef24c882bd1d0c762a049f8dd68f92df", func := "loop.example/icecores/laws.FnYearOfRange", spec := "fnYearOfRange", apart := false }
def FnYearOfRangeSaid : Prop := fnYearOfRangeRow.holds Try.pinned (OpenSpec.ofChange fnYearOfRangeSpec)

/-- ITS FALSE NEIGHBOUR: 'it returns false'. Refute it at one input. -/
def fnYearOfRangeWrong : ChangeSpec := { name := "fnYearOfRange", fn := fun _ => fun
  | [d] => { results := [.lit (.bool false)], args := [d] }
  | _ => none }
def FnYearOfRangeWrongFalsely : Prop := fnYearOfRangeRow.holds Try.pinned (OpenSpec.ofChange fnYearOfRangeWrong)

/-- 'laws.FnYearAge': WHATEVER THE INPUT: true; the input reads as it did. -/
def fnYearAgeSpec : ChangeSpec := { name := "fnYearAge", fn := fun _ => fun
  | [d] => { results := [.lit (.bool true)], args := [d] }
  | _ => none }
def fnYearAgeRow : OpenClaim := { program := "ytpebdligpdlmlaa", sum := "850a850ee75577d300c88b8281b37158ef24c882bd1d0c762a049f8dd68f92df", func := "loop.example/icecores/laws.FnYearAge", spec := "fnYearAge", apart := false }
def FnYearAgeSaid : Prop := fnYearAgeRow.holds Try.pinned (OpenSpec.ofChange fnYearAgeSpec)

/-- ITS FALSE NEIGHBOUR: 'it returns false'. Refute it at one input. -/
def fnYearAgeWrong : ChangeSpec := { name := "fnYearAge", fn := fun _ => fun
  | [d] => { results := [.lit (.bool false)], args := [d] }
  | _ => none }
def FnYearAgeWrongFalsely : Prop := fnYearAgeRow.holds Try.pinned (OpenSpec.ofChange fnYearAgeWrong)

/-- 'laws.FnYearSpan': WHATEVER THE INPUT: true; the input reads as it did. -/
def fnYearSpanSpec : ChangeSpec := { name := "fnYearSpan", fn := fun _ => fun
  | [d] => { results := [.lit (.bool true)], args := [d] }
  | _ => none }
def fnYearSpanRow : OpenClaim := { program := "ytpebdligpdlmlaa", sum := "850a850ee75577d300c88b8281b37158ef24c882bd1d0c762a049f8dd68f92df", func := "loop.example/icecores/laws.FnYearSpan", spec := "fnYearSpan", apart := false }
def FnYearSpanSaid : Prop := fnYearSpanRow.holds Try.pinned (OpenSpec.ofChange fnYearSpanSpec)

/-- ITS FALSE NEIGHBOUR: 'it returns false'. Refute it at one input. -/
def fnYearSpanWrong : ChangeSpec := { name := "fnYearSpan", fn := fun _ => fun
  | [d] => { results := [.lit (.bool false)], args := [d] }
  | _ => none }
def FnYearSpanWrongFalsely : Prop := fnYearSpanRow.holds Try.pinned (OpenSpec.ofChange fnYearSpanWrong)

/-- 'laws.FnYearSpanEra': WHATEVER THE INPUT: true; the input reads as it did. -/
def fnYearSpanEraSpec : ChangeSpec := { name := "fnYearSpanEra", fn := fun _ => fun
  | [d] => { results := [.lit (.bool true)], args := [d] }
  | _ => none }
def fnYearSpanEraRow : OpenClaim := { program := "ytpebdligpdlmlaa", sum := "850a850ee75577d300c88b8281b37158ef24c882bd1d0c762a049f8dd68f92df", func := "loop.example/icecores/laws.FnYearSpanEra", spec := "fnYearSpanEra", apart := false }
def FnYearSpanEraSaid : Prop := fnYearSpanEraRow.holds Try.pinned (OpenSpec.ofChange fnYearSpanEraSpec)

/-- ITS FALSE NEIGHBOUR: 'it returns false'. Refute it at one input. -/
def fnYearSpanEraWrong : ChangeSpec := { name := "fnYearSpanEra", fn := fun _ => fun
  | [d] => { results := [.lit (.bool false)], args := [d] }
  | _ => none }
def FnYearSpanEraWrongFalsely : Prop := fnYearSpanEraRow.holds Try.pinned (OpenSpec.ofChange fnYearSpanEraWrong)

/-- 'laws.FnYearSpanThree': WHATEVER THE INPUT: true; the input reads as it did. -/
def fnYearSpanThreeSpec : ChangeSpec := { name := "fnYearSpanThree", fn := fun _ => fun
  | [d1, d2] => { results := [.lit (.bool true)], args := [d1, d2] }
  | _ => none }
def fnYearSpanThreeRow : OpenClaim := { program := "ytpebdligpdlmlaa", sum := "850a850ee75577d300c88b8281b37158ef24c882bd1d0c762a049f8dd68f92df", func := "loop.example/icecores/laws.FnYearSpanThree", spec := "fnYearSpanThree", apart := false }
def FnYearSpanThreeSaid : Prop := fnYearSpanThreeRow.holds Try.pinned (OpenSpec.ofChange fnYearSpanThreeSpec)

/-- ITS FALSE NEIGHBOUR: 'it returns false'. Refute it at one input. -/
def fnYearSpanThreeWrong : ChangeSpec := { name := "fnYearSpanThree", fn := fun _ => fun
  | [d1, d2] => { results := [.lit (.bool false)], args := [d1, d2] }
  | _ => none }
def FnYearSpanThreeWrongFalsely : Prop := fnYearSpanThreeRow.holds Try.pinned (OpenSpec.ofChange fnYearSpanThreeWrong)

/- THE SECOND FORM. 'bulk': how many values and letters a reading holds, each counted each time it is reached (what is shared counts as often as it is met; a slice's spare places count too). A statement '..UptoSaid' is the law's where the arguments, and the package variables that the reading takes, are together of bulk at most 1048576: NARROWER than '..Said'. Prove '..Said' where nothing that the law and all that it calls make is longer than what came in: it says more and counts as full. Else prove '..UptoSaid'. A law counts once. -/
mutual
def uptoBulk {H : Type} : DataW H → Nat
  | .lit (.string bytes) => bytes.length + 1
  | .lit _ => 1
  | .nil => 1
  | .ptr d => uptoBulk d + 1
  | .slice elems spare => uptoBulkAll elems + uptoBulkAll spare + 1
  | .agg parts => uptoBulkAll parts + 1
  | .iface _ d => uptoBulk d + 1
  | .map entries => uptoBulkEntries entries + 1
  | .held _ => 1
def uptoBulkAll {H : Type} : List (DataW H) → Nat
  | [] => 0
  | d :: r => uptoBulk d + uptoBulkAll r
def uptoBulkEntries {H : Type} : List (Lit × DataW H) → Nat
  | [] => 0
  | x :: r => uptoBulkEntry x + uptoBulkEntries r
def uptoBulkEntry {H : Type} : Lit × DataW H → Nat
  | (.string bytes, d) => bytes.length + uptoBulk d + 1
  | (_, d) => uptoBulk d + 1
 end
def uptoSmall : (H : Type) → List (DataW H) → Bool := fun _ ds => decide (uptoBulkAll ds ≤ 1048576)
def OpenSpec.upto (s : _root_.Go.ChangeSpec) : _root_.Go.OpenSpec := { _root_.Go.OpenSpec.ofChange s with cond := some uptoSmall }

/-- 'laws.FnExactConstants', WHERE WHAT IT READS IS OF BULK AT MOST 1048576: true; the input reads as it did. -/
def fnExactConstantsUptoRow : OpenClaim := { program := "ytpebdligpdlmlaa", sum := "850a850ee75577d300c88b8281b37158ef24c882bd1d0c762a049f8dd68f92df", func := "loop.example/icecores/laws.FnExactConstants", spec := "fnExactConstants", apart := false, narrowed := true }
def FnExactConstantsUptoSaid : Prop := fnExactConstantsUptoRow.holds Try.pinned (OpenSpec.upto fnExactConstantsSpec)

/-- 'laws.FnExactYearAge', WHERE WHAT IT READS IS OF BULK AT MOST 1048576: true; the input reads as it did. -/
def fnExactYearAgeUptoRow : OpenClaim := { program := "ytpebdligpdlmlaa", sum := "850a850ee75577d300c88b8281b37158ef24c882bd1d0c762a049f8dd68f92df", func := "loop.example/icecores/laws.FnExactYearAge", spec := "fnExactYearAge", apart := false, narrowed := true }
def FnExactYearAgeUptoSaid : Prop := fnExactYearAgeUptoRow.holds Try.pinned (OpenSpec.upto fnExactYearAgeSpec)

/-- 'laws.FnExactYearOf', WHERE WHAT IT READS IS OF BULK AT MOST 1048576: true; the input reads as it did. -/
def fnExactYearOfUptoRow : OpenClaim := { program := "ytpebdligpdlmlaa", sum := "850a850ee75577d300c88b8281b37158ef24c882bd1d0c762a049f8dd68f92df", func := "loop.example/icecores/laws.FnExactYearOf", spec := "fnExactYearOf", apart := false, narrowed := true }
def FnExactYearOfUptoSaid : Prop := fnExactYearOfUptoRow.holds Try.pinned (OpenSpec.upto fnExactYearOfSpec)

/-- 'laws.FnExactYearOld', WHERE WHAT IT READS IS OF BULK AT MOST 1048576: true; the input reads as it did. -/
def fnExactYearOldUptoRow : OpenClaim := { program := "ytpebdligpdlmlaa", sum := "850a850ee75577d300c88b8281b37158ef24c882bd1d0c762a049f8dd68f92df", func := "loop.example/icecores/laws.FnExactYearOld", spec := "fnExactYearOld", apart := false, narrowed := true }
def FnExactYearOldUptoSaid : Prop := fnExactYearOldUptoRow.holds Try.pinned (OpenSpec.upto fnExactYearOldSpec)

/-- 'laws.FnExactYearSpan', WHERE WHAT IT READS IS OF BULK AT MOST 1048576: true; the input reads as it did. -/
def fnExactYearSpanUptoRow : OpenClaim := { program := "ytpebdligpdlmlaa", sum := "850a850ee75577d300c88b8281b37158ef24c882bd1d0c762a049f8dd68f92df", func := "loop.example/icecores/laws.FnExactYearSpan", spec := "fnExactYearSpan", apart := false, narrowed := true }
def FnExactYearSpanUptoSaid : Prop := fnExactYearSpanUptoRow.holds Try.pinned (OpenSpec.upto fnExactYearSpanSpec)

/-- 'laws.FnYearOld', WHERE WHAT IT READS IS OF BULK AT MOST 1048576: true; the input reads as it did. -/
def fnYearOldUptoRow : OpenClaim := { program := "ytpebdligpdlmlaa", sum := "850a850ee75577d300c88b8281b37158ef24c882bd1d0c762a049f8dd68f92df", func := "loop.example/icecores/laws.FnYearOld", spec := "fnYearOld", apart := false, narrowed := true }
def FnYearOldUptoSaid : Prop := fnYearOldUptoRow.holds Try.pinned (OpenSpec.upto fnYearOldSpec)

/-- 'laws.FnYearOfRange', WHERE WHAT IT READS IS OF BULK AT MOST 1048576: true; the input reads as it did. -/
def fnYearOfRangeUptoRow : OpenClaim := { program := "ytpebdligpdlmlaa", sum := "850a850ee75577d300c88b8281b37158ef24c882bd1d0c762a049f8dd68f92df", func := "loop.example/icecores/laws.FnYearOfRange", spec := "fnYearOfRange", apart := false, narrowed := true }
def FnYearOfRangeUptoSaid : Prop := fnYearOfRangeUptoRow.holds Try.pinned (OpenSpec.upto fnYearOfRangeSpec)

/-- 'laws.FnYearAge', WHERE WHAT IT READS IS OF BULK AT MOST 1048576: true; the input reads as it did. -/
def fnYearAgeUptoRow : OpenClaim := { program := "ytpebdligpdlmlaa", sum := "850a850ee75577d300c88b8281b37158ef24c882bd1d0c762a049f8dd68f92df", func := "loop.example/icecores/laws.FnYearAge", spec := "fnYearAge", apart := false, narrowed := true }
def FnYearAgeUptoSaid : Prop := fnYearAgeUptoRow.holds Try.pinned (OpenSpec.upto fnYearAgeSpec)

/-- 'laws.FnYearSpan', WHERE WHAT IT READS IS OF BULK AT MOST 1048576: true; the input reads as it did. -/
def fnYearSpanUptoRow : OpenClaim := { program := "ytpebdligpdlmlaa", sum := "850a850ee75577d300c88b8281b37158ef24c882bd1d0c762a049f8dd68f92df", func := "loop.example/icecores/laws.FnYearSpan", spec := "fnYearSpan", apart := false, narrowed := true }
def FnYearSpanUptoSaid : Prop := fnYearSpanUptoRow.holds Try.pinned (OpenSpec.upto fnYearSpanSpec)

/-- 'laws.FnYearSpanEra', WHERE WHAT IT READS IS OF BULK AT MOST 1048576: true; the input reads as it did. -/
def fnYearSpanEraUptoRow : OpenClaim := { program := "ytpebdligpdlmlaa", sum := "850a850ee75577d300c88b8281b37158ef24c882bd1d0c762a049f8dd68f92df", func := "loop.example/icecores/laws.FnYearSpanEra", spec := "fnYearSpanEra", apart := false, narrowed := true }
def FnYearSpanEraUptoSaid : Prop := fnYearSpanEraUptoRow.holds Try.pinned (OpenSpec.upto fnYearSpanEraSpec)

/-- 'laws.FnYearSpanThree', WHERE WHAT IT READS IS OF BULK AT MOST 1048576: true; the input reads as it did. -/
def fnYearSpanThreeUptoRow : OpenClaim := { program := "ytpebdligpdlmlaa", sum := "850a850ee75577d300c88b8281b37158ef24c882bd1d0c762a049f8dd68f92df", func := "loop.example/icecores/laws.FnYearSpanThree", spec := "fnYearSpanThree", apart := false, narrowed := true }
def FnYearSpanThreeUptoSaid : Prop := fnYearSpanThreeUptoRow.holds Try.pinned (OpenSpec.upto fnYearSpanThreeSpec)

end Rows
end Go.Proofs.Ytpebdligpdlmlaa
