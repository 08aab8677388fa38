/-
  No cell of these rows narrows 'for every input' (looked for: loops, veiled, ifaces, maps, wideKeys, modest, calm, conditions, laid).
  DERIVED. THE GIVEN ROWS OF THIS SEAT. 12 by the template 'for every input the law returns true; each argument reads behind the call as it read before'; 0 by the template 'total and deterministic' (their statements: YtodjnmjdilgocaaTotals.lean).
  GIVEN WITH THE SEED: the statements are not yours to turn. If you find one false, say at which input.
  Laid BY PROGRAM, IN A SANDBOX (cutbox-rows.mjs): the forced cells as the released guide's own fill.sh prints them over the translation 9425e8947ff53e28… (all of the seat's roots in one cut). By AI agents, Wed Nov 11 2026. No macro, syntax, notation, axiom, sorry.
-/
import Derived.Test.YtodjnmjdilgocaaChecked
import GoSem.Claim
import GoSem.ClaimJoined
import GoSem.ClaimMapViews
import Derived.JoinedTies
import Derived.KernelRfl
namespace Go.Proofs.Ytodjnmjdilgocaa
/- THE CELL 'sum', in the pinned program and in every row, IS THE sha256 OF THE DUMP (.gsa) THAT YtodjnmjdilgocaaProg.lean LOADS. Nothing in Lean hashes anything: it is a label: what it is worth is what the hold of that sum in a sandbox is worth. -/
noncomputable def Try.pinned : Pinned := { name := "ytodjnmjdilgocaa", sum := "9425e8947ff53e28044cda88919ddd16696ca56bda18fae78e4bdeb2ebd8a93f", checked := Try.checked }
namespace Rows
def none {H : Type} : Left H := { results := [], args := [] }

/-- 'laws.FnExactFracValid': WHATEVER THE INPUT: true; the input reads as it did. -/
def fnExactFracValidSpec : ChangeSpec := { name := "fnExactFracValid", fn := fun _ => fun
  | [d] => { results := [.lit (.bool true)], args := [d] }
  | _ => none }
def fnExactFracValidRow : OpenClaim := { program := "ytodjnmjdilgocaa", sum := "9425e8947ff53e28044cda88919ddd16696ca56bda18fae78e4bdeb2ebd8a93f", func := "loop.example/icecores/laws.FnExactFracValid", spec := "fnExactFracValid", apart := false }
def FnExactFracValidSaid : Prop := fnExactFracValidRow.holds Try.pinned (OpenSpec.ofChange fnExactFracValidSpec)

/-- ITS FALSE NEIGHBOUR: 'it returns false'. Refute it at one input. -/
def fnExactFracValidWrong : ChangeSpec := { name := "fnExactFracValid", fn := fun _ => fun
  | [d] => { results := [.lit (.bool false)], args := [d] }
  | _ => none }
def FnExactFracValidWrongFalsely : Prop := fnExactFracValidRow.holds Try.pinned (OpenSpec.ofChange fnExactFracValidWrong)

/-- 'laws.FnExactFracLess': WHATEVER THE INPUT: true; the input reads as it did. -/
def fnExactFracLessSpec : ChangeSpec := { name := "fnExactFracLess", fn := fun _ => fun
  | [d1, d2] => { results := [.lit (.bool true)], args := [d1, d2] }
  | _ => none }
def fnExactFracLessRow : OpenClaim := { program := "ytodjnmjdilgocaa", sum := "9425e8947ff53e28044cda88919ddd16696ca56bda18fae78e4bdeb2ebd8a93f", func := "loop.example/icecores/laws.FnExactFracLess", spec := "fnExactFracLess", apart := false }
def FnExactFracLessSaid : Prop := fnExactFracLessRow.holds Try.pinned (OpenSpec.ofChange fnExactFracLessSpec)

/-- ITS FALSE NEIGHBOUR: 'it returns false'. Refute it at one input. -/
def fnExactFracLessWrong : ChangeSpec := { name := "fnExactFracLess", fn := fun _ => fun
  | [d1, d2] => { results := [.lit (.bool false)], args := [d1, d2] }
  | _ => none }
def FnExactFracLessWrongFalsely : Prop := fnExactFracLessRow.holds Try.pinned (OpenSpec.ofChange fnExactFracLessWrong)

/-- 'laws.FnExactFracFloor': WHATEVER THE INPUT: true; the input reads as it did. -/
def fnExactFracFloorSpec : ChangeSpec := { name := "fnExactFracFloor", fn := fun _ => fun
  | [d] => { results := [.lit (.bool true)], args := [d] }
  | _ => none }
def fnExactFracFloorRow : OpenClaim := { program := "ytodjnmjdilgocaa", sum := "9425e8947ff53e28044cda88919ddd16696ca56bda18fae78e4bdeb2ebd8a93f", func := "loop.example/icecores/laws.FnExactFracFloor", spec := "fnExactFracFloor", apart := false }
def FnExactFracFloorSaid : Prop := fnExactFracFloorRow.holds Try.pinned (OpenSpec.ofChange fnExactFracFloorSpec)

/-- ITS FALSE NEIGHBOUR: 'it returns false'. Refute it at one input. -/
def fnExactFracFloorWrong : ChangeSpec := { name := "fnExactFracFloor", fn := fun _ => fun
  | [d] => { results := [.lit (.bool false)], args := [d] }
  | _ => none }
def FnExactFracFloorWrongFalsely : Prop := fnExactFracFloorRow.holds Try.pinned (OpenSpec.ofChange fnExactFracFloorWrong)

/-- 'laws.FnExactFracOf': WHATEVER THE INPUT: true; the input reads as it did. -/
def fnExactFracOfSpec : ChangeSpec := { name := "fnExactFracOf", fn := fun _ => fun
  | [d1, d2] => { results := [.lit (.bool true)], args := [d1, d2] }
  | _ => none }
def fnExactFracOfRow : OpenClaim := { program := "ytodjnmjdilgocaa", sum := "9425e8947ff53e28044cda88919ddd16696ca56bda18fae78e4bdeb2ebd8a93f", func := "loop.example/icecores/laws.FnExactFracOf", spec := "fnExactFracOf", apart := false }
def FnExactFracOfSaid : Prop := fnExactFracOfRow.holds Try.pinned (OpenSpec.ofChange fnExactFracOfSpec)

/-- ITS FALSE NEIGHBOUR: 'it returns false'. Refute it at one input. -/
def fnExactFracOfWrong : ChangeSpec := { name := "fnExactFracOf", fn := fun _ => fun
  | [d1, d2] => { results := [.lit (.bool false)], args := [d1, d2] }
  | _ => none }
def FnExactFracOfWrongFalsely : Prop := fnExactFracOfRow.holds Try.pinned (OpenSpec.ofChange fnExactFracOfWrong)

/-- 'laws.FnExactFracAdd': WHATEVER THE INPUT: true; the input reads as it did. -/
def fnExactFracAddSpec : ChangeSpec := { name := "fnExactFracAdd", fn := fun _ => fun
  | [d1, d2] => { results := [.lit (.bool true)], args := [d1, d2] }
  | _ => none }
def fnExactFracAddRow : OpenClaim := { program := "ytodjnmjdilgocaa", sum := "9425e8947ff53e28044cda88919ddd16696ca56bda18fae78e4bdeb2ebd8a93f", func := "loop.example/icecores/laws.FnExactFracAdd", spec := "fnExactFracAdd", apart := false }
def FnExactFracAddSaid : Prop := fnExactFracAddRow.holds Try.pinned (OpenSpec.ofChange fnExactFracAddSpec)

/-- ITS FALSE NEIGHBOUR: 'it returns false'. Refute it at one input. -/
def fnExactFracAddWrong : ChangeSpec := { name := "fnExactFracAdd", fn := fun _ => fun
  | [d1, d2] => { results := [.lit (.bool false)], args := [d1, d2] }
  | _ => none }
def FnExactFracAddWrongFalsely : Prop := fnExactFracAddRow.holds Try.pinned (OpenSpec.ofChange fnExactFracAddWrong)

/-- 'laws.FnExactFracDiv': WHATEVER THE INPUT: true; the input reads as it did. -/
def fnExactFracDivSpec : ChangeSpec := { name := "fnExactFracDiv", fn := fun _ => fun
  | [d1, d2] => { results := [.lit (.bool true)], args := [d1, d2] }
  | _ => none }
def fnExactFracDivRow : OpenClaim := { program := "ytodjnmjdilgocaa", sum := "9425e8947ff53e28044cda88919ddd16696ca56bda18fae78e4bdeb2ebd8a93f", func := "loop.example/icecores/laws.FnExactFracDiv", spec := "fnExactFracDiv", apart := false }
def FnExactFracDivSaid : Prop := fnExactFracDivRow.holds Try.pinned (OpenSpec.ofChange fnExactFracDivSpec)

/-- ITS FALSE NEIGHBOUR: 'it returns false'. Refute it at one input. -/
def fnExactFracDivWrong : ChangeSpec := { name := "fnExactFracDiv", fn := fun _ => fun
  | [d1, d2] => { results := [.lit (.bool false)], args := [d1, d2] }
  | _ => none }
def FnExactFracDivWrongFalsely : Prop := fnExactFracDivRow.holds Try.pinned (OpenSpec.ofChange fnExactFracDivWrong)

/-- 'laws.FnExactFracMul': WHATEVER THE INPUT: true; the input reads as it did. -/
def fnExactFracMulSpec : ChangeSpec := { name := "fnExactFracMul", fn := fun _ => fun
  | [d1, d2] => { results := [.lit (.bool true)], args := [d1, d2] }
  | _ => none }
def fnExactFracMulRow : OpenClaim := { program := "ytodjnmjdilgocaa", sum := "9425e8947ff53e28044cda88919ddd16696ca56bda18fae78e4bdeb2ebd8a93f", func := "loop.example/icecores/laws.FnExactFracMul", spec := "fnExactFracMul", apart := false }
def FnExactFracMulSaid : Prop := fnExactFracMulRow.holds Try.pinned (OpenSpec.ofChange fnExactFracMulSpec)

/-- ITS FALSE NEIGHBOUR: 'it returns false'. Refute it at one input. -/
def fnExactFracMulWrong : ChangeSpec := { name := "fnExactFracMul", fn := fun _ => fun
  | [d1, d2] => { results := [.lit (.bool false)], args := [d1, d2] }
  | _ => none }
def FnExactFracMulWrongFalsely : Prop := fnExactFracMulRow.holds Try.pinned (OpenSpec.ofChange fnExactFracMulWrong)

/-- 'laws.FnExactFracSub': WHATEVER THE INPUT: true; the input reads as it did. -/
def fnExactFracSubSpec : ChangeSpec := { name := "fnExactFracSub", fn := fun _ => fun
  | [d1, d2] => { results := [.lit (.bool true)], args := [d1, d2] }
  | _ => none }
def fnExactFracSubRow : OpenClaim := { program := "ytodjnmjdilgocaa", sum := "9425e8947ff53e28044cda88919ddd16696ca56bda18fae78e4bdeb2ebd8a93f", func := "loop.example/icecores/laws.FnExactFracSub", spec := "fnExactFracSub", apart := false }
def FnExactFracSubSaid : Prop := fnExactFracSubRow.holds Try.pinned (OpenSpec.ofChange fnExactFracSubSpec)

/-- ITS FALSE NEIGHBOUR: 'it returns false'. Refute it at one input. -/
def fnExactFracSubWrong : ChangeSpec := { name := "fnExactFracSub", fn := fun _ => fun
  | [d1, d2] => { results := [.lit (.bool false)], args := [d1, d2] }
  | _ => none }
def FnExactFracSubWrongFalsely : Prop := fnExactFracSubRow.holds Try.pinned (OpenSpec.ofChange fnExactFracSubWrong)

/-- 'laws.FnFracOf': WHATEVER THE INPUT: true; the input reads as it did. -/
def fnFracOfSpec : ChangeSpec := { name := "fnFracOf", fn := fun _ => fun
  | [d] => { results := [.lit (.bool true)], args := [d] }
  | _ => none }
def fnFracOfRow : OpenClaim := { program := "ytodjnmjdilgocaa", sum := "9425e8947ff53e28044cda88919ddd16696ca56bda18fae78e4bdeb2ebd8a93f", func := "loop.example/icecores/laws.FnFracOf", spec := "fnFracOf", apart := false }
def FnFracOfSaid : Prop := fnFracOfRow.holds Try.pinned (OpenSpec.ofChange fnFracOfSpec)

/-- ITS FALSE NEIGHBOUR: 'it returns false'. Refute it at one input. -/
def fnFracOfWrong : ChangeSpec := { name := "fnFracOf", fn := fun _ => fun
  | [d] => { results := [.lit (.bool false)], args := [d] }
  | _ => none }
def FnFracOfWrongFalsely : Prop := fnFracOfRow.holds Try.pinned (OpenSpec.ofChange fnFracOfWrong)

/-- 'laws.FnFracOfTwice': WHATEVER THE INPUT: true; the input reads as it did. -/
def fnFracOfTwiceSpec : ChangeSpec := { name := "fnFracOfTwice", fn := fun _ => fun
  | [d1, d2] => { results := [.lit (.bool true)], args := [d1, d2] }
  | _ => none }
def fnFracOfTwiceRow : OpenClaim := { program := "ytodjnmjdilgocaa", sum := "9425e8947ff53e28044cda88919ddd16696ca56bda18fae78e4bdeb2ebd8a93f", func := "loop.example/icecores/laws.FnFracOfTwice", spec := "fnFracOfTwice", apart := false }
def FnFracOfTwiceSaid : Prop := fnFracOfTwiceRow.holds Try.pinned (OpenSpec.ofChange fnFracOfTwiceSpec)

/-- ITS FALSE NEIGHBOUR: 'it returns false'. Refute it at one input. -/
def fnFracOfTwiceWrong : ChangeSpec := { name := "fnFracOfTwice", fn := fun _ => fun
  | [d1, d2] => { results := [.lit (.bool false)], args := [d1, d2] }
  | _ => none }
def FnFracOfTwiceWrongFalsely : Prop := fnFracOfTwiceRow.holds Try.pinned (OpenSpec.ofChange fnFracOfTwiceWrong)

/-- 'laws.FnFracLess': WHATEVER THE INPUT: true; the input reads as it did. -/
def fnFracLessSpec : ChangeSpec := { name := "fnFracLess", fn := fun _ => fun
  | [d] => { results := [.lit (.bool true)], args := [d] }
  | _ => none }
def fnFracLessRow : OpenClaim := { program := "ytodjnmjdilgocaa", sum := "9425e8947ff53e28044cda88919ddd16696ca56bda18fae78e4bdeb2ebd8a93f", func := "loop.example/icecores/laws.FnFracLess", spec := "fnFracLess", apart := false }
def FnFracLessSaid : Prop := fnFracLessRow.holds Try.pinned (OpenSpec.ofChange fnFracLessSpec)

/-- ITS FALSE NEIGHBOUR: 'it returns false'. Refute it at one input. -/
def fnFracLessWrong : ChangeSpec := { name := "fnFracLess", fn := fun _ => fun
  | [d] => { results := [.lit (.bool false)], args := [d] }
  | _ => none }
def FnFracLessWrongFalsely : Prop := fnFracLessRow.holds Try.pinned (OpenSpec.ofChange fnFracLessWrong)

/-- 'laws.FnFracValid': WHATEVER THE INPUT: true; the input reads as it did. -/
def fnFracValidSpec : ChangeSpec := { name := "fnFracValid", fn := fun _ => fun
  | [d] => { results := [.lit (.bool true)], args := [d] }
  | _ => none }
def fnFracValidRow : OpenClaim := { program := "ytodjnmjdilgocaa", sum := "9425e8947ff53e28044cda88919ddd16696ca56bda18fae78e4bdeb2ebd8a93f", func := "loop.example/icecores/laws.FnFracValid", spec := "fnFracValid", apart := false }
def FnFracValidSaid : Prop := fnFracValidRow.holds Try.pinned (OpenSpec.ofChange fnFracValidSpec)

/-- ITS FALSE NEIGHBOUR: 'it returns false'. Refute it at one input. -/
def fnFracValidWrong : ChangeSpec := { name := "fnFracValid", fn := fun _ => fun
  | [d] => { results := [.lit (.bool false)], args := [d] }
  | _ => none }
def FnFracValidWrongFalsely : Prop := fnFracValidRow.holds Try.pinned (OpenSpec.ofChange fnFracValidWrong)

/- THE SECOND FORM. 'bulk': how many values and letters a reading holds, each counted each time it is reached (what is shared counts as often as it is met; a slice's spare places count too). A statement '..UptoSaid' is the law's where the arguments, and the package variables that the reading takes, are together of bulk at most 1048576: NARROWER than '..Said'. Prove '..Said' where nothing that the law and all that it calls make is longer than what came in: it says more and counts as full. Else prove '..UptoSaid'. A law counts once. -/
mutual
def uptoBulk {H : Type} : DataW H → Nat
  | .lit (.string bytes) => bytes.length + 1
  | .lit _ => 1
  | .nil => 1
  | .ptr d => uptoBulk d + 1
  | .slice elems spare => uptoBulkAll elems + uptoBulkAll spare + 1
  | .agg parts => uptoBulkAll parts + 1
  | .iface _ d => uptoBulk d + 1
  | .map entries => uptoBulkEntries entries + 1
  | .held _ => 1
def uptoBulkAll {H : Type} : List (DataW H) → Nat
  | [] => 0
  | d :: r => uptoBulk d + uptoBulkAll r
def uptoBulkEntries {H : Type} : List (Lit × DataW H) → Nat
  | [] => 0
  | x :: r => uptoBulkEntry x + uptoBulkEntries r
def uptoBulkEntry {H : Type} : Lit × DataW H → Nat
  | (.string bytes, d) => bytes.length + uptoBulk d + 1
  | (_, d) => uptoBulk d + 1
 end
def uptoSmall : (H : Type) → List (DataW H) → Bool := fun _ ds => decide (uptoBulkAll ds ≤ 1048576)
def OpenSpec.upto (s : _root_.Go.ChangeSpec) : _root_.Go.OpenSpec := { _root_.Go.OpenSpec.ofChange s with cond := some uptoSmall }

/-- 'laws.FnExactFracValid', WHERE WHAT IT READS IS OF BULK AT MOST 1048576: true; the input reads as it did. -/
def fnExactFracValidUptoRow : OpenClaim := { program := "ytodjnmjdilgocaa", sum := "9425e8947ff53e28044cda88919ddd16696ca56bda18fae78e4bdeb2ebd8a93f", func := "loop.example/icecores/laws.FnExactFracValid", spec := "fnExactFracValid", apart := false, narrowed := true }
def FnExactFracValidUptoSaid : Prop := fnExactFracValidUptoRow.holds Try.pinned (OpenSpec.upto fnExactFracValidSpec)

/-- 'laws.FnExactFracLess', WHERE WHAT IT READS IS OF BULK AT MOST 1048576: true; the input reads as it did. -/
def fnExactFracLessUptoRow : OpenClaim := { program := "ytodjnmjdilgocaa", sum := "9425e8947ff53e28044cda88919ddd16696ca56bda18fae78e4bdeb2ebd8a93f", func := "loop.example/icecores/laws.FnExactFracLess", spec := "fnExactFracLess", apart := false, narrowed := true }
def FnExactFracLessUptoSaid : Prop := fnExactFracLessUptoRow.holds Try.pinned (OpenSpec.upto fnExactFracLessSpec)

/-- 'laws.FnExactFracFloor', WHERE WHAT IT READS IS OF BULK AT MOST 1048576: true; the input reads as it did. -/
def fnExactFracFloorUptoRow : OpenClaim := { program := "ytodjnmjdilgocaa", sum := "9425e8947ff53e28044cda88919ddd16696ca56bda18fae78e4bdeb2ebd8a93f", func := "loop.example/icecores/laws.FnExactFracFloor", spec := "fnExactFracFloor", apart := false, narrowed := true }
def FnExactFracFloorUptoSaid : Prop := fnExactFracFloorUptoRow.holds Try.pinned (OpenSpec.upto fnExactFracFloorSpec)

/-- 'laws.FnExactFracOf', WHERE WHAT IT READS IS OF BULK AT MOST 1048576: true; the input reads as it did. -/
def fnExactFracOfUptoRow : OpenClaim := { program := "ytodjnmjdilgocaa", sum := "9425e8947ff53e28044cda88919ddd16696ca56bda18fae78e4bdeb2ebd8a93f", func := "loop.example/icecores/laws.FnExactFracOf", spec := "fnExactFracOf", apart := false, narrowed := true }
def FnExactFracOfUptoSaid : Prop := fnExactFracOfUptoRow.holds Try.pinned (OpenSpec.upto fnExactFracOfSpec)

/-- 'laws.FnExactFracAdd', WHERE WHAT IT READS IS OF BULK AT MOST 1048576: true; the input reads as it did. -/
def fnExactFracAddUptoRow : OpenClaim := { program := "ytodjnmjdilgocaa", sum := "9425e8947ff53e28044cda88919ddd16696ca56bda18fae78e4bdeb2ebd8a93f", func := "loop.example/icecores/laws.FnExactFracAdd", spec := "fnExactFracAdd", apart := false, narrowed := true }
def FnExactFracAddUptoSaid : Prop := fnExactFracAddUptoRow.holds Try.pinned (OpenSpec.upto fnExactFracAddSpec)

/-- 'laws.FnExactFracDiv', WHERE WHAT IT READS IS OF BULK AT MOST 1048576: true; the input reads as it did. -/
def fnExactFracDivUptoRow : OpenClaim := { program := "ytodjnmjdilgocaa", sum := "9425e8947ff53e28044cda88919ddd16696ca56bda18fae78e4bdeb2ebd8a93f", func := "loop.example/icecores/laws.FnExactFracDiv", spec := "fnExactFracDiv", apart := false, narrowed := true }
def FnExactFracDivUptoSaid : Prop := fnExactFracDivUptoRow.holds Try.pinned (OpenSpec.upto fnExactFracDivSpec)

/-- 'laws.FnExactFracMul', WHERE WHAT IT READS IS OF BULK AT MOST 1048576: true; the input reads as it did. -/
def fnExactFracMulUptoRow : OpenClaim := { program := "ytodjnmjdilgocaa", sum := "9425e8947ff53e28044cda88919ddd16696ca56bda18fae78e4bdeb2ebd8a93f", func := "loop.example/icecores/laws.FnExactFracMul", spec := "fnExactFracMul", apart := false, narrowed := true }
def FnExactFracMulUptoSaid : Prop := fnExactFracMulUptoRow.holds Try.pinned (OpenSpec.upto fnExactFracMulSpec)

/-- 'laws.FnExactFracSub', WHERE WHAT IT READS IS OF BULK AT MOST 1048576: true; the input reads as it did. -/
def fnExactFracSubUptoRow : OpenClaim := { program := "ytodjnmjdilgocaa", sum := "9425e8947ff53e28044cda88919ddd16696ca56bda18fae78e4bdeb2ebd8a93f", func := "loop.example/icecores/laws.FnExactFracSub", spec := "fnExactFracSub", apart := false, narrowed := true }
def FnExactFracSubUptoSaid : Prop := fnExactFracSubUptoRow.holds Try.pinned (OpenSpec.upto fnExactFracSubSpec)

/-- 'laws.FnFracOf', WHERE WHAT IT READS IS OF BULK AT MOST 1048576: true; the input reads as it did. -/
def fnFracOfUptoRow : OpenClaim := { program := "ytodjnmjdilgocaa", sum := "9425e8947ff53e28044cda88919ddd16696ca56bda18fae78e4bdeb2ebd8a93f", func := "loop.example/icecores/laws.FnFracOf", spec := "fnFracOf", apart := false, narrowed := true }
def FnFracOfUptoSaid : Prop := fnFracOfUptoRow.holds Try.pinned (OpenSpec.upto fnFracOfSpec)

/-- 'laws.FnFracOfTwice', WHERE WHAT IT READS IS OF BULK AT MOST 1048576: true; the input reads as it did. -/
def fnFracOfTwiceUptoRow : OpenClaim := { program := "ytodjnmjdilgocaa", sum := "9425e8947ff53e28044cda88919ddd16696ca56bda18fae78e4bdeb2ebd8a93f", func := "loop.example/icecores/laws.FnFracOfTwice", spec := "fnFracOfTwice", apart := false, narrowed := true }
def FnFracOfTwiceUptoSaid : Prop := fnFracOfTwiceUptoRow.holds Try.pinned (OpenSpec.upto fnFracOfTwiceSpec)

/-- 'laws.FnFracLess', WHERE WHAT IT READS IS OF BULK AT MOST 1048576: true; the input reads as it did. -/
def fnFracLessUptoRow : OpenClaim := { program := "ytodjnmjdilgocaa", sum := "9425e8947ff53e28044cda88919ddd16696ca56bda18fae78e4bdeb2ebd8a93f", func := "loop.example/icecores/laws.FnFracLess", spec := "fnFracLess", apart := false, narrowed := true }
def FnFracLessUptoSaid : Prop := fnFracLessUptoRow.holds Try.pinned (OpenSpec.upto fnFracLessSpec)

/-- 'laws.FnFracValid', WHERE WHAT IT READS IS OF BULK AT MOST 1048576: true; the input reads as it did. -/
def fnFracValidUptoRow : OpenClaim := { program := "ytodjnmjdilgocaa", sum := "9425e8947ff53e28044cda88919ddd16696ca56bda18fae78e4bdeb2ebd8a93f", func := "loop.example/icecores/laws.FnFracValid", spec := "fnFracValid", apart := false, narrowed := true }
def FnFracValidUptoSaid : Prop := fnFracValidUptoRow.holds Try.pinned (OpenSpec.upto fnFracValidSpec)

end Rows
end Go.Proofs.Ytodjnmjdilgocaa
