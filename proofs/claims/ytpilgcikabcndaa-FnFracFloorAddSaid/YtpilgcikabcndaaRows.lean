/-
  No cell of these rows narrows 'for every input' (looked for: loops, veiled, ifaces, maps, wideKeys, modest, calm, conditions, laid).
  DERIVED. THE GIVEN ROWS OF THIS SEAT. 13 by the template 'for every input the law returns true; each argument reads behind the call as it read before'; 0 by the template 'total and deterministic' (their statements: YtpilgcikabcndaaTotals.lean).
  GIVEN WITH THE SEED: the statements are not yours to turn. If you find one false, say at which input.
  Laid BY PROGRAM, IN A SANDBOX (cutbox-rows.mjs): the forced cells as the released guide's own fill.sh prints them over the translation 8b81a1116ea06bf2… (all of the seat's roots in one cut). By AI agents, Wed Nov 11 2026. No macro, syntax, notation, axiom, sorry.
-/
import Derived.Test.YtpilgcikabcndaaChecked
import GoSem.Claim
import GoSem.ClaimJoined
import GoSem.ClaimMapViews
import Derived.JoinedTies
import Derived.KernelRfl
namespace Go.Proofs.Ytpilgcikabcndaa
/- THE CELL 'sum', in the pinned program and in every row, IS THE sha256 OF THE DUMP (.gsa) THAT YtpilgcikabcndaaProg.lean LOADS. Nothing in Lean hashes anything: it is a label: what it is worth is what the hold of that sum in a sandbox is worth. -/
noncomputable def Try.pinned : Pinned := { name := "ytpilgcikabcndaa", sum := "8b81a1116ea06bf2c65ece9fae3b7034ee2ff5b5ca6e4010843363efb132ac7a", checked := Try.checked }
namespace Rows
def none {H : Type} : Left H := { results := [], args := [] }

/-- 'laws.FnFracFloor': WHATEVER THE INPUT: true; the input reads as it did. -/
def fnFracFloorSpec : ChangeSpec := { name := "fnFracFloor", fn := fun _ => fun
  | [d] => { results := [.lit (.bool true)], args := [d] }
  | _ => none }
def fnFracFloorRow : OpenClaim := { program := "ytpilgcikabcndaa", sum := "8b81a1116ea06bf2c65ece9fae3b7034ee2ff5b5ca6e4010843363efb132ac7a", func := "loop.example/icecores/laws.FnFracFloor", spec := "fnFracFloor", apart := false }
def FnFracFloorSaid : Prop := fnFracFloorRow.holds Try.pinned (OpenSpec.ofChange fnFracFloorSpec)

/-- ITS FALSE NEIGHBOUR: 'it returns false'. Refute it at one input. -/
def fnFracFloorWrong : ChangeSpec := { name := "fnFracFloor", fn := fun _ => fun
  | [d] => { results := [.lit (.bool false)], args := [d] }
  | _ => none }
def FnFracFloorWrongFalsely : Prop := fnFracFloorRow.holds Try.pinned (OpenSpec.ofChange fnFracFloorWrong)

/-- 'laws.FnFracAddThree': WHATEVER THE INPUT: true; the input reads as it did. -/
def fnFracAddThreeSpec : ChangeSpec := { name := "fnFracAddThree", fn := fun _ => fun
  | [d] => { results := [.lit (.bool true)], args := [d] }
  | _ => none }
def fnFracAddThreeRow : OpenClaim := { program := "ytpilgcikabcndaa", sum := "8b81a1116ea06bf2c65ece9fae3b7034ee2ff5b5ca6e4010843363efb132ac7a", func := "loop.example/icecores/laws.FnFracAddThree", spec := "fnFracAddThree", apart := false }
def FnFracAddThreeSaid : Prop := fnFracAddThreeRow.holds Try.pinned (OpenSpec.ofChange fnFracAddThreeSpec)

/-- ITS FALSE NEIGHBOUR: 'it returns false'. Refute it at one input. -/
def fnFracAddThreeWrong : ChangeSpec := { name := "fnFracAddThree", fn := fun _ => fun
  | [d] => { results := [.lit (.bool false)], args := [d] }
  | _ => none }
def FnFracAddThreeWrongFalsely : Prop := fnFracAddThreeRow.holds Try.pinned (OpenSpec.ofChange fnFracAddThreeWrong)

/-- 'laws.FnFracMul': WHATEVER THE INPUT: true; the input reads as it did. -/
def fnFracMulSpec : ChangeSpec := { name := "fnFracMul", fn := fun _ => fun
  | [d] => { results := [.lit (.bool true)], args := [d] }
  | _ => none }
def fnFracMulRow : OpenClaim := { program := "ytpilgcikabcndaa", sum := "8b81a1116ea06bf2c65ece9fae3b7034ee2ff5b5ca6e4010843363efb132ac7a", func := "loop.example/icecores/laws.FnFracMul", spec := "fnFracMul", apart := false }
def FnFracMulSaid : Prop := fnFracMulRow.holds Try.pinned (OpenSpec.ofChange fnFracMulSpec)

/-- ITS FALSE NEIGHBOUR: 'it returns false'. Refute it at one input. -/
def fnFracMulWrong : ChangeSpec := { name := "fnFracMul", fn := fun _ => fun
  | [d] => { results := [.lit (.bool false)], args := [d] }
  | _ => none }
def FnFracMulWrongFalsely : Prop := fnFracMulRow.holds Try.pinned (OpenSpec.ofChange fnFracMulWrong)

/-- 'laws.FnFracMulThree': WHATEVER THE INPUT: true; the input reads as it did. -/
def fnFracMulThreeSpec : ChangeSpec := { name := "fnFracMulThree", fn := fun _ => fun
  | [d] => { results := [.lit (.bool true)], args := [d] }
  | _ => none }
def fnFracMulThreeRow : OpenClaim := { program := "ytpilgcikabcndaa", sum := "8b81a1116ea06bf2c65ece9fae3b7034ee2ff5b5ca6e4010843363efb132ac7a", func := "loop.example/icecores/laws.FnFracMulThree", spec := "fnFracMulThree", apart := false }
def FnFracMulThreeSaid : Prop := fnFracMulThreeRow.holds Try.pinned (OpenSpec.ofChange fnFracMulThreeSpec)

/-- ITS FALSE NEIGHBOUR: 'it returns false'. Refute it at one input. -/
def fnFracMulThreeWrong : ChangeSpec := { name := "fnFracMulThree", fn := fun _ => fun
  | [d] => { results := [.lit (.bool false)], args := [d] }
  | _ => none }
def FnFracMulThreeWrongFalsely : Prop := fnFracMulThreeRow.holds Try.pinned (OpenSpec.ofChange fnFracMulThreeWrong)

/-- 'laws.FnFracSub': WHATEVER THE INPUT: true; the input reads as it did. -/
def fnFracSubSpec : ChangeSpec := { name := "fnFracSub", fn := fun _ => fun
  | [d] => { results := [.lit (.bool true)], args := [d] }
  | _ => none }
def fnFracSubRow : OpenClaim := { program := "ytpilgcikabcndaa", sum := "8b81a1116ea06bf2c65ece9fae3b7034ee2ff5b5ca6e4010843363efb132ac7a", func := "loop.example/icecores/laws.FnFracSub", spec := "fnFracSub", apart := false }
def FnFracSubSaid : Prop := fnFracSubRow.holds Try.pinned (OpenSpec.ofChange fnFracSubSpec)

/-- ITS FALSE NEIGHBOUR: 'it returns false'. Refute it at one input. -/
def fnFracSubWrong : ChangeSpec := { name := "fnFracSub", fn := fun _ => fun
  | [d] => { results := [.lit (.bool false)], args := [d] }
  | _ => none }
def FnFracSubWrongFalsely : Prop := fnFracSubRow.holds Try.pinned (OpenSpec.ofChange fnFracSubWrong)

/-- 'laws.FnFracSubSelf': WHATEVER THE INPUT: true; the input reads as it did. -/
def fnFracSubSelfSpec : ChangeSpec := { name := "fnFracSubSelf", fn := fun _ => fun
  | [d] => { results := [.lit (.bool true)], args := [d] }
  | _ => none }
def fnFracSubSelfRow : OpenClaim := { program := "ytpilgcikabcndaa", sum := "8b81a1116ea06bf2c65ece9fae3b7034ee2ff5b5ca6e4010843363efb132ac7a", func := "loop.example/icecores/laws.FnFracSubSelf", spec := "fnFracSubSelf", apart := false }
def FnFracSubSelfSaid : Prop := fnFracSubSelfRow.holds Try.pinned (OpenSpec.ofChange fnFracSubSelfSpec)

/-- ITS FALSE NEIGHBOUR: 'it returns false'. Refute it at one input. -/
def fnFracSubSelfWrong : ChangeSpec := { name := "fnFracSubSelf", fn := fun _ => fun
  | [d] => { results := [.lit (.bool false)], args := [d] }
  | _ => none }
def FnFracSubSelfWrongFalsely : Prop := fnFracSubSelfRow.holds Try.pinned (OpenSpec.ofChange fnFracSubSelfWrong)

/-- 'laws.FnFracAdd': WHATEVER THE INPUT: true; the input reads as it did. -/
def fnFracAddSpec : ChangeSpec := { name := "fnFracAdd", fn := fun _ => fun
  | [d] => { results := [.lit (.bool true)], args := [d] }
  | _ => none }
def fnFracAddRow : OpenClaim := { program := "ytpilgcikabcndaa", sum := "8b81a1116ea06bf2c65ece9fae3b7034ee2ff5b5ca6e4010843363efb132ac7a", func := "loop.example/icecores/laws.FnFracAdd", spec := "fnFracAdd", apart := false }
def FnFracAddSaid : Prop := fnFracAddRow.holds Try.pinned (OpenSpec.ofChange fnFracAddSpec)

/-- ITS FALSE NEIGHBOUR: 'it returns false'. Refute it at one input. -/
def fnFracAddWrong : ChangeSpec := { name := "fnFracAdd", fn := fun _ => fun
  | [d] => { results := [.lit (.bool false)], args := [d] }
  | _ => none }
def FnFracAddWrongFalsely : Prop := fnFracAddRow.holds Try.pinned (OpenSpec.ofChange fnFracAddWrong)

/-- 'laws.FnFracMulOver': WHATEVER THE INPUT: true; the input reads as it did. -/
def fnFracMulOverSpec : ChangeSpec := { name := "fnFracMulOver", fn := fun _ => fun
  | [d] => { results := [.lit (.bool true)], args := [d] }
  | _ => none }
def fnFracMulOverRow : OpenClaim := { program := "ytpilgcikabcndaa", sum := "8b81a1116ea06bf2c65ece9fae3b7034ee2ff5b5ca6e4010843363efb132ac7a", func := "loop.example/icecores/laws.FnFracMulOver", spec := "fnFracMulOver", apart := false }
def FnFracMulOverSaid : Prop := fnFracMulOverRow.holds Try.pinned (OpenSpec.ofChange fnFracMulOverSpec)

/-- ITS FALSE NEIGHBOUR: 'it returns false'. Refute it at one input. -/
def fnFracMulOverWrong : ChangeSpec := { name := "fnFracMulOver", fn := fun _ => fun
  | [d] => { results := [.lit (.bool false)], args := [d] }
  | _ => none }
def FnFracMulOverWrongFalsely : Prop := fnFracMulOverRow.holds Try.pinned (OpenSpec.ofChange fnFracMulOverWrong)

/-- 'laws.FnFracAddNone': WHATEVER THE INPUT: true; the input reads as it did. -/
def fnFracAddNoneSpec : ChangeSpec := { name := "fnFracAddNone", fn := fun _ => fun
  | [d] => { results := [.lit (.bool true)], args := [d] }
  | _ => none }
def fnFracAddNoneRow : OpenClaim := { program := "ytpilgcikabcndaa", sum := "8b81a1116ea06bf2c65ece9fae3b7034ee2ff5b5ca6e4010843363efb132ac7a", func := "loop.example/icecores/laws.FnFracAddNone", spec := "fnFracAddNone", apart := false }
def FnFracAddNoneSaid : Prop := fnFracAddNoneRow.holds Try.pinned (OpenSpec.ofChange fnFracAddNoneSpec)

/-- ITS FALSE NEIGHBOUR: 'it returns false'. Refute it at one input. -/
def fnFracAddNoneWrong : ChangeSpec := { name := "fnFracAddNone", fn := fun _ => fun
  | [d] => { results := [.lit (.bool false)], args := [d] }
  | _ => none }
def FnFracAddNoneWrongFalsely : Prop := fnFracAddNoneRow.holds Try.pinned (OpenSpec.ofChange fnFracAddNoneWrong)

/-- 'laws.FnFracDiv': WHATEVER THE INPUT: true; the input reads as it did. -/
def fnFracDivSpec : ChangeSpec := { name := "fnFracDiv", fn := fun _ => fun
  | [d] => { results := [.lit (.bool true)], args := [d] }
  | _ => none }
def fnFracDivRow : OpenClaim := { program := "ytpilgcikabcndaa", sum := "8b81a1116ea06bf2c65ece9fae3b7034ee2ff5b5ca6e4010843363efb132ac7a", func := "loop.example/icecores/laws.FnFracDiv", spec := "fnFracDiv", apart := false }
def FnFracDivSaid : Prop := fnFracDivRow.holds Try.pinned (OpenSpec.ofChange fnFracDivSpec)

/-- ITS FALSE NEIGHBOUR: 'it returns false'. Refute it at one input. -/
def fnFracDivWrong : ChangeSpec := { name := "fnFracDiv", fn := fun _ => fun
  | [d] => { results := [.lit (.bool false)], args := [d] }
  | _ => none }
def FnFracDivWrongFalsely : Prop := fnFracDivRow.holds Try.pinned (OpenSpec.ofChange fnFracDivWrong)

/-- 'laws.FnFracDivMul': WHATEVER THE INPUT: true; the input reads as it did. -/
def fnFracDivMulSpec : ChangeSpec := { name := "fnFracDivMul", fn := fun _ => fun
  | [d] => { results := [.lit (.bool true)], args := [d] }
  | _ => none }
def fnFracDivMulRow : OpenClaim := { program := "ytpilgcikabcndaa", sum := "8b81a1116ea06bf2c65ece9fae3b7034ee2ff5b5ca6e4010843363efb132ac7a", func := "loop.example/icecores/laws.FnFracDivMul", spec := "fnFracDivMul", apart := false }
def FnFracDivMulSaid : Prop := fnFracDivMulRow.holds Try.pinned (OpenSpec.ofChange fnFracDivMulSpec)

/-- ITS FALSE NEIGHBOUR: 'it returns false'. Refute it at one input. -/
def fnFracDivMulWrong : ChangeSpec := { name := "fnFracDivMul", fn := fun _ => fun
  | [d] => { results := [.lit (.bool false)], args := [d] }
  | _ => none }
def FnFracDivMulWrongFalsely : Prop := fnFracDivMulRow.holds Try.pinned (OpenSpec.ofChange fnFracDivMulWrong)

/-- 'laws.FnFracLessAdd': WHATEVER THE INPUT: true; the input reads as it did. -/
def fnFracLessAddSpec : ChangeSpec := { name := "fnFracLessAdd", fn := fun _ => fun
  | [d] => { results := [.lit (.bool true)], args := [d] }
  | _ => none }
def fnFracLessAddRow : OpenClaim := { program := "ytpilgcikabcndaa", sum := "8b81a1116ea06bf2c65ece9fae3b7034ee2ff5b5ca6e4010843363efb132ac7a", func := "loop.example/icecores/laws.FnFracLessAdd", spec := "fnFracLessAdd", apart := false }
def FnFracLessAddSaid : Prop := fnFracLessAddRow.holds Try.pinned (OpenSpec.ofChange fnFracLessAddSpec)

/-- ITS FALSE NEIGHBOUR: 'it returns false'. Refute it at one input. -/
def fnFracLessAddWrong : ChangeSpec := { name := "fnFracLessAdd", fn := fun _ => fun
  | [d] => { results := [.lit (.bool false)], args := [d] }
  | _ => none }
def FnFracLessAddWrongFalsely : Prop := fnFracLessAddRow.holds Try.pinned (OpenSpec.ofChange fnFracLessAddWrong)

/-- 'laws.FnFracFloorAdd': WHATEVER THE INPUT: true; the input reads as it did. -/
def fnFracFloorAddSpec : ChangeSpec := { name := "fnFracFloorAdd", fn := fun _ => fun
  | [d1, d2] => { results := [.lit (.bool true)], args := [d1, d2] }
  | _ => none }
def fnFracFloorAddRow : OpenClaim := { program := "ytpilgcikabcndaa", sum := "8b81a1116ea06bf2c65ece9fae3b7034ee2ff5b5ca6e4010843363efb132ac7a", func := "loop.example/icecores/laws.FnFracFloorAdd", spec := "fnFracFloorAdd", apart := false }
def FnFracFloorAddSaid : Prop := fnFracFloorAddRow.holds Try.pinned (OpenSpec.ofChange fnFracFloorAddSpec)

/-- ITS FALSE NEIGHBOUR: 'it returns false'. Refute it at one input. -/
def fnFracFloorAddWrong : ChangeSpec := { name := "fnFracFloorAdd", fn := fun _ => fun
  | [d1, d2] => { results := [.lit (.bool false)], args := [d1, d2] }
  | _ => none }
def FnFracFloorAddWrongFalsely : Prop := fnFracFloorAddRow.holds Try.pinned (OpenSpec.ofChange fnFracFloorAddWrong)

/- THE SECOND FORM. 'bulk': how many values and letters a reading holds, each counted each time it is reached (what is shared counts as often as it is met; a slice's spare places count too). A statement '..UptoSaid' is the law's where the arguments, and the package variables that the reading takes, are together of bulk at most 1048576: NARROWER than '..Said'. Prove '..Said' where nothing that the law and all that it calls make is longer than what came in: it says more and counts as full. Else prove '..UptoSaid'. A law counts once. -/
mutual
def uptoBulk {H : Type} : DataW H → Nat
  | .lit (.string bytes) => bytes.length + 1
  | .lit _ => 1
  | .nil => 1
  | .ptr d => uptoBulk d + 1
  | .slice elems spare => uptoBulkAll elems + uptoBulkAll spare + 1
  | .agg parts => uptoBulkAll parts + 1
  | .iface _ d => uptoBulk d + 1
  | .map entries => uptoBulkEntries entries + 1
  | .held _ => 1
def uptoBulkAll {H : Type} : List (DataW H) → Nat
  | [] => 0
  | d :: r => uptoBulk d + uptoBulkAll r
def uptoBulkEntries {H : Type} : List (Lit × DataW H) → Nat
  | [] => 0
  | x :: r => uptoBulkEntry x + uptoBulkEntries r
def uptoBulkEntry {H : Type} : Lit × DataW H → Nat
  | (.string bytes, d) => bytes.length + uptoBulk d + 1
  | (_, d) => uptoBulk d + 1
 end
def uptoSmall : (H : Type) → List (DataW H) → Bool := fun _ ds => decide (uptoBulkAll ds ≤ 1048576)
def OpenSpec.upto (s : _root_.Go.ChangeSpec) : _root_.Go.OpenSpec := { _root_.Go.OpenSpec.ofChange s with cond := some uptoSmall }

/-- 'laws.FnFracFloor', WHERE WHAT IT READS IS OF BULK AT MOST 1048576: true; the input reads as it did. -/
def fnFracFloorUptoRow : OpenClaim := { program := "ytpilgcikabcndaa", sum := "8b81a1116ea06bf2c65ece9fae3b7034ee2ff5b5ca6e4010843363efb132ac7a", func := "loop.example/icecores/laws.FnFracFloor", spec := "fnFracFloor", apart := false, narrowed := true }
def FnFracFloorUptoSaid : Prop := fnFracFloorUptoRow.holds Try.pinned (OpenSpec.upto fnFracFloorSpec)

/-- 'laws.FnFracAddThree', WHERE WHAT IT READS IS OF BULK AT MOST 1048576: true; the input reads as it did. -/
def fnFracAddThreeUptoRow : OpenClaim := { program := "ytpilgcikabcndaa", sum := "8b81a1116ea06bf2c65ece9fae3b7034ee2ff5b5ca6e4010843363efb132ac7a", func := "loop.example/icecores/laws.FnFracAddThree", spec := "fnFracAddThree", apart := false, narrowed := true }
def FnFracAddThreeUptoSaid : Prop := fnFracAddThreeUptoRow.holds Try.pinned (OpenSpec.upto fnFracAddThreeSpec)

/-- 'laws.FnFracMul', WHERE WHAT IT READS IS OF BULK AT MOST 1048576: true; the input reads as it did. -/
def fnFracMulUptoRow : OpenClaim := { program := "ytpilgcikabcndaa", sum := "8b81a1116ea06bf2c65ece9fae3b7034ee2ff5b5ca6e4010843363efb132ac7a", func := "loop.example/icecores/laws.FnFracMul", spec := "fnFracMul", apart := false, narrowed := true }
def FnFracMulUptoSaid : Prop := fnFracMulUptoRow.holds Try.pinned (OpenSpec.upto fnFracMulSpec)

/-- 'laws.FnFracMulThree', WHERE WHAT IT READS IS OF BULK AT MOST 1048576: true; the input reads as it did. -/
def fnFracMulThreeUptoRow : OpenClaim := { program := "ytpilgcikabcndaa", sum := "8b81a1116ea06bf2c65ece9fae3b7034ee2ff5b5ca6e4010843363efb132ac7a", func := "loop.example/icecores/laws.FnFracMulThree", spec := "fnFracMulThree", apart := false, narrowed := true }
def FnFracMulThreeUptoSaid : Prop := fnFracMulThreeUptoRow.holds Try.pinned (OpenSpec.upto fnFracMulThreeSpec)

/-- 'laws.FnFracSub', WHERE WHAT IT READS IS OF BULK AT MOST 1048576: true; the input reads as it did. -/
def fnFracSubUptoRow : OpenClaim := { program := "ytpilgcikabcndaa", sum := "8b81a1116ea06bf2c65ece9fae3b7034ee2ff5b5ca6e4010843363efb132ac7a", func := "loop.example/icecores/laws.FnFracSub", spec := "fnFracSub", apart := false, narrowed := true }
def FnFracSubUptoSaid : Prop := fnFracSubUptoRow.holds Try.pinned (OpenSpec.upto fnFracSubSpec)

/-- 'laws.FnFracSubSelf', WHERE WHAT IT READS IS OF BULK AT MOST 1048576: true; the input reads as it did. -/
def fnFracSubSelfUptoRow : OpenClaim := { program := "ytpilgcikabcndaa", sum := "8b81a1116ea06bf2c65ece9fae3b7034ee2ff5b5ca6e4010843363efb132ac7a", func := "loop.example/icecores/laws.FnFracSubSelf", spec := "fnFracSubSelf", apart := false, narrowed := true }
def FnFracSubSelfUptoSaid : Prop := fnFracSubSelfUptoRow.holds Try.pinned (OpenSpec.upto fnFracSubSelfSpec)

/-- 'laws.FnFracAdd', WHERE WHAT IT READS IS OF BULK AT MOST 1048576: true; the input reads as it did. -/
def fnFracAddUptoRow : OpenClaim := { program := "ytpilgcikabcndaa", sum := "8b81a1116ea06bf2c65ece9fae3b7034ee2ff5b5ca6e4010843363efb132ac7a", func := "loop.example/icecores/laws.FnFracAdd", spec := "fnFracAdd", apart := false, narrowed := true }
def FnFracAddUptoSaid : Prop := fnFracAddUptoRow.holds Try.pinned (OpenSpec.upto fnFracAddSpec)

/-- 'laws.FnFracMulOver', WHERE WHAT IT READS IS OF BULK AT MOST 1048576: true; the input reads as it did. -/
def fnFracMulOverUptoRow : OpenClaim := { program := "ytpilgcikabcndaa", sum := "8b81a1116ea06bf2c65ece9fae3b7034ee2ff5b5ca6e4010843363efb132ac7a", func := "loop.example/icecores/laws.FnFracMulOver", spec := "fnFracMulOver", apart := false, narrowed := true }
def FnFracMulOverUptoSaid : Prop := fnFracMulOverUptoRow.holds Try.pinned (OpenSpec.upto fnFracMulOverSpec)

/-- 'laws.FnFracAddNone', WHERE WHAT IT READS IS OF BULK AT MOST 1048576: true; the input reads as it did. -/
def fnFracAddNoneUptoRow : OpenClaim := { program := "ytpilgcikabcndaa", sum := "8b81a1116ea06bf2c65ece9fae3b7034ee2ff5b5ca6e4010843363efb132ac7a", func := "loop.example/icecores/laws.FnFracAddNone", spec := "fnFracAddNone", apart := false, narrowed := true }
def FnFracAddNoneUptoSaid : Prop := fnFracAddNoneUptoRow.holds Try.pinned (OpenSpec.upto fnFracAddNoneSpec)

/-- 'laws.FnFracDiv', WHERE WHAT IT READS IS OF BULK AT MOST 1048576: true; the input reads as it did. -/
def fnFracDivUptoRow : OpenClaim := { program := "ytpilgcikabcndaa", sum := "8b81a1116ea06bf2c65ece9fae3b7034ee2ff5b5ca6e4010843363efb132ac7a", func := "loop.example/icecores/laws.FnFracDiv", spec := "fnFracDiv", apart := false, narrowed := true }
def FnFracDivUptoSaid : Prop := fnFracDivUptoRow.holds Try.pinned (OpenSpec.upto fnFracDivSpec)

/-- 'laws.FnFracDivMul', WHERE WHAT IT READS IS OF BULK AT MOST 1048576: true; the input reads as it did. -/
def fnFracDivMulUptoRow : OpenClaim := { program := "ytpilgcikabcndaa", sum := "8b81a1116ea06bf2c65ece9fae3b7034ee2ff5b5ca6e4010843363efb132ac7a", func := "loop.example/icecores/laws.FnFracDivMul", spec := "fnFracDivMul", apart := false, narrowed := true }
def FnFracDivMulUptoSaid : Prop := fnFracDivMulUptoRow.holds Try.pinned (OpenSpec.upto fnFracDivMulSpec)

/-- 'laws.FnFracLessAdd', WHERE WHAT IT READS IS OF BULK AT MOST 1048576: true; the input reads as it did. -/
def fnFracLessAddUptoRow : OpenClaim := { program := "ytpilgcikabcndaa", sum := "8b81a1116ea06bf2c65ece9fae3b7034ee2ff5b5ca6e4010843363efb132ac7a", func := "loop.example/icecores/laws.FnFracLessAdd", spec := "fnFracLessAdd", apart := false, narrowed := true }
def FnFracLessAddUptoSaid : Prop := fnFracLessAddUptoRow.holds Try.pinned (OpenSpec.upto fnFracLessAddSpec)

/-- 'laws.FnFracFloorAdd', WHERE WHAT IT READS IS OF BULK AT MOST 1048576: true; the input reads as it did. -/
def fnFracFloorAddUptoRow : OpenClaim := { program := "ytpilgcikabcndaa", sum := "8b81a1116ea06bf2c65ece9fae3b7034ee2ff5b5ca6e4010843363efb132ac7a", func := "loop.example/icecores/laws.FnFracFloorAdd", spec := "fnFracFloorAdd", apart := false, narrowed := true }
def FnFracFloorAddUptoSaid : Prop := fnFracFloorAddUptoRow.holds Try.pinned (OpenSpec.upto fnFracFloorAddSpec)

end Rows
end Go.Proofs.Ytpilgcikabcndaa
