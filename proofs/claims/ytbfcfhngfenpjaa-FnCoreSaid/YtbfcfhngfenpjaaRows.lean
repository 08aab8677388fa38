/-
  No cell of these rows narrows 'for every input' (looked for: loops, veiled, ifaces, maps, wideKeys, modest, calm, conditions, laid).
  DERIVED. THE GIVEN ROWS OF THIS SEAT. 13 by the template 'for every input the law returns true; each argument reads behind the call as it read before'; 0 by the template 'total and deterministic' (their statements: YtbfcfhngfenpjaaTotals.lean).
  GIVEN WITH THE SEED: the statements are not yours to turn. If you find one false, say at which input.
  Laid BY PROGRAM, IN A SANDBOX (cutbox-rows.mjs): the forced cells as the released guide's own fill.sh prints them over the translation c175599841a2fcda… (all of the seat's roots in one cut). By AI agents, Wed Nov 11 2026. No macro, syntax, notation, axiom, sorry.
-/
import Derived.Test.YtbfcfhngfenpjaaChecked
import GoSem.Claim
import GoSem.ClaimJoined
import GoSem.ClaimMapViews
import Derived.JoinedTies
import Derived.KernelRfl
namespace Go.Proofs.Ytbfcfhngfenpjaa
/- THE CELL 'sum', in the pinned program and in every row, IS THE sha256 OF THE DUMP (.gsa) THAT YtbfcfhngfenpjaaProg.lean LOADS. Nothing in Lean hashes anything: it is a label: what it is worth is what the hold of that sum in a sandbox is worth. -/
noncomputable def Try.pinned : Pinned := { name := "ytbfcfhngfenpjaa", sum := "c175599841a2fcda853c709930d935d8b3a8788350d2e4016dc47f7d1d52e2b9", checked := Try.checked }
namespace Rows
def none {H : Type} : Left H := { results := [], args := [] }

/-- 'laws.FnExactCoreValid': WHATEVER THE INPUT: true; the input reads as it did. -/
def fnExactCoreValidSpec : ChangeSpec := { name := "fnExactCoreValid", fn := fun _ => fun
  | [d] => { results := [.lit (.bool true)], args := [d] }
  | _ => none }
def fnExactCoreValidRow : OpenClaim := { program := "ytbfcfhngfenpjaa", sum := "c175599841a2fcda853c709930d935d8b3a8788350d2e4016dc47f7d1d52e2b9", func := "loop.example/icecores/laws.FnExactCoreValid", spec := "fnExactCoreValid", apart := false }
def FnExactCoreValidSaid : Prop := fnExactCoreValidRow.holds Try.pinned (OpenSpec.ofChange fnExactCoreValidSpec)

/-- ITS FALSE NEIGHBOUR: 'it returns false'. Refute it at one input. -/
def fnExactCoreValidWrong : ChangeSpec := { name := "fnExactCoreValid", fn := fun _ => fun
  | [d] => { results := [.lit (.bool false)], args := [d] }
  | _ => none }
def FnExactCoreValidWrongFalsely : Prop := fnExactCoreValidRow.holds Try.pinned (OpenSpec.ofChange fnExactCoreValidWrong)

/-- 'laws.FnCore': WHATEVER THE INPUT: true; the input reads as it did. -/
def fnCoreSpec : ChangeSpec := { name := "fnCore", fn := fun _ => fun
  | [d1, d2] => { results := [.lit (.bool true)], args := [d1, d2] }
  | _ => none }
def fnCoreRow : OpenClaim := { program := "ytbfcfhngfenpjaa", sum := "c175599841a2fcda853c709930d935d8b3a8788350d2e4016dc47f7d1d52e2b9", func := "loop.example/icecores/laws.FnCore", spec := "fnCore", apart := false }
def FnCoreSaid : Prop := fnCoreRow.holds Try.pinned (OpenSpec.ofChange fnCoreSpec)

/-- ITS FALSE NEIGHBOUR: 'it returns false'. Refute it at one input. -/
def fnCoreWrong : ChangeSpec := { name := "fnCore", fn := fun _ => fun
  | [d1, d2] => { results := [.lit (.bool false)], args := [d1, d2] }
  | _ => none }
def FnCoreWrongFalsely : Prop := fnCoreRow.holds Try.pinned (OpenSpec.ofChange fnCoreWrong)

/-- 'laws.FnExactCoreLength': WHATEVER THE INPUT: true; the input reads as it did. -/
def fnExactCoreLengthSpec : ChangeSpec := { name := "fnExactCoreLength", fn := fun _ => fun
  | [d] => { results := [.lit (.bool true)], args := [d] }
  | _ => none }
def fnExactCoreLengthRow : OpenClaim := { program := "ytbfcfhngfenpjaa", sum := "c175599841a2fcda853c709930d935d8b3a8788350d2e4016dc47f7d1d52e2b9", func := "loop.example/icecores/laws.FnExactCoreLength", spec := "fnExactCoreLength", apart := false }
def FnExactCoreLengthSaid : Prop := fnExactCoreLengthRow.holds Try.pinned (OpenSpec.ofChange fnExactCoreLengthSpec)

/-- ITS FALSE NEIGHBOUR: 'it returns false'. Refute it at one input. -/
def fnExactCoreLengthWrong : ChangeSpec := { name := "fnExactCoreLength", fn := fun _ => fun
  | [d] => { results := [.lit (.bool false)], args := [d] }
  | _ => none }
def FnExactCoreLengthWrongFalsely : Prop := fnExactCoreLengthRow.holds Try.pinned (OpenSpec.ofChange fnExactCoreLengthWrong)

/-- 'laws.FnExactCoreHas': WHATEVER THE INPUT: true; the input reads as it did. -/
def fnExactCoreHasSpec : ChangeSpec := { name := "fnExactCoreHas", fn := fun _ => fun
  | [d1, d2] => { results := [.lit (.bool true)], args := [d1, d2] }
  | _ => none }
def fnExactCoreHasRow : OpenClaim := { program := "ytbfcfhngfenpjaa", sum := "c175599841a2fcda853c709930d935d8b3a8788350d2e4016dc47f7d1d52e2b9", func := "loop.example/icecores/laws.FnExactCoreHas", spec := "fnExactCoreHas", unfollowed := true, recurses := true, apart := false }
def FnExactCoreHasSaid : Prop := fnExactCoreHasRow.holds Try.pinned (OpenSpec.ofChange fnExactCoreHasSpec)

/-- ITS FALSE NEIGHBOUR: 'it returns false'. Refute it at one input. -/
def fnExactCoreHasWrong : ChangeSpec := { name := "fnExactCoreHas", fn := fun _ => fun
  | [d1, d2] => { results := [.lit (.bool false)], args := [d1, d2] }
  | _ => none }
def FnExactCoreHasWrongFalsely : Prop := fnExactCoreHasRow.holds Try.pinned (OpenSpec.ofChange fnExactCoreHasWrong)

/-- 'laws.FnCoreHas': WHATEVER THE INPUT: true; the input reads as it did. -/
def fnCoreHasSpec : ChangeSpec := { name := "fnCoreHas", fn := fun _ => fun
  | [d] => { results := [.lit (.bool true)], args := [d] }
  | _ => none }
def fnCoreHasRow : OpenClaim := { program := "ytbfcfhngfenpjaa", sum := "c175599841a2fcda853c709930d935d8b3a8788350d2e4016dc47f7d1d52e2b9", func := "loop.example/icecores/laws.FnCoreHas", spec := "fnCoreHas", unfollowed := true, recurses := true, apart := false }
def FnCoreHasSaid : Prop := fnCoreHasRow.holds Try.pinned (OpenSpec.ofChange fnCoreHasSpec)

/-- ITS FALSE NEIGHBOUR: 'it returns false'. Refute it at one input. -/
def fnCoreHasWrong : ChangeSpec := { name := "fnCoreHas", fn := fun _ => fun
  | [d] => { results := [.lit (.bool false)], args := [d] }
  | _ => none }
def FnCoreHasWrongFalsely : Prop := fnCoreHasRow.holds Try.pinned (OpenSpec.ofChange fnCoreHasWrong)

/-- 'laws.FnCoreHasEnds': WHATEVER THE INPUT: true; the input reads as it did. -/
def fnCoreHasEndsSpec : ChangeSpec := { name := "fnCoreHasEnds", fn := fun _ => fun
  | [d] => { results := [.lit (.bool true)], args := [d] }
  | _ => none }
def fnCoreHasEndsRow : OpenClaim := { program := "ytbfcfhngfenpjaa", sum := "c175599841a2fcda853c709930d935d8b3a8788350d2e4016dc47f7d1d52e2b9", func := "loop.example/icecores/laws.FnCoreHasEnds", spec := "fnCoreHasEnds", unfollowed := true, recurses := true, apart := false }
def FnCoreHasEndsSaid : Prop := fnCoreHasEndsRow.holds Try.pinned (OpenSpec.ofChange fnCoreHasEndsSpec)

/-- ITS FALSE NEIGHBOUR: 'it returns false'. Refute it at one input. -/
def fnCoreHasEndsWrong : ChangeSpec := { name := "fnCoreHasEnds", fn := fun _ => fun
  | [d] => { results := [.lit (.bool false)], args := [d] }
  | _ => none }
def FnCoreHasEndsWrongFalsely : Prop := fnCoreHasEndsRow.holds Try.pinned (OpenSpec.ofChange fnCoreHasEndsWrong)

/-- 'laws.FnCoreLength': WHATEVER THE INPUT: true; the input reads as it did. -/
def fnCoreLengthSpec : ChangeSpec := { name := "fnCoreLength", fn := fun _ => fun
  | [d1, d2] => { results := [.lit (.bool true)], args := [d1, d2] }
  | _ => none }
def fnCoreLengthRow : OpenClaim := { program := "ytbfcfhngfenpjaa", sum := "c175599841a2fcda853c709930d935d8b3a8788350d2e4016dc47f7d1d52e2b9", func := "loop.example/icecores/laws.FnCoreLength", spec := "fnCoreLength", apart := false }
def FnCoreLengthSaid : Prop := fnCoreLengthRow.holds Try.pinned (OpenSpec.ofChange fnCoreLengthSpec)

/-- ITS FALSE NEIGHBOUR: 'it returns false'. Refute it at one input. -/
def fnCoreLengthWrong : ChangeSpec := { name := "fnCoreLength", fn := fun _ => fun
  | [d1, d2] => { results := [.lit (.bool false)], args := [d1, d2] }
  | _ => none }
def FnCoreLengthWrongFalsely : Prop := fnCoreLengthRow.holds Try.pinned (OpenSpec.ofChange fnCoreLengthWrong)

/-- 'laws.FnCoreLengthHas': WHATEVER THE INPUT: true; the input reads as it did. -/
def fnCoreLengthHasSpec : ChangeSpec := { name := "fnCoreLengthHas", fn := fun _ => fun
  | [d] => { results := [.lit (.bool true)], args := [d] }
  | _ => none }
def fnCoreLengthHasRow : OpenClaim := { program := "ytbfcfhngfenpjaa", sum := "c175599841a2fcda853c709930d935d8b3a8788350d2e4016dc47f7d1d52e2b9", func := "loop.example/icecores/laws.FnCoreLengthHas", spec := "fnCoreLengthHas", unfollowed := true, recurses := true, apart := false }
def FnCoreLengthHasSaid : Prop := fnCoreLengthHasRow.holds Try.pinned (OpenSpec.ofChange fnCoreLengthHasSpec)

/-- ITS FALSE NEIGHBOUR: 'it returns false'. Refute it at one input. -/
def fnCoreLengthHasWrong : ChangeSpec := { name := "fnCoreLengthHas", fn := fun _ => fun
  | [d] => { results := [.lit (.bool false)], args := [d] }
  | _ => none }
def FnCoreLengthHasWrongFalsely : Prop := fnCoreLengthHasRow.holds Try.pinned (OpenSpec.ofChange fnCoreLengthHasWrong)

/-- 'laws.FnCoreGaps': WHATEVER THE INPUT: true; the input reads as it did. -/
def fnCoreGapsSpec : ChangeSpec := { name := "fnCoreGaps", fn := fun _ => fun
  | [d] => { results := [.lit (.bool true)], args := [d] }
  | _ => none }
def fnCoreGapsRow : OpenClaim := { program := "ytbfcfhngfenpjaa", sum := "c175599841a2fcda853c709930d935d8b3a8788350d2e4016dc47f7d1d52e2b9", func := "loop.example/icecores/laws.FnCoreGaps", spec := "fnCoreGaps", apart := false }
def FnCoreGapsSaid : Prop := fnCoreGapsRow.holds Try.pinned (OpenSpec.ofChange fnCoreGapsSpec)

/-- ITS FALSE NEIGHBOUR: 'it returns false'. Refute it at one input. -/
def fnCoreGapsWrong : ChangeSpec := { name := "fnCoreGaps", fn := fun _ => fun
  | [d] => { results := [.lit (.bool false)], args := [d] }
  | _ => none }
def FnCoreGapsWrongFalsely : Prop := fnCoreGapsRow.holds Try.pinned (OpenSpec.ofChange fnCoreGapsWrong)

/-- 'laws.FnExactCoreGaps': WHATEVER THE INPUT: true; the input reads as it did. -/
def fnExactCoreGapsSpec : ChangeSpec := { name := "fnExactCoreGaps", fn := fun _ => fun
  | [d] => { results := [.lit (.bool true)], args := [d] }
  | _ => none }
def fnExactCoreGapsRow : OpenClaim := { program := "ytbfcfhngfenpjaa", sum := "c175599841a2fcda853c709930d935d8b3a8788350d2e4016dc47f7d1d52e2b9", func := "loop.example/icecores/laws.FnExactCoreGaps", spec := "fnExactCoreGaps", apart := false }
def FnExactCoreGapsSaid : Prop := fnExactCoreGapsRow.holds Try.pinned (OpenSpec.ofChange fnExactCoreGapsSpec)

/-- ITS FALSE NEIGHBOUR: 'it returns false'. Refute it at one input. -/
def fnExactCoreGapsWrong : ChangeSpec := { name := "fnExactCoreGaps", fn := fun _ => fun
  | [d] => { results := [.lit (.bool false)], args := [d] }
  | _ => none }
def FnExactCoreGapsWrongFalsely : Prop := fnExactCoreGapsRow.holds Try.pinned (OpenSpec.ofChange fnExactCoreGapsWrong)

/-- 'laws.FnCoreGapsGaps': WHATEVER THE INPUT: true; the input reads as it did. -/
def fnCoreGapsGapsSpec : ChangeSpec := { name := "fnCoreGapsGaps", fn := fun _ => fun
  | [d] => { results := [.lit (.bool true)], args := [d] }
  | _ => none }
def fnCoreGapsGapsRow : OpenClaim := { program := "ytbfcfhngfenpjaa", sum := "c175599841a2fcda853c709930d935d8b3a8788350d2e4016dc47f7d1d52e2b9", func := "loop.example/icecores/laws.FnCoreGapsGaps", spec := "fnCoreGapsGaps", apart := false }
def FnCoreGapsGapsSaid : Prop := fnCoreGapsGapsRow.holds Try.pinned (OpenSpec.ofChange fnCoreGapsGapsSpec)

/-- ITS FALSE NEIGHBOUR: 'it returns false'. Refute it at one input. -/
def fnCoreGapsGapsWrong : ChangeSpec := { name := "fnCoreGapsGaps", fn := fun _ => fun
  | [d] => { results := [.lit (.bool false)], args := [d] }
  | _ => none }
def FnCoreGapsGapsWrongFalsely : Prop := fnCoreGapsGapsRow.holds Try.pinned (OpenSpec.ofChange fnCoreGapsGapsWrong)

/-- 'laws.FnExactCoreJoin': WHATEVER THE INPUT: true; the input reads as it did. -/
def fnExactCoreJoinSpec : ChangeSpec := { name := "fnExactCoreJoin", fn := fun _ => fun
  | [d] => { results := [.lit (.bool true)], args := [d] }
  | _ => none }
def fnExactCoreJoinRow : OpenClaim := { program := "ytbfcfhngfenpjaa", sum := "c175599841a2fcda853c709930d935d8b3a8788350d2e4016dc47f7d1d52e2b9", func := "loop.example/icecores/laws.FnExactCoreJoin", spec := "fnExactCoreJoin", apart := false }
def FnExactCoreJoinSaid : Prop := fnExactCoreJoinRow.holds Try.pinned (OpenSpec.ofChange fnExactCoreJoinSpec)

/-- ITS FALSE NEIGHBOUR: 'it returns false'. Refute it at one input. -/
def fnExactCoreJoinWrong : ChangeSpec := { name := "fnExactCoreJoin", fn := fun _ => fun
  | [d] => { results := [.lit (.bool false)], args := [d] }
  | _ => none }
def FnExactCoreJoinWrongFalsely : Prop := fnExactCoreJoinRow.holds Try.pinned (OpenSpec.ofChange fnExactCoreJoinWrong)

/-- 'laws.FnExactCoreBetween': WHATEVER THE INPUT: true; the input reads as it did. -/
def fnExactCoreBetweenSpec : ChangeSpec := { name := "fnExactCoreBetween", fn := fun _ => fun
  | [d1, d2, d3] => { results := [.lit (.bool true)], args := [d1, d2, d3] }
  | _ => none }
def fnExactCoreBetweenRow : OpenClaim := { program := "ytbfcfhngfenpjaa", sum := "c175599841a2fcda853c709930d935d8b3a8788350d2e4016dc47f7d1d52e2b9", func := "loop.example/icecores/laws.FnExactCoreBetween", spec := "fnExactCoreBetween", apart := false }
def FnExactCoreBetweenSaid : Prop := fnExactCoreBetweenRow.holds Try.pinned (OpenSpec.ofChange fnExactCoreBetweenSpec)

/-- ITS FALSE NEIGHBOUR: 'it returns false'. Refute it at one input. -/
def fnExactCoreBetweenWrong : ChangeSpec := { name := "fnExactCoreBetween", fn := fun _ => fun
  | [d1, d2, d3] => { results := [.lit (.bool false)], args := [d1, d2, d3] }
  | _ => none }
def FnExactCoreBetweenWrongFalsely : Prop := fnExactCoreBetweenRow.holds Try.pinned (OpenSpec.ofChange fnExactCoreBetweenWrong)

/- THE SECOND FORM. 'bulk': how many values and letters a reading holds, each counted each time it is reached (what is shared counts as often as it is met; a slice's spare places count too). A statement '..UptoSaid' is the law's where the arguments, and the package variables that the reading takes, are together of bulk at most 1048576: NARROWER than '..Said'. Prove '..Said' where nothing that the law and all that it calls make is longer than what came in: it says more and counts as full. Else prove '..UptoSaid'. A law counts once. -/
mutual
def uptoBulk {H : Type} : DataW H → Nat
  | .lit (.string bytes) => bytes.length + 1
  | .lit _ => 1
  | .nil => 1
  | .ptr d => uptoBulk d + 1
  | .slice elems spare => uptoBulkAll elems + uptoBulkAll spare + 1
  | .agg parts => uptoBulkAll parts + 1
  | .iface _ d => uptoBulk d + 1
  | .map entries => uptoBulkEntries entries + 1
  | .held _ => 1
def uptoBulkAll {H : Type} : List (DataW H) → Nat
  | [] => 0
  | d :: r => uptoBulk d + uptoBulkAll r
def uptoBulkEntries {H : Type} : List (Lit × DataW H) → Nat
  | [] => 0
  | x :: r => uptoBulkEntry x + uptoBulkEntries r
def uptoBulkEntry {H : Type} : Lit × DataW H → Nat
  | (.string bytes, d) => bytes.length + uptoBulk d + 1
  | (_, d) => uptoBulk d + 1
 end
def uptoSmall : (H : Type) → List (DataW H) → Bool := fun _ ds => decide (uptoBulkAll ds ≤ 1048576)
def OpenSpec.upto (s : _root_.Go.ChangeSpec) : _root_.Go.OpenSpec := { _root_.Go.OpenSpec.ofChange s with cond := some uptoSmall }

/-- 'laws.FnExactCoreValid', WHERE WHAT IT READS IS OF BULK AT MOST 1048576: true; the input reads as it did. -/
def fnExactCoreValidUptoRow : OpenClaim := { program := "ytbfcfhngfenpjaa", sum := "c175599841a2fcda853c709930d935d8b3a8788350d2e4016dc47f7d1d52e2b9", func := "loop.example/icecores/laws.FnExactCoreValid", spec := "fnExactCoreValid", apart := false, narrowed := true }
def FnExactCoreValidUptoSaid : Prop := fnExactCoreValidUptoRow.holds Try.pinned (OpenSpec.upto fnExactCoreValidSpec)

/-- 'laws.FnCore', WHERE WHAT IT READS IS OF BULK AT MOST 1048576: true; the input reads as it did. -/
def fnCoreUptoRow : OpenClaim := { program := "ytbfcfhngfenpjaa", sum := "c175599841a2fcda853c709930d935d8b3a8788350d2e4016dc47f7d1d52e2b9", func := "loop.example/icecores/laws.FnCore", spec := "fnCore", apart := false, narrowed := true }
def FnCoreUptoSaid : Prop := fnCoreUptoRow.holds Try.pinned (OpenSpec.upto fnCoreSpec)

/-- 'laws.FnExactCoreLength', WHERE WHAT IT READS IS OF BULK AT MOST 1048576: true; the input reads as it did. -/
def fnExactCoreLengthUptoRow : OpenClaim := { program := "ytbfcfhngfenpjaa", sum := "c175599841a2fcda853c709930d935d8b3a8788350d2e4016dc47f7d1d52e2b9", func := "loop.example/icecores/laws.FnExactCoreLength", spec := "fnExactCoreLength", apart := false, narrowed := true }
def FnExactCoreLengthUptoSaid : Prop := fnExactCoreLengthUptoRow.holds Try.pinned (OpenSpec.upto fnExactCoreLengthSpec)

/-- 'laws.FnExactCoreHas', WHERE WHAT IT READS IS OF BULK AT MOST 1048576: true; the input reads as it did. -/
def fnExactCoreHasUptoRow : OpenClaim := { program := "ytbfcfhngfenpjaa", sum := "c175599841a2fcda853c709930d935d8b3a8788350d2e4016dc47f7d1d52e2b9", func := "loop.example/icecores/laws.FnExactCoreHas", spec := "fnExactCoreHas", unfollowed := true, recurses := true, apart := false, narrowed := true }
def FnExactCoreHasUptoSaid : Prop := fnExactCoreHasUptoRow.holds Try.pinned (OpenSpec.upto fnExactCoreHasSpec)

/-- 'laws.FnCoreHas', WHERE WHAT IT READS IS OF BULK AT MOST 1048576: true; the input reads as it did. -/
def fnCoreHasUptoRow : OpenClaim := { program := "ytbfcfhngfenpjaa", sum := "c175599841a2fcda853c709930d935d8b3a8788350d2e4016dc47f7d1d52e2b9", func := "loop.example/icecores/laws.FnCoreHas", spec := "fnCoreHas", unfollowed := true, recurses := true, apart := false, narrowed := true }
def FnCoreHasUptoSaid : Prop := fnCoreHasUptoRow.holds Try.pinned (OpenSpec.upto fnCoreHasSpec)

/-- 'laws.FnCoreHasEnds', WHERE WHAT IT READS IS OF BULK AT MOST 1048576: true; the input reads as it did. -/
def fnCoreHasEndsUptoRow : OpenClaim := { program := "ytbfcfhngfenpjaa", sum := "c175599841a2fcda853c709930d935d8b3a8788350d2e4016dc47f7d1d52e2b9", func := "loop.example/icecores/laws.FnCoreHasEnds", spec := "fnCoreHasEnds", unfollowed := true, recurses := true, apart := false, narrowed := true }
def FnCoreHasEndsUptoSaid : Prop := fnCoreHasEndsUptoRow.holds Try.pinned (OpenSpec.upto fnCoreHasEndsSpec)

/-- 'laws.FnCoreLength', WHERE WHAT IT READS IS OF BULK AT MOST 1048576: true; the input reads as it did. -/
def fnCoreLengthUptoRow : OpenClaim := { program := "ytbfcfhngfenpjaa", sum := "c175599841a2fcda853c709930d935d8b3a8788350d2e4016dc47f7d1d52e2b9", func := "loop.example/icecores/laws.FnCoreLength", spec := "fnCoreLength", apart := false, narrowed := true }
def FnCoreLengthUptoSaid : Prop := fnCoreLengthUptoRow.holds Try.pinned (OpenSpec.upto fnCoreLengthSpec)

/-- 'laws.FnCoreLengthHas', WHERE WHAT IT READS IS OF BULK AT MOST 1048576: true; the input reads as it did. -/
def fnCoreLengthHasUptoRow : OpenClaim := { program := "ytbfcfhngfenpjaa", sum := "c175599841a2fcda853c709930d935d8b3a8788350d2e4016dc47f7d1d52e2b9", func := "loop.example/icecores/laws.FnCoreLengthHas", spec := "fnCoreLengthHas", unfollowed := true, recurses := true, apart := false, narrowed := true }
def FnCoreLengthHasUptoSaid : Prop := fnCoreLengthHasUptoRow.holds Try.pinned (OpenSpec.upto fnCoreLengthHasSpec)

/-- 'laws.FnCoreGaps', WHERE WHAT IT READS IS OF BULK AT MOST 1048576: true; the input reads as it did. -/
def fnCoreGapsUptoRow : OpenClaim := { program := "ytbfcfhngfenpjaa", sum := "c175599841a2fcda853c709930d935d8b3a8788350d2e4016dc47f7d1d52e2b9", func := "loop.example/icecores/laws.FnCoreGaps", spec := "fnCoreGaps", apart := false, narrowed := true }
def FnCoreGapsUptoSaid : Prop := fnCoreGapsUptoRow.holds Try.pinned (OpenSpec.upto fnCoreGapsSpec)

/-- 'laws.FnExactCoreGaps', WHERE WHAT IT READS IS OF BULK AT MOST 1048576: true; the input reads as it did. -/
def fnExactCoreGapsUptoRow : OpenClaim := { program := "ytbfcfhngfenpjaa", sum := "c175599841a2fcda853c709930d935d8b3a8788350d2e4016dc47f7d1d52e2b9", func := "loop.example/icecores/laws.FnExactCoreGaps", spec := "fnExactCoreGaps", apart := false, narrowed := true }
def FnExactCoreGapsUptoSaid : Prop := fnExactCoreGapsUptoRow.holds Try.pinned (OpenSpec.upto fnExactCoreGapsSpec)

/-- 'laws.FnCoreGapsGaps', WHERE WHAT IT READS IS OF BULK AT MOST 1048576: true; the input reads as it did. -/
def fnCoreGapsGapsUptoRow : OpenClaim := { program := "ytbfcfhngfenpjaa", sum := "c175599841a2fcda853c709930d935d8b3a8788350d2e4016dc47f7d1d52e2b9", func := "loop.example/icecores/laws.FnCoreGapsGaps", spec := "fnCoreGapsGaps", apart := false, narrowed := true }
def FnCoreGapsGapsUptoSaid : Prop := fnCoreGapsGapsUptoRow.holds Try.pinned (OpenSpec.upto fnCoreGapsGapsSpec)

/-- 'laws.FnExactCoreJoin', WHERE WHAT IT READS IS OF BULK AT MOST 1048576: true; the input reads as it did. -/
def fnExactCoreJoinUptoRow : OpenClaim := { program := "ytbfcfhngfenpjaa", sum := "c175599841a2fcda853c709930d935d8b3a8788350d2e4016dc47f7d1d52e2b9", func := "loop.example/icecores/laws.FnExactCoreJoin", spec := "fnExactCoreJoin", apart := false, narrowed := true }
def FnExactCoreJoinUptoSaid : Prop := fnExactCoreJoinUptoRow.holds Try.pinned (OpenSpec.upto fnExactCoreJoinSpec)

/-- 'laws.FnExactCoreBetween', WHERE WHAT IT READS IS OF BULK AT MOST 1048576: true; the input reads as it did. -/
def fnExactCoreBetweenUptoRow : OpenClaim := { program := "ytbfcfhngfenpjaa", sum := "c175599841a2fcda853c709930d935d8b3a8788350d2e4016dc47f7d1d52e2b9", func := "loop.example/icecores/laws.FnExactCoreBetween", spec := "fnExactCoreBetween", apart := false, narrowed := true }
def FnExactCoreBetweenUptoSaid : Prop := fnExactCoreBetweenUptoRow.holds Try.pinned (OpenSpec.upto fnExactCoreBetweenSpec)

end Rows
end Go.Proofs.Ytbfcfhngfenpjaa
