/-
  DERIVED. GIVEN WITH THE SEED: THE CARDS: each row of YtaikebigaiimaaaDoorRows.lean that lists a variable, with what it lists TIED to the program's text (the seventh form; the later family's looks); each row that meets fmt, with fmt's text TOLD by the authors' own Lean function (tested against real Go, not proved from fmt's source: count such statements apart). THE CARD IS WHAT COUNTS. Prove the row's statement (the work); the ties are given (YtaikebigaiimaaaDoorTie.lean); close each card by the builder's one call (the guide's Derived/Test/ToyasCard.lean, 'card_holds'). Laid BY PROGRAM, IN A SANDBOX (cutbox-door.mjs). By AI agents, Wed Nov 11 2026. No macro, syntax, notation, axiom, sorry.
-/
import Derived.Test.YtaikebigaiimaaaDoorRows
import GoSem.ClaimSeven
namespace Go.Proofs.YtaikebigaiimaaaDoor
namespace Rows

/-- THE TIED CARD OF 'laws.FnExactYearFrom'. -/
def fnExactYearFromCard : Claim7 := { stood := { row := fnExactYearFromRow, standIns := [], harness := (true, "a827f60729c5244eea96e5272a815df28bffae53eab73607e0f9c98579f250f3"), looks := true }, kinds := [], alts := [], laidByText := true, laidKinds := [.data, .data, .data, .sentinel, .sentinel], laidTests := true, laidLooks := .later }
def FnExactYearFromCardSaid : Prop := Claim7.holds Tryd.pinned (.plain (OpenSpec.ofChange fnExactYearFromSpec)) fnExactYearFromCard

/-- THE TIED CARD OF 'laws.FnYearText'. -/
def fnYearTextCard : Claim7 := { stood := { row := fnYearTextRow, standIns := [], harness := (true, "a827f60729c5244eea96e5272a815df28bffae53eab73607e0f9c98579f250f3"), looks := true }, kinds := [], alts := [], laidByText := true, laidKinds := [.data, .data, .data, .sentinel, .sentinel], laidTests := true, laidLooks := .later }
def FnYearTextCardSaid : Prop := Claim7.holds Tryd.pinned (.plain (OpenSpec.ofChange fnYearTextSpec)) fnYearTextCard

/-- THE TIED CARD OF 'laws.FnYearFrom'. -/
def fnYearFromCard : Claim7 := { stood := { row := fnYearFromRow, standIns := [], harness := (true, "a827f60729c5244eea96e5272a815df28bffae53eab73607e0f9c98579f250f3"), looks := true }, kinds := [], alts := [], laidByText := true, laidKinds := [.data, .data, .data, .sentinel, .sentinel], laidTests := true, laidLooks := .later }
def FnYearFromCardSaid : Prop := Claim7.holds Tryd.pinned (.plain (OpenSpec.ofChange fnYearFromSpec)) fnYearFromCard

/-- THE TIED CARD OF 'laws.FnExactYearText'. -/
def fnExactYearTextCard : Claim7 := { stood := { row := fnExactYearTextRow, standIns := [], harness := (true, "a827f60729c5244eea96e5272a815df28bffae53eab73607e0f9c98579f250f3"), looks := true }, kinds := [], alts := [], laidByText := true, laidKinds := [.data, .data, .data], laidTests := true, laidLooks := .later }
def FnExactYearTextCardSaid : Prop := Claim7.holds Tryd.pinned (.plain (OpenSpec.ofChange fnExactYearTextSpec)) fnExactYearTextCard

/-- THE TIED CARD OF 'laws.FnYearTextEra'. -/
def fnYearTextEraCard : Claim7 := { stood := { row := fnYearTextEraRow, standIns := [], harness := (true, "a827f60729c5244eea96e5272a815df28bffae53eab73607e0f9c98579f250f3"), looks := true }, kinds := [], alts := [], laidByText := true, laidKinds := [.data, .data, .data], laidTests := true, laidLooks := .later }
def FnYearTextEraCardSaid : Prop := Claim7.holds Tryd.pinned (.plain (OpenSpec.ofChange fnYearTextEraSpec)) fnYearTextEraCard

/-- THE TIED CARD OF 'laws.FnYearTextNext'. -/
def fnYearTextNextCard : Claim7 := { stood := { row := fnYearTextNextRow, standIns := [], harness := (true, "a827f60729c5244eea96e5272a815df28bffae53eab73607e0f9c98579f250f3"), looks := true }, kinds := [], alts := [], laidByText := true, laidKinds := [.data, .data, .data], laidTests := true, laidLooks := .later }
def FnYearTextNextCardSaid : Prop := Claim7.holds Tryd.pinned (.plain (OpenSpec.ofChange fnYearTextNextSpec)) fnYearTextNextCard

/-- THE TIED CARD OF 'laws.FnYearOf'. -/
def fnYearOfCard : Claim7 := { stood := { row := fnYearOfRow, standIns := [], harness := (true, "a827f60729c5244eea96e5272a815df28bffae53eab73607e0f9c98579f250f3"), looks := true }, kinds := [], alts := [], laidByText := true, laidKinds := [.data, .data, .data], laidTests := true, laidLooks := .later }
def FnYearOfCardSaid : Prop := Claim7.holds Tryd.pinned (.plain (OpenSpec.ofChange fnYearOfSpec)) fnYearOfCard

/-- THE TIED CARD OF 'laws.FnExactFracText'. -/
def fnExactFracTextCard : Claim7 := { stood := { row := fnExactFracTextRow, standIns := [], harness := (true, "a827f60729c5244eea96e5272a815df28bffae53eab73607e0f9c98579f250f3"), looks := true }, kinds := [], alts := [], laidByText := true, laidKinds := [.data, .data, .data], laidTests := true, laidLooks := .later }
def FnExactFracTextCardSaid : Prop := Claim7.holds Tryd.pinned (.plain (OpenSpec.ofChange fnExactFracTextSpec)) fnExactFracTextCard

/-- THE TIED CARD OF 'laws.FnFracText'. -/
def fnFracTextCard : Claim7 := { stood := { row := fnFracTextRow, standIns := [], harness := (true, "a827f60729c5244eea96e5272a815df28bffae53eab73607e0f9c98579f250f3"), looks := true }, kinds := [], alts := [], laidByText := true, laidKinds := [.data, .data, .data], laidTests := true, laidLooks := .later }
def FnFracTextCardSaid : Prop := Claim7.holds Tryd.pinned (.plain (OpenSpec.ofChange fnFracTextSpec)) fnFracTextCard

/-- THE SECOND FORM's CARD OF 'laws.FnExactYearFrom'. -/
def fnExactYearFromUptoCard : Claim7 := { stood := { row := fnExactYearFromUptoRow, standIns := [], harness := (true, "a827f60729c5244eea96e5272a815df28bffae53eab73607e0f9c98579f250f3"), looks := true }, kinds := [], alts := [], laidByText := true, laidKinds := [.data, .data, .data, .sentinel, .sentinel], laidTests := true, laidLooks := .later }
def FnExactYearFromUptoCardSaid : Prop := Claim7.holds Tryd.pinned (.plain (OpenSpec.upto fnExactYearFromSpec)) fnExactYearFromUptoCard

/-- THE SECOND FORM's CARD OF 'laws.FnYearText'. -/
def fnYearTextUptoCard : Claim7 := { stood := { row := fnYearTextUptoRow, standIns := [], harness := (true, "a827f60729c5244eea96e5272a815df28bffae53eab73607e0f9c98579f250f3"), looks := true }, kinds := [], alts := [], laidByText := true, laidKinds := [.data, .data, .data, .sentinel, .sentinel], laidTests := true, laidLooks := .later }
def FnYearTextUptoCardSaid : Prop := Claim7.holds Tryd.pinned (.plain (OpenSpec.upto fnYearTextSpec)) fnYearTextUptoCard

/-- THE SECOND FORM's CARD OF 'laws.FnYearFrom'. -/
def fnYearFromUptoCard : Claim7 := { stood := { row := fnYearFromUptoRow, standIns := [], harness := (true, "a827f60729c5244eea96e5272a815df28bffae53eab73607e0f9c98579f250f3"), looks := true }, kinds := [], alts := [], laidByText := true, laidKinds := [.data, .data, .data, .sentinel, .sentinel], laidTests := true, laidLooks := .later }
def FnYearFromUptoCardSaid : Prop := Claim7.holds Tryd.pinned (.plain (OpenSpec.upto fnYearFromSpec)) fnYearFromUptoCard

/-- THE SECOND FORM's CARD OF 'laws.FnExactYearText'. -/
def fnExactYearTextUptoCard : Claim7 := { stood := { row := fnExactYearTextUptoRow, standIns := [], harness := (true, "a827f60729c5244eea96e5272a815df28bffae53eab73607e0f9c98579f250f3"), looks := true }, kinds := [], alts := [], laidByText := true, laidKinds := [.data, .data, .data], laidTests := true, laidLooks := .later }
def FnExactYearTextUptoCardSaid : Prop := Claim7.holds Tryd.pinned (.plain (OpenSpec.upto fnExactYearTextSpec)) fnExactYearTextUptoCard

/-- THE SECOND FORM's CARD OF 'laws.FnYearTextEra'. -/
def fnYearTextEraUptoCard : Claim7 := { stood := { row := fnYearTextEraUptoRow, standIns := [], harness := (true, "a827f60729c5244eea96e5272a815df28bffae53eab73607e0f9c98579f250f3"), looks := true }, kinds := [], alts := [], laidByText := true, laidKinds := [.data, .data, .data], laidTests := true, laidLooks := .later }
def FnYearTextEraUptoCardSaid : Prop := Claim7.holds Tryd.pinned (.plain (OpenSpec.upto fnYearTextEraSpec)) fnYearTextEraUptoCard

/-- THE SECOND FORM's CARD OF 'laws.FnYearTextNext'. -/
def fnYearTextNextUptoCard : Claim7 := { stood := { row := fnYearTextNextUptoRow, standIns := [], harness := (true, "a827f60729c5244eea96e5272a815df28bffae53eab73607e0f9c98579f250f3"), looks := true }, kinds := [], alts := [], laidByText := true, laidKinds := [.data, .data, .data], laidTests := true, laidLooks := .later }
def FnYearTextNextUptoCardSaid : Prop := Claim7.holds Tryd.pinned (.plain (OpenSpec.upto fnYearTextNextSpec)) fnYearTextNextUptoCard

/-- THE SECOND FORM's CARD OF 'laws.FnYearOf'. -/
def fnYearOfUptoCard : Claim7 := { stood := { row := fnYearOfUptoRow, standIns := [], harness := (true, "a827f60729c5244eea96e5272a815df28bffae53eab73607e0f9c98579f250f3"), looks := true }, kinds := [], alts := [], laidByText := true, laidKinds := [.data, .data, .data], laidTests := true, laidLooks := .later }
def FnYearOfUptoCardSaid : Prop := Claim7.holds Tryd.pinned (.plain (OpenSpec.upto fnYearOfSpec)) fnYearOfUptoCard

/-- THE SECOND FORM's CARD OF 'laws.FnExactFracText'. -/
def fnExactFracTextUptoCard : Claim7 := { stood := { row := fnExactFracTextUptoRow, standIns := [], harness := (true, "a827f60729c5244eea96e5272a815df28bffae53eab73607e0f9c98579f250f3"), looks := true }, kinds := [], alts := [], laidByText := true, laidKinds := [.data, .data, .data], laidTests := true, laidLooks := .later }
def FnExactFracTextUptoCardSaid : Prop := Claim7.holds Tryd.pinned (.plain (OpenSpec.upto fnExactFracTextSpec)) fnExactFracTextUptoCard

/-- THE SECOND FORM's CARD OF 'laws.FnFracText'. -/
def fnFracTextUptoCard : Claim7 := { stood := { row := fnFracTextUptoRow, standIns := [], harness := (true, "a827f60729c5244eea96e5272a815df28bffae53eab73607e0f9c98579f250f3"), looks := true }, kinds := [], alts := [], laidByText := true, laidKinds := [.data, .data, .data], laidTests := true, laidLooks := .later }
def FnFracTextUptoCardSaid : Prop := Claim7.holds Tryd.pinned (.plain (OpenSpec.upto fnFracTextSpec)) fnFracTextUptoCard
end Rows
end Go.Proofs.YtaikebigaiimaaaDoor
