/-
  DERIVED. GIVEN WITH THE SEED: THE CARDS: each row of YtbgbocdohadhoaaDoorRows.lean that lists a variable, with what it lists TIED to the program's text (the seventh form; the later family's looks); each row that meets fmt, with fmt's text TOLD by the authors' own Lean function (tested against real Go, not proved from fmt's source: count such statements apart). THE CARD IS WHAT COUNTS. Prove the row's statement (the work); the ties are given (YtbgbocdohadhoaaDoorTie.lean); close each card by the builder's one call (the guide's Derived/Test/ToyasCard.lean, 'card_holds'). Laid BY PROGRAM, IN A SANDBOX (cutbox-door.mjs). By AI agents, Wed Nov 11 2026. No macro, syntax, notation, axiom, sorry.
-/
import Derived.Test.YtbgbocdohadhoaaDoorRows
import GoSem.ClaimSeven
namespace Go.Proofs.YtbgbocdohadhoaaDoor
namespace Rows

/-- THE TIED CARD OF 'laws.FnExactValidPath'. -/
def fnExactValidPathCard : Claim7 := { stood := { row := fnExactValidPathRow, standIns := [], harness := (true, "315b13090ccdb0a690506cc700d9df368a48c098d999642fff85f69f6bfec662"), looks := true }, kinds := [], alts := [], laidByText := true, laidKinds := [.data, .pinned], laidTests := true, laidLooks := .later }
def FnExactValidPathCardSaid : Prop := Claim7.holds Tryd.pinned (.plain (OpenSpec.ofChange fnExactValidPathSpec)) fnExactValidPathCard

/-- THE TIED CARD OF 'laws.FnExactValidState'. -/
def fnExactValidStateCard : Claim7 := { stood := { row := fnExactValidStateRow, standIns := [], harness := (true, "315b13090ccdb0a690506cc700d9df368a48c098d999642fff85f69f6bfec662"), looks := true }, kinds := [], alts := [], laidByText := true, laidKinds := [.data, .pinned], laidTests := true, laidLooks := .later }
def FnExactValidStateCardSaid : Prop := Claim7.holds Tryd.pinned (.plain (OpenSpec.ofChange fnExactValidStateSpec)) fnExactValidStateCard

/-- THE TIED CARD OF 'laws.FnExactExpired'. -/
def fnExactExpiredCard : Claim7 := { stood := { row := fnExactExpiredRow, standIns := [], harness := (true, "315b13090ccdb0a690506cc700d9df368a48c098d999642fff85f69f6bfec662"), looks := true }, kinds := [], alts := [], laidByText := true, laidKinds := [.data, .pinned], laidTests := true, laidLooks := .later }
def FnExactExpiredCardSaid : Prop := Claim7.holds Tryd.pinned (.plain (OpenSpec.ofChange fnExactExpiredSpec)) fnExactExpiredCard

/-- THE TIED CARD OF 'laws.FnExactEncodeState'. -/
def fnExactEncodeStateCard : Claim7 := { stood := { row := fnExactEncodeStateRow, standIns := [], harness := (true, "315b13090ccdb0a690506cc700d9df368a48c098d999642fff85f69f6bfec662"), looks := true }, kinds := [], alts := [], laidByText := true, laidKinds := [.data, .pinned], laidTests := true, laidLooks := .later }
def FnExactEncodeStateCardSaid : Prop := Claim7.holds Tryd.pinned (.plain (OpenSpec.ofChange fnExactEncodeStateSpec)) fnExactEncodeStateCard

/-- THE TIED CARD OF 'laws.FnExactDecodeState'. -/
def fnExactDecodeStateCard : Claim7 := { stood := { row := fnExactDecodeStateRow, standIns := [], harness := (true, "315b13090ccdb0a690506cc700d9df368a48c098d999642fff85f69f6bfec662"), looks := true }, kinds := [], alts := [], laidByText := true, laidKinds := [.data, .pinned], laidTests := true, laidLooks := .later }
def FnExactDecodeStateCardSaid : Prop := Claim7.holds Tryd.pinned (.plain (OpenSpec.ofChange fnExactDecodeStateSpec)) fnExactDecodeStateCard

/-- THE TIED CARD OF 'laws.FnExactParseCommand'. -/
def fnExactParseCommandCard : Claim7 := { stood := { row := fnExactParseCommandRow, standIns := [], harness := (true, "315b13090ccdb0a690506cc700d9df368a48c098d999642fff85f69f6bfec662"), looks := true }, kinds := [], alts := [], laidByText := true, laidKinds := [.data, .data, .data, .data, .sentinel, .sentinel, .pinned], laidTests := true, laidLooks := .later }
def FnExactParseCommandCardSaid : Prop := Claim7.holds Tryd.pinned (.plain (OpenSpec.ofChange fnExactParseCommandSpec)) fnExactParseCommandCard

/-- THE SECOND FORM's CARD OF 'laws.FnExactValidPath'. -/
def fnExactValidPathUptoCard : Claim7 := { stood := { row := fnExactValidPathUptoRow, standIns := [], harness := (true, "315b13090ccdb0a690506cc700d9df368a48c098d999642fff85f69f6bfec662"), looks := true }, kinds := [], alts := [], laidByText := true, laidKinds := [.data, .pinned], laidTests := true, laidLooks := .later }
def FnExactValidPathUptoCardSaid : Prop := Claim7.holds Tryd.pinned (.plain (OpenSpec.upto fnExactValidPathSpec)) fnExactValidPathUptoCard

/-- THE SECOND FORM's CARD OF 'laws.FnExactValidState'. -/
def fnExactValidStateUptoCard : Claim7 := { stood := { row := fnExactValidStateUptoRow, standIns := [], harness := (true, "315b13090ccdb0a690506cc700d9df368a48c098d999642fff85f69f6bfec662"), looks := true }, kinds := [], alts := [], laidByText := true, laidKinds := [.data, .pinned], laidTests := true, laidLooks := .later }
def FnExactValidStateUptoCardSaid : Prop := Claim7.holds Tryd.pinned (.plain (OpenSpec.upto fnExactValidStateSpec)) fnExactValidStateUptoCard

/-- THE SECOND FORM's CARD OF 'laws.FnExactExpired'. -/
def fnExactExpiredUptoCard : Claim7 := { stood := { row := fnExactExpiredUptoRow, standIns := [], harness := (true, "315b13090ccdb0a690506cc700d9df368a48c098d999642fff85f69f6bfec662"), looks := true }, kinds := [], alts := [], laidByText := true, laidKinds := [.data, .pinned], laidTests := true, laidLooks := .later }
def FnExactExpiredUptoCardSaid : Prop := Claim7.holds Tryd.pinned (.plain (OpenSpec.upto fnExactExpiredSpec)) fnExactExpiredUptoCard

/-- THE SECOND FORM's CARD OF 'laws.FnExactEncodeState'. -/
def fnExactEncodeStateUptoCard : Claim7 := { stood := { row := fnExactEncodeStateUptoRow, standIns := [], harness := (true, "315b13090ccdb0a690506cc700d9df368a48c098d999642fff85f69f6bfec662"), looks := true }, kinds := [], alts := [], laidByText := true, laidKinds := [.data, .pinned], laidTests := true, laidLooks := .later }
def FnExactEncodeStateUptoCardSaid : Prop := Claim7.holds Tryd.pinned (.plain (OpenSpec.upto fnExactEncodeStateSpec)) fnExactEncodeStateUptoCard

/-- THE SECOND FORM's CARD OF 'laws.FnExactDecodeState'. -/
def fnExactDecodeStateUptoCard : Claim7 := { stood := { row := fnExactDecodeStateUptoRow, standIns := [], harness := (true, "315b13090ccdb0a690506cc700d9df368a48c098d999642fff85f69f6bfec662"), looks := true }, kinds := [], alts := [], laidByText := true, laidKinds := [.data, .pinned], laidTests := true, laidLooks := .later }
def FnExactDecodeStateUptoCardSaid : Prop := Claim7.holds Tryd.pinned (.plain (OpenSpec.upto fnExactDecodeStateSpec)) fnExactDecodeStateUptoCard

/-- THE SECOND FORM's CARD OF 'laws.FnExactParseCommand'. -/
def fnExactParseCommandUptoCard : Claim7 := { stood := { row := fnExactParseCommandUptoRow, standIns := [], harness := (true, "315b13090ccdb0a690506cc700d9df368a48c098d999642fff85f69f6bfec662"), looks := true }, kinds := [], alts := [], laidByText := true, laidKinds := [.data, .data, .data, .data, .sentinel, .sentinel, .pinned], laidTests := true, laidLooks := .later }
def FnExactParseCommandUptoCardSaid : Prop := Claim7.holds Tryd.pinned (.plain (OpenSpec.upto fnExactParseCommandSpec)) fnExactParseCommandUptoCard
end Rows
end Go.Proofs.YtbgbocdohadhoaaDoor
