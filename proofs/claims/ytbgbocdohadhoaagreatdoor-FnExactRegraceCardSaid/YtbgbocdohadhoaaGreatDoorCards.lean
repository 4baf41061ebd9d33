/-
  DERIVED. GIVEN WITH THE SEED: THE CARDS: each row of YtbgbocdohadhoaaGreatDoorRows.lean that lists a variable, with what it lists TIED to the program's text (the seventh form; the later family's looks); each row that meets fmt, with fmt's text TOLD by the authors' own Lean function (tested against real Go, not proved from fmt's source: count such statements apart). THE CARD IS WHAT COUNTS. Prove the row's statement (the work); the ties are given (YtbgbocdohadhoaaGreatDoorTie.lean); close each card by the builder's one call (the guide's Derived/Test/ToyasCard.lean, 'card_holds'). Laid BY PROGRAM, IN A SANDBOX (cutbox-door.mjs). By AI agents, Wed Nov 11 2026. No macro, syntax, notation, axiom, sorry.
-/
import Derived.Test.YtbgbocdohadhoaaGreatDoorRows
import GoSem.ClaimSeven
namespace Go.Proofs.YtbgbocdohadhoaaGreatDoor
namespace Rows

/-- THE TIED CARD OF 'laws.FnExactRegrace'. -/
def fnExactRegraceCard : Claim7 := { stood := { row := fnExactRegraceRow, standIns := [], harness := (true, "1f18d1295a7c5ca0029c8454bacdcaa440162efbe6a17fc9a9c9a340f9e5627a"), looks := false }, kinds := [], alts := [], laidByText := true, laidKinds := [.data, .pinned], laidTests := true, laidLooks := .later }
def FnExactRegraceCardSaid : Prop := Claim7.holds Tryz.pinned (.plain (OpenSpec.ofChange fnExactRegraceSpec)) fnExactRegraceCard

/-- THE TIED CARD OF 'laws.FnExactAdvance'. -/
def fnExactAdvanceCard : Claim7 := { stood := { row := fnExactAdvanceRow, standIns := [], harness := (true, "1f18d1295a7c5ca0029c8454bacdcaa440162efbe6a17fc9a9c9a340f9e5627a"), looks := false }, kinds := [], alts := [], laidByText := true, laidKinds := [.data, .pinned], laidTests := true, laidLooks := .later }
def FnExactAdvanceCardSaid : Prop := Claim7.holds Tryz.pinned (.plain (OpenSpec.ofChange fnExactAdvanceSpec)) fnExactAdvanceCard

/-- THE TIED CARD OF 'laws.FnCodec'. -/
def fnCodecCard : Claim7 := { stood := { row := fnCodecRow, standIns := [], harness := (true, "1f18d1295a7c5ca0029c8454bacdcaa440162efbe6a17fc9a9c9a340f9e5627a"), looks := false }, kinds := [], alts := [], laidByText := true, laidKinds := [.data, .pinned], laidTests := true, laidLooks := .later }
def FnCodecCardSaid : Prop := Claim7.holds Tryz.pinned (.plain (OpenSpec.ofChange fnCodecSpec)) fnCodecCard

/-- THE SECOND FORM's CARD OF 'laws.FnExactRegrace'. -/
def fnExactRegraceUptoCard : Claim7 := { stood := { row := fnExactRegraceUptoRow, standIns := [], harness := (true, "1f18d1295a7c5ca0029c8454bacdcaa440162efbe6a17fc9a9c9a340f9e5627a"), looks := false }, kinds := [], alts := [], laidByText := true, laidKinds := [.data, .pinned], laidTests := true, laidLooks := .later }
def FnExactRegraceUptoCardSaid : Prop := Claim7.holds Tryz.pinned (.plain (OpenSpec.upto fnExactRegraceSpec)) fnExactRegraceUptoCard

/-- THE SECOND FORM's CARD OF 'laws.FnExactAdvance'. -/
def fnExactAdvanceUptoCard : Claim7 := { stood := { row := fnExactAdvanceUptoRow, standIns := [], harness := (true, "1f18d1295a7c5ca0029c8454bacdcaa440162efbe6a17fc9a9c9a340f9e5627a"), looks := false }, kinds := [], alts := [], laidByText := true, laidKinds := [.data, .pinned], laidTests := true, laidLooks := .later }
def FnExactAdvanceUptoCardSaid : Prop := Claim7.holds Tryz.pinned (.plain (OpenSpec.upto fnExactAdvanceSpec)) fnExactAdvanceUptoCard

/-- THE SECOND FORM's CARD OF 'laws.FnCodec'. -/
def fnCodecUptoCard : Claim7 := { stood := { row := fnCodecUptoRow, standIns := [], harness := (true, "1f18d1295a7c5ca0029c8454bacdcaa440162efbe6a17fc9a9c9a340f9e5627a"), looks := false }, kinds := [], alts := [], laidByText := true, laidKinds := [.data, .pinned], laidTests := true, laidLooks := .later }
def FnCodecUptoCardSaid : Prop := Claim7.holds Tryz.pinned (.plain (OpenSpec.upto fnCodecSpec)) fnCodecUptoCard
end Rows
end Go.Proofs.YtbgbocdohadhoaaGreatDoor
