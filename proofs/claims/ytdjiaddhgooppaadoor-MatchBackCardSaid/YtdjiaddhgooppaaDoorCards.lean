/-
  DERIVED. GIVEN WITH THE SEED: THE CARDS: each row of YtdjiaddhgooppaaDoorRows.lean that lists a variable, with what it lists TIED to the program's text (the seventh form; the later family's looks); each row that meets fmt, with fmt's text TOLD by the authors' own Lean function (tested against real Go, not proved from fmt's source: count such statements apart). THE CARD IS WHAT COUNTS. Prove the row's statement (the work); the ties are given (YtdjiaddhgooppaaDoorTie.lean); close each card by the builder's one call (the guide's Derived/Test/ToyasCard.lean, 'card_holds'). Laid BY PROGRAM, IN A SANDBOX (cutbox-door.mjs). By AI agents, Wed Nov 11 2026. No macro, syntax, notation, axiom, sorry.
-/
import Derived.Test.YtdjiaddhgooppaaDoorRows
import GoSem.ClaimSeven
namespace Go.Proofs.YtdjiaddhgooppaaDoor
namespace Rows

/-- THE TIED CARD OF 'enthymemelaw13.MatchValid'. -/
def matchValidCard : Claim7 := { stood := { row := matchValidRow, standIns := [], harness := (true, "2f5ba000907fb2578861ab69c56a9874a887c2d7447f6407a8198c1f431d4775"), looks := false }, kinds := [], alts := [], laidByText := true, laidKinds := [.data, .data, .data], laidTests := true, laidLooks := .later }
def MatchValidCardSaid : Prop := Claim7.holds Tryd.pinned (.plain (OpenSpec.ofChange matchValidSpec)) matchValidCard

/-- THE TIED CARD OF 'enthymemelaw13.MatchBack'. -/
def matchBackCard : Claim7 := { stood := { row := matchBackRow, standIns := [], harness := (true, "2f5ba000907fb2578861ab69c56a9874a887c2d7447f6407a8198c1f431d4775"), looks := false }, kinds := [], alts := [], laidByText := true, laidKinds := [.data, .data, .data], laidTests := true, laidLooks := .later }
def MatchBackCardSaid : Prop := Claim7.holds Tryd.pinned (.plain (OpenSpec.ofChange matchBackSpec)) matchBackCard

/-- THE TIED CARD OF 'enthymemelaw13.MatchLeast'. -/
def matchLeastCard : Claim7 := { stood := { row := matchLeastRow, standIns := [], harness := (true, "2f5ba000907fb2578861ab69c56a9874a887c2d7447f6407a8198c1f431d4775"), looks := false }, kinds := [], alts := [], laidByText := true, laidKinds := [.data, .data, .data], laidTests := true, laidLooks := .later }
def MatchLeastCardSaid : Prop := Claim7.holds Tryd.pinned (.plain (OpenSpec.ofChange matchLeastSpec)) matchLeastCard

/-- THE TIED CARD OF 'enthymemelaw13.MatchCanon'. -/
def matchCanonCard : Claim7 := { stood := { row := matchCanonRow, standIns := [], harness := (true, "2f5ba000907fb2578861ab69c56a9874a887c2d7447f6407a8198c1f431d4775"), looks := false }, kinds := [], alts := [], laidByText := true, laidKinds := [.data, .data, .data], laidTests := true, laidLooks := .later }
def MatchCanonCardSaid : Prop := Claim7.holds Tryd.pinned (.plain (OpenSpec.ofChange matchCanonSpec)) matchCanonCard

/-- THE SECOND FORM's CARD OF 'enthymemelaw13.MatchValid'. -/
def matchValidUptoCard : Claim7 := { stood := { row := matchValidUptoRow, standIns := [], harness := (true, "2f5ba000907fb2578861ab69c56a9874a887c2d7447f6407a8198c1f431d4775"), looks := false }, kinds := [], alts := [], laidByText := true, laidKinds := [.data, .data, .data], laidTests := true, laidLooks := .later }
def MatchValidUptoCardSaid : Prop := Claim7.holds Tryd.pinned (.plain (OpenSpec.upto matchValidSpec)) matchValidUptoCard

/-- THE SECOND FORM's CARD OF 'enthymemelaw13.MatchBack'. -/
def matchBackUptoCard : Claim7 := { stood := { row := matchBackUptoRow, standIns := [], harness := (true, "2f5ba000907fb2578861ab69c56a9874a887c2d7447f6407a8198c1f431d4775"), looks := false }, kinds := [], alts := [], laidByText := true, laidKinds := [.data, .data, .data], laidTests := true, laidLooks := .later }
def MatchBackUptoCardSaid : Prop := Claim7.holds Tryd.pinned (.plain (OpenSpec.upto matchBackSpec)) matchBackUptoCard

/-- THE SECOND FORM's CARD OF 'enthymemelaw13.MatchLeast'. -/
def matchLeastUptoCard : Claim7 := { stood := { row := matchLeastUptoRow, standIns := [], harness := (true, "2f5ba000907fb2578861ab69c56a9874a887c2d7447f6407a8198c1f431d4775"), looks := false }, kinds := [], alts := [], laidByText := true, laidKinds := [.data, .data, .data], laidTests := true, laidLooks := .later }
def MatchLeastUptoCardSaid : Prop := Claim7.holds Tryd.pinned (.plain (OpenSpec.upto matchLeastSpec)) matchLeastUptoCard

/-- THE SECOND FORM's CARD OF 'enthymemelaw13.MatchCanon'. -/
def matchCanonUptoCard : Claim7 := { stood := { row := matchCanonUptoRow, standIns := [], harness := (true, "2f5ba000907fb2578861ab69c56a9874a887c2d7447f6407a8198c1f431d4775"), looks := false }, kinds := [], alts := [], laidByText := true, laidKinds := [.data, .data, .data], laidTests := true, laidLooks := .later }
def MatchCanonUptoCardSaid : Prop := Claim7.holds Tryd.pinned (.plain (OpenSpec.upto matchCanonSpec)) matchCanonUptoCard
end Rows
end Go.Proofs.YtdjiaddhgooppaaDoor
