/-
  DERIVED. GIVEN WITH THE SEED: THE CARDS: each row of YtjcgfgppdlnmpaaDoorRows.lean that lists a variable, with what it lists TIED to the program's text (the seventh form; the later family's looks); each row that meets fmt, with fmt's text TOLD by the authors' own Lean function (tested against real Go, not proved from fmt's source: count such statements apart). THE CARD IS WHAT COUNTS. Prove the row's statement (the work); the ties are given (YtjcgfgppdlnmpaaDoorTie.lean); close each card by the builder's one call (the guide's Derived/Test/ToyasCard.lean, 'card_holds'). Laid BY PROGRAM, IN A SANDBOX (cutbox-door.mjs). By AI agents, Wed Nov 11 2026. No macro, syntax, notation, axiom, sorry.
-/
import Derived.Test.YtjcgfgppdlnmpaaDoorRows
import GoSem.ClaimSeven
namespace Go.Proofs.YtjcgfgppdlnmpaaDoor
namespace Rows

/-- THE TIED CARD OF 'convoylaw02.KeyOrders'. -/
def keyOrdersCard : Claim7 := { stood := { row := keyOrdersRow, standIns := [], harness := (true, "94e47b75068edea7d5165b1289b1a92d47e630ff2aa5355e08c33c7bc4c6e6b6"), looks := false }, kinds := [], alts := [], laidByText := true, laidKinds := [.data, .data, .data], laidTests := true, laidLooks := .later }
def KeyOrdersCardSaid : Prop := Claim7.holds Tryd.pinned (.plain (OpenSpec.ofChange keyOrdersSpec)) keyOrdersCard

/-- THE TIED CARD OF 'convoylaw02.KeyTexts'. -/
def keyTextsCard : Claim7 := { stood := { row := keyTextsRow, standIns := [], harness := (true, "94e47b75068edea7d5165b1289b1a92d47e630ff2aa5355e08c33c7bc4c6e6b6"), looks := false }, kinds := [], alts := [], laidByText := true, laidKinds := [.data, .data, .data], laidTests := true, laidLooks := .later }
def KeyTextsCardSaid : Prop := Claim7.holds Tryd.pinned (.plain (OpenSpec.ofChange keyTextsSpec)) keyTextsCard

/-- THE TIED CARD OF 'convoylaw02.KeyBytes'. -/
def keyBytesCard : Claim7 := { stood := { row := keyBytesRow, standIns := [], harness := (true, "94e47b75068edea7d5165b1289b1a92d47e630ff2aa5355e08c33c7bc4c6e6b6"), looks := false }, kinds := [], alts := [], laidByText := true, laidKinds := [.data, .data, .data], laidTests := true, laidLooks := .later }
def KeyBytesCardSaid : Prop := Claim7.holds Tryd.pinned (.plain (OpenSpec.ofChange keyBytesSpec)) keyBytesCard

/-- THE TIED CARD OF 'convoylaw02.KeyHashes'. -/
def keyHashesCard : Claim7 := { stood := { row := keyHashesRow, standIns := [], harness := (true, "94e47b75068edea7d5165b1289b1a92d47e630ff2aa5355e08c33c7bc4c6e6b6"), looks := false }, kinds := [], alts := [], laidByText := true, laidKinds := [.data, .data, .data], laidTests := true, laidLooks := .later }
def KeyHashesCardSaid : Prop := Claim7.holds Tryd.pinned (.plain (OpenSpec.ofChange keyHashesSpec)) keyHashesCard

/-- THE TIED CARD OF 'convoylaw02.KeyBack'. -/
def keyBackCard : Claim7 := { stood := { row := keyBackRow, standIns := [], harness := (true, "94e47b75068edea7d5165b1289b1a92d47e630ff2aa5355e08c33c7bc4c6e6b6"), looks := false }, kinds := [], alts := [], laidByText := true, laidKinds := [.data, .data, .data], laidTests := true, laidLooks := .later }
def KeyBackCardSaid : Prop := Claim7.holds Tryd.pinned (.plain (OpenSpec.ofChange keyBackSpec)) keyBackCard

/-- THE TIED CARD OF 'convoylaw02.KeyLists'. -/
def keyListsCard : Claim7 := { stood := { row := keyListsRow, standIns := [], harness := (true, "94e47b75068edea7d5165b1289b1a92d47e630ff2aa5355e08c33c7bc4c6e6b6"), looks := false }, kinds := [], alts := [], laidByText := true, laidKinds := [.data, .data, .data], laidTests := true, laidLooks := .later }
def KeyListsCardSaid : Prop := Claim7.holds Tryd.pinned (.plain (OpenSpec.ofChange keyListsSpec)) keyListsCard

/-- THE SECOND FORM's CARD OF 'convoylaw02.KeyOrders'. -/
def keyOrdersUptoCard : Claim7 := { stood := { row := keyOrdersUptoRow, standIns := [], harness := (true, "94e47b75068edea7d5165b1289b1a92d47e630ff2aa5355e08c33c7bc4c6e6b6"), looks := false }, kinds := [], alts := [], laidByText := true, laidKinds := [.data, .data, .data], laidTests := true, laidLooks := .later }
def KeyOrdersUptoCardSaid : Prop := Claim7.holds Tryd.pinned (.plain (OpenSpec.upto keyOrdersSpec)) keyOrdersUptoCard

/-- THE SECOND FORM's CARD OF 'convoylaw02.KeyTexts'. -/
def keyTextsUptoCard : Claim7 := { stood := { row := keyTextsUptoRow, standIns := [], harness := (true, "94e47b75068edea7d5165b1289b1a92d47e630ff2aa5355e08c33c7bc4c6e6b6"), looks := false }, kinds := [], alts := [], laidByText := true, laidKinds := [.data, .data, .data], laidTests := true, laidLooks := .later }
def KeyTextsUptoCardSaid : Prop := Claim7.holds Tryd.pinned (.plain (OpenSpec.upto keyTextsSpec)) keyTextsUptoCard

/-- THE SECOND FORM's CARD OF 'convoylaw02.KeyBytes'. -/
def keyBytesUptoCard : Claim7 := { stood := { row := keyBytesUptoRow, standIns := [], harness := (true, "94e47b75068edea7d5165b1289b1a92d47e630ff2aa5355e08c33c7bc4c6e6b6"), looks := false }, kinds := [], alts := [], laidByText := true, laidKinds := [.data, .data, .data], laidTests := true, laidLooks := .later }
def KeyBytesUptoCardSaid : Prop := Claim7.holds Tryd.pinned (.plain (OpenSpec.upto keyBytesSpec)) keyBytesUptoCard

/-- THE SECOND FORM's CARD OF 'convoylaw02.KeyHashes'. -/
def keyHashesUptoCard : Claim7 := { stood := { row := keyHashesUptoRow, standIns := [], harness := (true, "94e47b75068edea7d5165b1289b1a92d47e630ff2aa5355e08c33c7bc4c6e6b6"), looks := false }, kinds := [], alts := [], laidByText := true, laidKinds := [.data, .data, .data], laidTests := true, laidLooks := .later }
def KeyHashesUptoCardSaid : Prop := Claim7.holds Tryd.pinned (.plain (OpenSpec.upto keyHashesSpec)) keyHashesUptoCard

/-- THE SECOND FORM's CARD OF 'convoylaw02.KeyBack'. -/
def keyBackUptoCard : Claim7 := { stood := { row := keyBackUptoRow, standIns := [], harness := (true, "94e47b75068edea7d5165b1289b1a92d47e630ff2aa5355e08c33c7bc4c6e6b6"), looks := false }, kinds := [], alts := [], laidByText := true, laidKinds := [.data, .data, .data], laidTests := true, laidLooks := .later }
def KeyBackUptoCardSaid : Prop := Claim7.holds Tryd.pinned (.plain (OpenSpec.upto keyBackSpec)) keyBackUptoCard

/-- THE SECOND FORM's CARD OF 'convoylaw02.KeyLists'. -/
def keyListsUptoCard : Claim7 := { stood := { row := keyListsUptoRow, standIns := [], harness := (true, "94e47b75068edea7d5165b1289b1a92d47e630ff2aa5355e08c33c7bc4c6e6b6"), looks := false }, kinds := [], alts := [], laidByText := true, laidKinds := [.data, .data, .data], laidTests := true, laidLooks := .later }
def KeyListsUptoCardSaid : Prop := Claim7.holds Tryd.pinned (.plain (OpenSpec.upto keyListsSpec)) keyListsUptoCard
end Rows
end Go.Proofs.YtjcgfgppdlnmpaaDoor
