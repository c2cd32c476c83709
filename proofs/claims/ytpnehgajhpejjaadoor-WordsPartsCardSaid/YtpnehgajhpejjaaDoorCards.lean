/-
  DERIVED. GIVEN WITH THE SEED: THE CARDS: each row of YtpnehgajhpejjaaDoorRows.lean that lists a variable, with what it lists TIED to the program's text (the seventh form; the later family's looks); each row that meets fmt, with fmt's text TOLD by the authors' own Lean function (tested against real Go, not proved from fmt's source: count such statements apart). THE CARD IS WHAT COUNTS. Prove the row's statement (the work); the ties are given (YtpnehgajhpejjaaDoorTie.lean); close each card by the builder's one call (the guide's Derived/Test/ToyasCard.lean, 'card_holds'). Laid BY PROGRAM, IN A SANDBOX (cutbox-door.mjs). By AI agents, Wed Nov 11 2026. No macro, syntax, notation, axiom, sorry.
-/
import Derived.Test.YtpnehgajhpejjaaDoorRows
import GoSem.ClaimSeven
namespace Go.Proofs.YtpnehgajhpejjaaDoor
namespace Rows

/-- THE TIED CARD OF 'pledgelaw04.KeyTexts'. -/
def keyTextsCard : Claim7 := { stood := { row := keyTextsRow, standIns := [], harness := (true, "c03e314e26b07539e45f0e7e227f1cfba91d72a8569be9132d9849e68f5335ed"), looks := true }, kinds := [], alts := [], laidByText := true, laidKinds := [.data, .data, .data, .data, .pinned], laidTests := true, laidLooks := .later }
def KeyTextsCardSaid : Prop := Claim7.holds Tryd.pinned (.plain (OpenSpec.ofChange keyTextsSpec)) keyTextsCard

/-- THE TIED CARD OF 'pledgelaw04.KeyGood'. -/
def keyGoodCard : Claim7 := { stood := { row := keyGoodRow, standIns := [], harness := (true, "c03e314e26b07539e45f0e7e227f1cfba91d72a8569be9132d9849e68f5335ed"), looks := true }, kinds := [], alts := [], laidByText := true, laidKinds := [.data, .data, .data, .data, .pinned], laidTests := true, laidLooks := .later }
def KeyGoodCardSaid : Prop := Claim7.holds Tryd.pinned (.plain (OpenSpec.ofChange keyGoodSpec)) keyGoodCard

/-- THE TIED CARD OF 'pledgelaw04.KeyBack'. -/
def keyBackCard : Claim7 := { stood := { row := keyBackRow, standIns := [], harness := (true, "c03e314e26b07539e45f0e7e227f1cfba91d72a8569be9132d9849e68f5335ed"), looks := true }, kinds := [], alts := [], laidByText := true, laidKinds := [.data, .data, .data, .data, .pinned], laidTests := true, laidLooks := .later }
def KeyBackCardSaid : Prop := Claim7.holds Tryd.pinned (.plain (OpenSpec.ofChange keyBackSpec)) keyBackCard

/-- THE TIED CARD OF 'pledgelaw04.KeyOrder'. -/
def keyOrderCard : Claim7 := { stood := { row := keyOrderRow, standIns := [], harness := (true, "c03e314e26b07539e45f0e7e227f1cfba91d72a8569be9132d9849e68f5335ed"), looks := true }, kinds := [], alts := [], laidByText := true, laidKinds := [.data, .data, .data, .data, .pinned], laidTests := true, laidLooks := .later }
def KeyOrderCardSaid : Prop := Claim7.holds Tryd.pinned (.plain (OpenSpec.ofChange keyOrderSpec)) keyOrderCard

/-- THE TIED CARD OF 'pledgelaw04.KeySets'. -/
def keySetsCard : Claim7 := { stood := { row := keySetsRow, standIns := [], harness := (true, "c03e314e26b07539e45f0e7e227f1cfba91d72a8569be9132d9849e68f5335ed"), looks := true }, kinds := [], alts := [], laidByText := true, laidKinds := [.data, .data, .data, .data, .pinned], laidTests := true, laidLooks := .later }
def KeySetsCardSaid : Prop := Claim7.holds Tryd.pinned (.plain (OpenSpec.ofChange keySetsSpec)) keySetsCard

/-- THE TIED CARD OF 'pledgelaw39.WordsParts'. -/
def wordsPartsCard : Claim7 := { stood := { row := wordsPartsRow, standIns := [], harness := (true, "c03e314e26b07539e45f0e7e227f1cfba91d72a8569be9132d9849e68f5335ed"), looks := true }, kinds := [], alts := [], laidByText := true, laidKinds := [.data, .data, .data, .data, .sentinel, .sentinel, .pinned], laidTests := true, laidLooks := .later }
def WordsPartsCardSaid : Prop := Claim7.holds Tryd.pinned (.plain (OpenSpec.ofChange wordsPartsSpec)) wordsPartsCard

/-- THE SECOND FORM's CARD OF 'pledgelaw04.KeyTexts'. -/
def keyTextsUptoCard : Claim7 := { stood := { row := keyTextsUptoRow, standIns := [], harness := (true, "c03e314e26b07539e45f0e7e227f1cfba91d72a8569be9132d9849e68f5335ed"), looks := true }, kinds := [], alts := [], laidByText := true, laidKinds := [.data, .data, .data, .data, .pinned], laidTests := true, laidLooks := .later }
def KeyTextsUptoCardSaid : Prop := Claim7.holds Tryd.pinned (.plain (OpenSpec.upto keyTextsSpec)) keyTextsUptoCard

/-- THE SECOND FORM's CARD OF 'pledgelaw04.KeyGood'. -/
def keyGoodUptoCard : Claim7 := { stood := { row := keyGoodUptoRow, standIns := [], harness := (true, "c03e314e26b07539e45f0e7e227f1cfba91d72a8569be9132d9849e68f5335ed"), looks := true }, kinds := [], alts := [], laidByText := true, laidKinds := [.data, .data, .data, .data, .pinned], laidTests := true, laidLooks := .later }
def KeyGoodUptoCardSaid : Prop := Claim7.holds Tryd.pinned (.plain (OpenSpec.upto keyGoodSpec)) keyGoodUptoCard

/-- THE SECOND FORM's CARD OF 'pledgelaw04.KeyBack'. -/
def keyBackUptoCard : Claim7 := { stood := { row := keyBackUptoRow, standIns := [], harness := (true, "c03e314e26b07539e45f0e7e227f1cfba91d72a8569be9132d9849e68f5335ed"), looks := true }, kinds := [], alts := [], laidByText := true, laidKinds := [.data, .data, .data, .data, .pinned], laidTests := true, laidLooks := .later }
def KeyBackUptoCardSaid : Prop := Claim7.holds Tryd.pinned (.plain (OpenSpec.upto keyBackSpec)) keyBackUptoCard

/-- THE SECOND FORM's CARD OF 'pledgelaw04.KeyOrder'. -/
def keyOrderUptoCard : Claim7 := { stood := { row := keyOrderUptoRow, standIns := [], harness := (true, "c03e314e26b07539e45f0e7e227f1cfba91d72a8569be9132d9849e68f5335ed"), looks := true }, kinds := [], alts := [], laidByText := true, laidKinds := [.data, .data, .data, .data, .pinned], laidTests := true, laidLooks := .later }
def KeyOrderUptoCardSaid : Prop := Claim7.holds Tryd.pinned (.plain (OpenSpec.upto keyOrderSpec)) keyOrderUptoCard

/-- THE SECOND FORM's CARD OF 'pledgelaw04.KeySets'. -/
def keySetsUptoCard : Claim7 := { stood := { row := keySetsUptoRow, standIns := [], harness := (true, "c03e314e26b07539e45f0e7e227f1cfba91d72a8569be9132d9849e68f5335ed"), looks := true }, kinds := [], alts := [], laidByText := true, laidKinds := [.data, .data, .data, .data, .pinned], laidTests := true, laidLooks := .later }
def KeySetsUptoCardSaid : Prop := Claim7.holds Tryd.pinned (.plain (OpenSpec.upto keySetsSpec)) keySetsUptoCard

/-- THE SECOND FORM's CARD OF 'pledgelaw39.WordsParts'. -/
def wordsPartsUptoCard : Claim7 := { stood := { row := wordsPartsUptoRow, standIns := [], harness := (true, "c03e314e26b07539e45f0e7e227f1cfba91d72a8569be9132d9849e68f5335ed"), looks := true }, kinds := [], alts := [], laidByText := true, laidKinds := [.data, .data, .data, .data, .sentinel, .sentinel, .pinned], laidTests := true, laidLooks := .later }
def WordsPartsUptoCardSaid : Prop := Claim7.holds Tryd.pinned (.plain (OpenSpec.upto wordsPartsSpec)) wordsPartsUptoCard
end Rows
end Go.Proofs.YtpnehgajhpejjaaDoor
