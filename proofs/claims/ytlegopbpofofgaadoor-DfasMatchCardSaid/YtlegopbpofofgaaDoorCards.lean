/-
  DERIVED. GIVEN WITH THE SEED: THE CARDS: each row of YtlegopbpofofgaaDoorRows.lean that lists a variable, with what it lists TIED to the program's text (the seventh form; the later family's looks); each row that meets fmt, with fmt's text TOLD by the authors' own Lean function (tested against real Go, not proved from fmt's source: count such statements apart). THE CARD IS WHAT COUNTS. Prove the row's statement (the work); the ties are given (YtlegopbpofofgaaDoorTie.lean); close each card by the builder's one call (the guide's Derived/Test/ToyasCard.lean, 'card_holds'). Laid BY PROGRAM, IN A SANDBOX (cutbox-door.mjs). By AI agents, Wed Nov 11 2026. No macro, syntax, notation, axiom, sorry.
-/
import Derived.Test.YtlegopbpofofgaaDoorRows
import GoSem.ClaimSeven
namespace Go.Proofs.YtlegopbpofofgaaDoor
namespace Rows

/-- THE TIED CARD OF 'limnerlaw11.NfasMake'. -/
def nfasMakeCard : Claim7 := { stood := { row := nfasMakeRow, standIns := [], harness := (true, "223a85b9ab966e1052350a944d211ffc6c6ad617abf1e339e7013268cde22b87"), looks := true }, kinds := [], alts := [], laidByText := true, laidKinds := [.mapped], laidTests := true, laidLooks := .later }
def NfasMakeCardSaid : Prop := Claim7.holds Tryd.pinned (.plain (OpenSpec.ofChange nfasMakeSpec)) nfasMakeCard

/-- THE TIED CARD OF 'limnerlaw11.NfasMatch'. -/
def nfasMatchCard : Claim7 := { stood := { row := nfasMatchRow, standIns := [], harness := (true, "223a85b9ab966e1052350a944d211ffc6c6ad617abf1e339e7013268cde22b87"), looks := true }, kinds := [], alts := [], laidByText := true, laidKinds := [.mapped], laidTests := true, laidLooks := .later }
def NfasMatchCardSaid : Prop := Claim7.holds Tryd.pinned (.plain (OpenSpec.ofChange nfasMatchSpec)) nfasMatchCard

/-- THE TIED CARD OF 'limnerlaw11.NfasNone'. -/
def nfasNoneCard : Claim7 := { stood := { row := nfasNoneRow, standIns := [], harness := (true, "223a85b9ab966e1052350a944d211ffc6c6ad617abf1e339e7013268cde22b87"), looks := true }, kinds := [], alts := [], laidByText := true, laidKinds := [.mapped], laidTests := true, laidLooks := .later }
def NfasNoneCardSaid : Prop := Claim7.holds Tryd.pinned (.plain (OpenSpec.ofChange nfasNoneSpec)) nfasNoneCard

/-- THE TIED CARD OF 'limnerlaw11.NfasMore'. -/
def nfasMoreCard : Claim7 := { stood := { row := nfasMoreRow, standIns := [], harness := (true, "223a85b9ab966e1052350a944d211ffc6c6ad617abf1e339e7013268cde22b87"), looks := true }, kinds := [], alts := [], laidByText := true, laidKinds := [.mapped], laidTests := true, laidLooks := .later }
def NfasMoreCardSaid : Prop := Claim7.holds Tryd.pinned (.plain (OpenSpec.ofChange nfasMoreSpec)) nfasMoreCard

/-- THE TIED CARD OF 'limnerlaw11.NfasText'. -/
def nfasTextCard : Claim7 := { stood := { row := nfasTextRow, standIns := [], harness := (true, "223a85b9ab966e1052350a944d211ffc6c6ad617abf1e339e7013268cde22b87"), looks := true }, kinds := [], alts := [], laidByText := true, laidKinds := [.mapped], laidTests := true, laidLooks := .later }
def NfasTextCardSaid : Prop := Claim7.holds Tryd.pinned (.plain (OpenSpec.ofChange nfasTextSpec)) nfasTextCard

/-- THE TIED CARD OF 'limnerlaw12.DfasMatch'. -/
def dfasMatchCard : Claim7 := { stood := { row := dfasMatchRow, standIns := [], harness := (true, "223a85b9ab966e1052350a944d211ffc6c6ad617abf1e339e7013268cde22b87"), looks := true }, kinds := [], alts := [], laidByText := true, laidKinds := [.data, .data, .data, .mapped], laidTests := true, laidLooks := .later }
def DfasMatchCardSaid : Prop := Claim7.holds Tryd.pinned (.plain (OpenSpec.ofChange dfasMatchSpec)) dfasMatchCard

/-- THE TIED CARD OF 'limnerlaw12.DfasMin'. -/
def dfasMinCard : Claim7 := { stood := { row := dfasMinRow, standIns := [], harness := (true, "223a85b9ab966e1052350a944d211ffc6c6ad617abf1e339e7013268cde22b87"), looks := true }, kinds := [], alts := [], laidByText := true, laidKinds := [.data, .data, .data, .mapped], laidTests := true, laidLooks := .later }
def DfasMinCardSaid : Prop := Claim7.holds Tryd.pinned (.plain (OpenSpec.ofChange dfasMinSpec)) dfasMinCard

/-- THE TIED CARD OF 'limnerlaw12.DfasMake'. -/
def dfasMakeCard : Claim7 := { stood := { row := dfasMakeRow, standIns := [], harness := (true, "223a85b9ab966e1052350a944d211ffc6c6ad617abf1e339e7013268cde22b87"), looks := true }, kinds := [], alts := [], laidByText := true, laidKinds := [.data, .data, .data, .mapped], laidTests := true, laidLooks := .later }
def DfasMakeCardSaid : Prop := Claim7.holds Tryd.pinned (.plain (OpenSpec.ofChange dfasMakeSpec)) dfasMakeCard

/-- THE TIED CARD OF 'limnerlaw12.DfasNone'. -/
def dfasNoneCard : Claim7 := { stood := { row := dfasNoneRow, standIns := [], harness := (true, "223a85b9ab966e1052350a944d211ffc6c6ad617abf1e339e7013268cde22b87"), looks := true }, kinds := [], alts := [], laidByText := true, laidKinds := [.data, .data, .data, .mapped], laidTests := true, laidLooks := .later }
def DfasNoneCardSaid : Prop := Claim7.holds Tryd.pinned (.plain (OpenSpec.ofChange dfasNoneSpec)) dfasNoneCard

/-- THE TIED CARD OF 'limnerlaw12.DfasLeast'. -/
def dfasLeastCard : Claim7 := { stood := { row := dfasLeastRow, standIns := [], harness := (true, "223a85b9ab966e1052350a944d211ffc6c6ad617abf1e339e7013268cde22b87"), looks := true }, kinds := [], alts := [], laidByText := true, laidKinds := [.data, .data, .data, .mapped], laidTests := true, laidLooks := .later }
def DfasLeastCardSaid : Prop := Claim7.holds Tryd.pinned (.plain (OpenSpec.ofChange dfasLeastSpec)) dfasLeastCard

/-- THE TIED CARD OF 'limnerlaw12.DfasSame'. -/
def dfasSameCard : Claim7 := { stood := { row := dfasSameRow, standIns := [], harness := (true, "223a85b9ab966e1052350a944d211ffc6c6ad617abf1e339e7013268cde22b87"), looks := true }, kinds := [], alts := [], laidByText := true, laidKinds := [.data, .data, .data, .mapped], laidTests := true, laidLooks := .later }
def DfasSameCardSaid : Prop := Claim7.holds Tryd.pinned (.plain (OpenSpec.ofChange dfasSameSpec)) dfasSameCard

/-- THE TIED CARD OF 'limnerlaw12.DfasNfa'. -/
def dfasNfaCard : Claim7 := { stood := { row := dfasNfaRow, standIns := [], harness := (true, "223a85b9ab966e1052350a944d211ffc6c6ad617abf1e339e7013268cde22b87"), looks := true }, kinds := [], alts := [], laidByText := true, laidKinds := [.data, .data, .data, .mapped], laidTests := true, laidLooks := .later }
def DfasNfaCardSaid : Prop := Claim7.holds Tryd.pinned (.plain (OpenSpec.ofChange dfasNfaSpec)) dfasNfaCard

/-- THE SECOND FORM's CARD OF 'limnerlaw11.NfasMake'. -/
def nfasMakeUptoCard : Claim7 := { stood := { row := nfasMakeUptoRow, standIns := [], harness := (true, "223a85b9ab966e1052350a944d211ffc6c6ad617abf1e339e7013268cde22b87"), looks := true }, kinds := [], alts := [], laidByText := true, laidKinds := [.mapped], laidTests := true, laidLooks := .later }
def NfasMakeUptoCardSaid : Prop := Claim7.holds Tryd.pinned (.plain (OpenSpec.upto nfasMakeSpec)) nfasMakeUptoCard

/-- THE SECOND FORM's CARD OF 'limnerlaw11.NfasMatch'. -/
def nfasMatchUptoCard : Claim7 := { stood := { row := nfasMatchUptoRow, standIns := [], harness := (true, "223a85b9ab966e1052350a944d211ffc6c6ad617abf1e339e7013268cde22b87"), looks := true }, kinds := [], alts := [], laidByText := true, laidKinds := [.mapped], laidTests := true, laidLooks := .later }
def NfasMatchUptoCardSaid : Prop := Claim7.holds Tryd.pinned (.plain (OpenSpec.upto nfasMatchSpec)) nfasMatchUptoCard

/-- THE SECOND FORM's CARD OF 'limnerlaw11.NfasNone'. -/
def nfasNoneUptoCard : Claim7 := { stood := { row := nfasNoneUptoRow, standIns := [], harness := (true, "223a85b9ab966e1052350a944d211ffc6c6ad617abf1e339e7013268cde22b87"), looks := true }, kinds := [], alts := [], laidByText := true, laidKinds := [.mapped], laidTests := true, laidLooks := .later }
def NfasNoneUptoCardSaid : Prop := Claim7.holds Tryd.pinned (.plain (OpenSpec.upto nfasNoneSpec)) nfasNoneUptoCard

/-- THE SECOND FORM's CARD OF 'limnerlaw11.NfasMore'. -/
def nfasMoreUptoCard : Claim7 := { stood := { row := nfasMoreUptoRow, standIns := [], harness := (true, "223a85b9ab966e1052350a944d211ffc6c6ad617abf1e339e7013268cde22b87"), looks := true }, kinds := [], alts := [], laidByText := true, laidKinds := [.mapped], laidTests := true, laidLooks := .later }
def NfasMoreUptoCardSaid : Prop := Claim7.holds Tryd.pinned (.plain (OpenSpec.upto nfasMoreSpec)) nfasMoreUptoCard

/-- THE SECOND FORM's CARD OF 'limnerlaw11.NfasText'. -/
def nfasTextUptoCard : Claim7 := { stood := { row := nfasTextUptoRow, standIns := [], harness := (true, "223a85b9ab966e1052350a944d211ffc6c6ad617abf1e339e7013268cde22b87"), looks := true }, kinds := [], alts := [], laidByText := true, laidKinds := [.mapped], laidTests := true, laidLooks := .later }
def NfasTextUptoCardSaid : Prop := Claim7.holds Tryd.pinned (.plain (OpenSpec.upto nfasTextSpec)) nfasTextUptoCard

/-- THE SECOND FORM's CARD OF 'limnerlaw12.DfasMatch'. -/
def dfasMatchUptoCard : Claim7 := { stood := { row := dfasMatchUptoRow, standIns := [], harness := (true, "223a85b9ab966e1052350a944d211ffc6c6ad617abf1e339e7013268cde22b87"), looks := true }, kinds := [], alts := [], laidByText := true, laidKinds := [.data, .data, .data, .mapped], laidTests := true, laidLooks := .later }
def DfasMatchUptoCardSaid : Prop := Claim7.holds Tryd.pinned (.plain (OpenSpec.upto dfasMatchSpec)) dfasMatchUptoCard

/-- THE SECOND FORM's CARD OF 'limnerlaw12.DfasMin'. -/
def dfasMinUptoCard : Claim7 := { stood := { row := dfasMinUptoRow, standIns := [], harness := (true, "223a85b9ab966e1052350a944d211ffc6c6ad617abf1e339e7013268cde22b87"), looks := true }, kinds := [], alts := [], laidByText := true, laidKinds := [.data, .data, .data, .mapped], laidTests := true, laidLooks := .later }
def DfasMinUptoCardSaid : Prop := Claim7.holds Tryd.pinned (.plain (OpenSpec.upto dfasMinSpec)) dfasMinUptoCard

/-- THE SECOND FORM's CARD OF 'limnerlaw12.DfasMake'. -/
def dfasMakeUptoCard : Claim7 := { stood := { row := dfasMakeUptoRow, standIns := [], harness := (true, "223a85b9ab966e1052350a944d211ffc6c6ad617abf1e339e7013268cde22b87"), looks := true }, kinds := [], alts := [], laidByText := true, laidKinds := [.data, .data, .data, .mapped], laidTests := true, laidLooks := .later }
def DfasMakeUptoCardSaid : Prop := Claim7.holds Tryd.pinned (.plain (OpenSpec.upto dfasMakeSpec)) dfasMakeUptoCard

/-- THE SECOND FORM's CARD OF 'limnerlaw12.DfasNone'. -/
def dfasNoneUptoCard : Claim7 := { stood := { row := dfasNoneUptoRow, standIns := [], harness := (true, "223a85b9ab966e1052350a944d211ffc6c6ad617abf1e339e7013268cde22b87"), looks := true }, kinds := [], alts := [], laidByText := true, laidKinds := [.data, .data, .data, .mapped], laidTests := true, laidLooks := .later }
def DfasNoneUptoCardSaid : Prop := Claim7.holds Tryd.pinned (.plain (OpenSpec.upto dfasNoneSpec)) dfasNoneUptoCard

/-- THE SECOND FORM's CARD OF 'limnerlaw12.DfasLeast'. -/
def dfasLeastUptoCard : Claim7 := { stood := { row := dfasLeastUptoRow, standIns := [], harness := (true, "223a85b9ab966e1052350a944d211ffc6c6ad617abf1e339e7013268cde22b87"), looks := true }, kinds := [], alts := [], laidByText := true, laidKinds := [.data, .data, .data, .mapped], laidTests := true, laidLooks := .later }
def DfasLeastUptoCardSaid : Prop := Claim7.holds Tryd.pinned (.plain (OpenSpec.upto dfasLeastSpec)) dfasLeastUptoCard

/-- THE SECOND FORM's CARD OF 'limnerlaw12.DfasSame'. -/
def dfasSameUptoCard : Claim7 := { stood := { row := dfasSameUptoRow, standIns := [], harness := (true, "223a85b9ab966e1052350a944d211ffc6c6ad617abf1e339e7013268cde22b87"), looks := true }, kinds := [], alts := [], laidByText := true, laidKinds := [.data, .data, .data, .mapped], laidTests := true, laidLooks := .later }
def DfasSameUptoCardSaid : Prop := Claim7.holds Tryd.pinned (.plain (OpenSpec.upto dfasSameSpec)) dfasSameUptoCard

/-- THE SECOND FORM's CARD OF 'limnerlaw12.DfasNfa'. -/
def dfasNfaUptoCard : Claim7 := { stood := { row := dfasNfaUptoRow, standIns := [], harness := (true, "223a85b9ab966e1052350a944d211ffc6c6ad617abf1e339e7013268cde22b87"), looks := true }, kinds := [], alts := [], laidByText := true, laidKinds := [.data, .data, .data, .mapped], laidTests := true, laidLooks := .later }
def DfasNfaUptoCardSaid : Prop := Claim7.holds Tryd.pinned (.plain (OpenSpec.upto dfasNfaSpec)) dfasNfaUptoCard
end Rows
end Go.Proofs.YtlegopbpofofgaaDoor
