/-
  DERIVED. GIVEN WITH THE SEED: THE CARDS: each row of YtghpoldlddghjaaDoorRows.lean that lists a variable, with what it lists TIED to the program's text (the seventh form; the later family's looks); each row that meets fmt, with fmt's text TOLD by the authors' own Lean function (tested against real Go, not proved from fmt's source: count such statements apart). THE CARD IS WHAT COUNTS. Prove the row's statement (the work); the ties are given (YtghpoldlddghjaaDoorTie.lean); close each card by the builder's one call (the guide's Derived/Test/ToyasCard.lean, 'card_holds'). Laid BY PROGRAM, IN A SANDBOX (cutbox-door.mjs). By AI agents, Wed Nov 11 2026. No macro, syntax, notation, axiom, sorry.
-/
import Derived.Test.YtghpoldlddghjaaDoorRows
import GoSem.ClaimSeven
namespace Go.Proofs.YtghpoldlddghjaaDoor
namespace Rows

/-- THE TIED CARD OF 'luciferlaw02.PasteTrue'. -/
def pasteTrueCard : Claim7 := { stood := { row := pasteTrueRow, standIns := [], harness := (true, "4f04d8607344d567c10c3321170cb3c5e19881a285958fd7a87e0c490a9ed8fa"), looks := false }, kinds := [], alts := [], laidByText := true, laidKinds := [.funcs], laidTests := true, laidLooks := .later }
def PasteTrueCardSaid : Prop := Claim7.holds Tryd.pinned (.plain (OpenSpec.ofChange pasteTrueSpec)) pasteTrueCard

/-- THE TIED CARD OF 'luciferlaw02.PasteEnds'. -/
def pasteEndsCard : Claim7 := { stood := { row := pasteEndsRow, standIns := [], harness := (true, "4f04d8607344d567c10c3321170cb3c5e19881a285958fd7a87e0c490a9ed8fa"), looks := false }, kinds := [], alts := [], laidByText := true, laidKinds := [.funcs], laidTests := true, laidLooks := .later }
def PasteEndsCardSaid : Prop := Claim7.holds Tryd.pinned (.plain (OpenSpec.ofChange pasteEndsSpec)) pasteEndsCard

/-- THE TIED CARD OF 'luciferlaw02.PasteSaid'. -/
def pasteSaidCard : Claim7 := { stood := { row := pasteSaidRow, standIns := [], harness := (true, "4f04d8607344d567c10c3321170cb3c5e19881a285958fd7a87e0c490a9ed8fa"), looks := false }, kinds := [], alts := [], laidByText := true, laidKinds := [.funcs], laidTests := true, laidLooks := .later }
def PasteSaidCardSaid : Prop := Claim7.holds Tryd.pinned (.plain (OpenSpec.ofChange pasteSaidSpec)) pasteSaidCard

/-- THE TIED CARD OF 'luciferlaw02.PasteMore'. -/
def pasteMoreCard : Claim7 := { stood := { row := pasteMoreRow, standIns := [], harness := (true, "4f04d8607344d567c10c3321170cb3c5e19881a285958fd7a87e0c490a9ed8fa"), looks := false }, kinds := [], alts := [], laidByText := true, laidKinds := [.funcs], laidTests := true, laidLooks := .later }
def PasteMoreCardSaid : Prop := Claim7.holds Tryd.pinned (.plain (OpenSpec.ofChange pasteMoreSpec)) pasteMoreCard

/-- THE TIED CARD OF 'luciferlaw02.PasteBlame'. -/
def pasteBlameCard : Claim7 := { stood := { row := pasteBlameRow, standIns := [], harness := (true, "4f04d8607344d567c10c3321170cb3c5e19881a285958fd7a87e0c490a9ed8fa"), looks := false }, kinds := [], alts := [], laidByText := true, laidKinds := [.funcs], laidTests := true, laidLooks := .later }
def PasteBlameCardSaid : Prop := Claim7.holds Tryd.pinned (.plain (OpenSpec.ofChange pasteBlameSpec)) pasteBlameCard

/-- THE TIED CARD OF 'luciferlaw02.PasteNext'. -/
def pasteNextCard : Claim7 := { stood := { row := pasteNextRow, standIns := [], harness := (true, "4f04d8607344d567c10c3321170cb3c5e19881a285958fd7a87e0c490a9ed8fa"), looks := false }, kinds := [], alts := [], laidByText := true, laidKinds := [.funcs], laidTests := true, laidLooks := .later }
def PasteNextCardSaid : Prop := Claim7.holds Tryd.pinned (.plain (OpenSpec.ofChange pasteNextSpec)) pasteNextCard

/-- THE TIED CARD OF 'luciferlaw02.PasteKnown'. -/
def pasteKnownCard : Claim7 := { stood := { row := pasteKnownRow, standIns := [], harness := (true, "4f04d8607344d567c10c3321170cb3c5e19881a285958fd7a87e0c490a9ed8fa"), looks := false }, kinds := [], alts := [], laidByText := true, laidKinds := [.funcs], laidTests := true, laidLooks := .later }
def PasteKnownCardSaid : Prop := Claim7.holds Tryd.pinned (.plain (OpenSpec.ofChange pasteKnownSpec)) pasteKnownCard

/-- THE TIED CARD OF 'luciferlaw07.ShiftKnown'. -/
def shiftKnownCard : Claim7 := { stood := { row := shiftKnownRow, standIns := [], harness := (true, "4f04d8607344d567c10c3321170cb3c5e19881a285958fd7a87e0c490a9ed8fa"), looks := false }, kinds := [], alts := [], laidByText := true, laidKinds := [.funcs], laidTests := true, laidLooks := .later }
def ShiftKnownCardSaid : Prop := Claim7.holds Tryd.pinned (.plain (OpenSpec.ofChange shiftKnownSpec)) shiftKnownCard

/-- THE SECOND FORM's CARD OF 'luciferlaw02.PasteTrue'. -/
def pasteTrueUptoCard : Claim7 := { stood := { row := pasteTrueUptoRow, standIns := [], harness := (true, "4f04d8607344d567c10c3321170cb3c5e19881a285958fd7a87e0c490a9ed8fa"), looks := false }, kinds := [], alts := [], laidByText := true, laidKinds := [.funcs], laidTests := true, laidLooks := .later }
def PasteTrueUptoCardSaid : Prop := Claim7.holds Tryd.pinned (.plain (OpenSpec.upto pasteTrueSpec)) pasteTrueUptoCard

/-- THE SECOND FORM's CARD OF 'luciferlaw02.PasteEnds'. -/
def pasteEndsUptoCard : Claim7 := { stood := { row := pasteEndsUptoRow, standIns := [], harness := (true, "4f04d8607344d567c10c3321170cb3c5e19881a285958fd7a87e0c490a9ed8fa"), looks := false }, kinds := [], alts := [], laidByText := true, laidKinds := [.funcs], laidTests := true, laidLooks := .later }
def PasteEndsUptoCardSaid : Prop := Claim7.holds Tryd.pinned (.plain (OpenSpec.upto pasteEndsSpec)) pasteEndsUptoCard

/-- THE SECOND FORM's CARD OF 'luciferlaw02.PasteSaid'. -/
def pasteSaidUptoCard : Claim7 := { stood := { row := pasteSaidUptoRow, standIns := [], harness := (true, "4f04d8607344d567c10c3321170cb3c5e19881a285958fd7a87e0c490a9ed8fa"), looks := false }, kinds := [], alts := [], laidByText := true, laidKinds := [.funcs], laidTests := true, laidLooks := .later }
def PasteSaidUptoCardSaid : Prop := Claim7.holds Tryd.pinned (.plain (OpenSpec.upto pasteSaidSpec)) pasteSaidUptoCard

/-- THE SECOND FORM's CARD OF 'luciferlaw02.PasteMore'. -/
def pasteMoreUptoCard : Claim7 := { stood := { row := pasteMoreUptoRow, standIns := [], harness := (true, "4f04d8607344d567c10c3321170cb3c5e19881a285958fd7a87e0c490a9ed8fa"), looks := false }, kinds := [], alts := [], laidByText := true, laidKinds := [.funcs], laidTests := true, laidLooks := .later }
def PasteMoreUptoCardSaid : Prop := Claim7.holds Tryd.pinned (.plain (OpenSpec.upto pasteMoreSpec)) pasteMoreUptoCard

/-- THE SECOND FORM's CARD OF 'luciferlaw02.PasteBlame'. -/
def pasteBlameUptoCard : Claim7 := { stood := { row := pasteBlameUptoRow, standIns := [], harness := (true, "4f04d8607344d567c10c3321170cb3c5e19881a285958fd7a87e0c490a9ed8fa"), looks := false }, kinds := [], alts := [], laidByText := true, laidKinds := [.funcs], laidTests := true, laidLooks := .later }
def PasteBlameUptoCardSaid : Prop := Claim7.holds Tryd.pinned (.plain (OpenSpec.upto pasteBlameSpec)) pasteBlameUptoCard

/-- THE SECOND FORM's CARD OF 'luciferlaw02.PasteNext'. -/
def pasteNextUptoCard : Claim7 := { stood := { row := pasteNextUptoRow, standIns := [], harness := (true, "4f04d8607344d567c10c3321170cb3c5e19881a285958fd7a87e0c490a9ed8fa"), looks := false }, kinds := [], alts := [], laidByText := true, laidKinds := [.funcs], laidTests := true, laidLooks := .later }
def PasteNextUptoCardSaid : Prop := Claim7.holds Tryd.pinned (.plain (OpenSpec.upto pasteNextSpec)) pasteNextUptoCard

/-- THE SECOND FORM's CARD OF 'luciferlaw02.PasteKnown'. -/
def pasteKnownUptoCard : Claim7 := { stood := { row := pasteKnownUptoRow, standIns := [], harness := (true, "4f04d8607344d567c10c3321170cb3c5e19881a285958fd7a87e0c490a9ed8fa"), looks := false }, kinds := [], alts := [], laidByText := true, laidKinds := [.funcs], laidTests := true, laidLooks := .later }
def PasteKnownUptoCardSaid : Prop := Claim7.holds Tryd.pinned (.plain (OpenSpec.upto pasteKnownSpec)) pasteKnownUptoCard

/-- THE SECOND FORM's CARD OF 'luciferlaw07.ShiftKnown'. -/
def shiftKnownUptoCard : Claim7 := { stood := { row := shiftKnownUptoRow, standIns := [], harness := (true, "4f04d8607344d567c10c3321170cb3c5e19881a285958fd7a87e0c490a9ed8fa"), looks := false }, kinds := [], alts := [], laidByText := true, laidKinds := [.funcs], laidTests := true, laidLooks := .later }
def ShiftKnownUptoCardSaid : Prop := Claim7.holds Tryd.pinned (.plain (OpenSpec.upto shiftKnownSpec)) shiftKnownUptoCard
end Rows
end Go.Proofs.YtghpoldlddghjaaDoor
