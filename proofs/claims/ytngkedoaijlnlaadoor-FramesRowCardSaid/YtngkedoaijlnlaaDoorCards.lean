/-
  DERIVED. GIVEN WITH THE SEED: THE CARDS: each row of YtngkedoaijlnlaaDoorRows.lean that lists a variable, with what it lists TIED to the program's text (the seventh form; the later family's looks); each row that meets fmt, with fmt's text TOLD by the authors' own Lean function (tested against real Go, not proved from fmt's source: count such statements apart). THE CARD IS WHAT COUNTS. Prove the row's statement (the work); the ties are given (YtngkedoaijlnlaaDoorTie.lean); close each card by the builder's one call (the guide's Derived/Test/ToyasCard.lean, 'card_holds'). Laid BY PROGRAM, IN A SANDBOX (cutbox-door.mjs). By AI agents, Wed Nov 11 2026. No macro, syntax, notation, axiom, sorry.
-/
import Derived.Test.YtngkedoaijlnlaaDoorRows
import GoSem.ClaimSeven
namespace Go.Proofs.YtngkedoaijlnlaaDoor
namespace Rows

/-- THE TIED CARD OF 'speculumlaw02.ShaSum'. -/
def shaSumCard : Claim7 := { stood := { row := shaSumRow, standIns := [], harness := (true, "c7b0e4ad2531f603f10b75b6df1c8d1663cd805eebb5b4f72768645d5a35a8a5"), looks := false }, kinds := [], alts := [], laidByText := true, laidKinds := [.data, .data], laidTests := true, laidLooks := .later }
def ShaSumCardSaid : Prop := Claim7.holds Tryd.pinned (.plain (OpenSpec.ofChange shaSumSpec)) shaSumCard

/-- THE TIED CARD OF 'speculumlaw02.ShaHex'. -/
def shaHexCard : Claim7 := { stood := { row := shaHexRow, standIns := [], harness := (true, "c7b0e4ad2531f603f10b75b6df1c8d1663cd805eebb5b4f72768645d5a35a8a5"), looks := false }, kinds := [], alts := [], laidByText := true, laidKinds := [.data, .data], laidTests := true, laidLooks := .later }
def ShaHexCardSaid : Prop := Claim7.holds Tryd.pinned (.plain (OpenSpec.ofChange shaHexSpec)) shaHexCard

/-- THE TIED CARD OF 'speculumlaw02.ShaBack'. -/
def shaBackCard : Claim7 := { stood := { row := shaBackRow, standIns := [], harness := (true, "c7b0e4ad2531f603f10b75b6df1c8d1663cd805eebb5b4f72768645d5a35a8a5"), looks := false }, kinds := [], alts := [], laidByText := true, laidKinds := [.data, .data], laidTests := true, laidLooks := .later }
def ShaBackCardSaid : Prop := Claim7.holds Tryd.pinned (.plain (OpenSpec.ofChange shaBackSpec)) shaBackCard

/-- THE TIED CARD OF 'speculumlaw12.FramesTell'. -/
def framesTellCard : Claim7 := { stood := { row := framesTellRow, standIns := [], harness := (true, "c7b0e4ad2531f603f10b75b6df1c8d1663cd805eebb5b4f72768645d5a35a8a5"), looks := false }, kinds := [], alts := [], laidByText := true, laidKinds := [.data, .data], laidTests := true, laidLooks := .later }
def FramesTellCardSaid : Prop := Claim7.holds Tryd.pinned (.plain (OpenSpec.ofChange framesTellSpec)) framesTellCard

/-- THE TIED CARD OF 'speculumlaw12.FramesRow'. -/
def framesRowCard : Claim7 := { stood := { row := framesRowRow, standIns := [], harness := (true, "c7b0e4ad2531f603f10b75b6df1c8d1663cd805eebb5b4f72768645d5a35a8a5"), looks := false }, kinds := [], alts := [], laidByText := true, laidKinds := [.data, .data], laidTests := true, laidLooks := .later }
def FramesRowCardSaid : Prop := Claim7.holds Tryd.pinned (.plain (OpenSpec.ofChange framesRowSpec)) framesRowCard

/-- THE TIED CARD OF 'speculumlaw12.FramesTorn'. -/
def framesTornCard : Claim7 := { stood := { row := framesTornRow, standIns := [], harness := (true, "c7b0e4ad2531f603f10b75b6df1c8d1663cd805eebb5b4f72768645d5a35a8a5"), looks := false }, kinds := [], alts := [], laidByText := true, laidKinds := [.data, .data], laidTests := true, laidLooks := .later }
def FramesTornCardSaid : Prop := Claim7.holds Tryd.pinned (.plain (OpenSpec.ofChange framesTornSpec)) framesTornCard

/-- THE TIED CARD OF 'speculumlaw12.FramesLong'. -/
def framesLongCard : Claim7 := { stood := { row := framesLongRow, standIns := [], harness := (true, "c7b0e4ad2531f603f10b75b6df1c8d1663cd805eebb5b4f72768645d5a35a8a5"), looks := false }, kinds := [], alts := [], laidByText := true, laidKinds := [.data, .data], laidTests := true, laidLooks := .later }
def FramesLongCardSaid : Prop := Claim7.holds Tryd.pinned (.plain (OpenSpec.ofChange framesLongSpec)) framesLongCard

/-- THE SECOND FORM's CARD OF 'speculumlaw02.ShaSum'. -/
def shaSumUptoCard : Claim7 := { stood := { row := shaSumUptoRow, standIns := [], harness := (true, "c7b0e4ad2531f603f10b75b6df1c8d1663cd805eebb5b4f72768645d5a35a8a5"), looks := false }, kinds := [], alts := [], laidByText := true, laidKinds := [.data, .data], laidTests := true, laidLooks := .later }
def ShaSumUptoCardSaid : Prop := Claim7.holds Tryd.pinned (.plain (OpenSpec.upto shaSumSpec)) shaSumUptoCard

/-- THE SECOND FORM's CARD OF 'speculumlaw02.ShaHex'. -/
def shaHexUptoCard : Claim7 := { stood := { row := shaHexUptoRow, standIns := [], harness := (true, "c7b0e4ad2531f603f10b75b6df1c8d1663cd805eebb5b4f72768645d5a35a8a5"), looks := false }, kinds := [], alts := [], laidByText := true, laidKinds := [.data, .data], laidTests := true, laidLooks := .later }
def ShaHexUptoCardSaid : Prop := Claim7.holds Tryd.pinned (.plain (OpenSpec.upto shaHexSpec)) shaHexUptoCard

/-- THE SECOND FORM's CARD OF 'speculumlaw02.ShaBack'. -/
def shaBackUptoCard : Claim7 := { stood := { row := shaBackUptoRow, standIns := [], harness := (true, "c7b0e4ad2531f603f10b75b6df1c8d1663cd805eebb5b4f72768645d5a35a8a5"), looks := false }, kinds := [], alts := [], laidByText := true, laidKinds := [.data, .data], laidTests := true, laidLooks := .later }
def ShaBackUptoCardSaid : Prop := Claim7.holds Tryd.pinned (.plain (OpenSpec.upto shaBackSpec)) shaBackUptoCard

/-- THE SECOND FORM's CARD OF 'speculumlaw12.FramesTell'. -/
def framesTellUptoCard : Claim7 := { stood := { row := framesTellUptoRow, standIns := [], harness := (true, "c7b0e4ad2531f603f10b75b6df1c8d1663cd805eebb5b4f72768645d5a35a8a5"), looks := false }, kinds := [], alts := [], laidByText := true, laidKinds := [.data, .data], laidTests := true, laidLooks := .later }
def FramesTellUptoCardSaid : Prop := Claim7.holds Tryd.pinned (.plain (OpenSpec.upto framesTellSpec)) framesTellUptoCard

/-- THE SECOND FORM's CARD OF 'speculumlaw12.FramesRow'. -/
def framesRowUptoCard : Claim7 := { stood := { row := framesRowUptoRow, standIns := [], harness := (true, "c7b0e4ad2531f603f10b75b6df1c8d1663cd805eebb5b4f72768645d5a35a8a5"), looks := false }, kinds := [], alts := [], laidByText := true, laidKinds := [.data, .data], laidTests := true, laidLooks := .later }
def FramesRowUptoCardSaid : Prop := Claim7.holds Tryd.pinned (.plain (OpenSpec.upto framesRowSpec)) framesRowUptoCard

/-- THE SECOND FORM's CARD OF 'speculumlaw12.FramesTorn'. -/
def framesTornUptoCard : Claim7 := { stood := { row := framesTornUptoRow, standIns := [], harness := (true, "c7b0e4ad2531f603f10b75b6df1c8d1663cd805eebb5b4f72768645d5a35a8a5"), looks := false }, kinds := [], alts := [], laidByText := true, laidKinds := [.data, .data], laidTests := true, laidLooks := .later }
def FramesTornUptoCardSaid : Prop := Claim7.holds Tryd.pinned (.plain (OpenSpec.upto framesTornSpec)) framesTornUptoCard

/-- THE SECOND FORM's CARD OF 'speculumlaw12.FramesLong'. -/
def framesLongUptoCard : Claim7 := { stood := { row := framesLongUptoRow, standIns := [], harness := (true, "c7b0e4ad2531f603f10b75b6df1c8d1663cd805eebb5b4f72768645d5a35a8a5"), looks := false }, kinds := [], alts := [], laidByText := true, laidKinds := [.data, .data], laidTests := true, laidLooks := .later }
def FramesLongUptoCardSaid : Prop := Claim7.holds Tryd.pinned (.plain (OpenSpec.upto framesLongSpec)) framesLongUptoCard
end Rows
end Go.Proofs.YtngkedoaijlnlaaDoor
