/-
  DERIVED. GIVEN WITH THE SEED: THE CARDS: each row of YtbclnkhcnclfoaaDoorRows.lean that lists a variable, with what it lists TIED to the program's text (the seventh form; the later family's looks); each row that meets fmt, with fmt's text TOLD by the authors' own Lean function (tested against real Go, not proved from fmt's source: count such statements apart). THE CARD IS WHAT COUNTS. Prove the row's statement (the work); the ties are given (YtbclnkhcnclfoaaDoorTie.lean); close each card by the builder's one call (the guide's Derived/Test/ToyasCard.lean, 'card_holds'). Laid BY PROGRAM, IN A SANDBOX (cutbox-door.mjs). By AI agents, Wed Nov 11 2026. No macro, syntax, notation, axiom, sorry.
-/
import Derived.Test.YtbclnkhcnclfoaaDoorRows
import GoSem.ClaimSeven
namespace Go.Proofs.YtbclnkhcnclfoaaDoor
namespace Rows

/-- THE TIED CARD OF 'palimpsestlaw11.SuperChooses'. -/
def superChoosesCard : Claim7 := { stood := { row := superChoosesRow, standIns := [], harness := (true, "3fff1c1004df0ffb8e75f7bf14283ec1c0b189e34ba8b6d882501c3bd8d19d49"), looks := true }, kinds := [], alts := [], laidByText := true, laidKinds := [.data, .pinned], laidTests := true, laidLooks := .later }
def SuperChoosesCardSaid : Prop := Claim7.holds Tryd.pinned (.plain (OpenSpec.ofChange superChoosesSpec)) superChoosesCard

/-- THE TIED CARD OF 'palimpsestlaw11.SuperSwitch'. -/
def superSwitchCard : Claim7 := { stood := { row := superSwitchRow, standIns := [], harness := (true, "3fff1c1004df0ffb8e75f7bf14283ec1c0b189e34ba8b6d882501c3bd8d19d49"), looks := true }, kinds := [], alts := [], laidByText := true, laidKinds := [.data, .pinned], laidTests := true, laidLooks := .later }
def SuperSwitchCardSaid : Prop := Claim7.holds Tryd.pinned (.plain (OpenSpec.ofChange superSwitchSpec)) superSwitchCard

/-- THE TIED CARD OF 'palimpsestlaw07.KeyKinds'. -/
def keyKindsCard : Claim7 := { stood := { row := keyKindsRow, standIns := [], harness := (true, "3fff1c1004df0ffb8e75f7bf14283ec1c0b189e34ba8b6d882501c3bd8d19d49"), looks := true }, kinds := [], alts := [], laidByText := true, laidKinds := [.data, .pinned], laidTests := true, laidLooks := .later }
def KeyKindsCardSaid : Prop := Claim7.holds Tryd.pinned (.plain (OpenSpec.ofChange keyKindsSpec)) keyKindsCard

/-- THE TIED CARD OF 'palimpsestlaw07.KeyMakes'. -/
def keyMakesCard : Claim7 := { stood := { row := keyMakesRow, standIns := [], harness := (true, "3fff1c1004df0ffb8e75f7bf14283ec1c0b189e34ba8b6d882501c3bd8d19d49"), looks := true }, kinds := [], alts := [], laidByText := true, laidKinds := [.data, .pinned], laidTests := true, laidLooks := .later }
def KeyMakesCardSaid : Prop := Claim7.holds Tryd.pinned (.plain (OpenSpec.ofChange keyMakesSpec)) keyMakesCard

/-- THE TIED CARD OF 'palimpsestlaw07.KeyBack'. -/
def keyBackCard : Claim7 := { stood := { row := keyBackRow, standIns := [], harness := (true, "3fff1c1004df0ffb8e75f7bf14283ec1c0b189e34ba8b6d882501c3bd8d19d49"), looks := true }, kinds := [], alts := [], laidByText := true, laidKinds := [.data, .pinned], laidTests := true, laidLooks := .later }
def KeyBackCardSaid : Prop := Claim7.holds Tryd.pinned (.plain (OpenSpec.ofChange keyBackSpec)) keyBackCard

/-- THE TIED CARD OF 'palimpsestlaw21.UnionOver'. -/
def unionOverCard : Claim7 := { stood := { row := unionOverRow, standIns := [], harness := (true, "3fff1c1004df0ffb8e75f7bf14283ec1c0b189e34ba8b6d882501c3bd8d19d49"), looks := true }, kinds := [], alts := [], laidByText := true, laidKinds := [.data, .pinned], laidTests := true, laidLooks := .later }
def UnionOverCardSaid : Prop := Claim7.holds Tryd.pinned (.plain (OpenSpec.ofChange unionOverSpec)) unionOverCard

/-- THE TIED CARD OF 'palimpsestlaw21.UnionShows'. -/
def unionShowsCard : Claim7 := { stood := { row := unionShowsRow, standIns := [], harness := (true, "3fff1c1004df0ffb8e75f7bf14283ec1c0b189e34ba8b6d882501c3bd8d19d49"), looks := true }, kinds := [], alts := [], laidByText := true, laidKinds := [.data, .pinned], laidTests := true, laidLooks := .later }
def UnionShowsCardSaid : Prop := Claim7.holds Tryd.pinned (.plain (OpenSpec.ofChange unionShowsSpec)) unionShowsCard

/-- THE TIED CARD OF 'palimpsestlaw21.UnionTells'. -/
def unionTellsCard : Claim7 := { stood := { row := unionTellsRow, standIns := [], harness := (true, "3fff1c1004df0ffb8e75f7bf14283ec1c0b189e34ba8b6d882501c3bd8d19d49"), looks := true }, kinds := [], alts := [], laidByText := true, laidKinds := [.data, .pinned], laidTests := true, laidLooks := .later }
def UnionTellsCardSaid : Prop := Claim7.holds Tryd.pinned (.plain (OpenSpec.ofChange unionTellsSpec)) unionTellsCard

/-- THE TIED CARD OF 'palimpsestlaw21.UnionBack'. -/
def unionBackCard : Claim7 := { stood := { row := unionBackRow, standIns := [], harness := (true, "3fff1c1004df0ffb8e75f7bf14283ec1c0b189e34ba8b6d882501c3bd8d19d49"), looks := true }, kinds := [], alts := [], laidByText := true, laidKinds := [.data, .pinned], laidTests := true, laidLooks := .later }
def UnionBackCardSaid : Prop := Claim7.holds Tryd.pinned (.plain (OpenSpec.ofChange unionBackSpec)) unionBackCard

/-- THE SECOND FORM's CARD OF 'palimpsestlaw11.SuperChooses'. -/
def superChoosesUptoCard : Claim7 := { stood := { row := superChoosesUptoRow, standIns := [], harness := (true, "3fff1c1004df0ffb8e75f7bf14283ec1c0b189e34ba8b6d882501c3bd8d19d49"), looks := true }, kinds := [], alts := [], laidByText := true, laidKinds := [.data, .pinned], laidTests := true, laidLooks := .later }
def SuperChoosesUptoCardSaid : Prop := Claim7.holds Tryd.pinned (.plain (OpenSpec.upto superChoosesSpec)) superChoosesUptoCard

/-- THE SECOND FORM's CARD OF 'palimpsestlaw11.SuperSwitch'. -/
def superSwitchUptoCard : Claim7 := { stood := { row := superSwitchUptoRow, standIns := [], harness := (true, "3fff1c1004df0ffb8e75f7bf14283ec1c0b189e34ba8b6d882501c3bd8d19d49"), looks := true }, kinds := [], alts := [], laidByText := true, laidKinds := [.data, .pinned], laidTests := true, laidLooks := .later }
def SuperSwitchUptoCardSaid : Prop := Claim7.holds Tryd.pinned (.plain (OpenSpec.upto superSwitchSpec)) superSwitchUptoCard

/-- THE SECOND FORM's CARD OF 'palimpsestlaw07.KeyKinds'. -/
def keyKindsUptoCard : Claim7 := { stood := { row := keyKindsUptoRow, standIns := [], harness := (true, "3fff1c1004df0ffb8e75f7bf14283ec1c0b189e34ba8b6d882501c3bd8d19d49"), looks := true }, kinds := [], alts := [], laidByText := true, laidKinds := [.data, .pinned], laidTests := true, laidLooks := .later }
def KeyKindsUptoCardSaid : Prop := Claim7.holds Tryd.pinned (.plain (OpenSpec.upto keyKindsSpec)) keyKindsUptoCard

/-- THE SECOND FORM's CARD OF 'palimpsestlaw07.KeyMakes'. -/
def keyMakesUptoCard : Claim7 := { stood := { row := keyMakesUptoRow, standIns := [], harness := (true, "3fff1c1004df0ffb8e75f7bf14283ec1c0b189e34ba8b6d882501c3bd8d19d49"), looks := true }, kinds := [], alts := [], laidByText := true, laidKinds := [.data, .pinned], laidTests := true, laidLooks := .later }
def KeyMakesUptoCardSaid : Prop := Claim7.holds Tryd.pinned (.plain (OpenSpec.upto keyMakesSpec)) keyMakesUptoCard

/-- THE SECOND FORM's CARD OF 'palimpsestlaw07.KeyBack'. -/
def keyBackUptoCard : Claim7 := { stood := { row := keyBackUptoRow, standIns := [], harness := (true, "3fff1c1004df0ffb8e75f7bf14283ec1c0b189e34ba8b6d882501c3bd8d19d49"), looks := true }, kinds := [], alts := [], laidByText := true, laidKinds := [.data, .pinned], laidTests := true, laidLooks := .later }
def KeyBackUptoCardSaid : Prop := Claim7.holds Tryd.pinned (.plain (OpenSpec.upto keyBackSpec)) keyBackUptoCard

/-- THE SECOND FORM's CARD OF 'palimpsestlaw21.UnionOver'. -/
def unionOverUptoCard : Claim7 := { stood := { row := unionOverUptoRow, standIns := [], harness := (true, "3fff1c1004df0ffb8e75f7bf14283ec1c0b189e34ba8b6d882501c3bd8d19d49"), looks := true }, kinds := [], alts := [], laidByText := true, laidKinds := [.data, .pinned], laidTests := true, laidLooks := .later }
def UnionOverUptoCardSaid : Prop := Claim7.holds Tryd.pinned (.plain (OpenSpec.upto unionOverSpec)) unionOverUptoCard

/-- THE SECOND FORM's CARD OF 'palimpsestlaw21.UnionShows'. -/
def unionShowsUptoCard : Claim7 := { stood := { row := unionShowsUptoRow, standIns := [], harness := (true, "3fff1c1004df0ffb8e75f7bf14283ec1c0b189e34ba8b6d882501c3bd8d19d49"), looks := true }, kinds := [], alts := [], laidByText := true, laidKinds := [.data, .pinned], laidTests := true, laidLooks := .later }
def UnionShowsUptoCardSaid : Prop := Claim7.holds Tryd.pinned (.plain (OpenSpec.upto unionShowsSpec)) unionShowsUptoCard

/-- THE SECOND FORM's CARD OF 'palimpsestlaw21.UnionTells'. -/
def unionTellsUptoCard : Claim7 := { stood := { row := unionTellsUptoRow, standIns := [], harness := (true, "3fff1c1004df0ffb8e75f7bf14283ec1c0b189e34ba8b6d882501c3bd8d19d49"), looks := true }, kinds := [], alts := [], laidByText := true, laidKinds := [.data, .pinned], laidTests := true, laidLooks := .later }
def UnionTellsUptoCardSaid : Prop := Claim7.holds Tryd.pinned (.plain (OpenSpec.upto unionTellsSpec)) unionTellsUptoCard

/-- THE SECOND FORM's CARD OF 'palimpsestlaw21.UnionBack'. -/
def unionBackUptoCard : Claim7 := { stood := { row := unionBackUptoRow, standIns := [], harness := (true, "3fff1c1004df0ffb8e75f7bf14283ec1c0b189e34ba8b6d882501c3bd8d19d49"), looks := true }, kinds := [], alts := [], laidByText := true, laidKinds := [.data, .pinned], laidTests := true, laidLooks := .later }
def UnionBackUptoCardSaid : Prop := Claim7.holds Tryd.pinned (.plain (OpenSpec.upto unionBackSpec)) unionBackUptoCard
end Rows
end Go.Proofs.YtbclnkhcnclfoaaDoor
