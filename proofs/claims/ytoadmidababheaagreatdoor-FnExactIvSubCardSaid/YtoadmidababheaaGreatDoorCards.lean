/-
  DERIVED. GIVEN WITH THE SEED: THE CARDS: each row of YtoadmidababheaaGreatDoorRows.lean that lists a variable, with what it lists TIED to the program's text (the seventh form; the later family's looks); each row that meets fmt, with fmt's text TOLD by the authors' own Lean function (tested against real Go, not proved from fmt's source: count such statements apart). THE CARD IS WHAT COUNTS. Prove the row's statement (the work); the ties are given (YtoadmidababheaaGreatDoorTie.lean); close each card by the builder's one call (the guide's Derived/Test/ToyasCard.lean, 'card_holds'). Laid BY PROGRAM, IN A SANDBOX (cutbox-door.mjs). By AI agents, Wed Nov 11 2026. No macro, syntax, notation, axiom, sorry.
-/
import Derived.Test.YtoadmidababheaaGreatDoorRows
import GoSem.ClaimSeven
namespace Go.Proofs.YtoadmidababheaaGreatDoor
namespace Rows

/-- THE TIED CARD OF 'laws.FnExactIvAdd'. -/
def fnExactIvAddCard : Claim7 := { stood := { row := fnExactIvAddRow, standIns := [], harness := (true, "c178d23454a6429ff85a96bb8a2ff73dbeef43cacee91155efcf630df29f630a"), looks := false }, kinds := [], alts := [], laidByText := true, laidKinds := [.data, .data], laidTests := true, laidLooks := .later }
def FnExactIvAddCardSaid : Prop := Claim7.holds Tryz.pinned (.plain (OpenSpec.ofChange fnExactIvAddSpec)) fnExactIvAddCard

/-- THE TIED CARD OF 'laws.FnExactIvSub'. -/
def fnExactIvSubCard : Claim7 := { stood := { row := fnExactIvSubRow, standIns := [], harness := (true, "c178d23454a6429ff85a96bb8a2ff73dbeef43cacee91155efcf630df29f630a"), looks := false }, kinds := [], alts := [], laidByText := true, laidKinds := [.data, .data], laidTests := true, laidLooks := .later }
def FnExactIvSubCardSaid : Prop := Claim7.holds Tryz.pinned (.plain (OpenSpec.ofChange fnExactIvSubSpec)) fnExactIvSubCard

/-- THE TIED CARD OF 'laws.FnExactIvOut'. -/
def fnExactIvOutCard : Claim7 := { stood := { row := fnExactIvOutRow, standIns := [], harness := (true, "c178d23454a6429ff85a96bb8a2ff73dbeef43cacee91155efcf630df29f630a"), looks := false }, kinds := [], alts := [], laidByText := true, laidKinds := [.data, .data], laidTests := true, laidLooks := .later }
def FnExactIvOutCardSaid : Prop := Claim7.holds Tryz.pinned (.plain (OpenSpec.ofChange fnExactIvOutSpec)) fnExactIvOutCard

/-- THE TIED CARD OF 'laws.FnExactIvRoot'. -/
def fnExactIvRootCard : Claim7 := { stood := { row := fnExactIvRootRow, standIns := [], harness := (true, "c178d23454a6429ff85a96bb8a2ff73dbeef43cacee91155efcf630df29f630a"), looks := false }, kinds := [], alts := [], laidByText := true, laidKinds := [.data, .data], laidTests := true, laidLooks := .later }
def FnExactIvRootCardSaid : Prop := Claim7.holds Tryz.pinned (.plain (OpenSpec.ofChange fnExactIvRootSpec)) fnExactIvRootCard

/-- THE TIED CARD OF 'laws.FnExactIvDiv'. -/
def fnExactIvDivCard : Claim7 := { stood := { row := fnExactIvDivRow, standIns := [], harness := (true, "c178d23454a6429ff85a96bb8a2ff73dbeef43cacee91155efcf630df29f630a"), looks := false }, kinds := [], alts := [], laidByText := true, laidKinds := [.data, .data], laidTests := true, laidLooks := .later }
def FnExactIvDivCardSaid : Prop := Claim7.holds Tryz.pinned (.plain (OpenSpec.ofChange fnExactIvDivSpec)) fnExactIvDivCard

/-- THE SECOND FORM's CARD OF 'laws.FnExactIvAdd'. -/
def fnExactIvAddUptoCard : Claim7 := { stood := { row := fnExactIvAddUptoRow, standIns := [], harness := (true, "c178d23454a6429ff85a96bb8a2ff73dbeef43cacee91155efcf630df29f630a"), looks := false }, kinds := [], alts := [], laidByText := true, laidKinds := [.data, .data], laidTests := true, laidLooks := .later }
def FnExactIvAddUptoCardSaid : Prop := Claim7.holds Tryz.pinned (.plain (OpenSpec.upto fnExactIvAddSpec)) fnExactIvAddUptoCard

/-- THE SECOND FORM's CARD OF 'laws.FnExactIvSub'. -/
def fnExactIvSubUptoCard : Claim7 := { stood := { row := fnExactIvSubUptoRow, standIns := [], harness := (true, "c178d23454a6429ff85a96bb8a2ff73dbeef43cacee91155efcf630df29f630a"), looks := false }, kinds := [], alts := [], laidByText := true, laidKinds := [.data, .data], laidTests := true, laidLooks := .later }
def FnExactIvSubUptoCardSaid : Prop := Claim7.holds Tryz.pinned (.plain (OpenSpec.upto fnExactIvSubSpec)) fnExactIvSubUptoCard

/-- THE SECOND FORM's CARD OF 'laws.FnExactIvOut'. -/
def fnExactIvOutUptoCard : Claim7 := { stood := { row := fnExactIvOutUptoRow, standIns := [], harness := (true, "c178d23454a6429ff85a96bb8a2ff73dbeef43cacee91155efcf630df29f630a"), looks := false }, kinds := [], alts := [], laidByText := true, laidKinds := [.data, .data], laidTests := true, laidLooks := .later }
def FnExactIvOutUptoCardSaid : Prop := Claim7.holds Tryz.pinned (.plain (OpenSpec.upto fnExactIvOutSpec)) fnExactIvOutUptoCard

/-- THE SECOND FORM's CARD OF 'laws.FnExactIvRoot'. -/
def fnExactIvRootUptoCard : Claim7 := { stood := { row := fnExactIvRootUptoRow, standIns := [], harness := (true, "c178d23454a6429ff85a96bb8a2ff73dbeef43cacee91155efcf630df29f630a"), looks := false }, kinds := [], alts := [], laidByText := true, laidKinds := [.data, .data], laidTests := true, laidLooks := .later }
def FnExactIvRootUptoCardSaid : Prop := Claim7.holds Tryz.pinned (.plain (OpenSpec.upto fnExactIvRootSpec)) fnExactIvRootUptoCard

/-- THE SECOND FORM's CARD OF 'laws.FnExactIvDiv'. -/
def fnExactIvDivUptoCard : Claim7 := { stood := { row := fnExactIvDivUptoRow, standIns := [], harness := (true, "c178d23454a6429ff85a96bb8a2ff73dbeef43cacee91155efcf630df29f630a"), looks := false }, kinds := [], alts := [], laidByText := true, laidKinds := [.data, .data], laidTests := true, laidLooks := .later }
def FnExactIvDivUptoCardSaid : Prop := Claim7.holds Tryz.pinned (.plain (OpenSpec.upto fnExactIvDivSpec)) fnExactIvDivUptoCard
end Rows
end Go.Proofs.YtoadmidababheaaGreatDoor
