/-
  DERIVED. GIVEN WITH THE SEED: THE CARDS: each row of YtcbagjglchpagaaGreatDoorRows.lean that lists a variable, with what it lists TIED to the program's text (the seventh form; the later family's looks); each row that meets fmt, with fmt's text TOLD by the authors' own Lean function (tested against real Go, not proved from fmt's source: count such statements apart). THE CARD IS WHAT COUNTS. Prove the row's statement (the work); the ties are given (YtcbagjglchpagaaGreatDoorTie.lean); close each card by the builder's one call (the guide's Derived/Test/ToyasCard.lean, 'card_holds'). Laid BY PROGRAM, IN A SANDBOX (cutbox-door.mjs). By AI agents, Wed Nov 11 2026. No macro, syntax, notation, axiom, sorry.
-/
import Derived.Test.YtcbagjglchpagaaGreatDoorRows
import GoSem.ClaimSeven
namespace Go.Proofs.YtcbagjglchpagaaGreatDoor
namespace Rows

/-- THE TIED CARD OF 'laws.FnExactIvOut'. -/
def fnExactIvOutCard : Claim7 := { stood := { row := fnExactIvOutRow, standIns := [], harness := (true, "3d24d19e9bd522905fe63cd2129214d3dfb47e503a59817ab88313e2c9feb590"), looks := false }, kinds := [], alts := [], laidByText := true, laidKinds := [.data, .data], laidTests := true, laidLooks := .later }
def FnExactIvOutCardSaid : Prop := Claim7.holds Tryz.pinned (.plain (OpenSpec.ofChange fnExactIvOutSpec)) fnExactIvOutCard

/-- THE TIED CARD OF 'laws.FnExactIvRoot'. -/
def fnExactIvRootCard : Claim7 := { stood := { row := fnExactIvRootRow, standIns := [], harness := (true, "3d24d19e9bd522905fe63cd2129214d3dfb47e503a59817ab88313e2c9feb590"), looks := false }, kinds := [], alts := [], laidByText := true, laidKinds := [.data, .data], laidTests := true, laidLooks := .later }
def FnExactIvRootCardSaid : Prop := Claim7.holds Tryz.pinned (.plain (OpenSpec.ofChange fnExactIvRootSpec)) fnExactIvRootCard

/-- THE TIED CARD OF 'laws.FnExactIvDiv'. -/
def fnExactIvDivCard : Claim7 := { stood := { row := fnExactIvDivRow, standIns := [], harness := (true, "3d24d19e9bd522905fe63cd2129214d3dfb47e503a59817ab88313e2c9feb590"), looks := false }, kinds := [], alts := [], laidByText := true, laidKinds := [.data, .data], laidTests := true, laidLooks := .later }
def FnExactIvDivCardSaid : Prop := Claim7.holds Tryz.pinned (.plain (OpenSpec.ofChange fnExactIvDivSpec)) fnExactIvDivCard

/-- THE TIED CARD OF 'laws.FnExactIvMatAdd'. -/
def fnExactIvMatAddCard : Claim7 := { stood := { row := fnExactIvMatAddRow, standIns := [], harness := (true, "3d24d19e9bd522905fe63cd2129214d3dfb47e503a59817ab88313e2c9feb590"), looks := false }, kinds := [], alts := [], laidByText := true, laidKinds := [.data, .data], laidTests := true, laidLooks := .later }
def FnExactIvMatAddCardSaid : Prop := Claim7.holds Tryz.pinned (.plain (OpenSpec.ofChange fnExactIvMatAddSpec)) fnExactIvMatAddCard

/-- THE TIED CARD OF 'laws.FnExactIvMatWide'. -/
def fnExactIvMatWideCard : Claim7 := { stood := { row := fnExactIvMatWideRow, standIns := [], harness := (true, "3d24d19e9bd522905fe63cd2129214d3dfb47e503a59817ab88313e2c9feb590"), looks := false }, kinds := [], alts := [], laidByText := true, laidKinds := [.data, .data], laidTests := true, laidLooks := .later }
def FnExactIvMatWideCardSaid : Prop := Claim7.holds Tryz.pinned (.plain (OpenSpec.ofChange fnExactIvMatWideSpec)) fnExactIvMatWideCard

/-- THE TIED CARD OF 'laws.FnExactIvMatFat'. -/
def fnExactIvMatFatCard : Claim7 := { stood := { row := fnExactIvMatFatRow, standIns := [], harness := (true, "3d24d19e9bd522905fe63cd2129214d3dfb47e503a59817ab88313e2c9feb590"), looks := false }, kinds := [], alts := [], laidByText := true, laidKinds := [.data, .data], laidTests := true, laidLooks := .later }
def FnExactIvMatFatCardSaid : Prop := Claim7.holds Tryz.pinned (.plain (OpenSpec.ofChange fnExactIvMatFatSpec)) fnExactIvMatFatCard

/-- THE TIED CARD OF 'laws.FnExactIvMatMid'. -/
def fnExactIvMatMidCard : Claim7 := { stood := { row := fnExactIvMatMidRow, standIns := [], harness := (true, "3d24d19e9bd522905fe63cd2129214d3dfb47e503a59817ab88313e2c9feb590"), looks := false }, kinds := [], alts := [], laidByText := true, laidKinds := [.data, .data], laidTests := true, laidLooks := .later }
def FnExactIvMatMidCardSaid : Prop := Claim7.holds Tryz.pinned (.plain (OpenSpec.ofChange fnExactIvMatMidSpec)) fnExactIvMatMidCard

/-- THE TIED CARD OF 'laws.FnExactIvMatMul'. -/
def fnExactIvMatMulCard : Claim7 := { stood := { row := fnExactIvMatMulRow, standIns := [], harness := (true, "3d24d19e9bd522905fe63cd2129214d3dfb47e503a59817ab88313e2c9feb590"), looks := false }, kinds := [], alts := [], laidByText := true, laidKinds := [.data, .data], laidTests := true, laidLooks := .later }
def FnExactIvMatMulCardSaid : Prop := Claim7.holds Tryz.pinned (.plain (OpenSpec.ofChange fnExactIvMatMulSpec)) fnExactIvMatMulCard

/-- THE SECOND FORM's CARD OF 'laws.FnExactIvOut'. -/
def fnExactIvOutUptoCard : Claim7 := { stood := { row := fnExactIvOutUptoRow, standIns := [], harness := (true, "3d24d19e9bd522905fe63cd2129214d3dfb47e503a59817ab88313e2c9feb590"), looks := false }, kinds := [], alts := [], laidByText := true, laidKinds := [.data, .data], laidTests := true, laidLooks := .later }
def FnExactIvOutUptoCardSaid : Prop := Claim7.holds Tryz.pinned (.plain (OpenSpec.upto fnExactIvOutSpec)) fnExactIvOutUptoCard

/-- THE SECOND FORM's CARD OF 'laws.FnExactIvRoot'. -/
def fnExactIvRootUptoCard : Claim7 := { stood := { row := fnExactIvRootUptoRow, standIns := [], harness := (true, "3d24d19e9bd522905fe63cd2129214d3dfb47e503a59817ab88313e2c9feb590"), looks := false }, kinds := [], alts := [], laidByText := true, laidKinds := [.data, .data], laidTests := true, laidLooks := .later }
def FnExactIvRootUptoCardSaid : Prop := Claim7.holds Tryz.pinned (.plain (OpenSpec.upto fnExactIvRootSpec)) fnExactIvRootUptoCard

/-- THE SECOND FORM's CARD OF 'laws.FnExactIvDiv'. -/
def fnExactIvDivUptoCard : Claim7 := { stood := { row := fnExactIvDivUptoRow, standIns := [], harness := (true, "3d24d19e9bd522905fe63cd2129214d3dfb47e503a59817ab88313e2c9feb590"), looks := false }, kinds := [], alts := [], laidByText := true, laidKinds := [.data, .data], laidTests := true, laidLooks := .later }
def FnExactIvDivUptoCardSaid : Prop := Claim7.holds Tryz.pinned (.plain (OpenSpec.upto fnExactIvDivSpec)) fnExactIvDivUptoCard

/-- THE SECOND FORM's CARD OF 'laws.FnExactIvMatAdd'. -/
def fnExactIvMatAddUptoCard : Claim7 := { stood := { row := fnExactIvMatAddUptoRow, standIns := [], harness := (true, "3d24d19e9bd522905fe63cd2129214d3dfb47e503a59817ab88313e2c9feb590"), looks := false }, kinds := [], alts := [], laidByText := true, laidKinds := [.data, .data], laidTests := true, laidLooks := .later }
def FnExactIvMatAddUptoCardSaid : Prop := Claim7.holds Tryz.pinned (.plain (OpenSpec.upto fnExactIvMatAddSpec)) fnExactIvMatAddUptoCard

/-- THE SECOND FORM's CARD OF 'laws.FnExactIvMatWide'. -/
def fnExactIvMatWideUptoCard : Claim7 := { stood := { row := fnExactIvMatWideUptoRow, standIns := [], harness := (true, "3d24d19e9bd522905fe63cd2129214d3dfb47e503a59817ab88313e2c9feb590"), looks := false }, kinds := [], alts := [], laidByText := true, laidKinds := [.data, .data], laidTests := true, laidLooks := .later }
def FnExactIvMatWideUptoCardSaid : Prop := Claim7.holds Tryz.pinned (.plain (OpenSpec.upto fnExactIvMatWideSpec)) fnExactIvMatWideUptoCard

/-- THE SECOND FORM's CARD OF 'laws.FnExactIvMatFat'. -/
def fnExactIvMatFatUptoCard : Claim7 := { stood := { row := fnExactIvMatFatUptoRow, standIns := [], harness := (true, "3d24d19e9bd522905fe63cd2129214d3dfb47e503a59817ab88313e2c9feb590"), looks := false }, kinds := [], alts := [], laidByText := true, laidKinds := [.data, .data], laidTests := true, laidLooks := .later }
def FnExactIvMatFatUptoCardSaid : Prop := Claim7.holds Tryz.pinned (.plain (OpenSpec.upto fnExactIvMatFatSpec)) fnExactIvMatFatUptoCard

/-- THE SECOND FORM's CARD OF 'laws.FnExactIvMatMid'. -/
def fnExactIvMatMidUptoCard : Claim7 := { stood := { row := fnExactIvMatMidUptoRow, standIns := [], harness := (true, "3d24d19e9bd522905fe63cd2129214d3dfb47e503a59817ab88313e2c9feb590"), looks := false }, kinds := [], alts := [], laidByText := true, laidKinds := [.data, .data], laidTests := true, laidLooks := .later }
def FnExactIvMatMidUptoCardSaid : Prop := Claim7.holds Tryz.pinned (.plain (OpenSpec.upto fnExactIvMatMidSpec)) fnExactIvMatMidUptoCard

/-- THE SECOND FORM's CARD OF 'laws.FnExactIvMatMul'. -/
def fnExactIvMatMulUptoCard : Claim7 := { stood := { row := fnExactIvMatMulUptoRow, standIns := [], harness := (true, "3d24d19e9bd522905fe63cd2129214d3dfb47e503a59817ab88313e2c9feb590"), looks := false }, kinds := [], alts := [], laidByText := true, laidKinds := [.data, .data], laidTests := true, laidLooks := .later }
def FnExactIvMatMulUptoCardSaid : Prop := Claim7.holds Tryz.pinned (.plain (OpenSpec.upto fnExactIvMatMulSpec)) fnExactIvMatMulUptoCard
end Rows
end Go.Proofs.YtcbagjglchpagaaGreatDoor
