/-
  DERIVED. GIVEN WITH THE SEED: THE CARDS: each row of YtoadmidababheaaDoorRows.lean that lists a variable, with what it lists TIED to the program's text (the seventh form; the later family's looks); each row that meets fmt, with fmt's text TOLD by the authors' own Lean function (tested against real Go, not proved from fmt's source: count such statements apart). THE CARD IS WHAT COUNTS. Prove the row's statement (the work); the ties are given (YtoadmidababheaaDoorTie.lean); close each card by the builder's one call (the guide's Derived/Test/ToyasCard.lean, 'card_holds'). Laid BY PROGRAM, IN A SANDBOX (cutbox-door.mjs). By AI agents, Wed Nov 11 2026. No macro, syntax, notation, axiom, sorry.
-/
import Derived.Test.YtoadmidababheaaDoorRows
import GoSem.ClaimSeven
namespace Go.Proofs.YtoadmidababheaaDoor
namespace Rows

/-- THE TIED CARD OF 'laws.FnExactIvWide'. -/
def fnExactIvWideCard : Claim7 := { stood := { row := fnExactIvWideRow, standIns := [], harness := (true, "8bd0341bfe25ac440fbf7577a63349b64e8fc5c8e4702445d4c0c04c1d93947c"), looks := false }, kinds := [], alts := [], laidByText := true, laidKinds := [.data, .data], laidTests := true, laidLooks := .later }
def FnExactIvWideCardSaid : Prop := Claim7.holds Tryd.pinned (.plain (OpenSpec.ofChange fnExactIvWideSpec)) fnExactIvWideCard

/-- THE TIED CARD OF 'laws.FnExactDyDiv'. -/
def fnExactDyDivCard : Claim7 := { stood := { row := fnExactDyDivRow, standIns := [], harness := (true, "8bd0341bfe25ac440fbf7577a63349b64e8fc5c8e4702445d4c0c04c1d93947c"), looks := false }, kinds := [], alts := [], laidByText := true, laidKinds := [.data, .data], laidTests := true, laidLooks := .later }
def FnExactDyDivCardSaid : Prop := Claim7.holds Tryd.pinned (.plain (OpenSpec.ofChange fnExactDyDivSpec)) fnExactDyDivCard

/-- THE TIED CARD OF 'laws.FnExactDyRoot'. -/
def fnExactDyRootCard : Claim7 := { stood := { row := fnExactDyRootRow, standIns := [], harness := (true, "8bd0341bfe25ac440fbf7577a63349b64e8fc5c8e4702445d4c0c04c1d93947c"), looks := false }, kinds := [], alts := [], laidByText := true, laidKinds := [.data, .data], laidTests := true, laidLooks := .later }
def FnExactDyRootCardSaid : Prop := Claim7.holds Tryd.pinned (.plain (OpenSpec.ofChange fnExactDyRootSpec)) fnExactDyRootCard

/-- THE TIED CARD OF 'laws.FnExactFlSqrt'. -/
def fnExactFlSqrtCard : Claim7 := { stood := { row := fnExactFlSqrtRow, standIns := [], harness := (true, "8bd0341bfe25ac440fbf7577a63349b64e8fc5c8e4702445d4c0c04c1d93947c"), looks := false }, kinds := [], alts := [], laidByText := true, laidKinds := [.data, .data], laidTests := true, laidLooks := .later }
def FnExactFlSqrtCardSaid : Prop := Claim7.holds Tryd.pinned (.plain (OpenSpec.ofChange fnExactFlSqrtSpec)) fnExactFlSqrtCard

/-- THE TIED CARD OF 'laws.FnExactFlDiv'. -/
def fnExactFlDivCard : Claim7 := { stood := { row := fnExactFlDivRow, standIns := [], harness := (true, "8bd0341bfe25ac440fbf7577a63349b64e8fc5c8e4702445d4c0c04c1d93947c"), looks := false }, kinds := [], alts := [], laidByText := true, laidKinds := [.data, .data], laidTests := true, laidLooks := .later }
def FnExactFlDivCardSaid : Prop := Claim7.holds Tryd.pinned (.plain (OpenSpec.ofChange fnExactFlDivSpec)) fnExactFlDivCard

/-- THE SECOND FORM's CARD OF 'laws.FnExactIvWide'. -/
def fnExactIvWideUptoCard : Claim7 := { stood := { row := fnExactIvWideUptoRow, standIns := [], harness := (true, "8bd0341bfe25ac440fbf7577a63349b64e8fc5c8e4702445d4c0c04c1d93947c"), looks := false }, kinds := [], alts := [], laidByText := true, laidKinds := [.data, .data], laidTests := true, laidLooks := .later }
def FnExactIvWideUptoCardSaid : Prop := Claim7.holds Tryd.pinned (.plain (OpenSpec.upto fnExactIvWideSpec)) fnExactIvWideUptoCard

/-- THE SECOND FORM's CARD OF 'laws.FnExactDyDiv'. -/
def fnExactDyDivUptoCard : Claim7 := { stood := { row := fnExactDyDivUptoRow, standIns := [], harness := (true, "8bd0341bfe25ac440fbf7577a63349b64e8fc5c8e4702445d4c0c04c1d93947c"), looks := false }, kinds := [], alts := [], laidByText := true, laidKinds := [.data, .data], laidTests := true, laidLooks := .later }
def FnExactDyDivUptoCardSaid : Prop := Claim7.holds Tryd.pinned (.plain (OpenSpec.upto fnExactDyDivSpec)) fnExactDyDivUptoCard

/-- THE SECOND FORM's CARD OF 'laws.FnExactDyRoot'. -/
def fnExactDyRootUptoCard : Claim7 := { stood := { row := fnExactDyRootUptoRow, standIns := [], harness := (true, "8bd0341bfe25ac440fbf7577a63349b64e8fc5c8e4702445d4c0c04c1d93947c"), looks := false }, kinds := [], alts := [], laidByText := true, laidKinds := [.data, .data], laidTests := true, laidLooks := .later }
def FnExactDyRootUptoCardSaid : Prop := Claim7.holds Tryd.pinned (.plain (OpenSpec.upto fnExactDyRootSpec)) fnExactDyRootUptoCard

/-- THE SECOND FORM's CARD OF 'laws.FnExactFlSqrt'. -/
def fnExactFlSqrtUptoCard : Claim7 := { stood := { row := fnExactFlSqrtUptoRow, standIns := [], harness := (true, "8bd0341bfe25ac440fbf7577a63349b64e8fc5c8e4702445d4c0c04c1d93947c"), looks := false }, kinds := [], alts := [], laidByText := true, laidKinds := [.data, .data], laidTests := true, laidLooks := .later }
def FnExactFlSqrtUptoCardSaid : Prop := Claim7.holds Tryd.pinned (.plain (OpenSpec.upto fnExactFlSqrtSpec)) fnExactFlSqrtUptoCard

/-- THE SECOND FORM's CARD OF 'laws.FnExactFlDiv'. -/
def fnExactFlDivUptoCard : Claim7 := { stood := { row := fnExactFlDivUptoRow, standIns := [], harness := (true, "8bd0341bfe25ac440fbf7577a63349b64e8fc5c8e4702445d4c0c04c1d93947c"), looks := false }, kinds := [], alts := [], laidByText := true, laidKinds := [.data, .data], laidTests := true, laidLooks := .later }
def FnExactFlDivUptoCardSaid : Prop := Claim7.holds Tryd.pinned (.plain (OpenSpec.upto fnExactFlDivSpec)) fnExactFlDivUptoCard
end Rows
end Go.Proofs.YtoadmidababheaaDoor
