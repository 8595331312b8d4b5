/-
  DERIVED. GIVEN WITH THE SEED: THE CARDS: each row of YtcbagjglchpagaaDoorRows.lean that lists a variable, with what it lists TIED to the program's text (the seventh form; the later family's looks); each row that meets fmt, with fmt's text TOLD by the authors' own Lean function (tested against real Go, not proved from fmt's source: count such statements apart). THE CARD IS WHAT COUNTS. Prove the row's statement (the work); the ties are given (YtcbagjglchpagaaDoorTie.lean); close each card by the builder's one call (the guide's Derived/Test/ToyasCard.lean, 'card_holds'). Laid BY PROGRAM, IN A SANDBOX (cutbox-door.mjs). By AI agents, Wed Nov 11 2026. No macro, syntax, notation, axiom, sorry.
-/
import Derived.Test.YtcbagjglchpagaaDoorRows
import GoSem.ClaimSeven
namespace Go.Proofs.YtcbagjglchpagaaDoor
namespace Rows

/-- THE TIED CARD OF 'laws.FnExactFlSqrt'. -/
def fnExactFlSqrtCard : Claim7 := { stood := { row := fnExactFlSqrtRow, standIns := [], harness := (true, "397f3177479a831b3995b20a78d5d4cdf3376f7ce5cf561b4f549ebaeceb0b2d"), looks := false }, kinds := [], alts := [], laidByText := true, laidKinds := [.data, .data], laidTests := true, laidLooks := .later }
def FnExactFlSqrtCardSaid : Prop := Claim7.holds Tryd.pinned (.plain (OpenSpec.ofChange fnExactFlSqrtSpec)) fnExactFlSqrtCard

/-- THE TIED CARD OF 'laws.FnExactFlDiv'. -/
def fnExactFlDivCard : Claim7 := { stood := { row := fnExactFlDivRow, standIns := [], harness := (true, "397f3177479a831b3995b20a78d5d4cdf3376f7ce5cf561b4f549ebaeceb0b2d"), looks := false }, kinds := [], alts := [], laidByText := true, laidKinds := [.data, .data], laidTests := true, laidLooks := .later }
def FnExactFlDivCardSaid : Prop := Claim7.holds Tryd.pinned (.plain (OpenSpec.ofChange fnExactFlDivSpec)) fnExactFlDivCard

/-- THE TIED CARD OF 'laws.FnExactDyRoot'. -/
def fnExactDyRootCard : Claim7 := { stood := { row := fnExactDyRootRow, standIns := [], harness := (true, "397f3177479a831b3995b20a78d5d4cdf3376f7ce5cf561b4f549ebaeceb0b2d"), looks := false }, kinds := [], alts := [], laidByText := true, laidKinds := [.data, .data], laidTests := true, laidLooks := .later }
def FnExactDyRootCardSaid : Prop := Claim7.holds Tryd.pinned (.plain (OpenSpec.ofChange fnExactDyRootSpec)) fnExactDyRootCard

/-- THE TIED CARD OF 'laws.FnExactDecRead'. -/
def fnExactDecReadCard : Claim7 := { stood := { row := fnExactDecReadRow, standIns := [], harness := (true, "397f3177479a831b3995b20a78d5d4cdf3376f7ce5cf561b4f549ebaeceb0b2d"), looks := false }, kinds := [], alts := [], laidByText := true, laidKinds := [.data, .pinned], laidTests := true, laidLooks := .later }
def FnExactDecReadCardSaid : Prop := Claim7.holds Tryd.pinned (.plain (OpenSpec.ofChange fnExactDecReadSpec)) fnExactDecReadCard

/-- THE SECOND FORM's CARD OF 'laws.FnExactFlSqrt'. -/
def fnExactFlSqrtUptoCard : Claim7 := { stood := { row := fnExactFlSqrtUptoRow, standIns := [], harness := (true, "397f3177479a831b3995b20a78d5d4cdf3376f7ce5cf561b4f549ebaeceb0b2d"), looks := false }, kinds := [], alts := [], laidByText := true, laidKinds := [.data, .data], laidTests := true, laidLooks := .later }
def FnExactFlSqrtUptoCardSaid : Prop := Claim7.holds Tryd.pinned (.plain (OpenSpec.upto fnExactFlSqrtSpec)) fnExactFlSqrtUptoCard

/-- THE SECOND FORM's CARD OF 'laws.FnExactFlDiv'. -/
def fnExactFlDivUptoCard : Claim7 := { stood := { row := fnExactFlDivUptoRow, standIns := [], harness := (true, "397f3177479a831b3995b20a78d5d4cdf3376f7ce5cf561b4f549ebaeceb0b2d"), looks := false }, kinds := [], alts := [], laidByText := true, laidKinds := [.data, .data], laidTests := true, laidLooks := .later }
def FnExactFlDivUptoCardSaid : Prop := Claim7.holds Tryd.pinned (.plain (OpenSpec.upto fnExactFlDivSpec)) fnExactFlDivUptoCard

/-- THE SECOND FORM's CARD OF 'laws.FnExactDyRoot'. -/
def fnExactDyRootUptoCard : Claim7 := { stood := { row := fnExactDyRootUptoRow, standIns := [], harness := (true, "397f3177479a831b3995b20a78d5d4cdf3376f7ce5cf561b4f549ebaeceb0b2d"), looks := false }, kinds := [], alts := [], laidByText := true, laidKinds := [.data, .data], laidTests := true, laidLooks := .later }
def FnExactDyRootUptoCardSaid : Prop := Claim7.holds Tryd.pinned (.plain (OpenSpec.upto fnExactDyRootSpec)) fnExactDyRootUptoCard

/-- THE SECOND FORM's CARD OF 'laws.FnExactDecRead'. -/
def fnExactDecReadUptoCard : Claim7 := { stood := { row := fnExactDecReadUptoRow, standIns := [], harness := (true, "397f3177479a831b3995b20a78d5d4cdf3376f7ce5cf561b4f549ebaeceb0b2d"), looks := false }, kinds := [], alts := [], laidByText := true, laidKinds := [.data, .pinned], laidTests := true, laidLooks := .later }
def FnExactDecReadUptoCardSaid : Prop := Claim7.holds Tryd.pinned (.plain (OpenSpec.upto fnExactDecReadSpec)) fnExactDecReadUptoCard
end Rows
end Go.Proofs.YtcbagjglchpagaaDoor
