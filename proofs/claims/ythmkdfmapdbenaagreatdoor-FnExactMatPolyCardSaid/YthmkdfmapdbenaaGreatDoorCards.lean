/-
  DERIVED. GIVEN WITH THE SEED: THE CARDS: each row of YthmkdfmapdbenaaGreatDoorRows.lean that lists a variable, with what it lists TIED to the program's text (the seventh form; the later family's looks); each row that meets fmt, with fmt's text TOLD by the authors' own Lean function (tested against real Go, not proved from fmt's source: count such statements apart). THE CARD IS WHAT COUNTS. Prove the row's statement (the work); the ties are given (YthmkdfmapdbenaaGreatDoorTie.lean); close each card by the builder's one call (the guide's Derived/Test/ToyasCard.lean, 'card_holds'). Laid BY PROGRAM, IN A SANDBOX (cutbox-door.mjs). By AI agents, Wed Nov 11 2026. No macro, syntax, notation, axiom, sorry.
-/
import Derived.Test.YthmkdfmapdbenaaGreatDoorRows
import GoSem.ClaimSeven
namespace Go.Proofs.YthmkdfmapdbenaaGreatDoor
namespace Rows

/-- THE TIED CARD OF 'laws.FnExactMatAdd'. -/
def fnExactMatAddCard : Claim7 := { stood := { row := fnExactMatAddRow, standIns := [], harness := (true, "eafcfc0a6f4958edb2f7ef481d712bca7e501864f1dc436bd2de778d539293d3"), looks := false }, kinds := [], alts := [], laidByText := true, laidKinds := [.data, .data], laidTests := true, laidLooks := .later }
def FnExactMatAddCardSaid : Prop := Claim7.holds Tryz.pinned (.plain (OpenSpec.ofChange fnExactMatAddSpec)) fnExactMatAddCard

/-- THE TIED CARD OF 'laws.FnExactMatSub'. -/
def fnExactMatSubCard : Claim7 := { stood := { row := fnExactMatSubRow, standIns := [], harness := (true, "eafcfc0a6f4958edb2f7ef481d712bca7e501864f1dc436bd2de778d539293d3"), looks := false }, kinds := [], alts := [], laidByText := true, laidKinds := [.data, .data], laidTests := true, laidLooks := .later }
def FnExactMatSubCardSaid : Prop := Claim7.holds Tryz.pinned (.plain (OpenSpec.ofChange fnExactMatSubSpec)) fnExactMatSubCard

/-- THE TIED CARD OF 'laws.FnExactMatMul'. -/
def fnExactMatMulCard : Claim7 := { stood := { row := fnExactMatMulRow, standIns := [], harness := (true, "eafcfc0a6f4958edb2f7ef481d712bca7e501864f1dc436bd2de778d539293d3"), looks := false }, kinds := [], alts := [], laidByText := true, laidKinds := [.data, .data], laidTests := true, laidLooks := .later }
def FnExactMatMulCardSaid : Prop := Claim7.holds Tryz.pinned (.plain (OpenSpec.ofChange fnExactMatMulSpec)) fnExactMatMulCard

/-- THE TIED CARD OF 'laws.FnExactMatNorm'. -/
def fnExactMatNormCard : Claim7 := { stood := { row := fnExactMatNormRow, standIns := [], harness := (true, "eafcfc0a6f4958edb2f7ef481d712bca7e501864f1dc436bd2de778d539293d3"), looks := false }, kinds := [], alts := [], laidByText := true, laidKinds := [.data, .data], laidTests := true, laidLooks := .later }
def FnExactMatNormCardSaid : Prop := Claim7.holds Tryz.pinned (.plain (OpenSpec.ofChange fnExactMatNormSpec)) fnExactMatNormCard

/-- THE TIED CARD OF 'laws.FnExactMatDet'. -/
def fnExactMatDetCard : Claim7 := { stood := { row := fnExactMatDetRow, standIns := [], harness := (true, "eafcfc0a6f4958edb2f7ef481d712bca7e501864f1dc436bd2de778d539293d3"), looks := false }, kinds := [], alts := [], laidByText := true, laidKinds := [.data, .data], laidTests := true, laidLooks := .later }
def FnExactMatDetCardSaid : Prop := Claim7.holds Tryz.pinned (.plain (OpenSpec.ofChange fnExactMatDetSpec)) fnExactMatDetCard

/-- THE TIED CARD OF 'laws.FnExactMatRound'. -/
def fnExactMatRoundCard : Claim7 := { stood := { row := fnExactMatRoundRow, standIns := [], harness := (true, "eafcfc0a6f4958edb2f7ef481d712bca7e501864f1dc436bd2de778d539293d3"), looks := false }, kinds := [], alts := [], laidByText := true, laidKinds := [.data, .data], laidTests := true, laidLooks := .later }
def FnExactMatRoundCardSaid : Prop := Claim7.holds Tryz.pinned (.plain (OpenSpec.ofChange fnExactMatRoundSpec)) fnExactMatRoundCard

/-- THE TIED CARD OF 'laws.FnExactMatPow'. -/
def fnExactMatPowCard : Claim7 := { stood := { row := fnExactMatPowRow, standIns := [], harness := (true, "eafcfc0a6f4958edb2f7ef481d712bca7e501864f1dc436bd2de778d539293d3"), looks := false }, kinds := [], alts := [], laidByText := true, laidKinds := [.data, .data], laidTests := true, laidLooks := .later }
def FnExactMatPowCardSaid : Prop := Claim7.holds Tryz.pinned (.plain (OpenSpec.ofChange fnExactMatPowSpec)) fnExactMatPowCard

/-- THE TIED CARD OF 'laws.FnExactMatAdj'. -/
def fnExactMatAdjCard : Claim7 := { stood := { row := fnExactMatAdjRow, standIns := [], harness := (true, "eafcfc0a6f4958edb2f7ef481d712bca7e501864f1dc436bd2de778d539293d3"), looks := false }, kinds := [], alts := [], laidByText := true, laidKinds := [.data, .data], laidTests := true, laidLooks := .later }
def FnExactMatAdjCardSaid : Prop := Claim7.holds Tryz.pinned (.plain (OpenSpec.ofChange fnExactMatAdjSpec)) fnExactMatAdjCard

/-- THE TIED CARD OF 'laws.FnExactMatPoly'. -/
def fnExactMatPolyCard : Claim7 := { stood := { row := fnExactMatPolyRow, standIns := [], harness := (true, "eafcfc0a6f4958edb2f7ef481d712bca7e501864f1dc436bd2de778d539293d3"), looks := false }, kinds := [], alts := [], laidByText := true, laidKinds := [.data, .data], laidTests := true, laidLooks := .later }
def FnExactMatPolyCardSaid : Prop := Claim7.holds Tryz.pinned (.plain (OpenSpec.ofChange fnExactMatPolySpec)) fnExactMatPolyCard

/-- THE TIED CARD OF 'laws.FnExactPolyAt'. -/
def fnExactPolyAtCard : Claim7 := { stood := { row := fnExactPolyAtRow, standIns := [], harness := (true, "eafcfc0a6f4958edb2f7ef481d712bca7e501864f1dc436bd2de778d539293d3"), looks := false }, kinds := [], alts := [], laidByText := true, laidKinds := [.data, .data], laidTests := true, laidLooks := .later }
def FnExactPolyAtCardSaid : Prop := Claim7.holds Tryz.pinned (.plain (OpenSpec.ofChange fnExactPolyAtSpec)) fnExactPolyAtCard

/-- THE TIED CARD OF 'laws.FnExactResidual'. -/
def fnExactResidualCard : Claim7 := { stood := { row := fnExactResidualRow, standIns := [], harness := (true, "eafcfc0a6f4958edb2f7ef481d712bca7e501864f1dc436bd2de778d539293d3"), looks := false }, kinds := [], alts := [], laidByText := true, laidKinds := [.data, .data], laidTests := true, laidLooks := .later }
def FnExactResidualCardSaid : Prop := Claim7.holds Tryz.pinned (.plain (OpenSpec.ofChange fnExactResidualSpec)) fnExactResidualCard

/-- THE SECOND FORM's CARD OF 'laws.FnExactMatAdd'. -/
def fnExactMatAddUptoCard : Claim7 := { stood := { row := fnExactMatAddUptoRow, standIns := [], harness := (true, "eafcfc0a6f4958edb2f7ef481d712bca7e501864f1dc436bd2de778d539293d3"), looks := false }, kinds := [], alts := [], laidByText := true, laidKinds := [.data, .data], laidTests := true, laidLooks := .later }
def FnExactMatAddUptoCardSaid : Prop := Claim7.holds Tryz.pinned (.plain (OpenSpec.upto fnExactMatAddSpec)) fnExactMatAddUptoCard

/-- THE SECOND FORM's CARD OF 'laws.FnExactMatSub'. -/
def fnExactMatSubUptoCard : Claim7 := { stood := { row := fnExactMatSubUptoRow, standIns := [], harness := (true, "eafcfc0a6f4958edb2f7ef481d712bca7e501864f1dc436bd2de778d539293d3"), looks := false }, kinds := [], alts := [], laidByText := true, laidKinds := [.data, .data], laidTests := true, laidLooks := .later }
def FnExactMatSubUptoCardSaid : Prop := Claim7.holds Tryz.pinned (.plain (OpenSpec.upto fnExactMatSubSpec)) fnExactMatSubUptoCard

/-- THE SECOND FORM's CARD OF 'laws.FnExactMatMul'. -/
def fnExactMatMulUptoCard : Claim7 := { stood := { row := fnExactMatMulUptoRow, standIns := [], harness := (true, "eafcfc0a6f4958edb2f7ef481d712bca7e501864f1dc436bd2de778d539293d3"), looks := false }, kinds := [], alts := [], laidByText := true, laidKinds := [.data, .data], laidTests := true, laidLooks := .later }
def FnExactMatMulUptoCardSaid : Prop := Claim7.holds Tryz.pinned (.plain (OpenSpec.upto fnExactMatMulSpec)) fnExactMatMulUptoCard

/-- THE SECOND FORM's CARD OF 'laws.FnExactMatNorm'. -/
def fnExactMatNormUptoCard : Claim7 := { stood := { row := fnExactMatNormUptoRow, standIns := [], harness := (true, "eafcfc0a6f4958edb2f7ef481d712bca7e501864f1dc436bd2de778d539293d3"), looks := false }, kinds := [], alts := [], laidByText := true, laidKinds := [.data, .data], laidTests := true, laidLooks := .later }
def FnExactMatNormUptoCardSaid : Prop := Claim7.holds Tryz.pinned (.plain (OpenSpec.upto fnExactMatNormSpec)) fnExactMatNormUptoCard

/-- THE SECOND FORM's CARD OF 'laws.FnExactMatDet'. -/
def fnExactMatDetUptoCard : Claim7 := { stood := { row := fnExactMatDetUptoRow, standIns := [], harness := (true, "eafcfc0a6f4958edb2f7ef481d712bca7e501864f1dc436bd2de778d539293d3"), looks := false }, kinds := [], alts := [], laidByText := true, laidKinds := [.data, .data], laidTests := true, laidLooks := .later }
def FnExactMatDetUptoCardSaid : Prop := Claim7.holds Tryz.pinned (.plain (OpenSpec.upto fnExactMatDetSpec)) fnExactMatDetUptoCard

/-- THE SECOND FORM's CARD OF 'laws.FnExactMatRound'. -/
def fnExactMatRoundUptoCard : Claim7 := { stood := { row := fnExactMatRoundUptoRow, standIns := [], harness := (true, "eafcfc0a6f4958edb2f7ef481d712bca7e501864f1dc436bd2de778d539293d3"), looks := false }, kinds := [], alts := [], laidByText := true, laidKinds := [.data, .data], laidTests := true, laidLooks := .later }
def FnExactMatRoundUptoCardSaid : Prop := Claim7.holds Tryz.pinned (.plain (OpenSpec.upto fnExactMatRoundSpec)) fnExactMatRoundUptoCard

/-- THE SECOND FORM's CARD OF 'laws.FnExactMatPow'. -/
def fnExactMatPowUptoCard : Claim7 := { stood := { row := fnExactMatPowUptoRow, standIns := [], harness := (true, "eafcfc0a6f4958edb2f7ef481d712bca7e501864f1dc436bd2de778d539293d3"), looks := false }, kinds := [], alts := [], laidByText := true, laidKinds := [.data, .data], laidTests := true, laidLooks := .later }
def FnExactMatPowUptoCardSaid : Prop := Claim7.holds Tryz.pinned (.plain (OpenSpec.upto fnExactMatPowSpec)) fnExactMatPowUptoCard

/-- THE SECOND FORM's CARD OF 'laws.FnExactMatAdj'. -/
def fnExactMatAdjUptoCard : Claim7 := { stood := { row := fnExactMatAdjUptoRow, standIns := [], harness := (true, "eafcfc0a6f4958edb2f7ef481d712bca7e501864f1dc436bd2de778d539293d3"), looks := false }, kinds := [], alts := [], laidByText := true, laidKinds := [.data, .data], laidTests := true, laidLooks := .later }
def FnExactMatAdjUptoCardSaid : Prop := Claim7.holds Tryz.pinned (.plain (OpenSpec.upto fnExactMatAdjSpec)) fnExactMatAdjUptoCard

/-- THE SECOND FORM's CARD OF 'laws.FnExactMatPoly'. -/
def fnExactMatPolyUptoCard : Claim7 := { stood := { row := fnExactMatPolyUptoRow, standIns := [], harness := (true, "eafcfc0a6f4958edb2f7ef481d712bca7e501864f1dc436bd2de778d539293d3"), looks := false }, kinds := [], alts := [], laidByText := true, laidKinds := [.data, .data], laidTests := true, laidLooks := .later }
def FnExactMatPolyUptoCardSaid : Prop := Claim7.holds Tryz.pinned (.plain (OpenSpec.upto fnExactMatPolySpec)) fnExactMatPolyUptoCard

/-- THE SECOND FORM's CARD OF 'laws.FnExactPolyAt'. -/
def fnExactPolyAtUptoCard : Claim7 := { stood := { row := fnExactPolyAtUptoRow, standIns := [], harness := (true, "eafcfc0a6f4958edb2f7ef481d712bca7e501864f1dc436bd2de778d539293d3"), looks := false }, kinds := [], alts := [], laidByText := true, laidKinds := [.data, .data], laidTests := true, laidLooks := .later }
def FnExactPolyAtUptoCardSaid : Prop := Claim7.holds Tryz.pinned (.plain (OpenSpec.upto fnExactPolyAtSpec)) fnExactPolyAtUptoCard

/-- THE SECOND FORM's CARD OF 'laws.FnExactResidual'. -/
def fnExactResidualUptoCard : Claim7 := { stood := { row := fnExactResidualUptoRow, standIns := [], harness := (true, "eafcfc0a6f4958edb2f7ef481d712bca7e501864f1dc436bd2de778d539293d3"), looks := false }, kinds := [], alts := [], laidByText := true, laidKinds := [.data, .data], laidTests := true, laidLooks := .later }
def FnExactResidualUptoCardSaid : Prop := Claim7.holds Tryz.pinned (.plain (OpenSpec.upto fnExactResidualSpec)) fnExactResidualUptoCard
end Rows
end Go.Proofs.YthmkdfmapdbenaaGreatDoor
