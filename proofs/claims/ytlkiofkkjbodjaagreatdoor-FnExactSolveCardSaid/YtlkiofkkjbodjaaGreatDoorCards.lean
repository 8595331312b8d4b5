/-
  DERIVED. GIVEN WITH THE SEED: THE CARDS: each row of YtlkiofkkjbodjaaGreatDoorRows.lean that lists a variable, with what it lists TIED to the program's text (the seventh form; the later family's looks); each row that meets fmt, with fmt's text TOLD by the authors' own Lean function (tested against real Go, not proved from fmt's source: count such statements apart). THE CARD IS WHAT COUNTS. Prove the row's statement (the work); the ties are given (YtlkiofkkjbodjaaGreatDoorTie.lean); close each card by the builder's one call (the guide's Derived/Test/ToyasCard.lean, 'card_holds'). Laid BY PROGRAM, IN A SANDBOX (cutbox-door.mjs). By AI agents, Wed Nov 11 2026. No macro, syntax, notation, axiom, sorry.
-/
import Derived.Test.YtlkiofkkjbodjaaGreatDoorRows
import GoSem.ClaimSeven
namespace Go.Proofs.YtlkiofkkjbodjaaGreatDoor
namespace Rows

/-- THE TIED CARD OF 'laws.FnExactIvMatOut'. -/
def fnExactIvMatOutCard : Claim7 := { stood := { row := fnExactIvMatOutRow, standIns := [], harness := (true, "eee16184b0f779492c3c58285d95aba1854f31bbd6055a02f238ca291f8c3b8c"), looks := false }, kinds := [], alts := [], laidByText := true, laidKinds := [.data, .data], laidTests := true, laidLooks := .later }
def FnExactIvMatOutCardSaid : Prop := Claim7.holds Tryz.pinned (.plain (OpenSpec.ofChange fnExactIvMatOutSpec)) fnExactIvMatOutCard

/-- THE TIED CARD OF 'laws.FnExactIvMatDiv'. -/
def fnExactIvMatDivCard : Claim7 := { stood := { row := fnExactIvMatDivRow, standIns := [], harness := (true, "eee16184b0f779492c3c58285d95aba1854f31bbd6055a02f238ca291f8c3b8c"), looks := false }, kinds := [], alts := [], laidByText := true, laidKinds := [.data, .data], laidTests := true, laidLooks := .later }
def FnExactIvMatDivCardSaid : Prop := Claim7.holds Tryz.pinned (.plain (OpenSpec.ofChange fnExactIvMatDivSpec)) fnExactIvMatDivCard

/-- THE TIED CARD OF 'laws.FnExactIvMatMul'. -/
def fnExactIvMatMulCard : Claim7 := { stood := { row := fnExactIvMatMulRow, standIns := [], harness := (true, "eee16184b0f779492c3c58285d95aba1854f31bbd6055a02f238ca291f8c3b8c"), looks := false }, kinds := [], alts := [], laidByText := true, laidKinds := [.data, .data], laidTests := true, laidLooks := .later }
def FnExactIvMatMulCardSaid : Prop := Claim7.holds Tryz.pinned (.plain (OpenSpec.ofChange fnExactIvMatMulSpec)) fnExactIvMatMulCard

/-- THE TIED CARD OF 'laws.FnExactSolve'. -/
def fnExactSolveCard : Claim7 := { stood := { row := fnExactSolveRow, standIns := [], harness := (true, "eee16184b0f779492c3c58285d95aba1854f31bbd6055a02f238ca291f8c3b8c"), looks := false }, kinds := [], alts := [], laidByText := true, laidKinds := [.data, .data], laidTests := true, laidLooks := .later }
def FnExactSolveCardSaid : Prop := Claim7.holds Tryz.pinned (.plain (OpenSpec.ofChange fnExactSolveSpec)) fnExactSolveCard

/-- THE TIED CARD OF 'laws.FnExactInverse'. -/
def fnExactInverseCard : Claim7 := { stood := { row := fnExactInverseRow, standIns := [], harness := (true, "eee16184b0f779492c3c58285d95aba1854f31bbd6055a02f238ca291f8c3b8c"), looks := false }, kinds := [], alts := [], laidByText := true, laidKinds := [.data, .data], laidTests := true, laidLooks := .later }
def FnExactInverseCardSaid : Prop := Claim7.holds Tryz.pinned (.plain (OpenSpec.ofChange fnExactInverseSpec)) fnExactInverseCard

/-- THE TIED CARD OF 'laws.FnDyDivs'. -/
def fnDyDivsCard : Claim7 := { stood := { row := fnDyDivsRow, standIns := [], harness := (true, "eee16184b0f779492c3c58285d95aba1854f31bbd6055a02f238ca291f8c3b8c"), looks := false }, kinds := [], alts := [], laidByText := true, laidKinds := [.data, .data], laidTests := true, laidLooks := .later }
def FnDyDivsCardSaid : Prop := Claim7.holds Tryz.pinned (.plain (OpenSpec.ofChange fnDyDivsSpec)) fnDyDivsCard

/-- THE SECOND FORM's CARD OF 'laws.FnExactIvMatOut'. -/
def fnExactIvMatOutUptoCard : Claim7 := { stood := { row := fnExactIvMatOutUptoRow, standIns := [], harness := (true, "eee16184b0f779492c3c58285d95aba1854f31bbd6055a02f238ca291f8c3b8c"), looks := false }, kinds := [], alts := [], laidByText := true, laidKinds := [.data, .data], laidTests := true, laidLooks := .later }
def FnExactIvMatOutUptoCardSaid : Prop := Claim7.holds Tryz.pinned (.plain (OpenSpec.upto fnExactIvMatOutSpec)) fnExactIvMatOutUptoCard

/-- THE SECOND FORM's CARD OF 'laws.FnExactIvMatDiv'. -/
def fnExactIvMatDivUptoCard : Claim7 := { stood := { row := fnExactIvMatDivUptoRow, standIns := [], harness := (true, "eee16184b0f779492c3c58285d95aba1854f31bbd6055a02f238ca291f8c3b8c"), looks := false }, kinds := [], alts := [], laidByText := true, laidKinds := [.data, .data], laidTests := true, laidLooks := .later }
def FnExactIvMatDivUptoCardSaid : Prop := Claim7.holds Tryz.pinned (.plain (OpenSpec.upto fnExactIvMatDivSpec)) fnExactIvMatDivUptoCard

/-- THE SECOND FORM's CARD OF 'laws.FnExactIvMatMul'. -/
def fnExactIvMatMulUptoCard : Claim7 := { stood := { row := fnExactIvMatMulUptoRow, standIns := [], harness := (true, "eee16184b0f779492c3c58285d95aba1854f31bbd6055a02f238ca291f8c3b8c"), looks := false }, kinds := [], alts := [], laidByText := true, laidKinds := [.data, .data], laidTests := true, laidLooks := .later }
def FnExactIvMatMulUptoCardSaid : Prop := Claim7.holds Tryz.pinned (.plain (OpenSpec.upto fnExactIvMatMulSpec)) fnExactIvMatMulUptoCard

/-- THE SECOND FORM's CARD OF 'laws.FnExactSolve'. -/
def fnExactSolveUptoCard : Claim7 := { stood := { row := fnExactSolveUptoRow, standIns := [], harness := (true, "eee16184b0f779492c3c58285d95aba1854f31bbd6055a02f238ca291f8c3b8c"), looks := false }, kinds := [], alts := [], laidByText := true, laidKinds := [.data, .data], laidTests := true, laidLooks := .later }
def FnExactSolveUptoCardSaid : Prop := Claim7.holds Tryz.pinned (.plain (OpenSpec.upto fnExactSolveSpec)) fnExactSolveUptoCard

/-- THE SECOND FORM's CARD OF 'laws.FnExactInverse'. -/
def fnExactInverseUptoCard : Claim7 := { stood := { row := fnExactInverseUptoRow, standIns := [], harness := (true, "eee16184b0f779492c3c58285d95aba1854f31bbd6055a02f238ca291f8c3b8c"), looks := false }, kinds := [], alts := [], laidByText := true, laidKinds := [.data, .data], laidTests := true, laidLooks := .later }
def FnExactInverseUptoCardSaid : Prop := Claim7.holds Tryz.pinned (.plain (OpenSpec.upto fnExactInverseSpec)) fnExactInverseUptoCard

/-- THE SECOND FORM's CARD OF 'laws.FnDyDivs'. -/
def fnDyDivsUptoCard : Claim7 := { stood := { row := fnDyDivsUptoRow, standIns := [], harness := (true, "eee16184b0f779492c3c58285d95aba1854f31bbd6055a02f238ca291f8c3b8c"), looks := false }, kinds := [], alts := [], laidByText := true, laidKinds := [.data, .data], laidTests := true, laidLooks := .later }
def FnDyDivsUptoCardSaid : Prop := Claim7.holds Tryz.pinned (.plain (OpenSpec.upto fnDyDivsSpec)) fnDyDivsUptoCard
end Rows
end Go.Proofs.YtlkiofkkjbodjaaGreatDoor
