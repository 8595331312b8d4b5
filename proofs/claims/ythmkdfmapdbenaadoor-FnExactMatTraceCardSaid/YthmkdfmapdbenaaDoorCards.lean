/-
  DERIVED. GIVEN WITH THE SEED: THE CARDS: each row of YthmkdfmapdbenaaDoorRows.lean that lists a variable, with what it lists TIED to the program's text (the seventh form; the later family's looks); each row that meets fmt, with fmt's text TOLD by the authors' own Lean function (tested against real Go, not proved from fmt's source: count such statements apart). THE CARD IS WHAT COUNTS. Prove the row's statement (the work); the ties are given (YthmkdfmapdbenaaDoorTie.lean); close each card by the builder's one call (the guide's Derived/Test/ToyasCard.lean, 'card_holds'). Laid BY PROGRAM, IN A SANDBOX (cutbox-door.mjs). By AI agents, Wed Nov 11 2026. No macro, syntax, notation, axiom, sorry.
-/
import Derived.Test.YthmkdfmapdbenaaDoorRows
import GoSem.ClaimSeven
namespace Go.Proofs.YthmkdfmapdbenaaDoor
namespace Rows

/-- THE TIED CARD OF 'laws.FnExactMatTrace'. -/
def fnExactMatTraceCard : Claim7 := { stood := { row := fnExactMatTraceRow, standIns := [], harness := (true, "1dccc150765e023f4003586d0989e1c67bc1d3bef95a86ddcdeabc74afd127ed"), looks := false }, kinds := [], alts := [], laidByText := true, laidKinds := [.data, .data], laidTests := true, laidLooks := .later }
def FnExactMatTraceCardSaid : Prop := Claim7.holds Tryd.pinned (.plain (OpenSpec.ofChange fnExactMatTraceSpec)) fnExactMatTraceCard

/-- THE SECOND FORM's CARD OF 'laws.FnExactMatTrace'. -/
def fnExactMatTraceUptoCard : Claim7 := { stood := { row := fnExactMatTraceUptoRow, standIns := [], harness := (true, "1dccc150765e023f4003586d0989e1c67bc1d3bef95a86ddcdeabc74afd127ed"), looks := false }, kinds := [], alts := [], laidByText := true, laidKinds := [.data, .data], laidTests := true, laidLooks := .later }
def FnExactMatTraceUptoCardSaid : Prop := Claim7.holds Tryd.pinned (.plain (OpenSpec.upto fnExactMatTraceSpec)) fnExactMatTraceUptoCard
end Rows
end Go.Proofs.YthmkdfmapdbenaaDoor
