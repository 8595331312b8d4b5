/-
  NARROWER THAN 'FOR EVERY INPUT', by the rows' own cells (each row's printed sentence says how): FnExactIvOut: laid · FnExactIvRoot: laid · FnExactIvDiv: laid · FnExactIvMatAdd: laid · FnExactIvMatWide: laid · FnExactIvMatFat: laid · FnExactIvMatMid: laid · FnExactIvMatMul: laid.
  DERIVED. THE GIVEN ROWS OF THIS SEAT. 8 by the template 'for every input the law returns true; each argument reads behind the call as it read before'; 0 by the template 'total and deterministic' (their statements: YtcbagjglchpagaaGreatDoorTotals.lean).
  GIVEN WITH THE SEED: the statements are not yours to turn. If you find one false, say at which input.
  Laid BY PROGRAM, IN A SANDBOX (cutbox-rows.mjs): the forced cells as the released guide's own fill.sh prints them over the translation f2d0de9dd8646081… (all of the seat's roots in one cut). By AI agents, Wed Nov 11 2026. No macro, syntax, notation, axiom, sorry.
-/
import Derived.Test.YtcbagjglchpagaaGreatDoorChecked
import GoSem.Claim
import GoSem.ClaimJoined
import GoSem.ClaimMapViews
import Derived.JoinedTies
import Derived.KernelRfl
namespace Go.Proofs.YtcbagjglchpagaaGreatDoor
/- THE CELL 'sum', in the pinned program and in every row, IS THE sha256 OF THE DUMP (.gsa) THAT YtcbagjglchpagaaGreatDoorProg.lean LOADS. Nothing in Lean hashes anything: it is a label: what it is worth is what the hold of that sum in a sandbox is worth. -/
noncomputable def Tryz.pinned : Pinned := { name := "ytcbagjglchpagaagreatdoor", sum := "f2d0de9dd86460812043d207cc55eebdb57ec674805c2ddf38b79f1286d1eee9", checked := Tryz.checked }
namespace Rows
def none {H : Type} : Left H := { results := [], args := [] }

/- WHAT THE LISTED PACKAGE-LEVEL VARIABLES READ AS WHEN THE CALL BEGINS. Each datum BY PROGRAM (the guide's laid-datum.mjs) off the statement by which the dump's own 'gosem.cut.vars' lays the variable. In a bare row this is a premise. The card (YtcbagjglchpagaaGreatDoorCards.lean) ties it to the program's text. -/
def laid_math_bits_deBruijn32tab {H : Type} : DataW H := .agg [.lit (.int .u8 0), .lit (.int .u8 1), .lit (.int .u8 28), .lit (.int .u8 2), .lit (.int .u8 29), .lit (.int .u8 14), .lit (.int .u8 24), .lit (.int .u8 3), .lit (.int .u8 30), .lit (.int .u8 22), .lit (.int .u8 20), .lit (.int .u8 15), .lit (.int .u8 25), .lit (.int .u8 17), .lit (.int .u8 4), .lit (.int .u8 8), .lit (.int .u8 31), .lit (.int .u8 27), .lit (.int .u8 13), .lit (.int .u8 23), .lit (.int .u8 21), .lit (.int .u8 19), .lit (.int .u8 16), .lit (.int .u8 7), .lit (.int .u8 26), .lit (.int .u8 12), .lit (.int .u8 18), .lit (.int .u8 6), .lit (.int .u8 11), .lit (.int .u8 5), .lit (.int .u8 10), .lit (.int .u8 9)]
def laid_math_bits_deBruijn64tab {H : Type} : DataW H := .agg [.lit (.int .u8 0), .lit (.int .u8 1), .lit (.int .u8 56), .lit (.int .u8 2), .lit (.int .u8 57), .lit (.int .u8 49), .lit (.int .u8 28), .lit (.int .u8 3), .lit (.int .u8 61), .lit (.int .u8 58), .lit (.int .u8 42), .lit (.int .u8 50), .lit (.int .u8 38), .lit (.int .u8 29), .lit (.int .u8 17), .lit (.int .u8 4), .lit (.int .u8 62), .lit (.int .u8 47), .lit (.int .u8 59), .lit (.int .u8 36), .lit (.int .u8 45), .lit (.int .u8 43), .lit (.int .u8 51), .lit (.int .u8 22), .lit (.int .u8 53), .lit (.int .u8 39), .lit (.int .u8 33), .lit (.int .u8 30), .lit (.int .u8 24), .lit (.int .u8 18), .lit (.int .u8 12), .lit (.int .u8 5), .lit (.int .u8 63), .lit (.int .u8 55), .lit (.int .u8 48), .lit (.int .u8 27), .lit (.int .u8 60), .lit (.int .u8 41), .lit (.int .u8 37), .lit (.int .u8 16), .lit (.int .u8 46), .lit (.int .u8 35), .lit (.int .u8 44), .lit (.int .u8 21), .lit (.int .u8 52), .lit (.int .u8 32), .lit (.int .u8 23), .lit (.int .u8 11), .lit (.int .u8 54), .lit (.int .u8 26), .lit (.int .u8 40), .lit (.int .u8 15), .lit (.int .u8 34), .lit (.int .u8 20), .lit (.int .u8 31), .lit (.int .u8 10), .lit (.int .u8 25), .lit (.int .u8 14), .lit (.int .u8 19), .lit (.int .u8 9), .lit (.int .u8 13), .lit (.int .u8 8), .lit (.int .u8 7), .lit (.int .u8 6)]

/-- 'laws.FnExactIvOut': WHATEVER THE INPUT: true; the input reads as it did. -/
def fnExactIvOutSpec : ChangeSpec := { name := "fnExactIvOut", fn := fun _ => fun
  | [d1, d2] => { results := [.lit (.bool true)], args := [d1, d2] }
  | _ => none }
def fnExactIvOutRow : OpenClaim := { program := "ytcbagjglchpagaagreatdoor", sum := "f2d0de9dd86460812043d207cc55eebdb57ec674805c2ddf38b79f1286d1eee9", func := "loop.example/g00382/laws.FnExactIvOut", spec := "fnExactIvOut", unfollowed := true, recurses := true, named := ["math/bits.deBruijn32tab", "math/bits.deBruijn64tab"], apart := false, laid := [("math/bits.deBruijn32tab", laid_math_bits_deBruijn32tab), ("math/bits.deBruijn64tab", laid_math_bits_deBruijn64tab)] }
def FnExactIvOutSaid : Prop := fnExactIvOutRow.holds Tryz.pinned (OpenSpec.ofChange fnExactIvOutSpec)

/-- ITS FALSE NEIGHBOUR: 'it returns false'. Refute it at one input. -/
def fnExactIvOutWrong : ChangeSpec := { name := "fnExactIvOut", fn := fun _ => fun
  | [d1, d2] => { results := [.lit (.bool false)], args := [d1, d2] }
  | _ => none }
def FnExactIvOutWrongFalsely : Prop := fnExactIvOutRow.holds Tryz.pinned (OpenSpec.ofChange fnExactIvOutWrong)

/-- 'laws.FnExactIvRoot': WHATEVER THE INPUT: true; the input reads as it did. -/
def fnExactIvRootSpec : ChangeSpec := { name := "fnExactIvRoot", fn := fun _ => fun
  | [d1, d2] => { results := [.lit (.bool true)], args := [d1, d2] }
  | _ => none }
def fnExactIvRootRow : OpenClaim := { program := "ytcbagjglchpagaagreatdoor", sum := "f2d0de9dd86460812043d207cc55eebdb57ec674805c2ddf38b79f1286d1eee9", func := "loop.example/g00382/laws.FnExactIvRoot", spec := "fnExactIvRoot", unfollowed := true, recurses := true, named := ["math/bits.deBruijn32tab", "math/bits.deBruijn64tab"], apart := false, laid := [("math/bits.deBruijn32tab", laid_math_bits_deBruijn32tab), ("math/bits.deBruijn64tab", laid_math_bits_deBruijn64tab)] }
def FnExactIvRootSaid : Prop := fnExactIvRootRow.holds Tryz.pinned (OpenSpec.ofChange fnExactIvRootSpec)

/-- ITS FALSE NEIGHBOUR: 'it returns false'. Refute it at one input. -/
def fnExactIvRootWrong : ChangeSpec := { name := "fnExactIvRoot", fn := fun _ => fun
  | [d1, d2] => { results := [.lit (.bool false)], args := [d1, d2] }
  | _ => none }
def FnExactIvRootWrongFalsely : Prop := fnExactIvRootRow.holds Tryz.pinned (OpenSpec.ofChange fnExactIvRootWrong)

/-- 'laws.FnExactIvDiv': WHATEVER THE INPUT: true; the input reads as it did. -/
def fnExactIvDivSpec : ChangeSpec := { name := "fnExactIvDiv", fn := fun _ => fun
  | [d1, d2, d3] => { results := [.lit (.bool true)], args := [d1, d2, d3] }
  | _ => none }
def fnExactIvDivRow : OpenClaim := { program := "ytcbagjglchpagaagreatdoor", sum := "f2d0de9dd86460812043d207cc55eebdb57ec674805c2ddf38b79f1286d1eee9", func := "loop.example/g00382/laws.FnExactIvDiv", spec := "fnExactIvDiv", unfollowed := true, recurses := true, named := ["math/bits.deBruijn32tab", "math/bits.deBruijn64tab"], apart := false, laid := [("math/bits.deBruijn32tab", laid_math_bits_deBruijn32tab), ("math/bits.deBruijn64tab", laid_math_bits_deBruijn64tab)] }
def FnExactIvDivSaid : Prop := fnExactIvDivRow.holds Tryz.pinned (OpenSpec.ofChange fnExactIvDivSpec)

/-- ITS FALSE NEIGHBOUR: 'it returns false'. Refute it at one input. -/
def fnExactIvDivWrong : ChangeSpec := { name := "fnExactIvDiv", fn := fun _ => fun
  | [d1, d2, d3] => { results := [.lit (.bool false)], args := [d1, d2, d3] }
  | _ => none }
def FnExactIvDivWrongFalsely : Prop := fnExactIvDivRow.holds Tryz.pinned (OpenSpec.ofChange fnExactIvDivWrong)

/-- 'laws.FnExactIvMatAdd': WHATEVER THE INPUT: true; the input reads as it did. -/
def fnExactIvMatAddSpec : ChangeSpec := { name := "fnExactIvMatAdd", fn := fun _ => fun
  | [d1, d2] => { results := [.lit (.bool true)], args := [d1, d2] }
  | _ => none }
def fnExactIvMatAddRow : OpenClaim := { program := "ytcbagjglchpagaagreatdoor", sum := "f2d0de9dd86460812043d207cc55eebdb57ec674805c2ddf38b79f1286d1eee9", func := "loop.example/g00382/laws.FnExactIvMatAdd", spec := "fnExactIvMatAdd", unfollowed := true, recurses := true, named := ["math/bits.deBruijn32tab", "math/bits.deBruijn64tab"], apart := false, laid := [("math/bits.deBruijn32tab", laid_math_bits_deBruijn32tab), ("math/bits.deBruijn64tab", laid_math_bits_deBruijn64tab)] }
def FnExactIvMatAddSaid : Prop := fnExactIvMatAddRow.holds Tryz.pinned (OpenSpec.ofChange fnExactIvMatAddSpec)

/-- ITS FALSE NEIGHBOUR: 'it returns false'. Refute it at one input. -/
def fnExactIvMatAddWrong : ChangeSpec := { name := "fnExactIvMatAdd", fn := fun _ => fun
  | [d1, d2] => { results := [.lit (.bool false)], args := [d1, d2] }
  | _ => none }
def FnExactIvMatAddWrongFalsely : Prop := fnExactIvMatAddRow.holds Tryz.pinned (OpenSpec.ofChange fnExactIvMatAddWrong)

/-- 'laws.FnExactIvMatWide': WHATEVER THE INPUT: true; the input reads as it did. -/
def fnExactIvMatWideSpec : ChangeSpec := { name := "fnExactIvMatWide", fn := fun _ => fun
  | [d] => { results := [.lit (.bool true)], args := [d] }
  | _ => none }
def fnExactIvMatWideRow : OpenClaim := { program := "ytcbagjglchpagaagreatdoor", sum := "f2d0de9dd86460812043d207cc55eebdb57ec674805c2ddf38b79f1286d1eee9", func := "loop.example/g00382/laws.FnExactIvMatWide", spec := "fnExactIvMatWide", unfollowed := true, recurses := true, named := ["math/bits.deBruijn32tab", "math/bits.deBruijn64tab"], apart := false, laid := [("math/bits.deBruijn32tab", laid_math_bits_deBruijn32tab), ("math/bits.deBruijn64tab", laid_math_bits_deBruijn64tab)] }
def FnExactIvMatWideSaid : Prop := fnExactIvMatWideRow.holds Tryz.pinned (OpenSpec.ofChange fnExactIvMatWideSpec)

/-- ITS FALSE NEIGHBOUR: 'it returns false'. Refute it at one input. -/
def fnExactIvMatWideWrong : ChangeSpec := { name := "fnExactIvMatWide", fn := fun _ => fun
  | [d] => { results := [.lit (.bool false)], args := [d] }
  | _ => none }
def FnExactIvMatWideWrongFalsely : Prop := fnExactIvMatWideRow.holds Tryz.pinned (OpenSpec.ofChange fnExactIvMatWideWrong)

/-- 'laws.FnExactIvMatFat': WHATEVER THE INPUT: true; the input reads as it did. -/
def fnExactIvMatFatSpec : ChangeSpec := { name := "fnExactIvMatFat", fn := fun _ => fun
  | [d1, d2] => { results := [.lit (.bool true)], args := [d1, d2] }
  | _ => none }
def fnExactIvMatFatRow : OpenClaim := { program := "ytcbagjglchpagaagreatdoor", sum := "f2d0de9dd86460812043d207cc55eebdb57ec674805c2ddf38b79f1286d1eee9", func := "loop.example/g00382/laws.FnExactIvMatFat", spec := "fnExactIvMatFat", unfollowed := true, recurses := true, named := ["math/bits.deBruijn32tab", "math/bits.deBruijn64tab"], apart := false, laid := [("math/bits.deBruijn32tab", laid_math_bits_deBruijn32tab), ("math/bits.deBruijn64tab", laid_math_bits_deBruijn64tab)] }
def FnExactIvMatFatSaid : Prop := fnExactIvMatFatRow.holds Tryz.pinned (OpenSpec.ofChange fnExactIvMatFatSpec)

/-- ITS FALSE NEIGHBOUR: 'it returns false'. Refute it at one input. -/
def fnExactIvMatFatWrong : ChangeSpec := { name := "fnExactIvMatFat", fn := fun _ => fun
  | [d1, d2] => { results := [.lit (.bool false)], args := [d1, d2] }
  | _ => none }
def FnExactIvMatFatWrongFalsely : Prop := fnExactIvMatFatRow.holds Tryz.pinned (OpenSpec.ofChange fnExactIvMatFatWrong)

/-- 'laws.FnExactIvMatMid': WHATEVER THE INPUT: true; the input reads as it did. -/
def fnExactIvMatMidSpec : ChangeSpec := { name := "fnExactIvMatMid", fn := fun _ => fun
  | [d] => { results := [.lit (.bool true)], args := [d] }
  | _ => none }
def fnExactIvMatMidRow : OpenClaim := { program := "ytcbagjglchpagaagreatdoor", sum := "f2d0de9dd86460812043d207cc55eebdb57ec674805c2ddf38b79f1286d1eee9", func := "loop.example/g00382/laws.FnExactIvMatMid", spec := "fnExactIvMatMid", unfollowed := true, recurses := true, named := ["math/bits.deBruijn32tab", "math/bits.deBruijn64tab"], apart := false, laid := [("math/bits.deBruijn32tab", laid_math_bits_deBruijn32tab), ("math/bits.deBruijn64tab", laid_math_bits_deBruijn64tab)] }
def FnExactIvMatMidSaid : Prop := fnExactIvMatMidRow.holds Tryz.pinned (OpenSpec.ofChange fnExactIvMatMidSpec)

/-- ITS FALSE NEIGHBOUR: 'it returns false'. Refute it at one input. -/
def fnExactIvMatMidWrong : ChangeSpec := { name := "fnExactIvMatMid", fn := fun _ => fun
  | [d] => { results := [.lit (.bool false)], args := [d] }
  | _ => none }
def FnExactIvMatMidWrongFalsely : Prop := fnExactIvMatMidRow.holds Tryz.pinned (OpenSpec.ofChange fnExactIvMatMidWrong)

/-- 'laws.FnExactIvMatMul': WHATEVER THE INPUT: true; the input reads as it did. -/
def fnExactIvMatMulSpec : ChangeSpec := { name := "fnExactIvMatMul", fn := fun _ => fun
  | [d1, d2] => { results := [.lit (.bool true)], args := [d1, d2] }
  | _ => none }
def fnExactIvMatMulRow : OpenClaim := { program := "ytcbagjglchpagaagreatdoor", sum := "f2d0de9dd86460812043d207cc55eebdb57ec674805c2ddf38b79f1286d1eee9", func := "loop.example/g00382/laws.FnExactIvMatMul", spec := "fnExactIvMatMul", unfollowed := true, recurses := true, named := ["math/bits.deBruijn32tab", "math/bits.deBruijn64tab"], apart := false, laid := [("math/bits.deBruijn32tab", laid_math_bits_deBruijn32tab), ("math/bits.deBruijn64tab", laid_math_bits_deBruijn64tab)] }
def FnExactIvMatMulSaid : Prop := fnExactIvMatMulRow.holds Tryz.pinned (OpenSpec.ofChange fnExactIvMatMulSpec)

/-- ITS FALSE NEIGHBOUR: 'it returns false'. Refute it at one input. -/
def fnExactIvMatMulWrong : ChangeSpec := { name := "fnExactIvMatMul", fn := fun _ => fun
  | [d1, d2] => { results := [.lit (.bool false)], args := [d1, d2] }
  | _ => none }
def FnExactIvMatMulWrongFalsely : Prop := fnExactIvMatMulRow.holds Tryz.pinned (OpenSpec.ofChange fnExactIvMatMulWrong)

/- THE SECOND FORM. 'bulk': how many values and letters a reading holds, each counted each time it is reached (what is shared counts as often as it is met; a slice's spare places count too). A statement '..UptoSaid' is the law's where the arguments, and the package variables that the reading takes, are together of bulk at most 1048576: NARROWER than '..Said'. Prove '..Said' where nothing that the law and all that it calls make is longer than what came in: it says more and counts as full. Else prove '..UptoSaid'. A law counts once. -/
mutual
def uptoBulk {H : Type} : DataW H → Nat
  | .lit (.string bytes) => bytes.length + 1
  | .lit _ => 1
  | .nil => 1
  | .ptr d => uptoBulk d + 1
  | .slice elems spare => uptoBulkAll elems + uptoBulkAll spare + 1
  | .agg parts => uptoBulkAll parts + 1
  | .iface _ d => uptoBulk d + 1
  | .map entries => uptoBulkEntries entries + 1
  | .held _ => 1
def uptoBulkAll {H : Type} : List (DataW H) → Nat
  | [] => 0
  | d :: r => uptoBulk d + uptoBulkAll r
def uptoBulkEntries {H : Type} : List (Lit × DataW H) → Nat
  | [] => 0
  | x :: r => uptoBulkEntry x + uptoBulkEntries r
def uptoBulkEntry {H : Type} : Lit × DataW H → Nat
  | (.string bytes, d) => bytes.length + uptoBulk d + 1
  | (_, d) => uptoBulk d + 1
 end
def uptoSmall : (H : Type) → List (DataW H) → Bool := fun _ ds => decide (uptoBulkAll ds ≤ 1048576)
def OpenSpec.upto (s : _root_.Go.ChangeSpec) : _root_.Go.OpenSpec := { _root_.Go.OpenSpec.ofChange s with cond := some uptoSmall }

/-- 'laws.FnExactIvOut', WHERE WHAT IT READS IS OF BULK AT MOST 1048576: true; the input reads as it did. -/
def fnExactIvOutUptoRow : OpenClaim := { program := "ytcbagjglchpagaagreatdoor", sum := "f2d0de9dd86460812043d207cc55eebdb57ec674805c2ddf38b79f1286d1eee9", func := "loop.example/g00382/laws.FnExactIvOut", spec := "fnExactIvOut", unfollowed := true, recurses := true, named := ["math/bits.deBruijn32tab", "math/bits.deBruijn64tab"], apart := false, laid := [("math/bits.deBruijn32tab", laid_math_bits_deBruijn32tab), ("math/bits.deBruijn64tab", laid_math_bits_deBruijn64tab)], narrowed := true }
def FnExactIvOutUptoSaid : Prop := fnExactIvOutUptoRow.holds Tryz.pinned (OpenSpec.upto fnExactIvOutSpec)

/-- 'laws.FnExactIvRoot', WHERE WHAT IT READS IS OF BULK AT MOST 1048576: true; the input reads as it did. -/
def fnExactIvRootUptoRow : OpenClaim := { program := "ytcbagjglchpagaagreatdoor", sum := "f2d0de9dd86460812043d207cc55eebdb57ec674805c2ddf38b79f1286d1eee9", func := "loop.example/g00382/laws.FnExactIvRoot", spec := "fnExactIvRoot", unfollowed := true, recurses := true, named := ["math/bits.deBruijn32tab", "math/bits.deBruijn64tab"], apart := false, laid := [("math/bits.deBruijn32tab", laid_math_bits_deBruijn32tab), ("math/bits.deBruijn64tab", laid_math_bits_deBruijn64tab)], narrowed := true }
def FnExactIvRootUptoSaid : Prop := fnExactIvRootUptoRow.holds Tryz.pinned (OpenSpec.upto fnExactIvRootSpec)

/-- 'laws.FnExactIvDiv', WHERE WHAT IT READS IS OF BULK AT MOST 1048576: true; the input reads as it did. -/
def fnExactIvDivUptoRow : OpenClaim := { program := "ytcbagjglchpagaagreatdoor", sum := "f2d0de9dd86460812043d207cc55eebdb57ec674805c2ddf38b79f1286d1eee9", func := "loop.example/g00382/laws.FnExactIvDiv", spec := "fnExactIvDiv", unfollowed := true, recurses := true, named := ["math/bits.deBruijn32tab", "math/bits.deBruijn64tab"], apart := false, laid := [("math/bits.deBruijn32tab", laid_math_bits_deBruijn32tab), ("math/bits.deBruijn64tab", laid_math_bits_deBruijn64tab)], narrowed := true }
def FnExactIvDivUptoSaid : Prop := fnExactIvDivUptoRow.holds Tryz.pinned (OpenSpec.upto fnExactIvDivSpec)

/-- 'laws.FnExactIvMatAdd', WHERE WHAT IT READS IS OF BULK AT MOST 1048576: true; the input reads as it did. -/
def fnExactIvMatAddUptoRow : OpenClaim := { program := "ytcbagjglchpagaagreatdoor", sum := "f2d0de9dd86460812043d207cc55eebdb57ec674805c2ddf38b79f1286d1eee9", func := "loop.example/g00382/laws.FnExactIvMatAdd", spec := "fnExactIvMatAdd", unfollowed := true, recurses := true, named := ["math/bits.deBruijn32tab", "math/bits.deBruijn64tab"], apart := false, laid := [("math/bits.deBruijn32tab", laid_math_bits_deBruijn32tab), ("math/bits.deBruijn64tab", laid_math_bits_deBruijn64tab)], narrowed := true }
def FnExactIvMatAddUptoSaid : Prop := fnExactIvMatAddUptoRow.holds Tryz.pinned (OpenSpec.upto fnExactIvMatAddSpec)

/-- 'laws.FnExactIvMatWide', WHERE WHAT IT READS IS OF BULK AT MOST 1048576: true; the input reads as it did. -/
def fnExactIvMatWideUptoRow : OpenClaim := { program := "ytcbagjglchpagaagreatdoor", sum := "f2d0de9dd86460812043d207cc55eebdb57ec674805c2ddf38b79f1286d1eee9", func := "loop.example/g00382/laws.FnExactIvMatWide", spec := "fnExactIvMatWide", unfollowed := true, recurses := true, named := ["math/bits.deBruijn32tab", "math/bits.deBruijn64tab"], apart := false, laid := [("math/bits.deBruijn32tab", laid_math_bits_deBruijn32tab), ("math/bits.deBruijn64tab", laid_math_bits_deBruijn64tab)], narrowed := true }
def FnExactIvMatWideUptoSaid : Prop := fnExactIvMatWideUptoRow.holds Tryz.pinned (OpenSpec.upto fnExactIvMatWideSpec)

/-- 'laws.FnExactIvMatFat', WHERE WHAT IT READS IS OF BULK AT MOST 1048576: true; the input reads as it did. -/
def fnExactIvMatFatUptoRow : OpenClaim := { program := "ytcbagjglchpagaagreatdoor", sum := "f2d0de9dd86460812043d207cc55eebdb57ec674805c2ddf38b79f1286d1eee9", func := "loop.example/g00382/laws.FnExactIvMatFat", spec := "fnExactIvMatFat", unfollowed := true, recurses := true, named := ["math/bits.deBruijn32tab", "math/bits.deBruijn64tab"], apart := false, laid := [("math/bits.deBruijn32tab", laid_math_bits_deBruijn32tab), ("math/bits.deBruijn64tab", laid_math_bits_deBruijn64tab)], narrowed := true }
def FnExactIvMatFatUptoSaid : Prop := fnExactIvMatFatUptoRow.holds Tryz.pinned (OpenSpec.upto fnExactIvMatFatSpec)

/-- 'laws.FnExactIvMatMid', WHERE WHAT IT READS IS OF BULK AT MOST 1048576: true; the input reads as it did. -/
def fnExactIvMatMidUptoRow : OpenClaim := { program := "ytcbagjglchpagaagreatdoor", sum := "f2d0de9dd86460812043d207cc55eebdb57ec674805c2ddf38b79f1286d1eee9", func := "loop.example/g00382/laws.FnExactIvMatMid", spec := "fnExactIvMatMid", unfollowed := true, recurses := true, named := ["math/bits.deBruijn32tab", "math/bits.deBruijn64tab"], apart := false, laid := [("math/bits.deBruijn32tab", laid_math_bits_deBruijn32tab), ("math/bits.deBruijn64tab", laid_math_bits_deBruijn64tab)], narrowed := true }
def FnExactIvMatMidUptoSaid : Prop := fnExactIvMatMidUptoRow.holds Tryz.pinned (OpenSpec.upto fnExactIvMatMidSpec)

/-- 'laws.FnExactIvMatMul', WHERE WHAT IT READS IS OF BULK AT MOST 1048576: true; the input reads as it did. -/
def fnExactIvMatMulUptoRow : OpenClaim := { program := "ytcbagjglchpagaagreatdoor", sum := "f2d0de9dd86460812043d207cc55eebdb57ec674805c2ddf38b79f1286d1eee9", func := "loop.example/g00382/laws.FnExactIvMatMul", spec := "fnExactIvMatMul", unfollowed := true, recurses := true, named := ["math/bits.deBruijn32tab", "math/bits.deBruijn64tab"], apart := false, laid := [("math/bits.deBruijn32tab", laid_math_bits_deBruijn32tab), ("math/bits.deBruijn64tab", laid_math_bits_deBruijn64tab)], narrowed := true }
def FnExactIvMatMulUptoSaid : Prop := fnExactIvMatMulUptoRow.holds Tryz.pinned (OpenSpec.upto fnExactIvMatMulSpec)

end Rows
end Go.Proofs.YtcbagjglchpagaaGreatDoor
