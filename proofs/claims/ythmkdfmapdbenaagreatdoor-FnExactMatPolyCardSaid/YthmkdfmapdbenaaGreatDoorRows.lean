/-
  NARROWER THAN 'FOR EVERY INPUT', by the rows' own cells (each row's printed sentence says how): FnExactMatAdd: laid · FnExactMatSub: laid · FnExactMatMul: laid · FnExactMatNorm: laid · FnExactMatDet: laid · FnExactMatRound: laid · FnExactMatPow: laid · FnExactMatAdj: laid · FnExactMatPoly: laid · FnExactPolyAt: laid · FnExactResidual: laid.
  DERIVED. THE GIVEN ROWS OF THIS SEAT. 11 by the template 'for every input the law returns true; each argument reads behind the call as it read before'; 0 by the template 'total and deterministic' (their statements: YthmkdfmapdbenaaGreatDoorTotals.lean).
  GIVEN WITH THE SEED: the statements are not yours to turn. If you find one false, say at which input.
  Laid BY PROGRAM, IN A SANDBOX (cutbox-rows.mjs): the forced cells as the released guide's own fill.sh prints them over the translation 4a5cdec1fe5e150a… (all of the seat's roots in one cut). By AI agents, Wed Nov 11 2026. No macro, syntax, notation, axiom, sorry.
-/
import Derived.Test.YthmkdfmapdbenaaGreatDoorChecked
import GoSem.Claim
import GoSem.ClaimJoined
import GoSem.ClaimMapViews
import Derived.JoinedTies
import Derived.KernelRfl
namespace Go.Proofs.YthmkdfmapdbenaaGreatDoor
/- THE CELL 'sum', in the pinned program and in every row, IS THE sha256 OF THE DUMP (.gsa) THAT YthmkdfmapdbenaaGreatDoorProg.lean LOADS. Nothing in Lean hashes anything: it is a label: what it is worth is what the hold of that sum in a sandbox is worth. -/
noncomputable def Tryz.pinned : Pinned := { name := "ythmkdfmapdbenaagreatdoor", sum := "4a5cdec1fe5e150a6b041f444d1ea1d278263a9cefd4a8d01ecc748e13daefee", checked := Tryz.checked }
namespace Rows
def none {H : Type} : Left H := { results := [], args := [] }

/- WHAT THE LISTED PACKAGE-LEVEL VARIABLES READ AS WHEN THE CALL BEGINS. Each datum BY PROGRAM (the guide's laid-datum.mjs) off the statement by which the dump's own 'gosem.cut.vars' lays the variable. In a bare row this is a premise. The card (YthmkdfmapdbenaaGreatDoorCards.lean) ties it to the program's text. -/
def laid_math_bits_deBruijn32tab {H : Type} : DataW H := .agg [.lit (.int .u8 0), .lit (.int .u8 1), .lit (.int .u8 28), .lit (.int .u8 2), .lit (.int .u8 29), .lit (.int .u8 14), .lit (.int .u8 24), .lit (.int .u8 3), .lit (.int .u8 30), .lit (.int .u8 22), .lit (.int .u8 20), .lit (.int .u8 15), .lit (.int .u8 25), .lit (.int .u8 17), .lit (.int .u8 4), .lit (.int .u8 8), .lit (.int .u8 31), .lit (.int .u8 27), .lit (.int .u8 13), .lit (.int .u8 23), .lit (.int .u8 21), .lit (.int .u8 19), .lit (.int .u8 16), .lit (.int .u8 7), .lit (.int .u8 26), .lit (.int .u8 12), .lit (.int .u8 18), .lit (.int .u8 6), .lit (.int .u8 11), .lit (.int .u8 5), .lit (.int .u8 10), .lit (.int .u8 9)]
def laid_math_bits_deBruijn64tab {H : Type} : DataW H := .agg [.lit (.int .u8 0), .lit (.int .u8 1), .lit (.int .u8 56), .lit (.int .u8 2), .lit (.int .u8 57), .lit (.int .u8 49), .lit (.int .u8 28), .lit (.int .u8 3), .lit (.int .u8 61), .lit (.int .u8 58), .lit (.int .u8 42), .lit (.int .u8 50), .lit (.int .u8 38), .lit (.int .u8 29), .lit (.int .u8 17), .lit (.int .u8 4), .lit (.int .u8 62), .lit (.int .u8 47), .lit (.int .u8 59), .lit (.int .u8 36), .lit (.int .u8 45), .lit (.int .u8 43), .lit (.int .u8 51), .lit (.int .u8 22), .lit (.int .u8 53), .lit (.int .u8 39), .lit (.int .u8 33), .lit (.int .u8 30), .lit (.int .u8 24), .lit (.int .u8 18), .lit (.int .u8 12), .lit (.int .u8 5), .lit (.int .u8 63), .lit (.int .u8 55), .lit (.int .u8 48), .lit (.int .u8 27), .lit (.int .u8 60), .lit (.int .u8 41), .lit (.int .u8 37), .lit (.int .u8 16), .lit (.int .u8 46), .lit (.int .u8 35), .lit (.int .u8 44), .lit (.int .u8 21), .lit (.int .u8 52), .lit (.int .u8 32), .lit (.int .u8 23), .lit (.int .u8 11), .lit (.int .u8 54), .lit (.int .u8 26), .lit (.int .u8 40), .lit (.int .u8 15), .lit (.int .u8 34), .lit (.int .u8 20), .lit (.int .u8 31), .lit (.int .u8 10), .lit (.int .u8 25), .lit (.int .u8 14), .lit (.int .u8 19), .lit (.int .u8 9), .lit (.int .u8 13), .lit (.int .u8 8), .lit (.int .u8 7), .lit (.int .u8 6)]

/-- 'laws.FnExactMatAdd': WHATEVER THE INPUT: true; the input reads as it did. -/
def fnExactMatAddSpec : ChangeSpec := { name := "fnExactMatAdd", fn := fun _ => fun
  | [d1, d2] => { results := [.lit (.bool true)], args := [d1, d2] }
  | _ => none }
def fnExactMatAddRow : OpenClaim := { program := "ythmkdfmapdbenaagreatdoor", sum := "4a5cdec1fe5e150a6b041f444d1ea1d278263a9cefd4a8d01ecc748e13daefee", func := "loop.example/g00382/laws.FnExactMatAdd", spec := "fnExactMatAdd", unfollowed := true, recurses := true, named := ["math/bits.deBruijn32tab", "math/bits.deBruijn64tab"], apart := false, laid := [("math/bits.deBruijn32tab", laid_math_bits_deBruijn32tab), ("math/bits.deBruijn64tab", laid_math_bits_deBruijn64tab)] }
def FnExactMatAddSaid : Prop := fnExactMatAddRow.holds Tryz.pinned (OpenSpec.ofChange fnExactMatAddSpec)

/-- ITS FALSE NEIGHBOUR: 'it returns false'. Refute it at one input. -/
def fnExactMatAddWrong : ChangeSpec := { name := "fnExactMatAdd", fn := fun _ => fun
  | [d1, d2] => { results := [.lit (.bool false)], args := [d1, d2] }
  | _ => none }
def FnExactMatAddWrongFalsely : Prop := fnExactMatAddRow.holds Tryz.pinned (OpenSpec.ofChange fnExactMatAddWrong)

/-- 'laws.FnExactMatSub': WHATEVER THE INPUT: true; the input reads as it did. -/
def fnExactMatSubSpec : ChangeSpec := { name := "fnExactMatSub", fn := fun _ => fun
  | [d1, d2] => { results := [.lit (.bool true)], args := [d1, d2] }
  | _ => none }
def fnExactMatSubRow : OpenClaim := { program := "ythmkdfmapdbenaagreatdoor", sum := "4a5cdec1fe5e150a6b041f444d1ea1d278263a9cefd4a8d01ecc748e13daefee", func := "loop.example/g00382/laws.FnExactMatSub", spec := "fnExactMatSub", unfollowed := true, recurses := true, named := ["math/bits.deBruijn32tab", "math/bits.deBruijn64tab"], apart := false, laid := [("math/bits.deBruijn32tab", laid_math_bits_deBruijn32tab), ("math/bits.deBruijn64tab", laid_math_bits_deBruijn64tab)] }
def FnExactMatSubSaid : Prop := fnExactMatSubRow.holds Tryz.pinned (OpenSpec.ofChange fnExactMatSubSpec)

/-- ITS FALSE NEIGHBOUR: 'it returns false'. Refute it at one input. -/
def fnExactMatSubWrong : ChangeSpec := { name := "fnExactMatSub", fn := fun _ => fun
  | [d1, d2] => { results := [.lit (.bool false)], args := [d1, d2] }
  | _ => none }
def FnExactMatSubWrongFalsely : Prop := fnExactMatSubRow.holds Tryz.pinned (OpenSpec.ofChange fnExactMatSubWrong)

/-- 'laws.FnExactMatMul': WHATEVER THE INPUT: true; the input reads as it did. -/
def fnExactMatMulSpec : ChangeSpec := { name := "fnExactMatMul", fn := fun _ => fun
  | [d1, d2] => { results := [.lit (.bool true)], args := [d1, d2] }
  | _ => none }
def fnExactMatMulRow : OpenClaim := { program := "ythmkdfmapdbenaagreatdoor", sum := "4a5cdec1fe5e150a6b041f444d1ea1d278263a9cefd4a8d01ecc748e13daefee", func := "loop.example/g00382/laws.FnExactMatMul", spec := "fnExactMatMul", unfollowed := true, recurses := true, named := ["math/bits.deBruijn32tab", "math/bits.deBruijn64tab"], apart := false, laid := [("math/bits.deBruijn32tab", laid_math_bits_deBruijn32tab), ("math/bits.deBruijn64tab", laid_math_bits_deBruijn64tab)] }
def FnExactMatMulSaid : Prop := fnExactMatMulRow.holds Tryz.pinned (OpenSpec.ofChange fnExactMatMulSpec)

/-- ITS FALSE NEIGHBOUR: 'it returns false'. Refute it at one input. -/
def fnExactMatMulWrong : ChangeSpec := { name := "fnExactMatMul", fn := fun _ => fun
  | [d1, d2] => { results := [.lit (.bool false)], args := [d1, d2] }
  | _ => none }
def FnExactMatMulWrongFalsely : Prop := fnExactMatMulRow.holds Tryz.pinned (OpenSpec.ofChange fnExactMatMulWrong)

/-- 'laws.FnExactMatNorm': WHATEVER THE INPUT: true; the input reads as it did. -/
def fnExactMatNormSpec : ChangeSpec := { name := "fnExactMatNorm", fn := fun _ => fun
  | [d] => { results := [.lit (.bool true)], args := [d] }
  | _ => none }
def fnExactMatNormRow : OpenClaim := { program := "ythmkdfmapdbenaagreatdoor", sum := "4a5cdec1fe5e150a6b041f444d1ea1d278263a9cefd4a8d01ecc748e13daefee", func := "loop.example/g00382/laws.FnExactMatNorm", spec := "fnExactMatNorm", unfollowed := true, recurses := true, named := ["math/bits.deBruijn32tab", "math/bits.deBruijn64tab"], apart := false, laid := [("math/bits.deBruijn32tab", laid_math_bits_deBruijn32tab), ("math/bits.deBruijn64tab", laid_math_bits_deBruijn64tab)] }
def FnExactMatNormSaid : Prop := fnExactMatNormRow.holds Tryz.pinned (OpenSpec.ofChange fnExactMatNormSpec)

/-- ITS FALSE NEIGHBOUR: 'it returns false'. Refute it at one input. -/
def fnExactMatNormWrong : ChangeSpec := { name := "fnExactMatNorm", fn := fun _ => fun
  | [d] => { results := [.lit (.bool false)], args := [d] }
  | _ => none }
def FnExactMatNormWrongFalsely : Prop := fnExactMatNormRow.holds Tryz.pinned (OpenSpec.ofChange fnExactMatNormWrong)

/-- 'laws.FnExactMatDet': WHATEVER THE INPUT: true; the input reads as it did. -/
def fnExactMatDetSpec : ChangeSpec := { name := "fnExactMatDet", fn := fun _ => fun
  | [d] => { results := [.lit (.bool true)], args := [d] }
  | _ => none }
def fnExactMatDetRow : OpenClaim := { program := "ythmkdfmapdbenaagreatdoor", sum := "4a5cdec1fe5e150a6b041f444d1ea1d278263a9cefd4a8d01ecc748e13daefee", func := "loop.example/g00382/laws.FnExactMatDet", spec := "fnExactMatDet", unfollowed := true, recurses := true, named := ["math/bits.deBruijn32tab", "math/bits.deBruijn64tab"], apart := false, laid := [("math/bits.deBruijn32tab", laid_math_bits_deBruijn32tab), ("math/bits.deBruijn64tab", laid_math_bits_deBruijn64tab)] }
def FnExactMatDetSaid : Prop := fnExactMatDetRow.holds Tryz.pinned (OpenSpec.ofChange fnExactMatDetSpec)

/-- ITS FALSE NEIGHBOUR: 'it returns false'. Refute it at one input. -/
def fnExactMatDetWrong : ChangeSpec := { name := "fnExactMatDet", fn := fun _ => fun
  | [d] => { results := [.lit (.bool false)], args := [d] }
  | _ => none }
def FnExactMatDetWrongFalsely : Prop := fnExactMatDetRow.holds Tryz.pinned (OpenSpec.ofChange fnExactMatDetWrong)

/-- 'laws.FnExactMatRound': WHATEVER THE INPUT: true; the input reads as it did. -/
def fnExactMatRoundSpec : ChangeSpec := { name := "fnExactMatRound", fn := fun _ => fun
  | [d1, d2, d3] => { results := [.lit (.bool true)], args := [d1, d2, d3] }
  | _ => none }
def fnExactMatRoundRow : OpenClaim := { program := "ythmkdfmapdbenaagreatdoor", sum := "4a5cdec1fe5e150a6b041f444d1ea1d278263a9cefd4a8d01ecc748e13daefee", func := "loop.example/g00382/laws.FnExactMatRound", spec := "fnExactMatRound", unfollowed := true, recurses := true, named := ["math/bits.deBruijn32tab", "math/bits.deBruijn64tab"], apart := false, laid := [("math/bits.deBruijn32tab", laid_math_bits_deBruijn32tab), ("math/bits.deBruijn64tab", laid_math_bits_deBruijn64tab)] }
def FnExactMatRoundSaid : Prop := fnExactMatRoundRow.holds Tryz.pinned (OpenSpec.ofChange fnExactMatRoundSpec)

/-- ITS FALSE NEIGHBOUR: 'it returns false'. Refute it at one input. -/
def fnExactMatRoundWrong : ChangeSpec := { name := "fnExactMatRound", fn := fun _ => fun
  | [d1, d2, d3] => { results := [.lit (.bool false)], args := [d1, d2, d3] }
  | _ => none }
def FnExactMatRoundWrongFalsely : Prop := fnExactMatRoundRow.holds Tryz.pinned (OpenSpec.ofChange fnExactMatRoundWrong)

/-- 'laws.FnExactMatPow': WHATEVER THE INPUT: true; the input reads as it did. -/
def fnExactMatPowSpec : ChangeSpec := { name := "fnExactMatPow", fn := fun _ => fun
  | [d1, d2] => { results := [.lit (.bool true)], args := [d1, d2] }
  | _ => none }
def fnExactMatPowRow : OpenClaim := { program := "ythmkdfmapdbenaagreatdoor", sum := "4a5cdec1fe5e150a6b041f444d1ea1d278263a9cefd4a8d01ecc748e13daefee", func := "loop.example/g00382/laws.FnExactMatPow", spec := "fnExactMatPow", unfollowed := true, recurses := true, named := ["math/bits.deBruijn32tab", "math/bits.deBruijn64tab"], apart := false, laid := [("math/bits.deBruijn32tab", laid_math_bits_deBruijn32tab), ("math/bits.deBruijn64tab", laid_math_bits_deBruijn64tab)] }
def FnExactMatPowSaid : Prop := fnExactMatPowRow.holds Tryz.pinned (OpenSpec.ofChange fnExactMatPowSpec)

/-- ITS FALSE NEIGHBOUR: 'it returns false'. Refute it at one input. -/
def fnExactMatPowWrong : ChangeSpec := { name := "fnExactMatPow", fn := fun _ => fun
  | [d1, d2] => { results := [.lit (.bool false)], args := [d1, d2] }
  | _ => none }
def FnExactMatPowWrongFalsely : Prop := fnExactMatPowRow.holds Tryz.pinned (OpenSpec.ofChange fnExactMatPowWrong)

/-- 'laws.FnExactMatAdj': WHATEVER THE INPUT: true; the input reads as it did. -/
def fnExactMatAdjSpec : ChangeSpec := { name := "fnExactMatAdj", fn := fun _ => fun
  | [d] => { results := [.lit (.bool true)], args := [d] }
  | _ => none }
def fnExactMatAdjRow : OpenClaim := { program := "ythmkdfmapdbenaagreatdoor", sum := "4a5cdec1fe5e150a6b041f444d1ea1d278263a9cefd4a8d01ecc748e13daefee", func := "loop.example/g00382/laws.FnExactMatAdj", spec := "fnExactMatAdj", unfollowed := true, recurses := true, named := ["math/bits.deBruijn32tab", "math/bits.deBruijn64tab"], apart := false, laid := [("math/bits.deBruijn32tab", laid_math_bits_deBruijn32tab), ("math/bits.deBruijn64tab", laid_math_bits_deBruijn64tab)] }
def FnExactMatAdjSaid : Prop := fnExactMatAdjRow.holds Tryz.pinned (OpenSpec.ofChange fnExactMatAdjSpec)

/-- ITS FALSE NEIGHBOUR: 'it returns false'. Refute it at one input. -/
def fnExactMatAdjWrong : ChangeSpec := { name := "fnExactMatAdj", fn := fun _ => fun
  | [d] => { results := [.lit (.bool false)], args := [d] }
  | _ => none }
def FnExactMatAdjWrongFalsely : Prop := fnExactMatAdjRow.holds Tryz.pinned (OpenSpec.ofChange fnExactMatAdjWrong)

/-- 'laws.FnExactMatPoly': WHATEVER THE INPUT: true; the input reads as it did. -/
def fnExactMatPolySpec : ChangeSpec := { name := "fnExactMatPoly", fn := fun _ => fun
  | [d] => { results := [.lit (.bool true)], args := [d] }
  | _ => none }
def fnExactMatPolyRow : OpenClaim := { program := "ythmkdfmapdbenaagreatdoor", sum := "4a5cdec1fe5e150a6b041f444d1ea1d278263a9cefd4a8d01ecc748e13daefee", func := "loop.example/g00382/laws.FnExactMatPoly", spec := "fnExactMatPoly", unfollowed := true, recurses := true, named := ["math/bits.deBruijn32tab", "math/bits.deBruijn64tab"], apart := false, laid := [("math/bits.deBruijn32tab", laid_math_bits_deBruijn32tab), ("math/bits.deBruijn64tab", laid_math_bits_deBruijn64tab)] }
def FnExactMatPolySaid : Prop := fnExactMatPolyRow.holds Tryz.pinned (OpenSpec.ofChange fnExactMatPolySpec)

/-- ITS FALSE NEIGHBOUR: 'it returns false'. Refute it at one input. -/
def fnExactMatPolyWrong : ChangeSpec := { name := "fnExactMatPoly", fn := fun _ => fun
  | [d] => { results := [.lit (.bool false)], args := [d] }
  | _ => none }
def FnExactMatPolyWrongFalsely : Prop := fnExactMatPolyRow.holds Tryz.pinned (OpenSpec.ofChange fnExactMatPolyWrong)

/-- 'laws.FnExactPolyAt': WHATEVER THE INPUT: true; the input reads as it did. -/
def fnExactPolyAtSpec : ChangeSpec := { name := "fnExactPolyAt", fn := fun _ => fun
  | [d1, d2] => { results := [.lit (.bool true)], args := [d1, d2] }
  | _ => none }
def fnExactPolyAtRow : OpenClaim := { program := "ythmkdfmapdbenaagreatdoor", sum := "4a5cdec1fe5e150a6b041f444d1ea1d278263a9cefd4a8d01ecc748e13daefee", func := "loop.example/g00382/laws.FnExactPolyAt", spec := "fnExactPolyAt", unfollowed := true, recurses := true, named := ["math/bits.deBruijn32tab", "math/bits.deBruijn64tab"], apart := false, laid := [("math/bits.deBruijn32tab", laid_math_bits_deBruijn32tab), ("math/bits.deBruijn64tab", laid_math_bits_deBruijn64tab)] }
def FnExactPolyAtSaid : Prop := fnExactPolyAtRow.holds Tryz.pinned (OpenSpec.ofChange fnExactPolyAtSpec)

/-- ITS FALSE NEIGHBOUR: 'it returns false'. Refute it at one input. -/
def fnExactPolyAtWrong : ChangeSpec := { name := "fnExactPolyAt", fn := fun _ => fun
  | [d1, d2] => { results := [.lit (.bool false)], args := [d1, d2] }
  | _ => none }
def FnExactPolyAtWrongFalsely : Prop := fnExactPolyAtRow.holds Tryz.pinned (OpenSpec.ofChange fnExactPolyAtWrong)

/-- 'laws.FnExactResidual': WHATEVER THE INPUT: true; the input reads as it did. -/
def fnExactResidualSpec : ChangeSpec := { name := "fnExactResidual", fn := fun _ => fun
  | [d1, d2] => { results := [.lit (.bool true)], args := [d1, d2] }
  | _ => none }
def fnExactResidualRow : OpenClaim := { program := "ythmkdfmapdbenaagreatdoor", sum := "4a5cdec1fe5e150a6b041f444d1ea1d278263a9cefd4a8d01ecc748e13daefee", func := "loop.example/g00382/laws.FnExactResidual", spec := "fnExactResidual", unfollowed := true, recurses := true, named := ["math/bits.deBruijn32tab", "math/bits.deBruijn64tab"], apart := false, laid := [("math/bits.deBruijn32tab", laid_math_bits_deBruijn32tab), ("math/bits.deBruijn64tab", laid_math_bits_deBruijn64tab)] }
def FnExactResidualSaid : Prop := fnExactResidualRow.holds Tryz.pinned (OpenSpec.ofChange fnExactResidualSpec)

/-- ITS FALSE NEIGHBOUR: 'it returns false'. Refute it at one input. -/
def fnExactResidualWrong : ChangeSpec := { name := "fnExactResidual", fn := fun _ => fun
  | [d1, d2] => { results := [.lit (.bool false)], args := [d1, d2] }
  | _ => none }
def FnExactResidualWrongFalsely : Prop := fnExactResidualRow.holds Tryz.pinned (OpenSpec.ofChange fnExactResidualWrong)

/- THE SECOND FORM. 'bulk': how many values and letters a reading holds, each counted each time it is reached (what is shared counts as often as it is met; a slice's spare places count too). A statement '..UptoSaid' is the law's where the arguments, and the package variables that the reading takes, are together of bulk at most 1048576: NARROWER than '..Said'. Prove '..Said' where nothing that the law and all that it calls make is longer than what came in: it says more and counts as full. Else prove '..UptoSaid'. A law counts once. -/
mutual
def uptoBulk {H : Type} : DataW H → Nat
  | .lit (.string bytes) => bytes.length + 1
  | .lit _ => 1
  | .nil => 1
  | .ptr d => uptoBulk d + 1
  | .slice elems spare => uptoBulkAll elems + uptoBulkAll spare + 1
  | .agg parts => uptoBulkAll parts + 1
  | .iface _ d => uptoBulk d + 1
  | .map entries => uptoBulkEntries entries + 1
  | .held _ => 1
def uptoBulkAll {H : Type} : List (DataW H) → Nat
  | [] => 0
  | d :: r => uptoBulk d + uptoBulkAll r
def uptoBulkEntries {H : Type} : List (Lit × DataW H) → Nat
  | [] => 0
  | x :: r => uptoBulkEntry x + uptoBulkEntries r
def uptoBulkEntry {H : Type} : Lit × DataW H → Nat
  | (.string bytes, d) => bytes.length + uptoBulk d + 1
  | (_, d) => uptoBulk d + 1
 end
def uptoSmall : (H : Type) → List (DataW H) → Bool := fun _ ds => decide (uptoBulkAll ds ≤ 1048576)
def OpenSpec.upto (s : _root_.Go.ChangeSpec) : _root_.Go.OpenSpec := { _root_.Go.OpenSpec.ofChange s with cond := some uptoSmall }

/-- 'laws.FnExactMatAdd', WHERE WHAT IT READS IS OF BULK AT MOST 1048576: true; the input reads as it did. -/
def fnExactMatAddUptoRow : OpenClaim := { program := "ythmkdfmapdbenaagreatdoor", sum := "4a5cdec1fe5e150a6b041f444d1ea1d278263a9cefd4a8d01ecc748e13daefee", func := "loop.example/g00382/laws.FnExactMatAdd", spec := "fnExactMatAdd", unfollowed := true, recurses := true, named := ["math/bits.deBruijn32tab", "math/bits.deBruijn64tab"], apart := false, laid := [("math/bits.deBruijn32tab", laid_math_bits_deBruijn32tab), ("math/bits.deBruijn64tab", laid_math_bits_deBruijn64tab)], narrowed := true }
def FnExactMatAddUptoSaid : Prop := fnExactMatAddUptoRow.holds Tryz.pinned (OpenSpec.upto fnExactMatAddSpec)

/-- 'laws.FnExactMatSub', WHERE WHAT IT READS IS OF BULK AT MOST 1048576: true; the input reads as it did. -/
def fnExactMatSubUptoRow : OpenClaim := { program := "ythmkdfmapdbenaagreatdoor", sum := "4a5cdec1fe5e150a6b041f444d1ea1d278263a9cefd4a8d01ecc748e13daefee", func := "loop.example/g00382/laws.FnExactMatSub", spec := "fnExactMatSub", unfollowed := true, recurses := true, named := ["math/bits.deBruijn32tab", "math/bits.deBruijn64tab"], apart := false, laid := [("math/bits.deBruijn32tab", laid_math_bits_deBruijn32tab), ("math/bits.deBruijn64tab", laid_math_bits_deBruijn64tab)], narrowed := true }
def FnExactMatSubUptoSaid : Prop := fnExactMatSubUptoRow.holds Tryz.pinned (OpenSpec.upto fnExactMatSubSpec)

/-- 'laws.FnExactMatMul', WHERE WHAT IT READS IS OF BULK AT MOST 1048576: true; the input reads as it did. -/
def fnExactMatMulUptoRow : OpenClaim := { program := "ythmkdfmapdbenaagreatdoor", sum := "4a5cdec1fe5e150a6b041f444d1ea1d278263a9cefd4a8d01ecc748e13daefee", func := "loop.example/g00382/laws.FnExactMatMul", spec := "fnExactMatMul", unfollowed := true, recurses := true, named := ["math/bits.deBruijn32tab", "math/bits.deBruijn64tab"], apart := false, laid := [("math/bits.deBruijn32tab", laid_math_bits_deBruijn32tab), ("math/bits.deBruijn64tab", laid_math_bits_deBruijn64tab)], narrowed := true }
def FnExactMatMulUptoSaid : Prop := fnExactMatMulUptoRow.holds Tryz.pinned (OpenSpec.upto fnExactMatMulSpec)

/-- 'laws.FnExactMatNorm', WHERE WHAT IT READS IS OF BULK AT MOST 1048576: true; the input reads as it did. -/
def fnExactMatNormUptoRow : OpenClaim := { program := "ythmkdfmapdbenaagreatdoor", sum := "4a5cdec1fe5e150a6b041f444d1ea1d278263a9cefd4a8d01ecc748e13daefee", func := "loop.example/g00382/laws.FnExactMatNorm", spec := "fnExactMatNorm", unfollowed := true, recurses := true, named := ["math/bits.deBruijn32tab", "math/bits.deBruijn64tab"], apart := false, laid := [("math/bits.deBruijn32tab", laid_math_bits_deBruijn32tab), ("math/bits.deBruijn64tab", laid_math_bits_deBruijn64tab)], narrowed := true }
def FnExactMatNormUptoSaid : Prop := fnExactMatNormUptoRow.holds Tryz.pinned (OpenSpec.upto fnExactMatNormSpec)

/-- 'laws.FnExactMatDet', WHERE WHAT IT READS IS OF BULK AT MOST 1048576: true; the input reads as it did. -/
def fnExactMatDetUptoRow : OpenClaim := { program := "ythmkdfmapdbenaagreatdoor", sum := "4a5cdec1fe5e150a6b041f444d1ea1d278263a9cefd4a8d01ecc748e13daefee", func := "loop.example/g00382/laws.FnExactMatDet", spec := "fnExactMatDet", unfollowed := true, recurses := true, named := ["math/bits.deBruijn32tab", "math/bits.deBruijn64tab"], apart := false, laid := [("math/bits.deBruijn32tab", laid_math_bits_deBruijn32tab), ("math/bits.deBruijn64tab", laid_math_bits_deBruijn64tab)], narrowed := true }
def FnExactMatDetUptoSaid : Prop := fnExactMatDetUptoRow.holds Tryz.pinned (OpenSpec.upto fnExactMatDetSpec)

/-- 'laws.FnExactMatRound', WHERE WHAT IT READS IS OF BULK AT MOST 1048576: true; the input reads as it did. -/
def fnExactMatRoundUptoRow : OpenClaim := { program := "ythmkdfmapdbenaagreatdoor", sum := "4a5cdec1fe5e150a6b041f444d1ea1d278263a9cefd4a8d01ecc748e13daefee", func := "loop.example/g00382/laws.FnExactMatRound", spec := "fnExactMatRound", unfollowed := true, recurses := true, named := ["math/bits.deBruijn32tab", "math/bits.deBruijn64tab"], apart := false, laid := [("math/bits.deBruijn32tab", laid_math_bits_deBruijn32tab), ("math/bits.deBruijn64tab", laid_math_bits_deBruijn64tab)], narrowed := true }
def FnExactMatRoundUptoSaid : Prop := fnExactMatRoundUptoRow.holds Tryz.pinned (OpenSpec.upto fnExactMatRoundSpec)

/-- 'laws.FnExactMatPow', WHERE WHAT IT READS IS OF BULK AT MOST 1048576: true; the input reads as it did. -/
def fnExactMatPowUptoRow : OpenClaim := { program := "ythmkdfmapdbenaagreatdoor", sum := "4a5cdec1fe5e150a6b041f444d1ea1d278263a9cefd4a8d01ecc748e13daefee", func := "loop.example/g00382/laws.FnExactMatPow", spec := "fnExactMatPow", unfollowed := true, recurses := true, named := ["math/bits.deBruijn32tab", "math/bits.deBruijn64tab"], apart := false, laid := [("math/bits.deBruijn32tab", laid_math_bits_deBruijn32tab), ("math/bits.deBruijn64tab", laid_math_bits_deBruijn64tab)], narrowed := true }
def FnExactMatPowUptoSaid : Prop := fnExactMatPowUptoRow.holds Tryz.pinned (OpenSpec.upto fnExactMatPowSpec)

/-- 'laws.FnExactMatAdj', WHERE WHAT IT READS IS OF BULK AT MOST 1048576: true; the input reads as it did. -/
def fnExactMatAdjUptoRow : OpenClaim := { program := "ythmkdfmapdbenaagreatdoor", sum := "4a5cdec1fe5e150a6b041f444d1ea1d278263a9cefd4a8d01ecc748e13daefee", func := "loop.example/g00382/laws.FnExactMatAdj", spec := "fnExactMatAdj", unfollowed := true, recurses := true, named := ["math/bits.deBruijn32tab", "math/bits.deBruijn64tab"], apart := false, laid := [("math/bits.deBruijn32tab", laid_math_bits_deBruijn32tab), ("math/bits.deBruijn64tab", laid_math_bits_deBruijn64tab)], narrowed := true }
def FnExactMatAdjUptoSaid : Prop := fnExactMatAdjUptoRow.holds Tryz.pinned (OpenSpec.upto fnExactMatAdjSpec)

/-- 'laws.FnExactMatPoly', WHERE WHAT IT READS IS OF BULK AT MOST 1048576: true; the input reads as it did. -/
def fnExactMatPolyUptoRow : OpenClaim := { program := "ythmkdfmapdbenaagreatdoor", sum := "4a5cdec1fe5e150a6b041f444d1ea1d278263a9cefd4a8d01ecc748e13daefee", func := "loop.example/g00382/laws.FnExactMatPoly", spec := "fnExactMatPoly", unfollowed := true, recurses := true, named := ["math/bits.deBruijn32tab", "math/bits.deBruijn64tab"], apart := false, laid := [("math/bits.deBruijn32tab", laid_math_bits_deBruijn32tab), ("math/bits.deBruijn64tab", laid_math_bits_deBruijn64tab)], narrowed := true }
def FnExactMatPolyUptoSaid : Prop := fnExactMatPolyUptoRow.holds Tryz.pinned (OpenSpec.upto fnExactMatPolySpec)

/-- 'laws.FnExactPolyAt', WHERE WHAT IT READS IS OF BULK AT MOST 1048576: true; the input reads as it did. -/
def fnExactPolyAtUptoRow : OpenClaim := { program := "ythmkdfmapdbenaagreatdoor", sum := "4a5cdec1fe5e150a6b041f444d1ea1d278263a9cefd4a8d01ecc748e13daefee", func := "loop.example/g00382/laws.FnExactPolyAt", spec := "fnExactPolyAt", unfollowed := true, recurses := true, named := ["math/bits.deBruijn32tab", "math/bits.deBruijn64tab"], apart := false, laid := [("math/bits.deBruijn32tab", laid_math_bits_deBruijn32tab), ("math/bits.deBruijn64tab", laid_math_bits_deBruijn64tab)], narrowed := true }
def FnExactPolyAtUptoSaid : Prop := fnExactPolyAtUptoRow.holds Tryz.pinned (OpenSpec.upto fnExactPolyAtSpec)

/-- 'laws.FnExactResidual', WHERE WHAT IT READS IS OF BULK AT MOST 1048576: true; the input reads as it did. -/
def fnExactResidualUptoRow : OpenClaim := { program := "ythmkdfmapdbenaagreatdoor", sum := "4a5cdec1fe5e150a6b041f444d1ea1d278263a9cefd4a8d01ecc748e13daefee", func := "loop.example/g00382/laws.FnExactResidual", spec := "fnExactResidual", unfollowed := true, recurses := true, named := ["math/bits.deBruijn32tab", "math/bits.deBruijn64tab"], apart := false, laid := [("math/bits.deBruijn32tab", laid_math_bits_deBruijn32tab), ("math/bits.deBruijn64tab", laid_math_bits_deBruijn64tab)], narrowed := true }
def FnExactResidualUptoSaid : Prop := fnExactResidualUptoRow.holds Tryz.pinned (OpenSpec.upto fnExactResidualSpec)

end Rows
end Go.Proofs.YthmkdfmapdbenaaGreatDoor
