/- Bodies and functions: the conditions of a body are its contract; numbers as lists of digits, dyadic numbers, arguments read by value: plain laws, no condition on the input. -/
import Derived.Test.YtlkiofkkjbodjaaGreatDoorDEvC
import Derived.KernelRfl
import Derived.Laws.BitsLemmas
import Derived.ReadAgain
import Derived.ChangeOld
import Derived.Below
import Derived.Deep.Slices
set_option linter.unusedSimpArgs false
set_option linter.unusedVariables false
/- The same conditions, with the types' table apart and the arithmetic veiled. -/
namespace Go.Pe
open Go Go.RowKit

structure TT where
 cells : TypeId → Nat
 und : TypeId → Option TypeDesc
 inf : TypeId → Option TypeInfo
 bytes : TypeId → Nat

def TT.of (P : Program) : TT := ⟨P.cellsOf, P.underlying, P.info?, P.bytesOf⟩

structure AR where
 ints : List Int → List PV
 len : List PV → Nat
 el : List PV → Nat → PV
 gi : PV → Nat → Int
 gb : PV → Nat → Bool
 gl : PV → Nat → List PV
 gc : PV → Nat → PV
 nat : Int → Nat
 cast : Nat → Int
 add : IntKind → Int → Int → Int
 sub : IntKind → Int → Int → Int
 mul : IntKind → Int → Int → Int
 quo : IntKind → Int → Int → Int
 rem : IntKind → Int → Int → Int
 shl : IntKind → Int → Int → Int
 shr : IntKind → Int → Int → Int
 band : IntKind → Int → Int → Int
 bor : IntKind → Int → Int → Int
 bxor : IntKind → Int → Int → Int
 conv : IntKind → Int → Int
 max : Int → Int → Int
 min : Int → Int → Int
 eq : Int → Int → Bool
 ne : Int → Int → Bool
 lt : Int → Int → Bool
 le : Int → Int → Bool
 beq : Bool → Bool → Bool
 bnot : Bool → Bool
 andb : Bool → Bool → Bool
 pick : Bool → Bool → Bool → Bool
 app : List PV → List PV → List PV
 set : List PV → Nat → PV → List PV
 rep : Int → PV → List PV
 sl : List PV → Int → Int → List PV
 lei : Int → Int → Prop
 lti : Int → Int → Prop
 ltn : Nat → Nat → Prop
 nez : Int → Prop
 okA : List PV → Nat → Prop
 allC : List PV → Nat → Prop
 cap : List PV → List PV → Prop
 len_le : Nat → PV → Prop
 len_eq : PV → Nat → Prop
 setc : PV → Nat → List PV → PV
 valc : PV → Nat → Nat → Prop
 vals : List PV → Prop
 cel : PV → Nat → PV → Prop
 isl : PV → Nat → Prop
 nil : PV → Nat → Prop
 non : PV → Nat → Prop
 lfA : List PV → Prop
 peq : Bool → Nat → Nat → PV → PV → Prop
 loop : Code → ((Ex → St → Prop) → St → Prop) → (Ex → St → Prop) → St → Prop
 call : Program → List (Nat × Obj) → St → FuncId → List FV → (FV → St → Prop) → Prop

def intsL (l : List Int) : List PV := l.map fun n => .val (.int .i64 n)

def AR.std : AR where
 ints := intsL
 len l := l.length
 el els k := els.getD k (.val (.bool false))
 gi := getI
 gb := getB
 gl := getL
 gc := cellAt
 nat n := n.toNat
 cast n := n
 add k a b := k.wrap (a + b)
 sub k a b := k.wrap (a - b)
 mul k a b := k.wrap (a * b)
 quo k a b := k.wrap (a.tdiv b)
 rem _ a b := a.tmod b
 shl k a b := k.wrap (a * 2 ^ (Min.min b.toNat k.bits))
 shr k a b := a.fdiv (2 ^ (Min.min b.toNat k.bits))
 band k a b := k.wrap (BitVec.ofInt k.bits a &&& BitVec.ofInt k.bits b).toNat
 bor k a b := k.wrap (BitVec.ofInt k.bits a ||| BitVec.ofInt k.bits b).toNat
 bxor k a b := k.wrap (BitVec.ofInt k.bits a ^^^ BitVec.ofInt k.bits b).toNat
 conv k n := k.wrap n
 max a b := if b > a then b else a
 min a b := if b < a then b else a
 eq a b := a == b
 ne a b := a != b
 lt a b := decide (a < b)
 le a b := decide (a ≤ b)
 beq a b := a == b
 bnot b := !b
 andb a b := a && b
 pick c x y := bif c then x else y
 app a b := a ++ b
 set els k p := els.set k p
 rep n z := List.replicate n.toNat z
 sl els l h := (els.take h.toNat).drop l.toNat
 lei a b := a ≤ b
 lti a b := a < b
 ltn a b := a < b
 nez b := b ≠ 0
 okA els s := ∀ p ∈ els, okEl s p
 allC els n := ∀ p ∈ els, p.cells.length = n
 cap els new := els.length + new.length ≤ 1000000000
 len_le n p := n ≤ p.cells.length
 len_eq p n := p.cells.length = n
 setc := setCells
 valc := valCells
 vals := valsL
 cel p j q := cellAt p j = q
 isl p j := ∃ l, cellAt p j = .lst l
 nil p j := cellAt p j = .lst []
 non p j := ∃ l, l ≠ [] ∧ cellAt p j = .lst l
 lfA l := ∀ p ∈ l, (p.cells.all leafy) = true
 peq ag off size p q := partP ag off size p.cells = q
 loop _ body Q st := ∃ (ls : List Lift) (keep : List Nat) (k : Nat) (ι : Type) (f : ι → St) (μ : ι → Nat) (i0 : ι) (rl : List (Nat × Nat)), st.liftsOk ls ∧ (st.lifts ls).norm keep k = some (f i0) ∧
   ∀ i, body (fun e s => match e with
    | .normal => ∃ j, (s.relocs rl).norm keep k = some (f j) ∧ μ j < μ i
    | e => Q e s) (f i)
 call := callVC

def isAggT' (T : TT) (t : TypeId) : Bool :=
 match T.und t with
 | some (.struct _) => true
 | some (.array _ _) => true
 | _ => false

def scal' (T : TT) (t : TypeId) : Bool := isAggT' T t || (T.cells t == 1 && (T.und t).isSome)

def fieldT' (T : TT) (s : TypeId) (f : Nat) : Option Nat :=
 match T.und s with
 | some (.struct fs) => match fs[f]? with
  | some fd => if T.cells fd.type = 0 then none else some fd.offset
  | none => none
 | _ => none

def elemT' (T : TT) (t : TypeId) : Option TypeId :=
 match T.und t with
 | some (.slice e) => if T.cells e = 0 then none else some e
 | _ => none

def isBoolT' (T : TT) (t : TypeId) : Bool :=
 match T.und t with
 | some .bool => true
 | _ => false

def intT' (T : TT) (t : TypeId) : Option IntKind :=
 match T.und t with
 | some (.int k) => some k
 | _ => none

def flat' (T : TT) : Nat → TypeId → List CK
 | 0, _ => []
 | n + 1, t => match T.und t with
  | some (.int k) => [.int k]
  | some .bool => [.bool]
  | some (.slice _) => [.sl]
  | some (.struct fs) => fs.toList.flatMap fun f => flat' T n f.type
  | _ => [.other]

def cmpV' (A : AR) (op : BinOp) (a b : Int) : Option Bool :=
 match op with
 | .eql => some (A.eq a b)
 | .neq => some (A.ne a b)
 | .lss => some (A.lt a b)
 | .leq => some (A.le a b)
 | .gtr => some (A.lt b a)
 | .geq => some (A.le b a)
 | _ => none

def bitV' (A : AR) (op : BinOp) (k : IntKind) (a b : Int) : Option Int :=
 match op with
 | .and => some (A.band k a b)
 | .or => some (A.bor k a b)
 | .xor => some (A.bxor k a b)
 | _ => none

def binV' (T : TT) (A : AR) (op : BinOp) (t : TypeId) (x y : FV) : Option (Prop × FV) :=
 match x, y with
 | .pv (.val (.int k a)), .pv (.val (.int k' b)) =>
  match op with
  | .shl => some (A.lei 0 b, .pv (.val (.int k (A.shl k a b))))
  | .shr => some (A.lei 0 b, .pv (.val (.int k (A.shr k a b))))
  | op => if k ≠ k' then none else
   match op with
   | .add => some (True, .pv (.val (.int k (A.add k a b))))
   | .sub => some (True, .pv (.val (.int k (A.sub k a b))))
   | .mul => some (True, .pv (.val (.int k (A.mul k a b))))
   | .quo => some (A.nez b, .pv (.val (.int k (A.quo k a b))))
   | .rem => some (A.nez b, .pv (.val (.int k (A.rem k a b))))
   | op => match cmpV' A op a b, bitV' A op k a b with
    | some c, _ => some (True, .pv (.val (.bool c)))
    | none, some n => some (True, .pv (.val (.int k n)))
    | none, none => none
 | .pv (.val (.bool a)), .pv (.val (.bool b)) =>
  if isBoolT' T t then
   match op with
   | .eql => some (True, .pv (.val (.bool (A.beq a b))))
   | .neq => some (True, .pv (.val (.bool (A.bnot (A.beq a b)))))
   | _ => none
  else none
 | _, _ => none

def lenV' (A : AR) (own : List Blk) : FV → Option Nat
 | .pv (.lst els) => some (A.len els)
 | .pv (.val (.slice none 0 0)) => some 0
 | .own i => match own[i]? with
  | some (.row _ _ els) => some (A.len els)
  | some (.tree _ _ _ els) => some (A.len els)
  | _ => none
 | _ => none

def mkC' (A : AR) (c : CK) (p : PV) (j : Nat) : PV :=
 match c with
 | .int k => .val (.int k (A.gi p j))
 | .bool => .val (.bool (A.gb p j))
 | .sl => .lst (A.gl p j)
 | .other => A.gc p j

def mkCs' (A : AR) (p : PV) : List CK → Nat → List PV
 | [], _ => []
 | c :: r, j => mkC' A c p j :: mkCs' A p r (j + 1)

def partX' (A : AR) (ag : Bool) (cks : List CK) (off : Nat) (p : PV) : PV :=
 if ag then .agg (mkCs' A p cks off) else mkC' A (cks.headD .other) p off

def buildF' (T : TT) (t : TypeId) (ev : Operand → FV) : List (Nat × Operand) → List FV → Option (List FV)
 | [], cs => some cs
 | (i, x) :: r, cs => match T.und t with
  | some (.struct fs) => match fs[i]?, fcells (ev x) with
   | some fd, some new => if new.length = T.cells fd.type ∧ fd.offset + new.length ≤ cs.length then buildF' T t ev r (setSeg cs fd.offset new) else none
   | _, _ => none
  | _ => none

def zeroF' (T : TT) (t : TypeId) : Option (List FV) :=
 match T.inf t with
 | some i => match i.zero with
  | some z => if z.cells.toList.all free then some (z.cells.toList.map fun v => .pv (.val v)) else none
  | none => none
 | none => none

def hasZero' (T : TT) (t : TypeId) : Bool :=
 match T.inf t with
 | some i => match i.zero with
  | some z => z.cells.size == i.size
  | none => false
 | none => false

def pop' (T : TT) (A : AR) (own : List Blk) (ev : Operand → FV) : Op → Option (Prop × FV)
 | .move x => some (True, ev x)
 | .assign x => some (True, ev x)
 | .load t x => match ev x with
  | .box i off => match own[i]? with
   | some (.box cs) => some (off + T.cells t ≤ cs.length  ∧ scal' T t = true, partF (isAggT' T t) off (T.cells t) cs)
   | _ => none
  | .relt i s k off => match own[i]? with
   | some (.row _ s' els) => if s' = s then some (A.ltn k (A.len els) ∧ off + T.cells t ≤ s ∧ scal' T t = true ∧ A.peq (isAggT' T t) off (T.cells t) (A.el els k) (partX' A (isAggT' T t) (flat' T 6 t) off (A.el els k)),
    .pv (partX' A (isAggT' T t) (flat' T 6 t) off (A.el els k))) else none
   | _ => none
  | .pv (.ptr cs off) => some (off + T.cells t ≤ cs.length  ∧ scal' T t = true, .pv (partP (isAggT' T t) off (T.cells t) cs))
  | .pv (.elt els k off) => some (A.ltn k (A.len els) ∧ A.len_le (off + T.cells t) (A.el els k) ∧ scal' T t = true ∧ A.peq (isAggT' T t) off (T.cells t) (A.el els k) (partX' A (isAggT' T t) (flat' T 6 t) off (A.el els k)),
    .pv (partX' A (isAggT' T t) (flat' T 6 t) off (A.el els k)))
  | _ => none
 | .fieldAddr s x f => match fieldT' T s f, ev x with
  | some o, .box i off => some (True, .box i (off + o))
  | some o, .relt i s k off => some (True, .relt i s k (off + o))
  | some o, .pv (.ptr cs off) => some (True, .pv (.ptr cs (off + o)))
  | some o, .pv (.elt els k off) => some (True, .pv (.elt els k (off + o)))
  | _, _ => none
 | .indexAddr t x i => match elemT' T t, ev i with
  | some e, .pv (.val (.int _ n)) => match ev x with
   | .pv (.lst els) => some (A.lei 0 n ∧ A.lti n (A.cast (A.len els)) ∧ A.len_eq (A.el els (A.nat n)) (T.cells e), .pv (.elt els (A.nat n) 0))
   | .own j => match own[j]? with
    | some (.row _ s els) => if s = T.cells e then some (A.lei 0 n ∧ A.lti n (A.cast (A.len els)), .relt j s (A.nat n) 0) else none
    | some (.tree _ s _ els) => if s = T.cells e then some (A.lei 0 n ∧ A.lti n (A.cast (A.len els)), .relt j s (A.nat n) 0) else none
    | _ => none
   | _ => none
  | _, _ => none
 | .binOp op t x y _ => binV' T A op t (ev x) (ev y)
 | .unOp .not _ x => match ev x with
  | .pv (.val (.bool b)) => some (True, .pv (.val (.bool (A.bnot b))))
  | _ => none
 | .unOp .neg _ x => match ev x with
  | .pv (.val (.int k n)) => some (True, .pv (.val (.int k (A.sub k 0 n))))
  | _ => none
 | .convert s d x => match ev x, intT' T s, intT' T d with
  | .pv (.val (.int _ n)), some _, some k => some (True, .pv (.val (.int k (A.conv k n))))
  | _, _, _ => none
 | .extract x i => match ev x with
  | .pv (.tup vs) => some (i < vs.length, .pv (vs.getD i (.val (.bool false))))
  | .tup vs => some (i < vs.length, vs.getD i .junk)
  | _ => none
 | .build t parts => match T.und t, zeroF' T t with
  | some (.struct fs), some z => if fs.toList.all (fun f => (T.inf f.type).isSome) then
    match buildF' T t ev parts.toList z with
    | some cs => some (True, .agg cs)
    | none => none
   else none
  | _, _ => none
 | .makeFunc (.func f) first caps => if first.size = 0 then some (True, .fn f (caps.toList.map ev)) else none
 | .call { callee := .builtin .len, args, argTypes } => match args.toList, argTypes.toList with
  | [x], [t] => match elemT' T t, lenV' A own (ev x) with
   | some _, some n => some (True, .pv (.val (.int .i64 (A.cast n))))
   | _, _ => none
  | _, _ => none
 | .call { callee := .builtin .max, args, .. } => match args.toList with
  | [x, y] => match ev x, ev y with
   | .pv (.val (.int k a)), .pv (.val (.int _ b)) => some (True, .pv (.val (.int k (A.max a b))))
   | _, _ => none
  | _ => none
 | .call { callee := .builtin .min, args, .. } => match args.toList with
  | [x, y] => match ev x, ev y with
   | .pv (.val (.int k a)), .pv (.val (.int _ b)) => some (True, .pv (.val (.int k (A.min a b))))
   | _, _ => none
  | _ => none
 | .nilCheck x => match ev x with
  | .box i off => some (True, .box i off)
  | .pv (.ptr cs off) => some (True, .pv (.ptr cs off))
  | _ => none
 | .slice t x lo hi none => match elemT' T t, ev x with
  | some e, .pv (.lst els) =>
   match (match lo with | none => some 0 | some o => match ev o with | .pv (.val (.int _ n)) => some n | _ => none),
      (match hi with | none => some (A.cast (A.len els)) | some o => match ev o with | .pv (.val (.int _ n)) => some n | _ => none) with
   | some l, some h => some (A.lei 0 l ∧ A.lei l h ∧ A.lei h (A.cast (A.len els)) ∧ A.allC els (T.cells e), .pv (.lst (A.sl els l h)))
   | _, _ => none
  | _, _ => none
 | _ => none

def pickV' (A : AR) (c : Bool) (a b : FV) : Option FV :=
 match a, b with
 | .pv (.val (.bool x)), .pv (.val (.bool y)) => some (.pv (.val (.bool (A.pick c x y))))
 | _, _ => none

def zeroP' (T : TT) (t : TypeId) : Option PV :=
 match T.inf t with
 | some i => match i.zero with
  | some (.agg cs) => if cs.toList.all (fun v => free v) then some (.agg (cs.toList.map fun v => normP (.val v))) else none
  | some v => if free v then some (normP (.val v)) else none
  | none => none
 | none => none

def qop' (P : Program) (T : TT) (A : AR) (gl : List (Nat × Obj)) (st : St) (g : Option Bool) (o : Oper) (K : FV → Prop) : Prop :=
 match o.op with
 | .pick c a b => match st.ev c with
  | .pv (.val (.bool t)) => match pickV' A t (strip (st.ev a)) (strip (st.ev b)) with
   | some x => imp g (t = true → condOk none (st.ev a)) ∧ imp g (t = false → condOk none (st.ev b)) ∧ K x
   | none => False
  | .iff c (.pv (.val (.bool t))) => match pickV' A t (strip (st.ev a)) (strip (st.ev b)) with
   | some x => imp g (c = true) ∧ imp g (t = true → condOk none (st.ev a)) ∧ imp g (t = false → condOk none (st.ev b)) ∧ K x
   | none => False
  | _ => False
 | .call { callee := .value f, args, .. } => condsOk g st (f :: args.toList) ∧
  match asFn (strip (st.ev f)) with
  | some (fid, caps) => match snapL [] [] ((args.toList.map fun x => strip (st.ev x)) ++ caps) with
   | some as => ∃ r, imp g (FS P gl fid as (fun r' => r' = r)) ∧ K (.pv r)
   | none => match snapL st.own (idsL st.own ((args.toList.map fun x => strip (st.ev x)) ++ caps)) ((args.toList.map fun x => strip (st.ev x)) ++ caps) with
    | some as => ∃ r, imp g (FS P gl fid as (fun r' => r' = r)) ∧ (∃ x, flatO r = some x) ∧ K (.pv r)
    | none => False
  | none => False
 | .buildSlice t n parts => condsOk g st (parts.toList.map (·.2)) ∧
  match elemT' T t, snapL [] [] (parts.toList.map fun x => strip (st.ev x.2)) with
  | some e, some els => if inOrder 0 parts.toList && n == parts.size && n * T.cells e < 65536 && hasZero' T e then (A.okA els (T.cells e)) ∧ K (.xl els) else False
  | _, _ => False
 | .makeSlice t l c => condsOk g st [l, c] ∧ match elemT' T t with
  | some e => match zeroP' T e, strip (st.ev l), strip (st.ev c) with
   | some z, .pv (.val (.int _ n)), .pv (.val (.int _ n')) =>
    if T.bytes e ≤ 1000 ∧ z.cells.length = T.cells e then
     imp g (A.lei 0 n ∧ n' = n ∧ A.lei n 1000000000) ∧ K (.xl (A.rep n z))
    else False
   | _, _, _ => False
  | none => False
 | .call { callee := .builtin .append, args, argTypes } => match two args.toList, two argTypes.toList with
  | some (s, x), some (t, t') => condsOk g st [s, x] ∧ match elemT' T t with
   | some e => match st.ev s, srcEls st.own (strip (st.ev x)) with
    | .xl els, some new => if t' = t ∧ T.bytes e ≤ 1000 ∧ hasZero' T e = true then
      imp g ((A.okA els (T.cells e)) ∧ (A.okA new (T.cells e)) ∧ A.cap els new) ∧ K (.pv (.lst (A.app els new)))
     else False
    | _, _ => False
   | none => False
  | _, _ => False
 | op => condsOk g st op.operands.toList ∧ popK g K (pop' T A st.own (fun x => strip (st.ev x)) op)

def gcond' (A : AR) (ops : List Oper) (st : St) (j : Nat) (want : Bool) : Option Bool :=
 match (ops[j]?).bind (·.dst) with
 | some t => match st.get t with
  | .pv (.val (.bool b)) => some (A.beq b want)
  | .iff c (.pv (.val (.bool b))) => some (A.andb c (A.beq b want))
  | _ => none
 | none => none

def valsAll' (A : AR) : List (Nat × List PV) → Prop
 | [] => True
 | x :: r => A.vals x.2 ∧ valsAll' A r

def storeTVC' (T : TT) (A : AR) (st : St) (t : TypeId) (i s k off : Nat) (e : TypeId) (s' : Nat) (et : TypeId) (els : List PV) (new : List FV) (K : St → Prop) : Prop :=
 if s' = s then
  A.ltn k (A.len els) ∧ new.length = T.cells t ∧ T.cells t ≠ 0 ∧
  if T.cells t = s ∧ off = 0 then
   match leafsF st.own et new with
   | some (ps, jl) => if nodupB (jl.map (·.1)) && !(jl.map (·.1)).contains i && st.noSub i && decide (st.k0 ≤ i) then
     valsAll' A jl ∧ K (st.give i (.tree e s et (A.set els k (.agg ps))) (jl.map (·.1)))
    else False
   | none => False
  else match snapL [] [] new with
   | some pn => if decide (off + pn.length ≤ s) && pn.all leafy then
     A.valc (A.el els k) off pn.length ∧ K (st.setOwn i (.tree e s et (A.set els k (A.setc (A.el els k) off pn))))
    else False
   | none => False
 else False

def loadTVC' (T : TT) (A : AR) (t : TypeId) (i s k off s' : Nat) (els : List PV) (K : FV → Prop) : Prop :=
 if s' = s ∧ off < s ∧ scal' T t = true ∧ isAggT' T t = false then
  A.ltn k (A.len els) ∧ match flat' T 6 t with
   | [.int q] => A.cel (A.el els k) off (.val (.int q (A.gi (A.el els k) off))) ∧ K (.pv (.val (.int q (A.gi (A.el els k) off))))
   | [.bool] => A.cel (A.el els k) off (.val (.bool (A.gb (A.el els k) off))) ∧ K (.pv (.val (.bool (A.gb (A.el els k) off))))
   | [.sl] => A.isl (A.el els k) off ∧ (A.nil (A.el els k) off → K (.pv (.lst []))) ∧
     (A.non (A.el els k) off → K (.sub i s k off))
   | _ => False
 else False

def buildTVC' (T : TT) (A : AR) (st : St) (e : TypeId) (n : Nat) (parts : List (Nat × Operand)) (K : St → Prop) : Prop :=
 match parts with
 | [(0, x)] => match fcells (strip (st.ev x)) with
  | some cs => match etOf st.own cs with
   | some et => match leafsF st.own et cs with
    | some (ps, jl) => if n == 1 && cs.length == T.cells e && decide (T.cells e < 65536) && hasZero' T e && nodupB (jl.map (·.1)) then
      valsAll' A jl ∧ K (st.newTree e (T.cells e) et (.agg ps) (jl.map (·.1)))
     else False
    | none => False
   | none => False
  | none => False
 | _ => False

def appendTVC' (T : TT) (A : AR) (st : St) (e : TypeId) (i : Nat) (e' : TypeId) (s' : Nat) (et : TypeId) (els : List PV) (x : FV) (K : FV → St → Prop) : Prop :=
 if e' = e ∧ s' = T.cells e ∧ st.k0 ≤ i ∧ T.bytes e ≤ 1000 ∧ hasZero' T e = true then
  match treeAt st.own x with
  | some (i2, e2, s2, et2, new) => if i2 ≠ i ∧ e2 = e' ∧ s2 = s' ∧ et2 = et then
    A.cap els new ∧ K (.own i) ((st.drop i).give i (.tree e' s' et (A.app els new)) [i2])
   else False
  | none => match srcEls st.own x with
   | some new => A.okA new (T.cells e) ∧ A.lfA new ∧ A.cap els new ∧ K (.own i) ((st.drop i).give i (.tree e' s' et (A.app els new)) [])
   | none => False
 else False

def appendVC' (T : TT) (A : AR) (st : St) (e : TypeId) (s x : FV) (K : FV → St → Prop) : Prop :=
 match srcEls st.own x with
 | some new => (A.okA new (T.cells e)) ∧
  match s with
  | .own i => match st.own[i]? with
   | some (.row e' s' els) => if e' = e ∧ s' = T.cells e ∧ st.k0 ≤ i ∧ isOwn i x = false ∧ T.bytes e ≤ 1000 ∧ hasZero' T e = true then
     A.cap els new ∧ K (.own i) ((st.drop i).setOwn i (.row e s' (A.app els new)))
    else False
   | _ => False
  | .pv (.val (.slice none 0 0)) => if T.bytes e ≤ 1000 ∧ hasZero' T e = true then
    new.length ≤ 1000000000 ∧ K (.own st.own.length) (st.addOwn (.row e (T.cells e) new))
   else False
  | _ => False
 | none => False

def zerosVC' (T : TT) (A : AR) (st : St) (e t' : TypeId) (s x : FV) (K : FV → St → Prop) : Prop :=
 match T.und t' with
 | some (.int .i64) => match s, x with
  | .own i, .pv (.val (.int .i64 n)) => match st.own[i]?, zeroP' T e with
   | some (.row e' s' els), some z => if e' = e ∧ s' = T.cells e ∧ st.k0 ≤ i ∧ T.bytes e ≤ 1000 ∧ hasZero' T e = true ∧ z.cells.length = T.cells e then
     A.lei 0 n ∧ A.cap els (A.rep n z) ∧ K (.own i) ((st.drop i).setOwn i (.row e s' (A.app els (A.rep n z))))
    else False
   | _, _ => False
  | _, _ => False
 | _ => False

def cutOwn' (T : TT) (A : AR) (st : St) (t : TypeId) (i : Nat) (h : Int) (K : FV → St → Prop) : Prop :=
 match st.own[i]?, elemT' T t with
 | some (.row e s els), some e' => if e = e' then
   A.lei 0 h ∧ A.lei h (A.cast (A.len els)) ∧ if st.k0 ≤ i then K (.own i) ((st.drop i).setOwn i (.row e s (A.sl els 0 h)))
    else K (.own st.own.length) { st with own := st.own.set i .gone ++ [.row e s (A.sl els 0 h)] }
  else False
 | _, _ => False

def effVC' (P : Program) (T : TT) (A : AR) (gl : List (Nat × Obj)) (o : Oper) (st : St) (K : St → Prop) : Prop :=
 match o.op with
 | .alloc t => match zeroF' T t with
  | some cs => K ((st.addOwn (.box cs)).put o.dst (.box st.own.length 0))
  | none => False
 | .box _ x => condOk none (st.ev x) ∧ match fcells (strip (st.ev x)) with
  | some cs => K ((st.addOwn (.box cs)).put o.dst (.box st.own.length 0))
  | none => False
 | .store t p x => condOk none (st.ev p) ∧ condOk none (st.ev x) ∧ match strip (st.ev p), fcells (strip (st.ev x)) with
  | .box i off, some new => match st.own[i]? with
   | some (.box cs) => new.length = T.cells t ∧ T.cells t ≠ 0 ∧ off + new.length ≤ cs.length ∧ K ((st.setOwn i (.box (setSeg cs off new))).put o.dst .junk)
   | _ => False
  | .relt i s k off, some new => match st.own[i]? with
   | some (.row e s' els) => if s' = s then
     A.ltn k (A.len els) ∧ new.length = T.cells t ∧ T.cells t ≠ 0 ∧
     if T.cells t = s ∧ off = 0 then
      match snapD [] [] 8 (strip (st.ev x)) with
      | some p => okEl s p ∧ K ((st.setOwn i (.row e s (A.set els k p))).put o.dst .junk)
      | none => False
     else match snapL [] [] new with
      | some pn => match setEl (A.el els k) off pn with
       | some p => K ((st.setOwn i (.row e s (A.set els k p))).put o.dst .junk)
       | none => False
      | none => False
    else False
   | some (.tree e s' et els) => storeTVC' T A st t i s k off e s' et els new (fun st' => K (st'.put o.dst .junk))
   | _ => False
  | _, _ => False
 | .load t x => match strip (st.ev x) with
  | .relt i s k off => match st.own[i]? with
   | some (.tree _ s' _ els) => condOk none (st.ev x) ∧ loadTVC' T A t i s k off s' els (fun v => K (st.put o.dst v))
   | _ => qop' P T A gl st none o (fun x => K (st.put o.dst x))
  | _ => qop' P T A gl st none o (fun x => K (st.put o.dst x))
 | .binOp .eql t x (.const (.slice none 0 0)) _ => condOk none (st.ev x) ∧ match elemT' T t, strip (st.ev x) with
  | some _, .pv (.lst els) => ∀ b : Bool, (b = true → els = []) → K (st.put o.dst (.pv (.val (.bool b))))
  | _, _ => False
 | .makeSlice t l c => condOk none (st.ev l) ∧ condOk none (st.ev c) ∧ match elemT' T t with
  | some e => match zeroP' T e, strip (st.ev l), strip (st.ev c) with
   | some z, .pv (.val (.int _ n)), .pv (.val (.int _ n')) =>
    if T.bytes e ≤ 1000 ∧ z.cells.length = T.cells e then
     A.lei 0 n ∧ A.lei n n' ∧ A.lei n' 1000000000 ∧ K ((st.addOwn (.row e (T.cells e) (A.rep n z))).put o.dst (.own st.own.length))
    else False
   | _, _, _ => False
  | none => False
 | .buildSlice t n parts => condsOk none st (parts.toList.map (·.2)) ∧
  match elemT' T t, snapL [] [] (parts.toList.map fun x => strip (st.ev x.2)) with
  | some e, some els => if inOrder 0 parts.toList && n == parts.size && n * T.cells e < 65536 && hasZero' T e then
    (A.okA els (T.cells e)) ∧ K ((st.addOwn (.row e (T.cells e) els)).put o.dst (.own st.own.length)) else False
  | some e, none => buildTVC' T A st e n parts.toList (fun st' => K (st'.put o.dst (.own st.own.length)))
  | _, _ => False
 | .call { callee := .builtin .append, args, argTypes } => match two args.toList, two argTypes.toList with
  | some (s, x), some (t, t') => match isXl (st.ev s) with
   | true => qop' P T A gl st none o (fun x => K (st.put o.dst x))
   | false => condOk none (st.ev s) ∧ condOk none (st.ev x) ∧ match elemT' T t with
    | some e => match treeAt st.own (strip (st.ev s)) with
     | some (i, e', s', et, els) => if t' = t then appendTVC' T A st e i e' s' et els (strip (st.ev x)) (fun v st' => K (st'.put o.dst v)) else False
     | none => if t' = t then appendVC' T A st e (strip (st.ev s)) (strip (st.ev x)) (fun v st' => K (st'.put o.dst v)) else zerosVC' T A st e t' (strip (st.ev s)) (strip (st.ev x)) (fun v st' => K (st'.put o.dst v))
    | none => False
  | _, _ => False
 | .slice t x none (some q) none => match strip (st.ev x), strip (st.ev q) with
  | .own i, .pv (.val (.int _ h)) => condOk none (st.ev x) ∧ condOk none (st.ev q) ∧ cutOwn' T A st t i h (fun v st' => K (st'.put o.dst v))
  | _, _ => qop' P T A gl st none o (fun x => K (st.put o.dst x))
 | .call { callee := .value f, args, .. } => condsOk none st (f :: args.toList) ∧
  match asFn (strip (st.ev f)) with
  | some (fid, caps) => A.call P gl st fid ((args.toList.map fun x => strip (st.ev x)) ++ caps) (fun v st' => K (st'.put o.dst v))
  | none => False
 | _ => qop' P T A gl st none o (fun x => K (st.put o.dst x))

def quietVC1' (P : Program) (T : TT) (A : AR) (gl : List (Nat × Obj)) (ops : List Oper) (o : Oper) (st : St) (K : FV → Prop) : Prop :=
 match o.guard with
 | none => qop' P T A gl st none o K
 | some (j, want) => match gcond' A ops st j want with
  | some g => qop' P T A gl st (some g) o (fun x => K (.iff g x))
  | none => False

def stepVC' (P : Program) (T : TT) (A : AR) (gl : List (Nat × Obj)) (ops : List Oper) (o : Oper) (st : St) (K : St → Prop) : Prop :=
 match o.guard with
 | none => effVC' P T A gl o st K
 | some (j, want) => match gcond' A ops st j want with
  | some g => qop' P T A gl st (some g) o (fun x => K (st.put o.dst (.iff g x)))
  | none => False

def seqVC' (P : Program) (T : TT) (A : AR) (gl : List (Nat × Obj)) (ops : List Oper) : List Oper → St → (St → Prop) → Prop
 | [], st, K => K st
 | o :: r, st, K => stepVC' P T A gl ops o st (fun st' => seqVC' P T A gl ops r st' K)

def allocOf' (P : Program) (T : TT) (A : AR) (o : Oper) : Option (List FV) :=
 match o.guard, o.op with
 | none, .alloc t => zeroF' T t
 | _, _ => none

def fillsOf' (P : Program) (T : TT) (A : AR) : Nat → Nat → List Oper → List (Nat × Nat × List FV)
 | _, _, [] => []
 | i, c, o :: r => match allocOf' P T A o with
  | some cs => (i, c, cs) :: fillsOf' P T A (i + 1) (c + 1) r
  | none => fillsOf' P T A (i + 1) c r

def quietVC' (P : Program) (T : TT) (A : AR) (gl : List (Nat × Obj)) (ops : List Oper) : Nat → List Oper → St → (St → Prop) → Prop
 | _, [], st, K => K st
 | c, o :: r, st, K => match allocOf' P T A o with
  | some _ => quietVC' P T A gl ops (c + 1) r (st.put o.dst (.box c 0)) K
  | none => quietVC1' P T A gl ops o st (fun x => quietVC' P T A gl ops c r (st.put o.dst x) K)

def recheck1' (P : Program) (T : TT) (A : AR) (ops : List Oper) (st : St) (j : Nat) : Prop :=
 condsOk none st (ops.getD j default).op.operands.toList ∧
 match pop' T A st.own (fun x => strip (st.ev x)) (ops.getD j default).op with
 | some (ob, x) => ob ∧ match (ops.getD j default).dst with
  | some t => st.get t = x
  | none => True
 | none => False

def recheck' (P : Program) (T : TT) (A : AR) (ops : List Oper) (st : St) : List Nat → Prop
 | [] => True
 | j :: r => recheck1' P T A ops st j ∧ recheck' P T A ops st r

def seqL' (P : Program) (T : TT) (A : AR) (gl : List (Nat × Obj)) (ops : List Oper) (an : List (List Nat)) (lt : List Nat) : Nat → List Oper → St → (St → Prop) → Prop
 | _, [], st, K => K st
 | k, o :: r, st, K => stepVC' P T A gl ops o st (fun st' => recheck' P T A ops st' (lt.filter fun j => !(an.getD k []).contains j) ∧ seqL' P T A gl ops an lt (k + 1) r st' K)

def lateVC' (P : Program) (T : TT) (A : AR) (gl : List (Nat × Obj)) (ops : List Oper) (an : List (List Nat)) (p : Nat) (st : St) (K : St → Prop) : Prop :=
 if quietOkL ops an p then
  quietVC' P T A gl ops st.own.length (ops.take p) (st.gones (fillsOf' P T A 0 st.own.length (ops.take p)).length)
   (fun st' => recheck' P T A ops (st'.over (fun _ => true) (fillsOf' P T A 0 st.own.length (ops.take p))) (lateSet ops an p) ∧
    seqL' P T A gl ops an (lateSet ops an p) p (ops.drop p) (st'.over (fun _ => true) (fillsOf' P T A 0 st.own.length (ops.take p))) K)
 else False

def regionVC' (P : Program) (T : TT) (A : AR) (gl : List (Nat × Obj)) (ops : List Oper) (draw : Bool) (st : St) (K : St → Prop) : Prop :=
 if draw then
  match (ops.take (splitFrom (ancs [] ops) ops.length)).all (fun o => !isStore o) with
  | true =>
   if quietOk ops (ancs [] ops) (splitFrom (ancs [] ops) ops.length) then
    quietVC' P T A gl ops st.own.length (ops.take (splitFrom (ancs [] ops) ops.length)) (st.gones (fillsOf' P T A 0 st.own.length (ops.take (splitFrom (ancs [] ops) ops.length))).length)
     (fun st' => seqVC' P T A gl ops (ops.drop (splitFrom (ancs [] ops) ops.length)) (st'.over (fun _ => true) (fillsOf' P T A 0 st.own.length (ops.take (splitFrom (ancs [] ops) ops.length)))) K)
   else False
  | false => lateVC' P T A gl ops (ancs [] ops) (firstP ops (ancs [] ops)) st K
 else seqVC' P T A gl ops ops st K

def cutVC' (P : Program) (T : TT) (A : AR) (gl : List (Nat × Obj)) : Nat → List Oper → St → (St → Prop) → Prop
 | 0, ops, st, K => regionVC' P T A gl ops true st K
 | n + 1, ops, st, K => match cutAt ops with
  | some c => regionVC' P T A gl (ops.take c) true st (fun st' => cutVC' P T A gl n ((ops.drop c).map (shiftO c)) st' K)
  | none => regionVC' P T A gl ops true st K

def codeVC' (P : Program) (T : TT) (A : AR) (gl : List (Nat × Obj)) (b : Md) : Code → (Ex → St → Prop) → St → Prop
 | .skip, Q, st => Q .normal st
 | .region _ ops draw, Q, st => match draw with
  | true => match b with
   | .any => regionVC' P T A gl ops.toList true st (Q .normal)
   | .cut => cutVC' P T A gl ops.toList.length ops.toList st (Q .normal)
   | .ret => regionVC' P T A gl ops.toList true (st.retire (movedRows st ops.toList)) (Q .normal)
   | .rc => cutVC' P T A gl ops.toList.length ops.toList (st.retire (loadedRows st ops.toList)) (Q .normal)
  | false => regionVC' P T A gl ops.toList false st (Q .normal)
 | .seq x y, Q, st => codeVC' P T A gl b x (fun e s => match e with
  | .normal => codeVC' P T A gl b y Q s
  | e => Q e s) st
 | .cond c x y, Q, st => match st.ev c with
  | .pv (.val (.bool t)) => (t = true → codeVC' P T A gl b x Q st) ∧ (t = false → codeVC' P T A gl b y Q st)
  | _ => False
 | .block id c, Q, st => codeVC' P T A gl b c (fun e s => match e with
  | .exit i => if i = id then Q .normal s else Q (.exit i) s
  | e => Q e s) st
 | .loop c, Q, st => A.loop c (fun Q' st' => codeVC' P T A gl b c Q' st') Q st
 | .exit id, Q, st => Q (.exit id) st
 | .ret, Q, st => Q .ret st
 | .label _, Q, st => Q .normal st
 | _, _, _ => False

def retOne' (T : TT) (A : AR) (st : St) : ResultVar → Option (Prop × FV)
 | .tmp t => some (condOk none (st.get t), strip (st.get t))
 | .cell a t => pop' T A st.own st.ev (.load t (.tmp a))

def retAll' (T : TT) (A : AR) (st : St) : List ResultVar → Option (Prop × List FV)
 | [] => some (True, [])
 | r :: rs => match retOne' T A st r, retAll' T A st rs with
  | some (o1, x), some (o2, xs) => some (o1 ∧ o2, x :: xs)
  | _, _ => none

def endS' (T : TT) (A : AR) (fn : Func) (R : PV → Prop) (e : Ex) (st : St) : Prop :=
 match e with
 | .exit _ => False
 | _ => match retAll' T A st fn.results.toList with
  | some (o, xs) => o ∧ match snapD st.own (List.range st.own.length) 8 (oneOrTup xs) with
   | some p => R p
   | none => False
  | none => False

def endX' (T : TT) (A : AR) (fn : Func) (k0 : Nat) (R : List Blk → FV → Prop) (e : Ex) (st : St) : Prop :=
 match e with
 | .exit _ => False
 | _ => match retAll' T A st fn.results.toList with
  | some (o, xs) => o ∧ st.k0 = k0 ∧ ∃ (es : List Nat) (bs : List Blk) (x : FV), es.Nodup ∧ k0 ≤ es.length ∧ es.take k0 = List.range k0 ∧ mapO (fun i => st.own[i]?) es = some bs ∧ (bs.all plainB) = true ∧ renT es (oneOrTup xs) = some x ∧ R bs x
  | none => False

theorem codeVC_eq (P : Program) : codeVC' P (TT.of P) AR.std = codeVC P := by kernel_rfl
theorem endS_eq (P : Program) : endS' (TT.of P) AR.std = endS P := by kernel_rfl
theorem endX_eq (P : Program) : endX' (TT.of P) AR.std = endX P := by kernel_rfl

end Go.Pe

/- Functions, with the types' table apart and the arithmetic veiled; lists of numbers. -/
namespace Go.Pe
open Go Go.RowKit

abbrev I (n : Int) : PV := .val (.int .i64 n)
abbrev B (b : Bool) : PV := .val (.bool b)

def endR (T : TT) (A : AR) (rs : List ResultVar) (R : PV → Prop) (e : Ex) (st : St) : Prop :=
 match e with
 | .exit _ => False
 | _ => match retAll' T A st rs with
  | some (o, xs) => o ∧ match snapD st.own (List.range st.own.length) 8 (oneOrTup xs) with
   | some p => R p
   | none => False
  | none => False

theorem endR_eq (T : TT) (A : AR) (fn : Func) (R : PV → Prop) : endS' T A fn R = endR T A fn.results.toList R := by kernel_rfl

def endXR (T : TT) (A : AR) (rs : List ResultVar) (k0 : Nat) (R : List Blk → FV → Prop) (e : Ex) (st : St) : Prop :=
 match e with
 | .exit _ => False
 | _ => match retAll' T A st rs with
  | some (o, xs) => o ∧ st.k0 = k0 ∧ ∃ (es : List Nat) (bs : List Blk) (x : FV), es.Nodup ∧ k0 ≤ es.length ∧ es.take k0 = List.range k0 ∧ mapO (fun i => st.own[i]?) es = some bs ∧ (bs.all plainB) = true ∧ renT es (oneOrTup xs) = some x ∧ R bs x
  | none => False

theorem endXR_eq (T : TT) (A : AR) (fn : Func) (k0 : Nat) (R : List Blk → FV → Prop) : endX' T A fn k0 R = endXR T A fn.results.toList k0 R := by kernel_rfl

def vcS (P : Program) (T : TT) (gl : List (Nat × Obj)) (b : Md) (c : Code) (rs : List ResultVar) (nt : Nat) (args : AR → List PV) (R : AR → PV → Prop) : Prop :=
 ∀ A, A = AR.std → codeVC' P T A gl b c (endR T A rs (R A)) ⟨startSlots 0 ((args A).map .pv), [], nt, 0⟩

theorem FS_ofB {b : Md} {P : Program} {gl : List (Nat × Obj)} {f : FuncId} {fn : Func} {c : Code} {args : AR → List PV} {R : AR → PV → Prop} {T : TT} (hT : T = TT.of P) (mix : P.follows .mixedOrders = true)
  (hf : P.funcs[f]? = some fn) (hb : fn.body = some c) (hname : (fn.name == "runtime.NumGoroutine") = false) (hn : (args AR.std).length ≤ fn.ntmps)
  (hv : vcS P T gl b c fn.results.toList fn.ntmps args R) : FS P gl f (args AR.std) (R AR.std) := by
 refine FS_of (b := b) mix hf hb hname hn ?_
 have := hv AR.std rfl
 rw [hT, codeVC_eq, ← endR_eq, endS_eq] at this
 exact this

def vcX (P : Program) (T : TT) (gl : List (Nat × Obj)) (b : Md) (c : Code) (rs : List ResultVar) (nt : Nat) (own : AR → List Blk) (args : AR → List FV) (R : AR → List Blk → FV → Prop) : Prop :=
 ∀ A, A = AR.std → codeVC' P T A gl b c (endXR T A rs (own A).length (R A)) ⟨startSlots 0 (args A), own A, nt, (own A).length⟩

theorem FX_ofB {b : Md} {P : Program} {gl : List (Nat × Obj)} {f : FuncId} {fn : Func} {c : Code} {own : AR → List Blk} {args : AR → List FV} {R : AR → List Blk → FV → Prop} {T : TT} (hT : T = TT.of P) (mix : P.follows .mixedOrders = true)
  (hf : P.funcs[f]? = some fn) (hb : fn.body = some c) (hname : (fn.name == "runtime.NumGoroutine") = false) (hn : (args AR.std).length ≤ fn.ntmps)
  (hv : vcX P T gl b c fn.results.toList fn.ntmps own args R) : FX P gl f (own AR.std) (args AR.std) (R AR.std) := by
 refine FX_of (b := b) mix hf hb hname hn ?_
 have := hv AR.std rfl
 rw [hT, codeVC_eq, ← endXR_eq, endX_eq] at this
 exact this

theorem FS_ofT {P : Program} {gl : List (Nat × Obj)} {f : FuncId} {fn : Func} {c : Code} {args : AR → List PV} {R : AR → PV → Prop} {T : TT} (hT : T = TT.of P) (mix : P.follows .mixedOrders = true)
  (hf : P.funcs[f]? = some fn) (hb : fn.body = some c) (hname : (fn.name == "runtime.NumGoroutine") = false) (hn : (args AR.std).length ≤ fn.ntmps)
  (hv : vcS P T gl .any c fn.results.toList fn.ntmps args R) : FS P gl f (args AR.std) (R AR.std) := FS_ofB hT mix hf hb hname hn hv

theorem FX_ofT {P : Program} {gl : List (Nat × Obj)} {f : FuncId} {fn : Func} {c : Code} {own : AR → List Blk} {args : AR → List FV} {R : AR → List Blk → FV → Prop} {T : TT} (hT : T = TT.of P) (mix : P.follows .mixedOrders = true)
  (hf : P.funcs[f]? = some fn) (hb : fn.body = some c) (hname : (fn.name == "runtime.NumGoroutine") = false) (hn : (args AR.std).length ≤ fn.ntmps)
  (hv : vcX P T gl .any c fn.results.toList fn.ntmps own args R) : FX P gl f (own AR.std) (args AR.std) (R AR.std) := FX_ofB hT mix hf hb hname hn hv

theorem FS_ofC {P : Program} {gl : List (Nat × Obj)} {f : FuncId} {fn : Func} {c : Code} {args : AR → List PV} {R : AR → PV → Prop} {T : TT} (hT : T = TT.of P) (mix : P.follows .mixedOrders = true)
  (hf : P.funcs[f]? = some fn) (hb : fn.body = some c) (hname : (fn.name == "runtime.NumGoroutine") = false) (hn : (args AR.std).length ≤ fn.ntmps)
  (hv : vcS P T gl .cut c fn.results.toList fn.ntmps args R) : FS P gl f (args AR.std) (R AR.std) := FS_ofB hT mix hf hb hname hn hv

theorem FS_ofR {P : Program} {gl : List (Nat × Obj)} {f : FuncId} {fn : Func} {c : Code} {args : AR → List PV} {R : AR → PV → Prop} {T : TT} (hT : T = TT.of P) (mix : P.follows .mixedOrders = true)
  (hf : P.funcs[f]? = some fn) (hb : fn.body = some c) (hname : (fn.name == "runtime.NumGoroutine") = false) (hn : (args AR.std).length ≤ fn.ntmps)
  (hv : vcS P T gl .ret c fn.results.toList fn.ntmps args R) : FS P gl f (args AR.std) (R AR.std) := FS_ofB hT mix hf hb hname hn hv

theorem FX_ofC {P : Program} {gl : List (Nat × Obj)} {f : FuncId} {fn : Func} {c : Code} {own : AR → List Blk} {args : AR → List FV} {R : AR → List Blk → FV → Prop} {T : TT} (hT : T = TT.of P) (mix : P.follows .mixedOrders = true)
  (hf : P.funcs[f]? = some fn) (hb : fn.body = some c) (hname : (fn.name == "runtime.NumGoroutine") = false) (hn : (args AR.std).length ≤ fn.ntmps)
  (hv : vcX P T gl .cut c fn.results.toList fn.ntmps own args R) : FX P gl f (own AR.std) (args AR.std) (R AR.std) := FX_ofB hT mix hf hb hname hn hv

abbrev D0 : PV := .val (.bool false)

theorem wrapi {n : Int} (h0 : -9223372036854775808 ≤ n) (h1 : n ≤ 9223372036854775807) : IntKind.i64.wrap n = n := by rw [IntKind.wrap_i64]; omega

theorem ints_len (l : List Int) : (intsL l).length = l.length := by simp [intsL]
theorem ints_get (l : List Int) (k : Nat) (h : k < l.length) : (intsL l).getD k D0 = I (l.getD k 0) := by
 simp [intsL, List.getD, List.getElem?_eq_getElem h]
theorem ints_getI (l : List Int) (k : Nat) : getI ((intsL l).getD k D0) 0 = l.getD k 0 := by
 by_cases h : k < l.length
 ·rw [ints_get l k h]; rfl
 ·rw [List.getD, List.getD, List.getElem?_eq_none (by rw [ints_len]; omega), List.getElem?_eq_none (by omega)]; rfl
theorem ints_clen (l : List Int) (k : Nat) : ((intsL l).getD k D0).cells.length = 1 := by
 by_cases h : k < l.length
 ·rw [ints_get l k h]; rfl
 ·rw [List.getD, List.getElem?_eq_none (by rw [ints_len]; omega)]; rfl
theorem ints_part (l : List Int) (k : Nat) (z : Int) (h : k < l.length) (hz : l.getD k 0 = z) : partP false 0 1 ((intsL l).getD k D0).cells = I z := by
 rw [ints_get l k h, hz]; rfl
theorem ints_app1 (l : List Int) (n : Int) : intsL l ++ [PV.val (.int .i64 n)] = intsL (l ++ [n]) := by simp [intsL]
theorem ints_app (l r : List Int) : intsL l ++ intsL r = intsL (l ++ r) := by simp [intsL]
theorem ints_nil : intsL [] = [] := rfl
theorem ints_nil_app (l : List PV) : [] ++ l = l := rfl
theorem ints_one (n : Int) : [PV.val (.int .i64 n)] = intsL [n] := rfl
theorem ints_set (l : List Int) (k : Nat) (n : Int) : (intsL l).set k (PV.val (.int .i64 n)) = intsL (l.set k n) := by simp [intsL, List.map_set]
theorem ints_rep (k : Nat) (n : Int) : List.replicate k (PV.val (.int .i64 n)) = intsL (List.replicate k n) := by simp [intsL]
theorem ints_take (l : List Int) (k : Nat) : (intsL l).take k = intsL (l.take k) := by simp [intsL]
theorem ints_drop (l : List Int) (k : Nat) : (intsL l).drop k = intsL (l.drop k) := by simp [intsL]
theorem ints_ok (l : List Int) : ∀ p ∈ intsL l, okEl 1 p := by
 intro p hp
 simp only [intsL, List.mem_map] at hp
 obtain ⟨n, _, rfl⟩ := hp
 exact ⟨rfl, rfl⟩
theorem ints_all (l : List Int) : ∀ p ∈ intsL l, p.cells.length = 1 := fun p hp => (ints_ok l p hp).1

theorem natCast_eq (n : Nat) : @NatCast.natCast Int instNatCastInt n = @Nat.cast Int instNatCastInt n := rfl

end Go.Pe

/- Functions that hand out memory of their own, and nothing else's. -/
namespace Go.Pe
open Go Go.RowKit

def closedC : PV → Bool
 | .val _ => true
 | .lst [] => true
 | _ => false

def closedP : PV → Bool
 | .agg cs => cs.all closedC
 | p => closedC p

def closedF0 : FV → Bool
 | .pv p => closedC p
 | .own _ => true
 | _ => false

def closedF1 : FV → Bool
 | .pv p => closedP p
 | .own _ => true
 | .agg cs => cs.all closedF0
 | _ => false

def closedF : FV → Bool
 | .tup cs => cs.all closedF1
 | .pv (.tup cs) => cs.all closedP
 | x => closedF1 x

def closedB : Blk → Prop
 | .gone => True
 | .row _ _ els => ∀ p ∈ els, ∀ c ∈ p.cells, leafy c = true
 | .box _ => False
 | .tree _ _ _ _ => True

theorem closedC_rep {w : World} {S S' : Nat → Prop} {v : Value} {p : PV} (hc : closedC p = true) (h : Rep w S v p) : Rep w S' v p := by
 cases h with
 | val v hf => exact .val v hf
 | nil a c => exact .nil a c
 | lst b o c s els f hS hle => cases els with
  | nil => exact .nil _ _
  | cons x r => simp [closedC] at hc
 | _ => simp [closedC] at hc

theorem closedP_rep {w : World} {S S' : Nat → Prop} {v : Value} {p : PV} (hc : closedP p = true) (h : Rep w S v p) : Rep w S' v p := by
 cases h with
 | agg cs f h1 hr => exact .agg cs f h1 fun j hj => closedC_rep (List.all_eq_true.1 hc _ (List.getElem_mem hj)) (hr j hj)
 | val v hf => exact .val v hf
 | nil a c => exact .nil a c
 | lst b o c s els f hS hle h2 h3 h4 h5 => exact closedC_rep (S := S) hc (.lst b o c s els f hS hle h2 h3 h4 h5)
 | _ => simp [closedP, closedC] at hc

theorem closedF0_rep {w : World} {S S' : Nat → Prop} {m : Nat → Option MV} {v : Value} {x : FV} (hc : closedF0 x = true) (h : RepF w S m v x) : RepF w S' m v x := by
 cases h with
 | pv v p h => exact .pv v p (closedC_rep hc h)
 | own i v h => exact .own i v h
 | _ => simp [closedF0] at hc

theorem closedF1_rep {w : World} {S S' : Nat → Prop} {m : Nat → Option MV} {v : Value} {x : FV} (hc : closedF1 x = true) (h : RepF w S m v x) : RepF w S' m v x := by
 cases h with
 | pv v p h => exact .pv v p (closedP_rep hc h)
 | own i v h => exact .own i v h
 | agg cs f h1 hr => exact .agg cs f h1 fun j hj => closedF0_rep (List.all_eq_true.1 hc _ (List.getElem_mem hj)) (hr j hj)
 | _ => simp [closedF1] at hc

theorem closedF_rep {w : World} {S S' : Nat → Prop} {m : Nat → Option MV} {v : Value} {x : FV} (hc : closedF x = true) (h : RepF w S m v x) : RepF w S' m v x := by
 cases h with
 | tup cs f hr => exact .tup cs f fun j hj => closedF1_rep (List.all_eq_true.1 hc _ (List.getElem_mem hj)) (hr j hj)
 | pv v p h =>
  cases h with
  | tup cs f hr => exact .pv _ _ (.tup cs f fun j hj => closedP_rep (List.all_eq_true.1 hc _ (List.getElem_mem hj)) (hr j hj))
  | val v hf => exact .pv _ _ (.val v hf)
  | nil a c => exact .pv _ _ (.nil a c)
  | agg cs f h1 hr => exact .pv _ _ (closedP_rep (S := S) hc (.agg cs f h1 hr))
  | lst b o c s els f hS hle h2 h3 h4 h5 => exact .pv _ _ (closedP_rep (S := S) hc (.lst b o c s els f hS hle h2 h3 h4 h5))
  | fn => simp [closedF, closedF1, closedP, closedC] at hc
  | ptr => simp [closedF, closedF1, closedP, closedC] at hc
  | elt => simp [closedF, closedF1, closedP, closedC] at hc
 | own i v h => exact .own i v h
 | agg cs f h1 hr => exact closedF1_rep (S := S) hc (.agg cs f h1 hr)
 | _ => simp [closedF, closedF1] at hc

theorem closedB_ok {w : World} {S S' : Nat → Prop} {m m' : Nat → Option MV} {v : MV} {b : Blk} (hc : closedB b) (h : OwnOk w S m v b) : OwnOk w S' m' v b := by
 cases b with
 | gone => trivial
 | box cs => exact hc.elim
 | tree e s et els => exact h
 | row e s els =>
  obtain ⟨h0, xs, f, hown, hs, hx, h1, h2, hr⟩ := h
  refine ⟨h0, xs, f, hown, hs, hx, h1, h2, fun k hk j hj => ?_⟩
  exact (leafy_rep (hr k hk j hj) (hc _ (List.getElem_mem hk) _ (List.getElem_mem hj))).mono (fun _ h => h.elim) (fun _ h => h.elim)

theorem FN_of {P : Program} {gl : List (Nat × Obj)} {f : FuncId} {args : List PV} {R : List Blk → FV → Prop} (h : FX P gl f [] (args.map FV.pv) R)
  (hc : ∀ own r, R own r → (∀ b ∈ own, closedB b) ∧ closedF r = true) : FN P gl f args R := by
 refine ⟨h.1, fun w vs hgl hargs => ?_⟩
 have hno0 : ∀ i, ¬ lives ([] : List Blk) i := by
  rintro i ⟨_, hb, _⟩
  simp at hb
 have := h.2 w (fun b => b < w.heap.size) (fun _ => none) vs hgl (fun _ hb => hb) (OwnS.mk (fun i v hv => by cases hv) (fun i b hi => by simp at hi) (fun i j b _ hi => (hno0 i hi).elim) (fun i b hi => (hno0 i hi).elim) (fun i b hi => (hno0 i hi).elim))
  (fun i b hi => (hno0 i hi).elim) (fun j hj => by
   simp only [List.length_map] at hj
   simp only [List.getElem_map]
   exact .pv _ _ (hargs j hj))
 rw [List.length_map] at this
 refine this.mono ?_
 rintro e w' ⟨v, r, own', m', rfl, hR, _, _, hbx, hos, hbn, hrr⟩
 obtain ⟨hcb, hcr⟩ := hc own' r hR
 have hno : ∀ b, ¬ ∃ i, lives ([] : List Blk) i ∧ mblk (fun _ => none) i b := by
  rintro b ⟨i, ⟨_, hb, _⟩, _⟩
  simp at hb
 refine ⟨v, r, own', m', rfl, hR, ⟨hbx.os, hbx.tape, hbx.output, hbx.size, fun k hk => hbx.block k hk (hno k)⟩, ⟨hos.len, fun i b hi hl => ?_, hos.sep, hos.lt, fun _ _ _ _ => id⟩, fun i b hi hb => (hbn i b hi hb).resolve_right (hno b), closedF_rep hcr hrr⟩
 obtain ⟨u, hu, hok⟩ := hos.ok i b hi hl
 exact ⟨u, hu, closedB_ok (hcb b (List.mem_of_getElem? hi)) hok⟩

end Go.Pe

/- Numbers as lists of digits to the base 65536, the least first. -/
namespace Go.Dg

def val : List Int → Int
 | [] => 0
 | x :: r => x + 65536 * val r

def Valid (l : List Int) : Prop := ∀ x ∈ l, 0 ≤ x ∧ x < 65536

def dg (n : Nat) : List Int := if n = 0 then [] else ((n % 65536 : Nat) : Int) :: dg (n / 65536)
 termination_by n

theorem dg_zero : dg 0 = [] := by rw [dg]; simp
theorem dg_pos {n : Nat} (h : n ≠ 0) : dg n = ((n % 65536 : Nat) : Int) :: dg (n / 65536) := by rw [dg]; simp [h]

theorem Valid.tail {x : Int} {r : List Int} (h : Valid (x :: r)) : Valid r := fun y hy => h y (List.mem_cons_of_mem _ hy)
theorem Valid.head {x : Int} {r : List Int} (h : Valid (x :: r)) : 0 ≤ x ∧ x < 65536 := h x (by simp)
theorem Valid.nil : Valid [] := fun x hx => by simp at hx
theorem Valid.cons {x : Int} {r : List Int} (h0 : 0 ≤ x) (h1 : x < 65536) (h : Valid r) : Valid (x :: r) := by
 intro y hy
 rcases List.mem_cons.1 hy with rfl | hy
 ·exact ⟨h0, h1⟩
 ·exact h y hy
theorem Valid.append {l r : List Int} (h : Valid l) (h' : Valid r) : Valid (l ++ r) := fun x hx => (List.mem_append.1 hx).elim (h x) (h' x)
theorem Valid.one {x : Int} (h0 : 0 ≤ x) (h1 : x < 65536) : Valid [x] := Valid.cons h0 h1 Valid.nil
theorem Valid.set {l : List Int} {k : Nat} {x : Int} (h : Valid l) (h0 : 0 ≤ x) (h1 : x < 65536) : Valid (l.set k x) := fun y hy => by
 rcases List.mem_or_eq_of_mem_set hy with hy | rfl
 ·exact h y hy
 ·exact ⟨h0, h1⟩
theorem Valid.rep (n : Nat) : Valid (List.replicate n 0) := fun x hx => by rw [(List.mem_replicate.1 hx).2]; omega
theorem Valid.get {l : List Int} (h : Valid l) (k : Nat) : 0 ≤ l.getD k 0 ∧ l.getD k 0 < 65536 := by
 by_cases hk : k < l.length
 ·rw [List.getD, List.getElem?_eq_getElem hk]
  exact h _ (List.getElem_mem hk)
 ·rw [List.getD, List.getElem?_eq_none (by omega)]; exact ⟨by simp, by simp⟩
theorem Valid.take {l : List Int} (h : Valid l) (k : Nat) : Valid (l.take k) := fun x hx => h x (List.mem_of_mem_take hx)
theorem Valid.drop {l : List Int} (h : Valid l) (k : Nat) : Valid (l.drop k) := fun x hx => h x (List.mem_of_mem_drop hx)

theorem val_nonneg : ∀ {l : List Int}, Valid l → 0 ≤ val l
 | [], _ => by simp [val]
 | x :: r, h => by
  have := val_nonneg h.tail
  have := h.head
  simp only [val]; omega

theorem val_dg (n : Nat) : val (dg n) = n := by
 induction n using Nat.strongRecOn with
 | ind n ih =>
  by_cases h : n = 0
  ·subst h; rw [dg_zero]; rfl
  ·rw [dg_pos h, val, ih (n / 65536) (by omega)]; omega

theorem valid_dg (n : Nat) : Valid (dg n) := by
 induction n using Nat.strongRecOn with
 | ind n ih =>
  by_cases h : n = 0
  ·subst h; rw [dg_zero]; exact Valid.nil
  ·rw [dg_pos h]; exact Valid.cons (by omega) (by omega) (ih (n / 65536) (by omega))

def trimL : List Int → List Int
 | [] => []
 | x :: r => match trimL r with
  | [] => if x = 0 then [] else [x]
  | y :: t => x :: y :: t

theorem trim_dg : ∀ {l : List Int}, Valid l → trimL l = dg (val l).toNat
 | [], _ => by simp [trimL, val, dg_zero]
 | x :: r, h => by
  have ih := trim_dg h.tail
  have h0 := val_nonneg h.tail
  have hx := h.head
  simp only [trimL, val]
  by_cases hr : (val r).toNat = 0
  ·rw [hr, dg_zero] at ih
   rw [ih]
   simp only
   have : val r = 0 := by omega
   split
   ·rename_i hx0; subst hx0; rw [this]; simp [dg_zero]
   ·rename_i hx0
    have e0 : (x + 65536 * val r).toNat ≠ 0 := by omega
    rw [dg_pos e0]
    have e1 : (x + 65536 * val r).toNat / 65536 = 0 := by omega
    rw [e1, dg_zero]
    congr 1
    omega
  ·rw [dg_pos hr] at ih
   rw [ih]
   simp only
   have e0 : (x + 65536 * val r).toNat ≠ 0 := by omega
   rw [dg_pos e0]
   have e1 : (x + 65536 * val r).toNat / 65536 = (val r).toNat := by omega
   rw [e1, dg_pos hr]
   congr 1
   omega

theorem trimL_snoc0 : ∀ (l : List Int), trimL (l ++ [0]) = trimL l
 | [] => by simp [trimL]
 | x :: r => by simp only [List.cons_append, trimL, trimL_snoc0 r]

theorem trimL_snoc : ∀ (l : List Int) {x : Int}, x ≠ 0 → trimL (l ++ [x]) = l ++ [x]
 | [], x, h => by simp [trimL, h]
 | y :: r, x, h => by
  simp only [List.cons_append, trimL, trimL_snoc r h]
  cases r <;> rfl

theorem split_last {l : List Int} (h : 0 < l.length) : l = l.take (l.length - 1) ++ [l.getD (l.length - 1) 0] := by
 have hk : l.length - 1 < l.length := by omega
 rw [List.getD, List.getElem?_eq_getElem hk]
 simp only [Option.getD_some]
 rw [← List.take_succ_eq_append_getElem hk]
 rw [List.take_of_length_le (by omega)]

theorem trimL_last {l : List Int} (h : 0 < l.length) (hz : l.getD (l.length - 1) 0 ≠ 0) : trimL l = l := by
 rw [split_last h]; exact trimL_snoc _ hz
theorem trimL_take {l : List Int} (h : 0 < l.length) (hz : l.getD (l.length - 1) 0 = 0) : trimL (l.take (l.length - 1)) = trimL l := by
 conv => rhs; rw [split_last h, hz]
 exact (trimL_snoc0 _).symm
theorem trimL_len0 {l : List Int} (h : l.length = 0) : trimL l = l := by
 have : l = [] := List.length_eq_zero_iff.1 h
 subst this; rfl

theorem val_append (l r : List Int) : val (l ++ r) = val l + 65536 ^ l.length * val r := by
 induction l with
 | nil => simp [val]
 | cons x l ih =>
  simp only [List.cons_append, val, ih, List.length_cons, Int.pow_succ]
  rw [Int.mul_add, Int.mul_comm (65536 ^ l.length) 65536, Int.mul_assoc]
  omega
theorem val_snoc (l : List Int) (x : Int) : val (l ++ [x]) = val l + 65536 ^ l.length * x := by rw [val_append]; simp [val]

theorem val_rep (n : Nat) : val (List.replicate n 0) = 0 := by
 induction n with
 | zero => rfl
 | succ n ih => simp [List.replicate_succ, val, ih]

theorem val_set : ∀ (l : List Int) (k : Nat) (x : Int), k < l.length → val (l.set k x) = val l + 65536 ^ k * (x - l.getD k 0)
 | [], k, x, h => by simp at h
 | y :: r, 0, x, h => by simp [val]; omega
 | y :: r, k + 1, x, h => by
  simp only [List.set_cons_succ, val, val_set r k x (by simpa using h), List.getD_cons_succ, Int.pow_succ]
  rw [Int.mul_add, Int.mul_comm (65536 ^ k) 65536, Int.mul_assoc]
  omega

theorem val_take_succ {l : List Int} {k : Nat} (h : k < l.length) : val (l.take (k + 1)) = val (l.take k) + 65536 ^ k * l.getD k 0 := by
 rw [List.take_succ_eq_append_getElem h, val_snoc, List.length_take, Nat.min_eq_left (by omega), List.getD, List.getElem?_eq_getElem h]
 rfl

theorem pow_pos (k : Nat) : (0 : Int) < 65536 ^ k := Int.pow_pos (by decide)

theorem dg_len_le : ∀ (k n : Nat), n < 65536 ^ k → (dg n).length ≤ k
 | 0, n, h => by
  have : n = 0 := by simp at h; exact h
  subst this; rw [dg_zero]; simp
 | k + 1, n, h => by
  by_cases h0 : n = 0
  ·subst h0; rw [dg_zero]; simp
  ·rw [dg_pos h0]
   have := dg_len_le k (n / 65536) (by rw [Nat.pow_succ] at h; omega)
   simpa using this
theorem dg_len (n : Nat) (h : n ≤ 9223372036854775807) : (dg n).length ≤ 100 := by
 have := dg_len_le 4 n (by omega)
 omega

theorem mul_bound {x y : Int} (hx : 0 ≤ x ∧ x < 65536) (hy : 0 ≤ y ∧ y < 65536) : 0 ≤ x * y ∧ x * y ≤ 4294836225 := by
 refine ⟨Int.mul_nonneg hx.1 hy.1, ?_⟩
 have h1 : x * y ≤ 65535 * y := Int.mul_le_mul_of_nonneg_right (by omega) hy.1
 omega

theorem getD_set_ne {l : List Int} {k q : Nat} {x : Int} (h : k ≠ q) : (l.set k x).getD q 0 = l.getD q 0 := by
 simp only [List.getD, List.getElem?_set, if_neg h]

theorem mul_inner {out : List Int} {i j : Nat} {carry x y V W c : Int} (h : val out + carry * 65536 ^ (i + j) = V + x * W * 65536 ^ i) (hk : i + j < out.length)
  (hc : c = carry + (out.getD (i + j) 0 + x * y)) : val (out.set (i + j) (c % 65536)) + (c / 65536) * 65536 ^ (i + (j + 1)) = V + x * (W + 65536 ^ j * y) * 65536 ^ i := by
 rw [val_set _ _ _ hk]
 have e1 : (65536 : Int) ^ (i + (j + 1)) = 65536 ^ (i + j) * 65536 := by rw [← Nat.add_assoc, Int.pow_succ]
 have e2 : (65536 : Int) ^ (i + j) = 65536 ^ i * 65536 ^ j := by rw [Int.pow_add]
 have e3 : c = 65536 * (c / 65536) + c % 65536 := by omega
 rw [e1]
 generalize c / 65536 = q at *
 generalize c % 65536 = r at *
 generalize (65536 : Int) ^ (i + j) = p at *
 grind

theorem mul_outer {out : List Int} {i n : Nat} {carry x V W Z : Int} (h : val out + carry * 65536 ^ (i + n) = V + x * W * 65536 ^ i) (hV : V = Z * W) (hk : i + n < out.length)
  (h0 : out.getD (i + n) 0 = 0) : val (out.set (i + n) carry) = (Z + 65536 ^ i * x) * W := by
 rw [val_set _ _ _ hk, h0]
 grind

theorem dg_ne_nil {n : Nat} (h : 0 < n) : 0 < (dg n).length := by rw [dg_pos (by omega)]; simp

def up1 (k : Int) : Nat → List Int
 | 0 => []
 | n + 1 => up1 k n ++ [k + n]

theorem up1_len (k : Int) : ∀ n, (up1 k n).length = n
 | 0 => rfl
 | n + 1 => by simp [up1, up1_len k n]

theorem up1_get (k : Int) : ∀ (n j : Nat), j < n → (up1 k n).getD j 0 = k + j
 | 0, j, h => by omega
 | n + 1, j, h => by
  simp only [up1, List.getD]
  by_cases hj : j < n
  ·rw [List.getElem?_append_left (by rw [up1_len]; exact hj)]
   exact up1_get k n j hj
  ·have : j = n := by omega
   subst this
   rw [List.getElem?_append_right (by rw [up1_len]; omega), up1_len]
   simp

theorem ext_getD {l r : List Int} (h : l.length = r.length) (hg : ∀ j, j < l.length → l.getD j 0 = r.getD j 0) : l = r := by
 apply List.ext_getElem h
 intro j h1 h2
 have := hg j h1
 rwa [List.getD, List.getD, List.getElem?_eq_getElem h1, List.getElem?_eq_getElem h2] at this

theorem getD_set_eq {l : List Int} {k : Nat} {x : Int} (h : k < l.length) : (l.set k x).getD k 0 = x := by
 simp [List.getD, h]

end Go.Dg

/- Numbers as lists of digits: order, shifts: plain laws. -/
namespace Go.Dg

theorem val_lt_pow : ∀ {l : List Int}, Valid l → val l < 65536 ^ l.length
 | [], _ => by simp [val]
 | x :: r, h => by
  have h1 := val_lt_pow h.tail
  have h2 := h.head
  simp only [val, List.length_cons, Int.pow_succ]
  omega

theorem dg_len_lt {x y : Nat} (h : (dg x).length < (dg y).length) : x < y := by
 have h1 := val_lt_pow (valid_dg x)
 rw [val_dg] at h1
 have h2 : ¬ y < 65536 ^ (dg x).length := fun hy => by have := dg_len_le _ _ hy; omega
 have h3 : (x : Int) < ((65536 ^ (dg x).length : Nat) : Int) := by rw [Int.natCast_pow]; exact h1
 have h4 : x < 65536 ^ (dg x).length := by exact_mod_cast h3
 omega

theorem val_split (l : List Int) (i : Nat) (h : i < l.length) : val l = val (l.take i) + 65536 ^ i * (l.getD i 0 + 65536 * val (l.drop (i + 1))) := by
 have e : l = l.take i ++ (l.getD i 0 :: l.drop (i + 1)) := by
  rw [List.getD, List.getElem?_eq_getElem h]
  simp
 conv => lhs; rw [e, val_append]
 rw [List.length_take, Nat.min_eq_left (by omega)]
 rfl

theorem val_lt_at {a b : List Int} (ha : Valid a) (hb : Valid b) (hl : a.length = b.length) {i : Nat} (hi : i < a.length) (hd : a.drop (i + 1) = b.drop (i + 1)) (h : a.getD i 0 < b.getD i 0) : val a < val b := by
 rw [val_split a i hi, val_split b i (by omega), hd]
 have h1 := val_lt_pow (ha.take i)
 have h2 := val_nonneg (hb.take i)
 rw [List.length_take, Nat.min_eq_left (by omega)] at h1
 have h3 : (65536 : Int) ^ i * (a.getD i 0 + 65536 * val (b.drop (i + 1)) + 1) ≤ 65536 ^ i * (b.getD i 0 + 65536 * val (b.drop (i + 1))) := Int.mul_le_mul_of_nonneg_left (by omega) (Int.le_of_lt (pow_pos i))
 rw [Int.mul_add _ _ 1, Int.mul_one] at h3
 omega

theorem drop_eq_step {a b : List Int} {i : Nat} (hl : a.length = b.length) (hi : i < a.length) (hd : a.drop (i + 1) = b.drop (i + 1)) (h : a.getD i 0 = b.getD i 0) : a.drop i = b.drop i := by
 rw [List.getD, List.getD, List.getElem?_eq_getElem hi, List.getElem?_eq_getElem (by omega)] at h
 rw [List.drop_eq_getElem_cons hi, List.drop_eq_getElem_cons (by omega : i < b.length), hd]
 simp only [Option.getD_some] at h
 rw [h]

def cmpN (x y : Nat) : Int := if x < y then -1 else if y < x then 1 else 0

theorem pow2_le {b : Nat} (h : b < 16) : (1 : Int) ≤ 2 ^ b ∧ (2 : Int) ^ b ≤ 32768 := by
 have : b = 0 ∨ b = 1 ∨ b = 2 ∨ b = 3 ∨ b = 4 ∨ b = 5 ∨ b = 6 ∨ b = 7 ∨ b = 8 ∨ b = 9 ∨ b = 10 ∨ b = 11 ∨ b = 12 ∨ b = 13 ∨ b = 14 ∨ b = 15 := by omega
 rcases this with h | h | h | h | h | h | h | h | h | h | h | h | h | h | h | h <;> subst h <;> decide

theorem shift_bound {x p : Int} (hx : 0 ≤ x ∧ x < 65536) (hp : 1 ≤ p ∧ p ≤ 32768) : 0 ≤ x * p ∧ x * p ≤ 2147450880 := by
 refine ⟨Int.mul_nonneg hx.1 (by omega), ?_⟩
 have h1 : x * p ≤ 65535 * p := Int.mul_le_mul_of_nonneg_right (by omega) (by omega)
 omega

theorem up_step {out : List Int} {q i : Nat} {carry x p W c : Int} (h : val out + carry * 65536 ^ (q + i) = W * p * 65536 ^ q) (hl : out.length = q + i) (hc : c = carry + x * p) :
  val (out ++ [c % 65536]) + (c / 65536) * 65536 ^ (q + (i + 1)) = (W + 65536 ^ i * x) * p * 65536 ^ q := by
 rw [val_snoc, hl]
 have e1 : (65536 : Int) ^ (q + (i + 1)) = 65536 ^ (q + i) * 65536 := by rw [← Nat.add_assoc, Int.pow_succ]
 have e2 : (65536 : Int) ^ (q + i) = 65536 ^ q * 65536 ^ i := by rw [Int.pow_add]
 have e3 : c = 65536 * (c / 65536) + c % 65536 := by omega
 rw [e1]
 generalize c / 65536 = u at *
 generalize c % 65536 = r at *
 generalize (65536 : Int) ^ (q + i) = z at *
 grind

theorem pow_split (k : Nat) : (2 : Int) ^ (k % 16) * 65536 ^ (k / 16) = 2 ^ k := by
 have e : (65536 : Int) = 2 ^ 16 := by decide
 rw [e, ← Int.pow_mul, ← Int.pow_add]
 congr 1
 omega

def bl (n : Nat) : Nat := if n = 0 then 0 else bl (n / 2) + 1
 termination_by n

theorem bl_zero : bl 0 = 0 := by rw [bl]; simp
theorem bl_pos {n : Nat} (h : n ≠ 0) : bl n = bl (n / 2) + 1 := by rw [bl]; simp [h]

theorem bl_le : ∀ (k n : Nat), bl n ≤ k ↔ n < 2 ^ k
 | 0, n => by
  by_cases h : n = 0
  ·subst h; simp [bl_zero]
  ·rw [bl_pos h]; simp; omega
 | k + 1, n => by
  by_cases h : n = 0
  ·subst h; simp [bl_zero, Nat.two_pow_pos]
  ·rw [bl_pos h, Nat.add_le_add_iff_right, bl_le k (n / 2), Nat.pow_succ]; omega

theorem bl_down : ∀ (k n : Nat), 2 ^ k ≤ n → bl n = bl (n / 2 ^ k) + k
 | 0, n, _ => by simp
 | k + 1, n, h => by
  have h1 : 2 ^ (k + 1) = 2 * 2 ^ k := by rw [Nat.pow_succ]; omega
  have h2 := Nat.two_pow_pos k
  rw [bl_pos (by omega), bl_down k (n / 2) (by omega), h1, Nat.div_div_eq_div_mul]
  omega

theorem bl_top : ∀ (n : Nat), n ≠ 0 → (bl n : Int) = 16 * ((dg n).length - 1) + bl ((dg n).getD ((dg n).length - 1) 0).toNat := by
 intro n
 induction n using Nat.strongRecOn with
 | ind n ih =>
  intro h
  rw [dg_pos h]
  by_cases h1 : n < 65536
  ·have e1 : n / 65536 = 0 := by omega
   rw [e1, dg_zero]
   have e2 : n % 65536 = n := by omega
   rw [e2]
   simp
  ·have h2 := ih (n / 65536) (by omega) (by omega)
   have h3 : 0 < (dg (n / 65536)).length := dg_ne_nil (by omega)
   have h4 := bl_down 16 n (by omega)
   rw [show (2 : Nat) ^ 16 = 65536 by decide] at h4
   rw [h4]
   have e : (((n % 65536 : Nat) : Int) :: dg (n / 65536)).length - 1 = ((dg (n / 65536)).length - 1) + 1 := by simp; omega
   rw [e, List.getD_cons_succ]
   simp only [List.length_cons]
   omega

end Go.Dg

/- Dyadic numbers: an integer times a power of two, and the one form that each has. -/
namespace Go.Dg

def mk (z e : Int) : Dyadic := Dyadic.ofIntWithPrec z (-e)

theorem mk_rat (z e : Int) : (mk z e).toRat = z * 2 ^ e := by
 unfold mk; rw [Dyadic.toRat_ofIntWithPrec_eq_mul_two_pow, Int.neg_neg]

theorem two_ne : (2 : Rat) ≠ 0 := by decide
theorem two_pos (e : Int) : (0 : Rat) < 2 ^ e := Rat.zpow_pos (by decide)

theorem mk_add (a b e : Int) : mk a e + mk b e = mk (a + b) e := by
 apply Dyadic.toRat_inj.1
 rw [Dyadic.toRat_add, mk_rat, mk_rat, mk_rat, Rat.intCast_add, Rat.add_mul]

theorem mk_neg (a e : Int) : -mk a e = mk (-a) e := by
 apply Dyadic.toRat_inj.1
 rw [Dyadic.toRat_neg, mk_rat, mk_rat, Rat.intCast_neg, Rat.neg_mul]

theorem mk_mul (a b e f : Int) : mk a e * mk b f = mk (a * b) (e + f) := by
 apply Dyadic.toRat_inj.1
 rw [Dyadic.toRat_mul, mk_rat, mk_rat, mk_rat, Rat.intCast_mul, Rat.zpow_add two_ne]
 grind

theorem mk_shift (a e : Int) (k : Nat) : mk (a * 2 ^ k) (e - k) = mk a e := by
 apply Dyadic.toRat_inj.1
 rw [mk_rat, mk_rat, Rat.intCast_mul, Rat.intCast_pow]
 have h : (2 : Rat) ^ e = 2 ^ (k : Nat) * 2 ^ (e - k) := by
  rw [← Rat.zpow_natCast, ← Rat.zpow_add two_ne]
  congr 1; omega
 rw [h]
 have : ((2 : Int) : Rat) = 2 := rfl
 rw [this]
 grind

theorem mk_zero (e : Int) : mk 0 e = 0 := rfl

theorem mk_lt (a b e : Int) : mk a e < mk b e ↔ a < b := by
 rw [← Dyadic.toRat_lt_toRat_iff, mk_rat, mk_rat, Rat.mul_lt_mul_right (two_pos e)]
 exact Rat.intCast_lt_intCast

theorem mk_inj (a b e : Int) : mk a e = mk b e ↔ a = b := by
 constructor
 ·intro h
  rcases Int.lt_trichotomy a b with h1 | h1 | h1
  ·have := (mk_lt a b e).2 h1; rw [h] at this; exact absurd this (Std.lt_irrefl)
  ·exact h1
  ·have := (mk_lt b a e).2 h1; rw [h] at this; exact absurd this (Std.lt_irrefl)
 ·rintro rfl; rfl

def cZ : Dyadic → Int
 | .zero => 0
 | .ofOdd n _ _ => n
def cE : Dyadic → Int
 | .zero => 0
 | .ofOdd _ k _ => -k

theorem mk_canon (d : Dyadic) : mk (cZ d) (cE d) = d := by
 cases d with
 | zero => rfl
 | ofOdd n k h => unfold mk cZ cE; rw [Int.neg_neg]; exact Dyadic.ofOdd_eq_ofIntWithPrec.symm

theorem cZ_zero : cZ 0 = 0 := rfl
theorem cE_zero : cE 0 = 0 := rfl

theorem cZ_odd {d : Dyadic} (h : d ≠ 0) : cZ d % 2 = 1 := by
 cases d with
 | zero => exact absurd rfl h
 | ofOdd n k hn => exact hn

theorem cZ_eq_zero {d : Dyadic} : cZ d = 0 ↔ d = 0 := by
 constructor
 ·intro h
  refine Classical.byContradiction fun hd => ?_
  have := cZ_odd hd
  omega
 ·rintro rfl; rfl

theorem canon_odd {z e : Int} (h : z % 2 = 1) : cZ (mk z e) = z ∧ cE (mk z e) = e := by
 have : mk z e = .ofOdd z (-e) h := by unfold mk; exact Dyadic.ofOdd_eq_ofIntWithPrec.symm
 rw [this]
 exact ⟨rfl, Int.neg_neg e⟩

theorem canon_mk {z o e : Int} {k : Nat} (ho : o % 2 = 1) (hz : z = o * 2 ^ k) : cZ (mk z e) = o ∧ cE (mk z e) = e + k := by
 have h : mk z e = mk o (e + k) := by
  rw [hz, ← mk_shift o (e + k) k]
  congr 1; omega
 rw [h]
 exact canon_odd ho

end Go.Dg

/- Loops and calls, where the conditions keep them apart. -/
namespace Go.Pe
open Go Go.RowKit

theorem min_std {s : Int} (h1 : s ≤ 64) : Min.min s.toNat IntKind.i64.bits = s.toNat := Nat.min_eq_left (by show s.toNat ≤ 64; omega)
theorem fdiv_two (a : Int) (n : Nat) : a.fdiv (2 ^ n) = a / 2 ^ n := Int.fdiv_eq_ediv_of_nonneg _ (Int.le_of_lt (Int.pow_pos (by decide)))

def dsts : Code → List Nat
 | .region _ ops _ => ops.toList.filterMap (·.dst)
 | .seq a b => dsts a ++ dsts b
 | .cond _ a b => dsts a ++ dsts b
 | .block _ c => dsts c
 | .loop c => dsts c
 | _ => []

def notJunk : FV → Bool
 | .junk => false
 | _ => true

def isRow (ow : List (Nat × Blk)) : FV → Bool
 | .own i => ow.any fun x => x.1 == i
 | .relt i _ _ _ => ow.any fun x => x.1 == i
 | _ => false

def keepOf (c : Code) (st : St) (ch : List (Nat × FV)) (ow : List (Nat × Blk)) : List Nat :=
 ((List.range st.nt).filter fun t => !(dsts c).contains t && (ch.all fun x => !(x.1 == t)) && notJunk (st.get t) && !isRow ow (st.get t)) ++ ch.map (·.1)

def lookD (ch : List (Nat × FV)) (t : Nat) (x : FV) : FV :=
 match ch with
 | [] => x
 | (k, y) :: r => if t = k then y else lookD r t x

def lookB (ow : List (Nat × Blk)) (n : Nat) (b : Blk) : Blk :=
 match ow with
 | [] => b
 | (k, y) :: r => if n = k then y else lookB r n b

def patchO (ow : List (Nat × Blk)) : Nat → List Blk → List Blk
 | _, [] => []
 | n, b :: r => lookB ow n b :: patchO ow (n + 1) r

def St.patch (st : St) (ch : List (Nat × FV)) (ow : List (Nat × Blk)) : St :=
 { st with slots := st.slots.map fun x => (x.1, lookD ch x.1 x.2), own := patchO ow 0 st.own }

def St.normD (st : St) (keep : List Nat) (k : Nat) : St := (st.norm keep k).getD st

theorem loopT {A : AR} (hA : A = AR.std) {c : Code} {body : (Ex → St → Prop) → St → Prop} {Q : Ex → St → Prop} {st : St} (ls : List Lift) {ι : Type} (ch : ι → List (Nat × FV)) (ow : ι → List (Nat × Blk)) (μ : ι → Nat) (Inv : ι → Prop) (i0 : ι)
  (h0 : (((st.lifts ls).norm (keepOf c (st.lifts ls) (ch i0) (ow i0)) (st.lifts ls).own.length).isSome) = true)
  (h1 : ((st.lifts ls).normD (keepOf c (st.lifts ls) (ch i0) (ow i0)) (st.lifts ls).own.length).patch (ch i0) (ow i0) = (st.lifts ls).normD (keepOf c (st.lifts ls) (ch i0) (ow i0)) (st.lifts ls).own.length)
  (hL : st.liftsOk ls) (hi : Inv i0)
  (h : ∀ i, Inv i → body (fun e s => match e with
    | .normal => ∃ j : { i : ι // Inv i }, s.norm (keepOf c (st.lifts ls) (ch i0) (ow i0)) (st.lifts ls).own.length = some (((st.lifts ls).normD (keepOf c (st.lifts ls) (ch i0) (ow i0)) (st.lifts ls).own.length).patch (ch j.1) (ow j.1)) ∧ μ j.1 < μ i
    | e => Q e s) (((st.lifts ls).normD (keepOf c (st.lifts ls) (ch i0) (ow i0)) (st.lifts ls).own.length).patch (ch i) (ow i))) : A.loop c body Q st := by
 subst hA
 refine ⟨ls, keepOf c (st.lifts ls) (ch i0) (ow i0), (st.lifts ls).own.length, { i : ι // Inv i }, fun i => ((st.lifts ls).normD (keepOf c (st.lifts ls) (ch i0) (ow i0)) (st.lifts ls).own.length).patch (ch i.1) (ow i.1), fun i => μ i.1, ⟨i0, hi⟩, [], hL, ?_, ?_⟩
 ·show _ = some (St.patch _ (ch i0) (ow i0))
  rw [h1]
  unfold St.normD
  cases hn : (st.lifts ls).norm (keepOf c (st.lifts ls) (ch i0) (ow i0)) (st.lifts ls).own.length with
  | none => rw [hn] at h0; cases h0
  | some s => rfl
 ·rintro ⟨i, hi⟩
  exact h i hi

def noTree : List Lift → Bool
 | [] => true
 | .tree _ _ :: _ => false
 | _ :: r => noTree r

theorem noTree_ok : ∀ (ls : List Lift) (st : St), noTree ls = true → st.liftsOk ls
 | [], _, _ => trivial
 | l :: r, st, h => by
  cases l with
  | tree i et => cases h
  | _ => exact ⟨trivial, noTree_ok r _ h⟩

theorem loopI {A : AR} (hA : A = AR.std) {c : Code} {body : (Ex → St → Prop) → St → Prop} {Q : Ex → St → Prop} {st : St} (ls : List Lift) {ι : Type} (ch : ι → List (Nat × FV)) (ow : ι → List (Nat × Blk)) (μ : ι → Nat) (Inv : ι → Prop) (i0 : ι)
  (h0 : (((st.lifts ls).norm (keepOf c (st.lifts ls) (ch i0) (ow i0)) (st.lifts ls).own.length).isSome) = true)
  (h1 : ((st.lifts ls).normD (keepOf c (st.lifts ls) (ch i0) (ow i0)) (st.lifts ls).own.length).patch (ch i0) (ow i0) = (st.lifts ls).normD (keepOf c (st.lifts ls) (ch i0) (ow i0)) (st.lifts ls).own.length)
  (hi : Inv i0)
  (h : ∀ i, Inv i → body (fun e s => match e with
    | .normal => ∃ j : { i : ι // Inv i }, s.norm (keepOf c (st.lifts ls) (ch i0) (ow i0)) (st.lifts ls).own.length = some (((st.lifts ls).normD (keepOf c (st.lifts ls) (ch i0) (ow i0)) (st.lifts ls).own.length).patch (ch j.1) (ow j.1)) ∧ μ j.1 < μ i
    | e => Q e s) (((st.lifts ls).normD (keepOf c (st.lifts ls) (ch i0) (ow i0)) (st.lifts ls).own.length).patch (ch i) (ow i))) (hT : noTree ls = true := by rfl) : A.loop c body Q st := by
 exact loopT hA ls ch ow μ Inv i0 h0 h1 (noTree_ok ls st hT) hi h

theorem callS {A : AR} (hA : A = AR.std) {P : Program} {gl : List (Nat × Obj)} {st : St} {fid : FuncId} {args : List FV} {as : List PV} {R : PV → Prop} {K : FV → St → Prop}
  (hs : snapL st.own (idsL st.own args) args = some as) (h : FS P gl fid as R) (hk : ∀ r, R r → K (.pv r) (st.retire (idsL st.own args))) : A.call P gl st fid args K := by
 subst hA; exact .inl ⟨as, R, hs, h, hk⟩

theorem callB {A : AR} (hA : A = AR.std) {P : Program} {gl : List (Nat × Obj)} {st : St} {fid : FuncId} {args : List FV} {as : List PV} {R : PV → Prop} {K : FV → St → Prop}
  (hs : snapL st.own (idsL st.own args) args = some as) (h : FS P gl fid as R) (hk : ∀ r, R r → (∃ v, r = .val v) ∧ K (.pv r) st) : A.call P gl st fid args K := by
 subst hA; exact .inr (.inl ⟨as, R, hs, h, hk⟩)

theorem callN {A : AR} (hA : A = AR.std) {P : Program} {gl : List (Nat × Obj)} {st : St} {fid : FuncId} {args : List FV} {as : List PV} {R : List Blk → FV → Prop} {K : FV → St → Prop}
  (hs : snapL st.own (idsL st.own args) args = some as) (h : FN P gl fid as R)
  (hk : ∀ own' r, R own' r → (own'.all plainB) = true ∧ K (backR [] st.own.length r) { st with own := st.own ++ own' }) : A.call P gl st fid args K := by
 subst hA; exact .inr (.inr (.inl ⟨as, R, hs, h, hk⟩))

theorem callX {A : AR} (hA : A = AR.std) {P : Program} {gl : List (Nat × Obj)} {st : St} {fid : FuncId} {args : List FV} (ds : List Nat) {bs : List Blk} {as : List FV} {R : List Blk → FV → Prop} {K : FV → St → Prop}
  (hd : ds.Nodup) (hb : mapO (fun i => st.own[i]?) ds = some bs) (hl : (bs.all fun b => b.live && plainB b) = true) (ha : mapO (renR ds) args = some as) (h : FX P gl fid bs as R)
  (hk : ∀ own' r, R own' r → (own'.all plainB) = true ∧ K (backR ds st.own.length r) { st with own := setAll ds own' st.own ++ own'.drop ds.length }) : A.call P gl st fid args K := by
 subst hA; exact .inr (.inr (.inr (.inr ⟨ds, bs, as, R, hd, hb, hl, ha, h, hk⟩)))

theorem callT {A : AR} (hA : A = AR.std) {P : Program} {gl : List (Nat × Obj)} {st : St} {fid : FuncId} {args : List FV} {i s k j : Nat} {e et : TypeId} {els els' l l' : List PV} {v : Value} {as : List FV} {K : FV → St → Prop}
  (hf : findSub args = some (i, s, k, j)) (hi : st.own[i]? = some (.tree e s et els)) (hj : j < s) (ha : mapO (renSub i s k j) args = some as)
  (hk : k < els.length) (hc : cellAt (els.getD k (.val (.bool false))) j = .lst l) (hne : l ≠ []) (hv : valsL l') (he : els' = els.set k (setCells (els.getD k (.val (.bool false))) j [.lst l']))
  (h : FX P gl fid [.row et 1 l] as (fun own r => own = [.row et 1 l'] ∧ r = .pv (.val v)))
  (hK : K (.pv (.val v)) (st.setOwn i (.tree e s et els'))) : A.call P gl st fid args K := by
 subst hA; subst he
 refine .inr (.inr (.inr (.inl ⟨i, s, k, j, e, et, els, l, as, _, hf, hi, hk, hj, hc, hne, ha, h, ?_⟩)))
 rintro own' r ⟨rfl, rfl⟩
 exact ⟨l', v, rfl, rfl, hv, hK⟩

section
variable {A : AR} (hA : A = AR.std)
include hA
theorem lei_of {a b : Int} (h : a ≤ b) : A.lei a b := by subst hA; exact h
theorem lti_of {a b : Int} (h : a < b) : A.lti a b := by subst hA; exact h
theorem ltn_of {a b : Nat} (h : a < b) : A.ltn a b := by subst hA; exact h
theorem nez_of {a : Int} (h : a ≠ 0) : A.nez a := by subst hA; exact h
theorem okA_of {l : List PV} {s : Nat} (h : ∀ p ∈ l, okEl s p) : A.okA l s := by subst hA; exact h
theorem allC_of {l : List PV} {s : Nat} (h : ∀ p ∈ l, p.cells.length = s) : A.allC l s := by subst hA; exact h
theorem cap_of {l r : List PV} (h : l.length + r.length ≤ 1000000000) : A.cap l r := by subst hA; exact h
theorem len_le_of {n : Nat} {p : PV} (h : n ≤ p.cells.length) : A.len_le n p := by subst hA; exact h
theorem len_eq_of {n : Nat} {p : PV} (h : p.cells.length = n) : A.len_eq p n := by subst hA; exact h
theorem peq_of {ag : Bool} {o s : Nat} {p q : PV} (h : partP ag o s p.cells = q) : A.peq ag o s p q := by subst hA; exact h
end
theorem valc_of {A : AR} (hA : A = AR.std) {p : PV} {o n : Nat} (h : valCells p o n) : A.valc p o n := by subst hA; exact h
theorem vals_of {A : AR} (hA : A = AR.std) {l : List PV} (h : valsL l) : A.vals l := by subst hA; exact h
theorem cel_of {A : AR} (hA : A = AR.std) {p q : PV} {j : Nat} (h : cellAt p j = q) : A.cel p j q := by subst hA; exact h
theorem isl_of {A : AR} (hA : A = AR.std) {p : PV} {j : Nat} (h : ∃ l, cellAt p j = .lst l) : A.isl p j := by subst hA; exact h
theorem lfA_of {A : AR} (hA : A = AR.std) {l : List PV} (h : ∀ p ∈ l, (p.cells.all leafy) = true) : A.lfA l := by subst hA; exact h

def stripT : List Lift → List Lift
 | [] => []
 | .tree _ _ :: r => stripT r
 | .slot t e s :: r => .slot t e s :: stripT r
 | .cell i j e s :: r => .cell i j e s :: stripT r
 | .move i :: r => .move i :: stripT r
 | .nilc i j :: r => .nilc i j :: stripT r
 | .nils t :: r => .nils t :: stripT r

theorem stripT_no : ∀ ls : List Lift, noTree (stripT ls) = true
 | [] => rfl
 | l :: r => by cases l <;> simp only [stripT, noTree] <;> exact stripT_no r

theorem loopE {A : AR} (hA : A = AR.std) {c : Code} {body : (Ex → St → Prop) → St → Prop} {Q : Ex → St → Prop} {st : St}
  (h : ∃ (ls : List Lift) (keep : List Nat) (k : Nat) (ι : Type) (f : ι → St) (μ : ι → Nat) (i0 : ι), (st.lifts (stripT ls)).norm keep k = some (f i0) ∧
   ∀ i, body (fun e s => match e with
    | .normal => ∃ j, s.norm keep k = some (f j) ∧ μ j < μ i
    | e => Q e s) (f i)) : A.loop c body Q st := by
 subst hA
 obtain ⟨ls, keep, k, ι, f, μ, i0, h1, h2⟩ := h
 exact ⟨stripT ls, keep, k, ι, f, μ, i0, [], noTree_ok _ st (stripT_no ls), h1, h2⟩

end Go.Pe

/- Steps of loops over digits: plain laws. -/
namespace Go.Dg

theorem val_take_succ0 (l : List Int) (k : Nat) : val (l.take (k + 1)) = val (l.take k) + 65536 ^ k * l.getD k 0 := by
 by_cases h : k < l.length
 ·exact val_take_succ h
 ·rw [List.take_of_length_le (by omega), List.take_of_length_le (by omega), List.getD, List.getElem?_eq_none (by omega)]
  simp

theorem Valid.snoc {o : List Int} {x : Int} (h : Valid o) (h0 : 0 ≤ x) (h1 : x < 65536) : Valid (o ++ [x]) := h.append (Valid.one h0 h1)

theorem getD_ge {l : List Int} {k : Nat} (h : l.length ≤ k) : l.getD k 0 = 0 := by
 rw [List.getD, List.getElem?_eq_none h]; rfl

theorem plus_step {o : List Int} {i : Nat} {c s x : Int} (h : val o + c * 65536 ^ i = s) (hl : o.length = i) :
  val (o ++ [(c + x) % 65536]) + (c + x) / 65536 * 65536 ^ (i + 1) = s + 65536 ^ i * x := by
 rw [val_snoc, hl]
 have := Int.emod_add_mul_ediv (c + x) 65536
 have e : (65536 : Int) ^ (i + 1) = 65536 ^ i * 65536 := Int.pow_succ _ _
 grind

theorem minus_step {o : List Int} {i : Nat} {w s x d w' : Int} (h : val o - w * 65536 ^ i = s) (hl : o.length = i) (hd : d - 65536 * w' = x - w) :
  val (o ++ [d]) - w' * 65536 ^ (i + 1) = s + 65536 ^ i * x := by
 rw [val_snoc, hl]
 have e : (65536 : Int) ^ (i + 1) = 65536 ^ i * 65536 := Int.pow_succ _ _
 grind

def plusI (a b : List Int) (i c : Int) (o : List Int) : Prop :=
 0 ≤ i ∧ i ≤ a.length + b.length ∧ o.length = i.toNat ∧ Valid o ∧ 0 ≤ c ∧ c ≤ 1 ∧ val o + c * 65536 ^ i.toNat = val (a.take i.toNat) + val (b.take i.toNat)

theorem plusI_zero (a b : List Int) : plusI a b 0 0 [] := ⟨Int.le_refl _, by omega, rfl, Valid.nil, Int.le_refl _, by decide, by simp [val]⟩

theorem plusI_next {a b o : List Int} {i c : Int} (ha : Valid a) (hb : Valid b) (h : plusI a b i c o) {s : Int} (hs : s = c + a.getD i.toNat 0 + b.getD i.toNat 0) (hi : i < a.length + b.length) :
  plusI a b (i + 1) (s / 65536) (o ++ [s % 65536]) := by
 obtain ⟨hi0, hi1, hol, hov, hc0, hc1, hval⟩ := h
 have hx := ha.get i.toNat
 have hy := hb.get i.toNat
 have h1 := plus_step (x := a.getD i.toNat 0 + b.getD i.toNat 0) hval hol
 rw [← Int.add_assoc, ← hs] at h1
 have e2 : (i + 1).toNat = i.toNat + 1 := by omega
 refine ⟨by omega, by omega, by rw [e2]; simp [hol], hov.snoc (by omega) (by omega), by omega, by omega, ?_⟩
 rw [e2, val_take_succ0, val_take_succ0]
 grind

theorem plusI_exit {a b o : List Int} {i c : Int} {n : Nat} (h : plusI a b i c o) (h1 : a.length ≤ i) (h2 : b.length ≤ i) (hv : val a + val b = n) : trimL (o ++ [c]) = dg n := by
 obtain ⟨hi0, hi1, hol, hov, hc0, hc1, hval⟩ := h
 rw [trim_dg (hov.snoc hc0 (by omega)), val_snoc]
 congr 1
 rw [List.take_of_length_le (by omega), List.take_of_length_le (by omega)] at hval
 rw [hol, Int.mul_comm, hval, hv]
 rfl

def minusI (a b : List Int) (i w : Int) (o : List Int) : Prop :=
 0 ≤ i ∧ i ≤ a.length ∧ o.length = i.toNat ∧ Valid o ∧ 0 ≤ w ∧ w ≤ 1 ∧ val o - w * 65536 ^ i.toNat = val (a.take i.toNat) - val (b.take i.toNat)

theorem minusI_zero (a b : List Int) : minusI a b 0 0 [] := ⟨Int.le_refl _, by omega, rfl, Valid.nil, Int.le_refl _, by decide, by simp [val]⟩

theorem minusI_next {a b o : List Int} {i w : Int} (ha : Valid a) (hb : Valid b) (h : minusI a b i w o) {x d w' : Int} (hx : x = a.getD i.toNat 0 - w - b.getD i.toNat 0) (hi : i < a.length)
  (hd : (0 ≤ x ∧ d = x ∧ w' = 0) ∨ (x < 0 ∧ d = x + 65536 ∧ w' = 1)) :
  minusI a b (i + 1) w' (o ++ [d]) := by
 obtain ⟨hi0, hi1, hol, hov, hc0, hc1, hval⟩ := h
 have h1 := ha.get i.toNat
 have h2 := hb.get i.toNat
 have h3 := minus_step (x := a.getD i.toNat 0 - b.getD i.toNat 0) (d := d) (w' := w') hval hol (by omega)
 have e2 : (i + 1).toNat = i.toNat + 1 := by omega
 refine ⟨by omega, by omega, by rw [e2]; simp [hol], hov.snoc (by omega) (by omega), by omega, by omega, ?_⟩
 rw [e2, val_take_succ0, val_take_succ0]
 grind

theorem minusI_exit {a b o : List Int} {i w : Int} {n : Nat} (h : minusI a b i w o) (h1 : a.length ≤ i) (h2 : b.length ≤ i) (hv : val a - val b = n) : trimL o = dg n := by
 obtain ⟨hi0, hi1, hol, hov, hc0, hc1, hval⟩ := h
 rw [trim_dg hov]
 congr 1
 rw [List.take_of_length_le (by omega), List.take_of_length_le (by omega)] at hval
 have hlt := val_lt_pow hov
 have h0 := val_nonneg hov
 have hp := pow_pos i.toNat
 have : w = 0 := by
  refine Classical.byContradiction fun hw => ?_
  have : w = 1 := by omega
  subst this
  rw [hol] at hlt
  omega
 subst this
 omega

end Go.Dg

/- Digits: shifts, bits, quotients by a digit: plain laws. -/
namespace Go.Dg

theorem dg_getD : ∀ (j n : Nat), (dg n).getD j 0 = ((n / 65536 ^ j % 65536 : Nat) : Int)
 | 0, n => by
  by_cases h : n = 0
  ·subst h; simp [dg_zero]
  ·rw [dg_pos h]; simp
 | j + 1, n => by
  by_cases h : n = 0
  ·subst h; simp [dg_zero]
  ·rw [dg_pos h, List.getD_cons_succ, dg_getD j (n / 65536), Nat.div_div_eq_div_mul, Nat.pow_succ, Nat.mul_comm 65536]

theorem val_drop {l : List Int} {i : Nat} (h : i < l.length) : val (l.drop i) = l.getD i 0 + 65536 * val (l.drop (i + 1)) := by
 rw [List.drop_eq_getElem_cons h]
 simp only [val, List.getD, List.getElem?_eq_getElem h, Option.getD_some]

theorem val_drop_ge {l : List Int} {i : Nat} (h : l.length ≤ i) : val (l.drop i) = 0 := by
 rw [List.drop_of_length_le h]; rfl

theorem val_drop0 (l : List Int) (i : Nat) : val (l.drop i) = l.getD i 0 + 65536 * val (l.drop (i + 1)) := by
 by_cases h : i < l.length
 ·exact val_drop h
 ·rw [val_drop_ge (by omega), val_drop_ge (by omega), getD_ge (by omega)]; rfl

theorem drop_set {l : List Int} {i : Nat} {x : Int} (h : i < l.length) : (l.set i x).drop i = x :: l.drop (i + 1) := by
 rw [List.drop_eq_getElem_cons (by simpa using h)]
 simp [List.drop_set]

def dsI (a : List Int) (d i rest : Int) (o : List Int) : Prop :=
 -1 ≤ i ∧ i < a.length ∧ o.length = a.length ∧ Valid o ∧ rest = val (a.drop (i + 1).toNat) % d ∧ val (o.drop (i + 1).toNat) = val (a.drop (i + 1).toNat) / d

theorem dsI_zero (a : List Int) {d : Int} (hd : 0 < d) : dsI a d (a.length - 1) 0 (List.replicate a.length 0) := by
 have e : ((a.length : Int) - 1 + 1).toNat = a.length := by omega
 refine ⟨by omega, by omega, by simp, Valid.rep _, ?_, ?_⟩
 ·rw [e, List.drop_length]; simp [val]
 ·rw [e, List.drop_length]; simp [val]

theorem dsI_next {a o : List Int} {d i rest x : Int} (ha : Valid a) (hd0 : 0 < d) (hd1 : d < 65536) (h : dsI a d i rest o) (hi : 0 ≤ i) (hx : x = rest * 65536 + a.getD i.toNat 0) :
  dsI a d (i - 1) (x % d) (o.set i.toNat (x / d)) ∧ 0 ≤ x ∧ x < 4294967296 := by
 obtain ⟨h0, h1, h2, h3, h4, h5⟩ := h
 have hg := ha.get i.toNat
 have hr0 : 0 ≤ rest := by rw [h4]; exact Int.emod_nonneg _ (by omega)
 have hr1 : rest < d := by rw [h4]; exact Int.emod_lt_of_pos _ hd0
 have e1 : (i + 1).toNat = i.toNat + 1 := by omega
 have e2 : (i - 1 + 1).toNat = i.toNat := by omega
 rw [e1] at h4 h5
 have hx0 : 0 ≤ x := by omega
 have hq : x / d < 65536 := by
  apply Int.ediv_lt_of_lt_mul hd0
  have : rest * 65536 + 65536 ≤ d * 65536 := by omega
  omega
 have hda := val_drop (l := a) (i := i.toNat) (by omega)
 have key : val (a.drop i.toNat) = x + d * (65536 * (val (a.drop (i.toNat + 1)) / d)) := by
  have := Int.emod_add_mul_ediv (val (a.drop (i.toNat + 1))) d
  rw [hda, hx, h4]
  grind
 refine ⟨⟨by omega, by omega, by simp [h2], h3.set (Int.ediv_nonneg hx0 (by omega)) hq, ?_, ?_⟩, hx0, by omega⟩
 ·rw [e2, key, Int.add_mul_emod_self_left]
 ·rw [e2, drop_set (by omega), key, Int.add_mul_ediv_left _ _ (by omega)]
  simp only [val]
  rw [h5]

theorem dsI_exit {a o : List Int} {d i rest : Int} {n e : Nat} (h : dsI a d i rest o) (hi : i < 0) (hv : val a = n) (he : d = e) : trimL o = dg (n / e) ∧ rest = ((n % e : Nat) : Int) := by
 obtain ⟨h0, h1, h2, h3, h4, h5⟩ := h
 have e0 : (i + 1).toNat = 0 := by omega
 rw [e0, List.drop_zero] at h4 h5
 rw [List.drop_zero] at h5
 rw [trim_dg h3, h5, h4, hv, he]
 constructor
 ·congr 1
 ·rfl

theorem down_step {s : Nat} (hs : s < 16) {d0 d1 W : Int} (h0 : 0 ≤ d0) (h1 : d0 < 65536) (h2 : 0 ≤ d1) (h3 : d1 < 65536) :
  (d0 + 65536 * (d1 + 65536 * W)) / 2 ^ s = (d0 + d1 * 65536) / 2 ^ s % 65536 + 65536 * ((d1 + 65536 * W) / 2 ^ s) := by
 have : s = 0 ∨ s = 1 ∨ s = 2 ∨ s = 3 ∨ s = 4 ∨ s = 5 ∨ s = 6 ∨ s = 7 ∨ s = 8 ∨ s = 9 ∨ s = 10 ∨ s = 11 ∨ s = 12 ∨ s = 13 ∨ s = 14 ∨ s = 15 := by omega
 rcases this with rfl | rfl | rfl | rfl | rfl | rfl | rfl | rfl | rfl | rfl | rfl | rfl | rfl | rfl | rfl | rfl <;> simp only [Int.reducePow] <;> omega

def downI (b : List Int) (s : Nat) (i : Int) (o : List Int) : Prop :=
 0 ≤ i ∧ i ≤ b.length ∧ o.length = i.toNat ∧ Valid o ∧ val o + 65536 ^ i.toNat * (val (b.drop i.toNat) / 2 ^ s) = val b / 2 ^ s

theorem downI_zero (b : List Int) (s : Nat) : downI b s 0 [] := ⟨Int.le_refl _, by omega, rfl, Valid.nil, by simp [val]⟩

theorem downI_next {b o : List Int} {s : Nat} {i : Int} (hb : Valid b) (hs : s < 16) (h : downI b s i o) (hi : i < b.length) :
  downI b s (i + 1) (o ++ [(b.getD i.toNat 0 + b.getD (i + 1).toNat 0 * 65536) / 2 ^ s % 65536]) := by
 obtain ⟨h0, h1, h2, h3, h4⟩ := h
 have e2 : (i + 1).toNat = i.toNat + 1 := by omega
 have g0 := hb.get i.toNat
 have g1 := hb.get (i.toNat + 1)
 refine ⟨by omega, by omega, by rw [e2]; simp [h2], h3.snoc (Int.emod_nonneg _ (by decide)) (Int.emod_lt_of_pos _ (by decide)), ?_⟩
 have d0 := val_drop0 b i.toNat
 have d1 := val_drop0 b (i.toNat + 1)
 rw [d0, d1, down_step hs g0.1 g0.2 g1.1 g1.2, ← d1] at h4
 rw [e2, val_snoc, h2, ← h4, Int.pow_succ]
 grind

theorem downI_exit {b o : List Int} {s : Nat} {i : Int} {n : Nat} (h : downI b s i o) (hi : b.length ≤ i) (hv : val b = n) : trimL o = dg (n / 2 ^ s) := by
 obtain ⟨h0, h1, h2, h3, h4⟩ := h
 rw [val_drop_ge (by omega)] at h4
 rw [trim_dg h3]
 congr 1
 have e : (n : Int) / 2 ^ s = ((n / 2 ^ s : Nat) : Int) := by
  rw [Int.natCast_ediv, Int.natCast_pow]; rfl
 rw [hv, e] at h4
 simp only [Int.zero_ediv, Int.mul_zero, Int.add_zero] at h4
 rw [h4, Int.toNat_natCast]

theorem val_drop_div {a : List Int} (ha : Valid a) (q : Nat) : val (a.drop q) = val a / 65536 ^ q := by
 have h := val_append (a.take q) (a.drop q)
 rw [List.take_append_drop] at h
 have hp := pow_pos q
 by_cases hq : q ≤ a.length
 ·have hl : (a.take q).length = q := by simp; omega
  rw [hl] at h
  have h1 := val_nonneg (ha.take q)
  have h2 := val_lt_pow (ha.take q)
  rw [hl] at h2
  rw [h, Int.add_mul_ediv_left _ _ (by omega), Int.ediv_eq_zero_of_lt h1 h2]
  omega
 ·rw [val_drop_ge (by omega)]
  have h1 := val_nonneg ha
  have h2 := val_lt_pow ha
  have h3 : ((65536 ^ a.length : Nat) : Int) ≤ ((65536 ^ q : Nat) : Int) := Int.ofNat_le.2 (Nat.pow_le_pow_right (by decide) (by omega))
  rw [Int.natCast_pow, Int.natCast_pow] at h3
  have h4 : ((65536 : Nat) : Int) = 65536 := rfl
  rw [h4] at h3
  rw [Int.ediv_eq_zero_of_lt h1 (by omega)]

theorem pow_16 (k : Nat) : 65536 ^ (k / 16) * 2 ^ (k % 16) = 2 ^ k := by
 have : (65536 : Nat) = 2 ^ 16 := rfl
 rw [this, ← Nat.pow_mul, ← Nat.pow_add]
 congr 1
 omega

theorem down_val (n k : Nat) : n / 65536 ^ (k / 16) / 2 ^ (k % 16) = n / 2 ^ k := by
 rw [Nat.div_div_eq_div_mul, pow_16]

theorem bit_val (n i : Nat) : n / 65536 ^ (i / 16) % 65536 / 2 ^ (i % 16) % 2 = n / 2 ^ i % 2 := by
 rw [← down_val n i]
 generalize n / 65536 ^ (i / 16) = y
 have hs : i % 16 < 16 := Nat.mod_lt _ (by decide)
 generalize i % 16 = s at hs
 have : s = 0 ∨ s = 1 ∨ s = 2 ∨ s = 3 ∨ s = 4 ∨ s = 5 ∨ s = 6 ∨ s = 7 ∨ s = 8 ∨ s = 9 ∨ s = 10 ∨ s = 11 ∨ s = 12 ∨ s = 13 ∨ s = 14 ∨ s = 15 := by omega
 rcases this with rfl | rfl | rfl | rfl | rfl | rfl | rfl | rfl | rfl | rfl | rfl | rfl | rfl | rfl | rfl | rfl <;> simp only [Nat.reducePow] <;> omega

end Go.Dg

/- Sums, orders, trailing zeros of numbers in digits: plain laws. -/
namespace Go.Dg

def plusJ (a b : List Int) (i c : Int) (o : List Int) : Prop :=
 0 ≤ i ∧ i ≤ a.length + b.length + 1 ∧ (a.length < i → b.length < i → c = 0) ∧ o.length = i.toNat ∧ Valid o ∧ 0 ≤ c ∧ c ≤ 1 ∧ val o + c * 65536 ^ i.toNat = val (a.take i.toNat) + val (b.take i.toNat)

theorem plusJ_zero (a b : List Int) : plusJ a b 0 0 [] := ⟨Int.le_refl _, by omega, fun _ _ => rfl, rfl, Valid.nil, Int.le_refl _, by decide, by simp [val]⟩

theorem plusJ_next {a b o : List Int} {i c : Int} (ha : Valid a) (hb : Valid b) (h : plusJ a b i c o) {s : Int} (hs : s = c + a.getD i.toNat 0 + b.getD i.toNat 0) (hi : i < a.length ∨ i < b.length ∨ 0 < c) :
  plusJ a b (i + 1) (s / 65536) (o ++ [s % 65536]) := by
 obtain ⟨hi0, hi1, hiz, hol, hov, hc0, hc1, hval⟩ := h
 have hx := ha.get i.toNat
 have hy := hb.get i.toNat
 have h1 := plus_step (x := a.getD i.toNat 0 + b.getD i.toNat 0) hval hol
 rw [← Int.add_assoc, ← hs] at h1
 have e2 : (i + 1).toNat = i.toNat + 1 := by omega
 refine ⟨by omega, by omega, fun h3 h4 => ?_, by rw [e2]; simp [hol], hov.snoc (by omega) (by omega), by omega, by omega, ?_⟩
 ·rw [getD_ge (l := a) (by omega), getD_ge (l := b) (by omega)] at hs
  omega
 rw [e2, val_take_succ0, val_take_succ0]
 grind

theorem plusJ_exit {a b o : List Int} {i c : Int} {n : Nat} (h : plusJ a b i c o) (h1 : a.length ≤ i) (h2 : b.length ≤ i) (h3 : c ≤ 0) (hv : val a + val b = n) : trimL o = dg n := by
 obtain ⟨hi0, hi1, hiz, hol, hov, hc0, hc1, hval⟩ := h
 have hc : c = 0 := by omega
 rw [trim_dg hov]
 congr 1
 rw [List.take_of_length_le (by omega), List.take_of_length_le (by omega), hc, Int.zero_mul, Int.add_zero, hv] at hval
 rw [hval]; rfl

def cmpI (a b : List Int) (i : Int) : Prop := -1 ≤ i ∧ i < a.length ∧ a.drop (i + 1).toNat = b.drop (i + 1).toNat

theorem cmpI_zero {a b : List Int} (h : a.length = b.length) : cmpI a b (a.length - 1) := by
 refine ⟨by omega, by omega, ?_⟩
 have e : ((a.length : Int) - 1 + 1).toNat = a.length := by omega
 rw [e, List.drop_length, h, List.drop_length]

theorem cmpI_next {a b : List Int} {i : Int} (h : cmpI a b i) (hl : a.length = b.length) (hi : 0 ≤ i) (he : a.getD i.toNat 0 = b.getD i.toNat 0) : cmpI a b (i - 1) := by
 obtain ⟨h0, h1, h2⟩ := h
 have e1 : (i + 1).toNat = i.toNat + 1 := by omega
 have e2 : (i - 1 + 1).toNat = i.toNat := by omega
 rw [e1] at h2
 exact ⟨by omega, by omega, by rw [e2]; exact drop_eq_step hl (by omega) h2 he⟩

theorem cmpI_exit {a b : List Int} {i : Int} (h : cmpI a b i) (hi : i < 0) : a = b := by
 obtain ⟨h0, h1, h2⟩ := h
 have e : (i + 1).toNat = 0 := by omega
 rw [e, List.drop_zero, List.drop_zero] at h2
 exact h2

theorem cmpI_lt {a b : List Int} {i : Int} (ha : Valid a) (hb : Valid b) (h : cmpI a b i) (hl : a.length = b.length) (hi : 0 ≤ i) (hlt : a.getD i.toNat 0 < b.getD i.toNat 0) : val a < val b := by
 obtain ⟨h0, h1, h2⟩ := h
 have e1 : (i + 1).toNat = i.toNat + 1 := by omega
 rw [e1] at h2
 exact val_lt_at ha hb hl (by omega) h2 hlt

theorem cmpI_gt {a b : List Int} {i : Int} (ha : Valid a) (hb : Valid b) (h : cmpI a b i) (hl : a.length = b.length) (hi : 0 ≤ i) (hlt : b.getD i.toNat 0 < a.getD i.toNat 0) : val b < val a := by
 obtain ⟨h0, h1, h2⟩ := h
 have e1 : (i + 1).toNat = i.toNat + 1 := by omega
 rw [e1] at h2
 exact val_lt_at hb ha hl.symm (by omega) h2.symm hlt

theorem cmpN_lt {x y : Nat} (h : x < y) : cmpN x y = -1 := by unfold cmpN; rw [if_pos h]
theorem cmpN_gt {x y : Nat} (h : y < x) : cmpN x y = 1 := by unfold cmpN; rw [if_neg (by omega), if_pos h]
theorem cmpN_eq {x y : Nat} (h : x = y) : cmpN x y = 0 := by unfold cmpN; rw [if_neg (by omega), if_neg (by omega)]

theorem dg_inj {x y : Nat} (h : dg x = dg y) : x = y := by
 have := congrArg val h
 rw [val_dg, val_dg] at this
 omega

def trI (a : List Int) (i : Int) : Prop := 0 ≤ i ∧ i ≤ a.length ∧ val a = 65536 ^ i.toNat * val (a.drop i.toNat)

theorem trI_zero (a : List Int) : trI a 0 := ⟨Int.le_refl _, by omega, by simp⟩
theorem trI_next {a : List Int} {i : Int} (h : trI a i) (hi : i < a.length) (hz : a.getD i.toNat 0 = 0) : trI a (i + 1) := by
 obtain ⟨h0, h1, h2⟩ := h
 have e : (i + 1).toNat = i.toNat + 1 := by omega
 refine ⟨by omega, by omega, ?_⟩
 rw [h2, val_drop0, hz, e, Int.pow_succ]
 grind

theorem trI_exit {a : List Int} {i : Int} (h : trI a i) (hi : a.length ≤ i) : val a = 0 := by
 obtain ⟨h0, h1, h2⟩ := h
 rw [h2, val_drop_ge (by omega), Int.mul_zero]

theorem two_odd {x : Nat} (h : x ≠ 0) : ∃ k m, x = 2 ^ k * (2 * m + 1) := by
 induction x using Nat.strongRecOn with
 | _ x ih =>
  by_cases h2 : x % 2 = 1
  ·exact ⟨0, x / 2, by simp; omega⟩
  ·obtain ⟨k, m, hk⟩ := ih (x / 2) (by omega) (by omega)
   refine ⟨k + 1, m, ?_⟩
   have : x = 2 * (x / 2) := by omega
   rw [this, hk, Nat.pow_succ]
   simp only [Nat.mul_assoc, Nat.mul_comm, Nat.mul_left_comm]

theorem odd_part {a b m n : Nat} (h : 2 ^ a * (2 * m + 1) = 2 ^ b * (2 * n + 1)) : a = b := by
 rcases Nat.lt_trichotomy a b with hlt | heq | hgt
 ·obtain ⟨d, rfl⟩ : ∃ d, b = a + (d + 1) := ⟨b - a - 1, by omega⟩
  rw [Nat.pow_add, Nat.mul_assoc] at h
  have := Nat.eq_of_mul_eq_mul_left (Nat.two_pow_pos a) h
  rw [Nat.pow_succ, Nat.mul_comm (2 ^ d), Nat.mul_assoc] at this
  omega
 ·exact heq
 ·obtain ⟨d, rfl⟩ : ∃ d, a = b + (d + 1) := ⟨a - b - 1, by omega⟩
  rw [Nat.pow_add, Nat.mul_assoc] at h
  have := Nat.eq_of_mul_eq_mul_left (Nat.two_pow_pos b) h
  rw [Nat.pow_succ, Nat.mul_comm (2 ^ d), Nat.mul_assoc] at this
  omega

theorem trI_found {a : List Int} {i : Int} {n k m : Nat} (ha : Valid a) (h : trI a i) (hv : val a = n) (hn : n = 2 ^ k * (2 * m + 1)) (hz : a.getD i.toNat 0 ≠ 0) :
  ∃ t s : Nat, (a.getD i.toNat 0).toNat = 2 ^ t * (2 * s + 1) ∧ (k : Int) = 16 * i + (t : Int) ∧ t < 16 := by
 obtain ⟨h0, h1, h2⟩ := h
 have hg := ha.get i.toNat
 obtain ⟨t, s, hts⟩ := two_odd (x := (a.getD i.toNat 0).toNat) (by omega)
 have ht : t < 16 := by
  refine Classical.byContradiction fun hc => ?_
  have h3 : 2 ^ 16 ≤ 2 ^ t := Nat.pow_le_pow_right (by decide) (by omega)
  have h4 : 2 ^ t ≤ 2 ^ t * (2 * s + 1) := Nat.le_mul_of_pos_right _ (by omega)
  omega
 refine ⟨t, s, hts, ?_, ht⟩
 have hd := val_nonneg (ha.drop (i.toNat + 1))
 obtain ⟨W, hW⟩ : ∃ W : Nat, val (a.drop (i.toNat + 1)) = W := ⟨_, (Int.toNat_of_nonneg hd).symm⟩
 have e : n = 65536 ^ i.toNat * ((a.getD i.toNat 0).toNat + 65536 * W) := by
  have : (n : Int) = ((65536 ^ i.toNat * ((a.getD i.toNat 0).toNat + 65536 * W) : Nat) : Int) := by
   rw [← hv, h2, val_drop0, hW, Int.natCast_mul, Int.natCast_pow, Int.natCast_add, Int.natCast_mul, Int.toNat_of_nonneg hg.1]
   rfl
  exact Int.ofNat.inj this
 have e2 : n = 2 ^ (16 * i.toNat + t) * (2 * (s + 2 ^ (15 - t) * W) + 1) := by
  rw [e, hts]
  have e3 : 65536 ^ i.toNat = 2 ^ (16 * i.toNat) := by rw [show (65536 : Nat) = 2 ^ 16 from rfl, ← Nat.pow_mul]
  have e4 : 65536 = 2 ^ t * (2 * 2 ^ (15 - t)) := by
   rw [← Nat.pow_succ', ← Nat.pow_add]
   rw [show t + (15 - t).succ = 16 by omega]
  rw [e3, Nat.pow_add, Nat.mul_assoc]
  congr 1
  conv => lhs; rw [e4]
  generalize 2 ^ t = A
  generalize 2 ^ (15 - t) = Bq
  grind
 have := odd_part (hn.symm.trans e2)
 omega

theorem val_cons0 (k : Nat) (l : List Int) : val (List.replicate k 0 ++ l) = 65536 ^ k * val l := by
 rw [val_append, val_rep, List.length_replicate]; omega

theorem shl_val (n k : Nat) : 65536 ^ (k / 16) * n * 2 ^ (k % 16) = n * 2 ^ k := by
 rw [← pow_16 k]
 simp only [Nat.mul_assoc, Nat.mul_comm, Nat.mul_left_comm]

end Go.Dg

/- The rules for the side goals of a walk, bound together. -/
namespace Go.Pe
open Go Go.Dg

theorem sA : (∀ {s : Int}, s ≤ 64 → Min.min s.toNat IntKind.i64.bits = s.toNat) ∧ (∀ (a : Int) (n : Nat), Int.fdiv a (2 ^ n) = a / 2 ^ n) ∧
  (∀ (l : List Int) (k : Nat), getI ((intsL l).getD k D0) 0 = l.getD k 0) ∧ (∀ (l : List Int) (k : Nat), ((intsL l).getD k D0).cells.length = 1) ∧
  (∀ l : List Int, (intsL l).length = l.length) ∧ (∀ (l : List Int) (k : Nat), (intsL l).take k = intsL (l.take k)) ∧ (∀ (l : List Int) (k : Nat), (intsL l).drop k = intsL (l.drop k)) ∧
  (∀ (l : List Int) (n : Int), intsL l ++ [.val (.int .i64 n)] = intsL (l ++ [n])) ∧ (∀ l r : List Int, intsL l ++ intsL r = intsL (l ++ r)) ∧ intsL [] = [] ∧
  (∀ l : List PV, [] ++ l = l) ∧ (∀ n : Int, [PV.val (.int .i64 n)] = intsL [n]) ∧ (∀ (l : List Int) (k : Nat) (n : Int), (intsL l).set k (.val (.int .i64 n)) = intsL (l.set k n)) ∧
  (∀ (k : Nat) (n : Int), List.replicate k (PV.val (.int .i64 n)) = intsL (List.replicate k n)) ∧ (∀ {n : Int}, -9223372036854775808 ≤ n → n ≤ 9223372036854775807 → IntKind.i64.wrap n = n) :=
 ⟨min_std, fdiv_two, ints_getI, ints_clen, ints_len, ints_take, ints_drop, ints_app1, ints_app, ints_nil, ints_nil_app, ints_one, ints_set, ints_rep, wrapi⟩

theorem sB : (∀ {α : Type} [BEq α] [LawfulBEq α] {a b : α}, (a == b) = true ↔ a = b) ∧ (∀ {p : Prop} [Decidable p], (decide p = true) = p) ∧ (∀ c t : Bool, (bif c then t else false) = (c && t)) ∧
  (∀ a b : Bool, ((a && b) = true) = (a = true ∧ b = true)) ∧ (∀ {x y : Bool}, (x && y) = false ↔ x = false ∨ y = false) ∧
  (∀ {α : Type} [BEq α] [LawfulBEq α] {a b : α}, (a == b) = false ↔ a ≠ b) ∧ (∀ {p : Prop} {x : Decidable p}, decide p = false ↔ ¬p) ∧ (∀ n : Nat, (n : Int).toNat = n) ∧
  (∀ c f : Bool, (bif c then true else f) = (c || f)) ∧ (∀ a b : Bool, ((a || b) = true) = (a = true ∨ b = true)) ∧ (∀ {x y : Bool}, (x || y) = false ↔ x = false ∧ y = false) ∧
  (∀ {α : Type} [BEq α] [LawfulBEq α] {a b : α}, (a != b) = true ↔ a ≠ b) ∧ (∀ {α : Type} [BEq α] [LawfulBEq α] {a b : α}, (a != b) = false ↔ a = b) ∧
  (∀ b : Bool, ((!b) = true) = (b = false)) ∧ (∀ b : Bool, ((!b) = false) = (b = true)) ∧ (∀ {a b : Int}, 0 ≤ a → Int.tdiv a b = a / b) ∧ (∀ {a b : Int}, 0 ≤ a → Int.tmod a b = a % b) :=
 ⟨beq_iff_eq, decide_eq_true_eq, Bool.cond_false_right, Bool.and_eq_true, Bool.and_eq_false_iff, beq_eq_false_iff_ne, decide_eq_false_iff_not, Int.toNat_natCast, Bool.cond_true_left, Bool.or_eq_true, Bool.or_eq_false_iff, bne_iff_ne, bne_eq_false_iff_eq, Bool.not_eq_true', Bool.not_eq_false', Int.tdiv_eq_ediv_of_nonneg, Int.tmod_eq_emod_of_nonneg⟩

theorem sC : (∀ {α : Type} {a : α} {l : List α}, (a :: l).length = l.length + 1) ∧ (∀ {α : Type}, ([] : List α).length = 0) ∧ (∀ {α : Type} {l r : List α}, (l ++ r).length = l.length + r.length) ∧
  (∀ {α : Type} {l : List α} {i : Nat} {a : α}, (l.set i a).length = l.length) ∧ (∀ {α : Type} {n : Nat} {a : α}, (List.replicate n a).length = n) ∧ (∀ {α : Type} {i : Nat} {l : List α}, (l.take i).length = Min.min i l.length) ∧
  (∀ {α : Type} {i : Nat} {l : List α}, (l.drop i).length = l.length - i) ∧ (∀ {α : Type} {l : List α}, l.drop 0 = l) ∧ Int.toNat 0 = 0 ∧ (∀ {α : Type} (a b : α), (a ≠ b) = ¬a = b) ∧
  (∀ n : Nat, NatCast.natCast n = (n : Int)) ∧ (!true) = false ∧ (!false) = true :=
 ⟨List.length_cons, List.length_nil, List.length_append, List.length_set, List.length_replicate, List.length_take, List.length_drop, List.drop_zero, Int.toNat_zero, ne_eq, natCast_eq, Bool.not_true, Bool.not_false⟩

theorem sD : (∀ {α : Type} (a : α), (a = a) = True) ∧ (¬True) = False ∧ (¬False) = True ∧ (∀ p : Prop, (p ∨ p) = p) ∧ (∀ p : Prop, (p ∨ False) = p) ∧ (∀ p : Prop, (False ∨ p) = p) ∧ (∀ p : Prop, (p ∨ True) = True) ∧ (∀ p : Prop, (True ∨ p) = True) ∧
  (∀ p : Prop, (p ∧ p) = p) ∧ (∀ p : Prop, (p ∧ True) = p) ∧ (∀ p : Prop, (True ∧ p) = p) ∧ (∀ p : Prop, (p ∧ False) = False) ∧ (∀ p : Prop, (False ∧ p) = False) ∧
  (∀ {α : Type} [BEq α] [LawfulBEq α] (a : α), (a != a) = false) ∧ (∀ {α : Type} [BEq α] [ReflBEq α] (a : α), (a == a) = true) ∧ (true = false) = False ∧ (false = true) = False :=
 ⟨eq_self, not_true_eq_false, not_false_eq_true, or_self, or_false, false_or, or_true, true_or, and_self, and_true, true_and, and_false, false_and, bne_self_eq_false, beq_self_eq_true, Bool.true_eq_false, Bool.false_eq_true⟩

section
variable {A : AR} (hA : A = AR.std)
include hA
theorem q1 {a b : Int} (h : a ≤ b) : A.lei a b := lei_of hA h
theorem q2 {a b : Int} (h : a < b) : A.lti a b := lti_of hA h
theorem q3 {a b : Nat} (h : a < b) : A.ltn a b := ltn_of hA h
theorem q4 {a : Int} (h : a ≠ 0) : A.nez a := nez_of hA h
theorem q5 {l : List PV} {s : Nat} (h : ∀ p ∈ l, okEl s p) : A.okA l s := okA_of hA h
theorem q6 {l : List PV} {s : Nat} (h : ∀ p ∈ l, p.cells.length = s) : A.allC l s := allC_of hA h
theorem q7 {l r : List PV} (h : l.length + r.length ≤ 1000000000) : A.cap l r := cap_of hA h
theorem q8 {n : Nat} {p : PV} (h : n ≤ p.cells.length) : A.len_le n p := len_le_of hA h
theorem q9 {n : Nat} {p : PV} (h : p.cells.length = n) : A.len_eq p n := len_eq_of hA h
theorem q0 {ag : Bool} {o s : Nat} {p q : PV} (h : partP ag o s p.cells = q) : A.peq ag o s p q := peq_of hA h
end

class QN (A : AR) (g : Prop) (h : outParam Prop) : Prop where
 q : A = AR.std → h → g

section
variable {A : AR}
instance {a b : Int} : QN A (A.lei a b) (a ≤ b) := ⟨fun hA h => q1 hA h⟩
instance {a b : Int} : QN A (A.lti a b) (a < b) := ⟨fun hA h => q2 hA h⟩
instance {a b : Nat} : QN A (A.ltn a b) (a < b) := ⟨fun hA h => q3 hA h⟩
instance {a : Int} : QN A (A.nez a) (a ≠ 0) := ⟨fun hA h => q4 hA h⟩
instance {l : List PV} {s : Nat} : QN A (A.okA l s) (∀ p ∈ l, okEl s p) := ⟨fun hA h => q5 hA h⟩
instance {l : List PV} {s : Nat} : QN A (A.allC l s) (∀ p ∈ l, p.cells.length = s) := ⟨fun hA h => q6 hA h⟩
instance {l r : List PV} : QN A (A.cap l r) (l.length + r.length ≤ 1000000000) := ⟨fun hA h => q7 hA h⟩
instance {n : Nat} {p : PV} : QN A (A.len_le n p) (n ≤ p.cells.length) := ⟨fun hA h => q8 hA h⟩
instance {n : Nat} {p : PV} : QN A (A.len_eq p n) (p.cells.length = n) := ⟨fun hA h => q9 hA h⟩
instance {ag : Bool} {o s : Nat} {p q : PV} : QN A (A.peq ag o s p q) (partP ag o s p.cells = q) := ⟨fun hA h => q0 hA h⟩
instance {b : Bool} : QN A (b = true) (b = true) := ⟨fun _ h => h⟩
end

theorem qn {A : AR} {g h : Prop} [i : QN A g h] (hA : A = AR.std) (x : h) : g := i.q hA x

set_option linter.defProp false in
def sH := And.intro sA (And.intro sB (And.intro sC sD))

theorem eH {g : Prop} (h : g := by (subst hA; subst_vars; simp only [AR.std, natCast_eq, sH, reduceCtorEq] at *; try simp (disch := omega) only [AR.std, natCast_eq, sH, reduceCtorEq] at *); omega) : g := h

theorem oH {g : Prop} (h : g := by ((first | (with_reducible refine qn hA ?_) | exfalso); subst hA; subst_vars; simp only [AR.std, natCast_eq, sH, reduceCtorEq] at *; (try simp (disch := omega) only [AR.std, natCast_eq, sH, reduceCtorEq] at *); first | done | rfl | omega | exact ints_ok _ | exact ints_all _ | (apply ints_part <;> first | omega | rfl))) : g := h

theorem pH {g : Prop} (h : g := by ((with_reducible refine qn hA ?_); subst hA; subst_vars; simp only [AR.std, natCast_eq, sH, reduceCtorEq] at *; (try simp (disch := omega) only [AR.std, natCast_eq, sH, reduceCtorEq] at *); first | done | rfl | omega | exact ints_ok _ | exact ints_all _ | (apply ints_part <;> first | omega | rfl))) : g := h

theorem nH {g : Prop} (h : g := by (subst hA; subst_vars; simp only [AR.std, natCast_eq, sH, reduceCtorEq] at *; (try simp (disch := omega) only [AR.std, natCast_eq, sH, reduceCtorEq] at *); first | done | rfl)) : g := h

theorem tH {g : Prop} (h : g := by (subst hA; subst_vars; first | rfl | (simp (disch := omega) only [AR.std, natCast_eq, sH, reduceCtorEq]; rfl))) : g := h

end Go.Pe

/- Dyadic numbers as the reference makes, aligns and compares them. -/
namespace Go.Dg
open Go

theorem make_law {z e : Int} {k m : Nat} (h : z.natAbs = 2 ^ k * (2 * m + 1)) : (cZ (mk z e)).natAbs = 2 * m + 1 ∧ cE (mk z e) = e + k ∧ decide (cZ (mk z e) < 0) = decide (z < 0) := by
 have hk : (0 : Int) < 2 ^ k := Int.pow_pos (by decide)
 have hz : (z.natAbs : Int) = 2 ^ k * (2 * m + 1) := by rw [h, Int.natCast_mul, Int.natCast_pow]; rfl
 rcases Int.lt_or_le z 0 with hz0 | hz0
 ·have e1 : z = (-(2 * (m : Int) + 1)) * 2 ^ k := by
   have : z = -(z.natAbs : Int) := by omega
   rw [this, hz]; grind
  obtain ⟨c1, c2⟩ := canon_mk (e := e) (o := -(2 * (m : Int) + 1)) (by omega) e1
  refine ⟨by rw [c1]; omega, c2, ?_⟩
  rw [c1, decide_eq_true (by omega), decide_eq_true (by omega)]
 ·have e1 : z = (2 * (m : Int) + 1) * 2 ^ k := by
   have : z = (z.natAbs : Int) := by omega
   rw [this, hz]; grind
  obtain ⟨c1, c2⟩ := canon_mk (e := e) (o := 2 * (m : Int) + 1) (by omega) e1
  refine ⟨by rw [c1]; omega, c2, ?_⟩
  rw [c1, decide_eq_false (by omega), decide_eq_false (by omega)]

def alignI (z1 e1 z2 e2 x y e : Int) : Prop :=
 (z1 = 0 → x = z1 ∧ y = z2 ∧ e = e2) ∧ (z1 ≠ 0 → z2 = 0 → x = z1 ∧ y = z2 ∧ e = e1) ∧
 (z1 ≠ 0 → z2 ≠ 0 → e1 ≤ e2 → x = z1 ∧ y = z2 * 2 ^ (e2 - e1).toNat ∧ e = e1) ∧
 (z1 ≠ 0 → z2 ≠ 0 → e2 < e1 → x = z1 * 2 ^ (e1 - e2).toNat ∧ y = z2 ∧ e = e2)

theorem align_ex (z1 e1 z2 e2 : Int) : ∃ x y e, alignI z1 e1 z2 e2 x y e := by
 unfold alignI
 by_cases h1 : z1 = 0
 ·exact ⟨_, _, _, fun _ => ⟨rfl, rfl, rfl⟩, fun h => absurd h1 h, fun h => absurd h1 h, fun h => absurd h1 h⟩
 by_cases h2 : z2 = 0
 ·exact ⟨_, _, _, fun h => absurd h h1, fun _ _ => ⟨rfl, rfl, rfl⟩, fun _ h => absurd h2 h, fun _ h => absurd h2 h⟩
 by_cases h3 : e1 ≤ e2
 ·exact ⟨_, _, _, fun h => absurd h h1, fun _ h => absurd h h2, fun _ _ _ => ⟨rfl, rfl, rfl⟩, fun _ _ h => absurd h3 (by omega)⟩
 ·exact ⟨_, _, _, fun h => absurd h h1, fun _ h => absurd h h2, fun _ _ h => absurd h h3, fun _ _ _ => ⟨rfl, rfl, rfl⟩⟩

theorem align_mk {z1 e1 z2 e2 x y e : Int} (h : alignI z1 e1 z2 e2 x y e) : mk x e = mk z1 e1 ∧ mk y e = mk z2 e2 := by
 obtain ⟨a1, a2, a3, a4⟩ := h
 by_cases h1 : z1 = 0
 ·obtain ⟨rfl, rfl, rfl⟩ := a1 h1; rw [h1]; exact ⟨rfl, rfl⟩
 by_cases h2 : z2 = 0
 ·obtain ⟨rfl, rfl, rfl⟩ := a2 h1 h2; rw [h2]; exact ⟨rfl, rfl⟩
 by_cases h3 : e1 ≤ e2
 ·obtain ⟨rfl, rfl, rfl⟩ := a3 h1 h2 h3
  refine ⟨rfl, ?_⟩
  have := mk_shift z2 e2 (e2 - e).toNat
  rw [show e2 - ((e2 - e).toNat : Int) = e by omega] at this
  exact this
 ·obtain ⟨rfl, rfl, rfl⟩ := a4 h1 h2 (by omega)
  refine ⟨?_, rfl⟩
  have := mk_shift z1 e1 (e1 - e).toNat
  rw [show e1 - ((e1 - e).toNat : Int) = e by omega] at this
  exact this

theorem dg_lt_pow (x : Nat) : x < 65536 ^ (dg x).length := by
 have h1 := val_lt_pow (valid_dg x)
 rw [val_dg] at h1
 have e : (65536 : Int) ^ (dg x).length = ((65536 ^ (dg x).length : Nat) : Int) := by rw [Int.natCast_pow]; rfl
 rw [e] at h1
 exact Int.ofNat_lt.1 h1

theorem dg_len_shl (n k : Nat) : (dg (n * 2 ^ k)).length ≤ (dg n).length + k / 16 + 1 := by
 refine dg_len_le _ _ ?_
 have h1 := dg_lt_pow n
 have h2 : 2 ^ k < 65536 ^ (k / 16 + 1) := by
  rw [show (65536 : Nat) = 2 ^ 16 from rfl, ← Nat.pow_mul]
  exact Nat.pow_lt_pow_right (by decide) (by omega)
 rw [Nat.add_assoc, Nat.pow_add]
 exact Nat.mul_lt_mul'' h1 h2

theorem align_len {z1 e1 z2 e2 x y e : Int} {L E : Nat} (h : alignI z1 e1 z2 e2 x y e) (h1 : (dg z1.natAbs).length ≤ L) (h2 : (dg z2.natAbs).length ≤ L) (b1 : e1.natAbs ≤ E) (b2 : e2.natAbs ≤ E) :
  (dg x.natAbs).length ≤ L + E + 1 ∧ (dg y.natAbs).length ≤ L + E + 1 ∧ e.natAbs ≤ E := by
 obtain ⟨a1, a2, a3, a4⟩ := h
 by_cases c1 : z1 = 0
 ·obtain ⟨rfl, rfl, rfl⟩ := a1 c1; exact ⟨by omega, by omega, b2⟩
 by_cases c2 : z2 = 0
 ·obtain ⟨rfl, rfl, rfl⟩ := a2 c1 c2; exact ⟨by omega, by omega, b1⟩
 have hn : ∀ (z : Int) (k : Nat), (z * 2 ^ k).natAbs = z.natAbs * 2 ^ k := by
  intro z k; rw [Int.natAbs_mul, Int.natAbs_pow]; rfl
 by_cases c3 : e1 ≤ e2
 ·obtain ⟨rfl, rfl, rfl⟩ := a3 c1 c2 c3
  rw [hn]
  have := dg_len_shl z2.natAbs (e2 - e).toNat
  exact ⟨by omega, by omega, b1⟩
 ·obtain ⟨rfl, rfl, rfl⟩ := a4 c1 c2 (by omega)
  rw [hn]
  have := dg_len_shl z1.natAbs (e1 - e).toNat
  exact ⟨by omega, by omega, b2⟩

def cmpZ (x y : Int) : Int := if x < y then -1 else if y < x then 1 else 0

open Classical in
noncomputable def cmpD (a b : Dyadic) : Int := if a < b then -1 else if b < a then 1 else 0

theorem cmpD_mk (x y e : Int) : cmpD (mk x e) (mk y e) = cmpZ x y := by
 unfold cmpD cmpZ
 simp only [mk_lt]

theorem cmpD_le {a b : Dyadic} : cmpD a b ≤ 0 ↔ a ≤ b := by
 unfold cmpD
 split
 ·rename_i h
  exact ⟨fun _ => by grind, fun _ => by decide⟩
 ·split
  ·rename_i h
   exact ⟨fun h' => absurd h' (by decide), fun h' => by grind⟩
  ·rename_i h1 h2
   exact ⟨fun _ => by grind, fun _ => by decide⟩

theorem align_up {z1 e1 z2 e2 x y e : Int} (h : alignI z2 e2 z1 e1 y x e) : z1.natAbs * 2 ^ (max (e1 - e) 0).toNat = x.natAbs ∧ z2.natAbs * 2 ^ (max (e2 - e) 0).toNat = y.natAbs ∧
  (z2 = 0 → e = e1) ∧ (z2 ≠ 0 → z1 = 0 → e = e2) ∧ (z2 ≠ 0 → z1 ≠ 0 → e = min e1 e2) := by
 obtain ⟨a1, a2, a3, a4⟩ := h
 have hn : ∀ (z : Int) (k : Nat), (z * 2 ^ k).natAbs = z.natAbs * 2 ^ k := by
  intro z k; rw [Int.natAbs_mul, Int.natAbs_pow]; rfl
 have h0 : ∀ k : Int, k ≤ 0 → (max k 0).toNat = 0 := by intro k hk; omega
 by_cases c2 : z2 = 0
 ·obtain ⟨rfl, rfl, rfl⟩ := a1 c2
  refine ⟨by rw [h0 _ (by omega)]; simp, by rw [c2]; simp, fun _ => rfl, fun h => absurd c2 h, fun h => absurd c2 h⟩
 by_cases c1 : z1 = 0
 ·obtain ⟨rfl, rfl, rfl⟩ := a2 c2 c1
  refine ⟨by rw [c1]; simp, by rw [h0 _ (by omega)]; simp, fun h => absurd h c2, fun _ _ => rfl, fun _ h => absurd c1 h⟩
 by_cases c3 : e2 ≤ e1
 ·obtain ⟨rfl, rfl, rfl⟩ := a3 c2 c1 c3
  refine ⟨by rw [hn, show max (e1 - e) 0 = e1 - e by omega], by rw [h0 _ (by omega)]; simp, fun h => absurd h c2, fun _ h => absurd h c1, fun _ _ => by omega⟩
 ·obtain ⟨rfl, rfl, rfl⟩ := a4 c2 c1 (by omega)
  refine ⟨by rw [h0 _ (by omega)]; simp, by rw [hn, show max (e2 - e) 0 = e2 - e by omega], fun h => absurd h c2, fun _ h => absurd h c1, fun _ _ => by omega⟩

theorem dg_len0 {n : Nat} : (dg n).length = 0 ↔ n = 0 := by
 constructor
 ·intro h
  rcases Nat.eq_zero_or_pos n with h0 | h0
  ·exact h0
  ·have := dg_ne_nil h0; omega
 ·rintro rfl; rw [dg_zero]; rfl

def sumS (x y : Int) (s t u : Bool) : Prop :=
 (t = s → val (dg x.natAbs) + val (dg y.natAbs) = ((x + y).natAbs : Nat) ∧ u = s) ∧
 (t = (!s) → y.natAbs ≤ x.natAbs → val (dg x.natAbs) - val (dg y.natAbs) = ((x + y).natAbs : Nat) ∧ u = s) ∧
 (t = (!s) → x.natAbs < y.natAbs → val (dg y.natAbs) - val (dg x.natAbs) = ((x + y).natAbs : Nat) ∧ u = t)

def sgn (z : Int) (s : Bool) : Prop := (s = true → z ≤ 0) ∧ (s = false → 0 ≤ z)

theorem sum_ex {x y : Int} {s t : Bool} (hs : sgn x s) (ht : sgn y t) : ∃ u, sumS x y s t u ∧ (u && decide ((dg (x + y).natAbs).length ≠ 0)) = decide (x + y < 0) := by
 have hd : decide ((dg (x + y).natAbs).length ≠ 0) = decide (x + y ≠ 0) := by rw [decide_eq_decide, ne_eq, dg_len0]; omega
 rw [hd]
 unfold sumS
 rw [val_dg, val_dg]
 obtain ⟨s1, s2⟩ := hs
 obtain ⟨t1, t2⟩ := ht
 have fin : ∀ u : Bool, (u = true → x + y ≤ 0) → (u = false → 0 ≤ x + y) → (u && decide (x + y ≠ 0)) = decide (x + y < 0) := by
  intro u h1 h2
  rw [Bool.eq_iff_iff, Bool.and_eq_true, decide_eq_true_eq, decide_eq_true_eq]
  cases u
  ·have := h2 rfl; simp; omega
  ·have := h1 rfl; simp; omega
 cases s <;> cases t <;> simp at s1 s2 t1 t2
 ·exact ⟨false, ⟨fun _ => ⟨by omega, rfl⟩, fun h => (by cases h), fun h => (by cases h)⟩, fin _ (fun h => (by cases h)) (fun _ => by omega)⟩
 ·by_cases h : y.natAbs ≤ x.natAbs
  ·exact ⟨false, ⟨fun h => (by cases h), fun _ _ => ⟨by omega, rfl⟩, fun _ h' => absurd h (by omega)⟩, fin _ (fun h => (by cases h)) (fun _ => by omega)⟩
  ·exact ⟨true, ⟨fun h => (by cases h), fun _ h' => absurd h' h, fun _ _ => ⟨by omega, rfl⟩⟩, fin _ (fun _ => by omega) (fun h => (by cases h))⟩
 ·by_cases h : y.natAbs ≤ x.natAbs
  ·exact ⟨true, ⟨fun h => (by cases h), fun _ _ => ⟨by omega, rfl⟩, fun _ h' => absurd h (by omega)⟩, fin _ (fun _ => by omega) (fun h => (by cases h))⟩
  ·exact ⟨false, ⟨fun h => (by cases h), fun _ h' => absurd h' h, fun _ _ => ⟨by omega, rfl⟩⟩, fin _ (fun h => (by cases h)) (fun _ => by omega)⟩
 ·exact ⟨true, ⟨fun _ => ⟨by omega, rfl⟩, fun h => (by cases h), fun h => (by cases h)⟩, fin _ (fun _ => by omega) (fun h => (by cases h))⟩

end Go.Dg

/- Which lists, wholes and dyadic numbers are in form. -/
namespace Go.Dg
open Go

theorem trimL_length : ∀ (l : List Int), (trimL l).length ≤ l.length
 | [] => Nat.le_refl _
 | x :: r => by
  have := trimL_length r
  unfold trimL
  cases h : trimL r with
  | nil => by_cases hx : x = 0 <;> simp [hx]
  | cons y q => rw [h] at this; simp at this ⊢; omega

theorem dg_last {n : Nat} (h : 0 < (dg n).length) : 0 < (dg n).getD ((dg n).length - 1) 0 := by
 rcases Int.lt_or_le 0 ((dg n).getD ((dg n).length - 1) 0) with h1 | h1
 ·exact h1
 ·exfalso
  have h2 := ((valid_dg n).get ((dg n).length - 1)).1
  have h3 := trimL_take h (by omega)
  rw [trim_dg (valid_dg n), val_dg, Int.toNat_natCast] at h3
  have h4 := trimL_length ((dg n).take ((dg n).length - 1))
  rw [h3, List.length_take] at h4
  omega

def natOk (l : List Int) : Prop := l.length ≤ 100 ∧ Valid l ∧ (l.length = 0 ∨ 0 < l.getD (l.length - 1) 0)

theorem natOk_dg {l : List Int} : natOk l ↔ l.length ≤ 100 ∧ ∃ n, l = dg n := by
 constructor
 ·rintro ⟨h1, h2, h3⟩
  refine ⟨h1, (val l).toNat, ?_⟩
  rw [← trim_dg h2]
  rcases h3 with h | h
  ·exact (trimL_len0 h).symm
  ·rcases Nat.eq_zero_or_pos l.length with h0 | h0
   ·exact (trimL_len0 h0).symm
   ·exact (trimL_last h0 (by omega)).symm
 ·rintro ⟨h1, n, rfl⟩
  refine ⟨h1, valid_dg n, ?_⟩
  rcases Nat.eq_zero_or_pos (dg n).length with h0 | h0
  ·exact .inl h0
  ·exact .inr (dg_last h0)

def nokI (l : List Int) (i : Int) : Prop := 0 ≤ i ∧ i ≤ l.length ∧ Valid (l.take i.toNat)

theorem nokI_zero (l : List Int) : nokI l 0 := ⟨Int.le_refl _, by omega, by simpa using Valid.nil⟩

theorem nokI_next {l : List Int} {i : Int} (h : nokI l i) (hi : i < l.length) (h0 : 0 ≤ l.getD i.toNat 0) (h1 : l.getD i.toNat 0 < 65536) : nokI l (i + 1) := by
 obtain ⟨a, b, c⟩ := h
 refine ⟨by omega, by omega, ?_⟩
 rw [show (i + 1).toNat = i.toNat + 1 by omega, List.take_add_one]
 rw [List.getD, List.getElem?_eq_getElem (by omega)] at h0 h1
 rw [List.getElem?_eq_getElem (by omega)]
 exact c.append (Valid.one h0 h1)

theorem nokI_exit {l : List Int} {i : Int} (h : nokI l i) (hi : l.length ≤ i) : Valid l := by
 obtain ⟨a, b, c⟩ := h
 rwa [List.take_of_length_le (by omega)] at c

def wholeOk (s : Bool) (l : List Int) : Prop := natOk l ∧ (s = true → l.length ≠ 0)

def dyOk (s : Bool) (l : List Int) (e : Int) : Prop := wholeOk s l ∧ -3000 ≤ e ∧ e ≤ 3000 ∧ (l.length = 0 → e = 0) ∧ (l.length ≠ 0 → val l % 2 = 1)

def fits (d : Dyadic) : Prop := (dg (cZ d).natAbs).length ≤ 100 ∧ -3000 ≤ cE d ∧ cE d ≤ 3000

def cellsD (d : Dyadic) (s : Bool) (l : List Int) (e : Int) : Prop := s = decide (cZ d < 0) ∧ l = dg (cZ d).natAbs ∧ e = cE d

theorem dyOk_iff {s : Bool} {l : List Int} {e : Int} : dyOk s l e ↔ ∃ d, cellsD d s l e ∧ fits d := by
 constructor
 ·rintro ⟨⟨h1, h2⟩, h3, h4, h5, h6⟩
  obtain ⟨hl, n, rfl⟩ := natOk_dg.1 h1
  rw [ne_eq, dg_len0] at h2 h6
  rw [dg_len0] at h5
  rw [val_dg] at h6
  by_cases hn : n = 0
  ·subst hn
   have hs : s = false := by cases s <;> first | rfl | exact absurd rfl (h2 rfl)
   refine ⟨0, ⟨?_, ?_, ?_⟩, ?_, ?_, ?_⟩
   ·rw [hs, cZ_zero]; rfl
   ·rw [cZ_zero]; rfl
   ·rw [cE_zero]; exact h5 rfl
   ·rw [cZ_zero]; exact hl
   ·rw [cE_zero]; decide
   ·rw [cE_zero]; decide
  ·have ho := h6 hn
   cases s with
   | false =>
    obtain ⟨c1, c2⟩ := canon_odd (z := (n : Int)) (e := e) ho
    refine ⟨mk n e, ⟨?_, ?_, ?_⟩, ?_, ?_, ?_⟩
    ·rw [c1]; exact (decide_eq_false (by omega)).symm
    ·rw [c1, Int.natAbs_natCast]
    ·rw [c2]
    ·rw [c1, Int.natAbs_natCast]; exact hl
    ·rw [c2]; exact h3
    ·rw [c2]; exact h4
   | true =>
    obtain ⟨c1, c2⟩ := canon_odd (z := -(n : Int)) (e := e) (by omega)
    refine ⟨mk (-n) e, ⟨?_, ?_, ?_⟩, ?_, ?_, ?_⟩
    ·rw [c1]; exact (decide_eq_true (by omega)).symm
    ·rw [c1, Int.natAbs_neg, Int.natAbs_natCast]
    ·rw [c2]
    ·rw [c1, Int.natAbs_neg, Int.natAbs_natCast]; exact hl
    ·rw [c2]; exact h3
    ·rw [c2]; exact h4
 ·rintro ⟨d, ⟨rfl, rfl, rfl⟩, h1, h2, h3⟩
  refine ⟨⟨natOk_dg.2 ⟨h1, _, rfl⟩, ?_⟩, h2, h3, ?_, ?_⟩
  ·intro h; rw [ne_eq, dg_len0]; have := of_decide_eq_true h; omega
  ·intro h; rw [dg_len0] at h
   have : d = 0 := cZ_eq_zero.1 (by omega)
   rw [this]; rfl
  ·intro h; rw [ne_eq, dg_len0] at h
   have hd : d ≠ 0 := by intro h'; rw [h', cZ_zero] at h; exact h rfl
   have := cZ_odd hd
   rw [val_dg]; omega

def dval (s : Bool) (l : List Int) (e : Int) : Dyadic := mk (if s then -val l else val l) e

theorem cellsD_val {d : Dyadic} {s : Bool} {l : List Int} {e : Int} (h : cellsD d s l e) : d = dval s l e := by
 obtain ⟨rfl, rfl, rfl⟩ := h
 unfold dval
 have : (if decide (cZ d < 0) = true then -val (dg (cZ d).natAbs) else val (dg (cZ d).natAbs)) = cZ d := by
  rw [val_dg]; split
  ·rename_i h; have := of_decide_eq_true h; omega
  ·rename_i h; rw [decide_eq_true_eq] at h; omega
 rw [this, mk_canon]

theorem dyOk_val {s : Bool} {l : List Int} {e : Int} (h : dyOk s l e) : cellsD (dval s l e) s l e ∧ fits (dval s l e) := by
 obtain ⟨d, h1, h2⟩ := dyOk_iff.1 h
 rw [← cellsD_val h1]
 exact ⟨h1, h2⟩

theorem dyOk_cells {d : Dyadic} {s : Bool} {l : List Int} {e : Int} (h : cellsD d s l e) : dyOk s l e ↔ fits d := by
 constructor
 ·intro h'
  have := (dyOk_val h').2
  rwa [← cellsD_val h] at this
 ·intro h'
  exact dyOk_iff.2 ⟨d, h, h'⟩

def outD (w : Bool) (d : Dyadic) (s : Bool) (l : List Int) (e : Int) : Prop := (w = true → cellsD d s l e) ∧ (w = false → s = false ∧ l = [] ∧ e = 0)

theorem outD_ex (w : Bool) (d : Dyadic) : ∃ s l e, outD w d s l e := by
 cases w
 ·exact ⟨false, [], 0, ⟨fun h => absurd h (by decide), fun _ => ⟨rfl, rfl, rfl⟩⟩⟩
 ·exact ⟨decide (cZ d < 0), dg (cZ d).natAbs, cE d, ⟨fun _ => ⟨rfl, rfl, rfl⟩, fun h => absurd h (by decide)⟩⟩

theorem cZ_le (z e : Int) : (cZ (mk z e)).natAbs ≤ z.natAbs := by
 by_cases h : z = 0
 ·rw [h, mk_zero, cZ_zero]; exact Nat.le_refl _
 ·obtain ⟨k, m, hk⟩ := two_odd (x := z.natAbs) (by omega)
  obtain ⟨h1, _⟩ := make_law (e := e) hk
  rw [h1, hk]
  exact Nat.le_mul_of_pos_left _ (Nat.two_pow_pos k)

theorem sgn_dec (x : Int) : sgn x (decide (x < 0)) := by
 constructor
 ·intro h; have := of_decide_eq_true h; omega
 ·intro h; have := of_decide_eq_false h; omega

theorem align_sgn {z1 e1 z2 e2 x y e : Int} (h : alignI z1 e1 z2 e2 x y e) : (x < 0 ↔ z1 < 0) ∧ (y < 0 ↔ z2 < 0) := by
 have hm : ∀ (z : Int) (k : Nat), z * 2 ^ k < 0 ↔ z < 0 := by
  intro z k
  have hk : (0 : Int) < 2 ^ k := Int.pow_pos (by decide)
  constructor
  ·intro h
   rcases Int.lt_or_le z 0 with h' | h'
   ·exact h'
   ·exact absurd h (Int.not_lt.2 (Int.mul_nonneg h' (Int.le_of_lt hk)))
  ·intro h; exact Int.mul_neg_of_neg_of_pos h hk
 obtain ⟨a1, a2, a3, a4⟩ := h
 by_cases c1 : z1 = 0
 ·obtain ⟨rfl, rfl, rfl⟩ := a1 c1; exact ⟨Iff.rfl, Iff.rfl⟩
 by_cases c2 : z2 = 0
 ·obtain ⟨rfl, rfl, rfl⟩ := a2 c1 c2; exact ⟨Iff.rfl, Iff.rfl⟩
 by_cases c3 : e1 ≤ e2
 ·obtain ⟨rfl, rfl, rfl⟩ := a3 c1 c2 c3; exact ⟨Iff.rfl, hm _ _⟩
 ·obtain ⟨rfl, rfl, rfl⟩ := a4 c1 c2 (by omega); exact ⟨hm _ _, Iff.rfl⟩

def sumD (z1 e1 z2 e2 w f : Int) : Prop := ∃ x y, alignI z2 e2 z1 e1 y x f ∧ w = x + y

theorem sumD_ex (z1 e1 z2 e2 : Int) : ∃ w f, sumD z1 e1 z2 e2 w f := by
 obtain ⟨y, x, e, h⟩ := align_ex z2 e2 z1 e1
 exact ⟨_, _, x, y, h, rfl⟩

theorem sumD_mk {z1 e1 z2 e2 w f : Int} (h : sumD z1 e1 z2 e2 w f) : mk w f = mk z1 e1 + mk z2 e2 := by
 obtain ⟨x, y, h, rfl⟩ := h
 obtain ⟨h1, h2⟩ := align_mk h
 rw [← h1, ← h2, mk_add]

end Go.Dg

/- Lists of dyadic numbers' cells. -/
namespace Go.Dg
open Go Go.Pe

abbrev Cell3 := Bool × List Int × Int

def okY (y : Cell3) : Prop := dyOk y.1 y.2.1 y.2.2

def cell3 (y : Cell3) : PV := .agg [.val (.bool y.1), .lst (intsL y.2.1), .val (.int .i64 y.2.2)]

def cells3 (ys : List Cell3) : List PV := ys.map cell3

def noY : Cell3 := (false, [], 0)

theorem cells3_len (ys : List Cell3) : (cells3 ys).length = ys.length := by simp [cells3]

theorem cells3_get {ys : List Cell3} {k : Nat} (h : k < ys.length) : (cells3 ys).getD k (.val (.bool false)) = cell3 (ys.getD k noY) := by
 simp [cells3, List.getD, h]

def allY (ys : List Cell3) : Prop := ∀ y ∈ ys, okY y

def doksI (ys : List Cell3) (i : Int) : Prop := 0 ≤ i ∧ i ≤ ys.length ∧ allY (ys.take i.toNat)

theorem doksI_zero (ys : List Cell3) : doksI ys 0 := ⟨Int.le_refl _, by omega, by intro y hy; simp at hy⟩

theorem doksI_next {ys : List Cell3} {i : Int} (h : doksI ys i) (hi : i < ys.length) (h0 : okY (ys.getD i.toNat noY)) : doksI ys (i + 1) := by
 obtain ⟨a, b, c⟩ := h
 refine ⟨by omega, by omega, ?_⟩
 rw [show (i + 1).toNat = i.toNat + 1 by omega, List.take_add_one]
 rw [List.getD, List.getElem?_eq_getElem (by omega)] at h0
 rw [List.getElem?_eq_getElem (by omega)]
 intro y hy
 rcases List.mem_append.1 hy with hy | hy
 ·exact c y hy
 ·simp at hy; rw [hy]; exact h0

theorem doksI_exit {ys : List Cell3} {i : Int} (h : doksI ys i) (hi : ys.length ≤ i) : allY ys := by
 obtain ⟨a, b, c⟩ := h
 rwa [List.take_of_length_le (by omega)] at c

theorem allY_not {ys : List Cell3} {k : Nat} (hk : k < ys.length) (h : ¬okY (ys.getD k noY)) : ¬allY ys := by
 intro ha
 apply h
 rw [List.getD, List.getElem?_eq_getElem hk]
 exact ha _ (List.getElem_mem hk)

end Go.Dg

namespace Go.Pe
open Go

theorem closed_ints {p : List PV} {l : List Int} (hp : p = intsL l) (t s : Nat) : closedB (.row t s p) := by
 intro q hq c hc
 rw [hp] at hq
 obtain ⟨n, _, rfl⟩ := List.mem_map.1 hq
 simp only [PV.cells, List.mem_singleton] at hc
 rw [hc]; rfl

theorem FN_ofS {P : Program} {gl : List (Nat × Obj)} {f : FuncId} {args : List PV} {r : PV} (h : FS P gl f args (· = r)) (hc : closedF (.pv r) = true) : FN P gl f args (fun own rr => own = [] ∧ rr = .pv r) := by
 refine ⟨h.1, fun w vs hgl hargs => (h.2 w _ vs hgl (fun _ hb => hb) hargs).mono ?_⟩
 rintro e w' ⟨v, r', rfl, rfl, hb, hr⟩
 have hno : ∀ i, ¬ lives ([] : List Blk) i := by
  rintro i ⟨_, hb, _⟩
  simp at hb
 exact ⟨v, _, [], fun _ => none, rfl, ⟨rfl, rfl⟩, hb, OwnS.mk (fun i v hv => by cases hv) (fun i b hi => by simp at hi) (fun i j b _ hi => (hno i hi).elim) (fun i b hi => (hno i hi).elim) (fun i b hi => (hno i hi).elim),
  fun i b hi => (hno i hi).elim, closedF_rep hc (.pv _ _ hr)⟩

theorem FS_ofFN {P : Program} {gl : List (Nat × Obj)} {f : FuncId} {args : List PV} {R : List Blk → FV → Prop} {p : PV} (h : FN P gl f args R) (hR : ∀ own r, R own r → snapD own (List.range own.length) 8 r = some p) : FS P gl f args (· = p) := by
 refine ⟨h.1, fun w S vs hgl hS hargs => (h.2 w vs hgl (fun j hj => (hargs j hj).mono (fun _ _ => rfl) hS)).mono ?_⟩
 rintro e w' ⟨v, r, own', m', rfl, hr, hb, hos, hbn, hrr⟩
 refine ⟨v, p, rfl, rfl, hb, ?_⟩
 refine snapD_rep (own := own') (ds := List.range own'.length) (S := fun _ => False) (m := m') (fun i bl u hi hl hu => ?_) (fun b hf => hf.elim) (fun i b hi hl hm => .inr ⟨hbn i b hl hm, hos.lt i b hl hm⟩) 8 _ _ _ hrr (hR own' r hr)
 obtain ⟨u', hu', hok⟩ := hos.ok i bl hi hl
 rw [hu] at hu'
 rw [Option.some.inj hu']
 exact hok

end Go.Pe

/- Arguments that can be read as data are read by value; and they read again behind a call that turned nothing old. -/
namespace Go.Pe
open Go Go.ChangeShapes Go.WideShapes Go.Deep Go.RowKit

def isSt (P : Program) (t : TypeId) : Bool :=
 match P.underlying t with
 | some (.struct _) => true
 | _ => false

def mkEl (P : Program) (t : TypeId) (c : List PV) : PV := match isSt P t with
 | true => .agg c
 | false => c.headD (.val (.bool false))

def TypedF (R : TypeId → List PV → Prop) : List Field → List PV → Prop
 | [], ps => ps = []
 | f :: fs, ps => ∃ p q, R f.type p ∧ TypedF R fs q ∧ ps = p ++ q

def Typed (P : Program) : Nat → TypeId → List PV → Prop
 | 0, _, _ => False
 | n + 1, t, ps =>
  match P.underlying t with
  | some .bool => ∃ b, ps = [.val (.bool b)]
  | some (.int k) => ∃ m, ps = [.val (.int k m)] ∧ (Lit.int k m).wf = true
  | some (.slice e) => ∃ cl : List (List PV), ps = [.lst (cl.map (mkEl P e))] ∧ cl.length ≤ maxLen ∧ ∀ c ∈ cl, Typed P n e c
  | some (.struct fs) => TypedF (Typed P n) fs.toList ps
  | _ => False

def plainTy (P : Program) : Nat → TypeId → Bool
 | 0, _ => false
 | n + 1, t =>
  match P.underlying t with
  | some .bool => true
  | some (.int _) => true
  | some (.slice e) => decide (0 < P.cellsOf e) && plainTy P n e
  | some (.struct fs) => fs.toList.all fun f => plainTy P n f.type
  | _ => false

inductive RepL (w : World) (S : Nat → Prop) : List Value → List PV → Prop
 | nil : RepL w S [] []
 | cons {v p vs ps} : Rep w S v p → v.oneCell' = true → RepL w S vs ps → RepL w S (v :: vs) (p :: ps)

theorem RepL.len {w : World} {S : Nat → Prop} {vs : List Value} {ps : List PV} (h : RepL w S vs ps) : vs.length = ps.length := by
 induction h with
 | nil => rfl
 | cons _ _ _ ih => simp [ih]

theorem RepL.get {w : World} {S : Nat → Prop} {vs : List Value} {ps : List PV} (h : RepL w S vs ps) (d : Value) : ∀ j (hj : j < ps.length), Rep w S (vs.getD j d) ps[j] ∧ (vs.getD j d).oneCell' = true := by
 induction h with
 | nil => intro j hj; simp at hj
 | cons h1 h2 _ ih =>
  intro j hj
  cases j with
  | zero => exact ⟨h1, h2⟩
  | succ j => simpa using ih j (by simpa using hj)

theorem RepL.append {w : World} {S : Nat → Prop} {vs us : List Value} {ps qs : List PV} (h : RepL w S vs ps) (h' : RepL w S us qs) : RepL w S (vs ++ us) (ps ++ qs) := by
 induction h with
 | nil => exact h'
 | cons h1 h2 _ ih => exact .cons h1 h2 ih

theorem typed_cells {P : Program} {n : Nat} {t : TypeId} {c : List PV} (h : Typed P n t c) : (mkEl P t c).cells = c := by
 cases n with
 | zero => exact h.elim
 | succ n =>
  unfold Typed at h
  unfold mkEl isSt
  cases hu : P.underlying t with
  | none => rw [hu] at h; exact h.elim
  | some u =>
   rw [hu] at h
   cases u <;> first | exact h.elim | skip
   ·obtain ⟨b, rfl⟩ := h; rfl
   ·obtain ⟨b, rfl, _⟩ := h; rfl
   ·obtain ⟨b, rfl, _⟩ := h; rfl
   ·rfl

theorem range_mapM_get {α : Type} {f : Nat → Option α} {n : Nat} {l : List α} (h : (List.range n).mapM f = some l) : l.length = n ∧ ∀ j, j < n → f j = l[j]? := by
 have h1 := mapM_some_length h
 rw [List.length_range] at h1
 exact ⟨h1, fun j hj => mapM_some_get h j j (by simp [hj])⟩

section
variable {H : Type} {enc : TypeId × Value → H} {P : Program} {w : World} {base : Nat} {spare : Nat → Bool} {held : Bool} {T : TypeId → Prop}

theorem cells_at {a : Addr} {n : Nat} {cs : List Value} (h : w.cells? base a n = some cs) : cs.length = n ∧ ∀ j, j < n → w.cell? (a.add j) = some (cs.getD j (.bool false)) := by
 unfold World.cells? at h
 split at h
 ·obtain ⟨h1, h2⟩ := range_mapM_get h
  refine ⟨h1, fun j hj => ?_⟩
  rw [h2 j hj, List.getD, List.getElem?_eq_getElem (by omega)]
  rfl
 ·cases h

theorem cell_spot {a : Addr} {v : Value} (h : w.cell? a = some v) : a.spot = none ∧ a.block < w.heap.size := by
 unfold World.cell? at h
 split at h
 ·rename_i hb
  split at h
  ·cases h
  ·rename_i hs
   refine ⟨by cases hq : a.spot <;> simp_all, ?_⟩
   rcases Nat.lt_or_ge a.block w.heap.size with h1 | h1
   ·exact h1
   ·rw [Array.getElem?_eq_none h1] at hb; cases hb
 ·cases h

theorem fields_rep {m n : Nat} (ih : ∀ (t : TypeId) (cs : List Value) (x : DataW H × List MemPlace), T t → plainTy P m t = true → DataW.trod enc P w base spare held n t cs = some x →
   ∃ ps, Typed P m t ps ∧ RepL w (fun b => b < w.heap.size) cs ps) :
  ∀ (fs : List Field) (cs : List Value) (off : Nat), (∀ j f, fs[j]? = some f → f.offset = off + ((fs.take j).map fun f => P.cellsOf f.type).sum) → cs.length = off + (fs.map fun f => P.cellsOf f.type).sum →
   (∀ f ∈ fs, T f.type ∧ plainTy P m f.type = true ∧ ∃ y, DataW.trod enc P w base spare held n f.type ((cs.drop f.offset).take (P.cellsOf f.type)) = some y) →
   ∃ ps, TypedF (Typed P m) fs ps ∧ RepL w (fun b => b < w.heap.size) (cs.drop off) ps := by
 intro fs
 induction fs with
 | nil =>
  intro cs off _ hl _
  refine ⟨[], rfl, ?_⟩
  rw [List.drop_of_length_le (by simp at hl; omega)]
  exact .nil
 | cons f fs ihf =>
  intro cs off hoff hl hall
  obtain ⟨hT, hp, y, hy⟩ := hall f (by simp)
  have h0 : f.offset = off := by simpa using hoff 0 f rfl
  rw [h0] at hy
  obtain ⟨p, hp1, hp2⟩ := ih _ _ _ hT hp hy
  obtain ⟨q, hq1, hq2⟩ := ihf cs (off + P.cellsOf f.type) (fun j g hg => by
   have := hoff (j + 1) g (by simpa using hg)
   rw [this]
   simp only [List.take_succ_cons, List.map_cons, List.sum_cons]
   omega) (by simp only [List.map_cons, List.sum_cons] at hl; omega) (fun g hg => hall g (List.mem_cons_of_mem _ hg))
  refine ⟨p ++ q, ⟨p, q, hp1, hq1, rfl⟩, ?_⟩
  have := hp2.append hq2
  rwa [← List.drop_drop, List.take_append_drop] at this

theorem rep_of_trod (K : Kids P T) : ∀ (m n : Nat) (t : TypeId) (cs : List Value) (x : DataW H × List MemPlace), T t → plainTy P m t = true → DataW.trod enc P w base spare held n t cs = some x →
  ∃ ps, Typed P m t ps ∧ RepL w (fun b => b < w.heap.size) cs ps := by
 intro m
 induction m with
 | zero => intro n t cs x _ hp; simp [plainTy] at hp
 | succ m ih =>
  intro n t cs x hT hp h
  unfold plainTy at hp
  cases hu : P.underlying t with
  | none => rw [hu] at hp; cases hp
  | some u =>
   rw [hu] at hp
   cases u <;> first | cases hp; done | skip
   case bool =>
    obtain ⟨b, rfl, _⟩ := DataW.trod_bool hu h
    exact ⟨[.val (.bool b)], by unfold Typed; rw [hu]; exact ⟨b, rfl⟩, .cons (.val _ rfl) rfl .nil⟩
   case int k =>
    obtain ⟨z, rfl, _, hw⟩ := DataW.trod_int hu h
    exact ⟨[.val (.int k z)], by unfold Typed; rw [hu]; exact ⟨z, rfl, hw⟩, .cons (.val _ rfl) rfl .nil⟩
   case slice e =>
    rw [Bool.and_eq_true, decide_eq_true_eq] at hp
    have hTe : T e := K.slice hT hu
    rcases open_slice hu h with ⟨rfl, _⟩ | ⟨a, len, cap, m', n', D, Pl, rfl, _, hlc, hcm, hm', _, hel⟩
    ·exact ⟨[.lst []], by unfold Typed; rw [hu]; exact ⟨[], rfl, Nat.zero_le _, by simp⟩, .cons (.nil _ _) rfl .nil⟩
    ·rcases Nat.eq_zero_or_pos len with rfl | hpos
     ·exact ⟨[.lst []], by unfold Typed; rw [hu]; exact ⟨[], rfl, Nat.zero_le _, by simp⟩, .cons (.nil _ _) rfl .nil⟩
     have hlm : len ≤ m' := by rw [hm']; split <;> omega
     have hex : ∀ i, i < len → ∃ z : List Value × List PV, w.cells? base (a.add (i * P.cellsOf e)) (P.cellsOf e) = some z.1 ∧ Typed P m e z.2 ∧ RepL w (fun b => b < w.heap.size) z.1 z.2 := by
      intro i hi
      obtain ⟨cs', h1, h2⟩ := hel i (by omega)
      obtain ⟨ps, h3, h4⟩ := ih _ _ _ _ hTe hp.2 h2
      exact ⟨(cs', ps), h1, h3, h4⟩
     obtain ⟨Z, hZ⟩ := choose_lt hex
     have hs0 : a.spot = none ∧ a.block < w.heap.size := by
      have h1 := (cells_at (hZ 0 hpos).1).2 0 hp.1
      simp only [Nat.zero_mul, Addr.add, if_true] at h1
      exact cell_spot h1
     obtain ⟨b, o, sp⟩ := a
     simp only at hs0
     obtain ⟨rfl, hb⟩ := hs0
     have hadd : ∀ i, (⟨b, o, none⟩ : Addr).add i = ⟨b, o + i, none⟩ := by
      intro i
      unfold Addr.add
      by_cases hi : i = 0 <;> simp [hi]
     have hcl : ((List.range len).map fun i => (Z i).2).length = len := by simp
     have hge : ∀ i, i < len → (((List.range len).map fun i => (Z i).2).map (mkEl P e)).getD i (.lst []) = mkEl P e (Z i).2 := by
      intro i hi; simp [List.getD, hi]
     have hgg : ∀ i (hi : i < (((List.range len).map fun i => (Z i).2).map (mkEl P e)).length), (((List.range len).map fun i => (Z i).2).map (mkEl P e))[i] = mkEl P e (Z i).2 := by
      intro i hi; simp
     have hL : (((List.range len).map fun i => (Z i).2).map (mkEl P e)).length = len := by simp
     refine ⟨[.lst (((List.range len).map fun i => (Z i).2).map (mkEl P e))], ?_, .cons ?_ rfl .nil⟩
     ·unfold Typed; rw [hu]
      refine ⟨_, rfl, by omega, ?_⟩
      intro c hc
      obtain ⟨i, hi, rfl⟩ := List.mem_map.1 hc
      exact (hZ i (List.mem_range.1 hi)).2.1
     ·have hin : ∀ k j, k < len → j < (Z k).2.length → Rep w (fun b => b < w.heap.size) ((Z k).1.getD j (.bool false)) ((Z k).2.getD j (.lst [])) := by
       intro k j hk hj
       have := ((hZ k hk).2.2.get (.bool false) j hj).1
       simpa [List.getD, hj] using this
      have hR := Rep.lst (w := w) (S := fun b => b < w.heap.size) b o cap (P.cellsOf e) (((List.range len).map fun i => (Z i).2).map (mkEl P e)) (fun k j => if k < len ∧ j < P.cellsOf e then (Z k).1.getD j (.bool false) else .bool false) hb (by omega)
       (fun k hk => by
        rw [hgg, typed_cells (hZ k (by omega)).2.1, ← (hZ k (by omega)).2.2.len]
        exact (cells_at (hZ k (by omega)).1).1)
       (fun k j hk hj => by
        have h1 := (cells_at (hZ k (by omega)).1).2 j hj
        rw [hadd] at h1
        rw [show (⟨b, o + k * P.cellsOf e, none⟩ : Addr).add j = ⟨b, o + k * P.cellsOf e + j, none⟩ by unfold Addr.add; by_cases hi : j = 0 <;> simp [hi]] at h1
        rw [h1, if_pos ⟨by omega, hj⟩])
       (fun k j => by
        split
        ·rename_i hkj
         have h0 := (cells_at (hZ k hkj.1).1).1
         have h1 := (hZ k hkj.1).2.2
         exact (h1.get (.bool false) j (by rw [← h1.len]; omega)).2
        ·rfl)
       (fun k hk j hj => by
        have hk' : k < len := by omega
        simp only [hgg, typed_cells (hZ k hk').2.1] at hj ⊢
        have h0 := (cells_at (hZ k hk').1).1
        have h1 := (hZ k hk').2.2
        rw [if_pos ⟨hk', by have := h1.len; omega⟩]
        exact (h1.get (.bool false) j hj).1)
      rwa [hL] at hR
   case struct fs =>
    obtain ⟨xs, n', rfl, _, hlen, hxl, hf⟩ := DataW.trod_struct hu h
    obtain ⟨hk1, hk2, hk3⟩ := K.struct hT hu
    obtain ⟨ps, hp1, hp2⟩ := fields_rep (ih n') fs.toList cs 0 (fun j f hj => by rw [Nat.zero_add]; exact hk3 j f hj) (by rw [hlen, hk2, Nat.zero_add]) (fun f hfm => by
     refine ⟨hk1 f hfm, List.all_eq_true.1 hp f hfm, ?_⟩
     obtain ⟨i, hi, he⟩ := List.getElem_of_mem hfm
     have h1 := hf i f (by rw [← he]; simp [Array.getElem?_eq_getElem (by simpa using hi)])
     rw [h1, List.getElem?_eq_getElem (by simp at hi; omega)]
     exact ⟨_, rfl⟩)
    rw [List.drop_zero] at hp2
    exact ⟨ps, by unfold Typed; rw [hu]; exact hp1, hp2⟩

theorem rep_arg (K : Kids P T) {m : Nat} {t : TypeId} {v : Value} {d : DataW H} {pl : List MemPlace} {r : Reach} {b0 : Nat} (hT : T t) (hp : plainTy P m t = true) (hval : Value.okWide P w r b0 t v)
  (h : DataW.Trod enc P w base spare held t v d pl) : ∃ c, Typed P m t c ∧ Rep w (fun b => b < w.heap.size) v (mkEl P t c) := by
 obtain ⟨fuel, h⟩ := h
 obtain ⟨ps, h1, h2⟩ := rep_of_trod K m _ t _ _ hT hp h
 refine ⟨ps, h1, ?_⟩
 cases m with
 | zero => simp [plainTy] at hp
 | succ m =>
 unfold plainTy at hp
 unfold Value.okWide at hval
 cases hu : P.underlying t with
 | none => rw [hu] at hp; cases hp
 | some u =>
  rw [hu] at hp hval
  have one : ∀ {u : Value} {p : PV}, v.cells.toList = [u] → v = u → ps = [p] → Rep w (fun b => b < w.heap.size) v p := by
   intro u p e1 e2 e3
   rw [e1, e3] at h2
   cases h2 with | cons a _ _ => rw [e2]; exact a
  cases u <;> first | cases hp; done | skip
  case bool =>
   obtain ⟨b, e, _⟩ := DataW.trod_bool hu h
   unfold Typed at h1; rw [hu] at h1
   obtain ⟨b', rfl⟩ := h1
   simp only [Cell.okWide, Cell.ok, hu] at hval
   unfold mkEl isSt; rw [hu]
   cases v <;> first | exact hval.elim | skip
   exact one rfl rfl rfl
  case int k =>
   obtain ⟨b, e, _⟩ := DataW.trod_int hu h
   unfold Typed at h1; rw [hu] at h1
   obtain ⟨b', rfl, _⟩ := h1
   simp only [Cell.okWide, Cell.ok, hu] at hval
   unfold mkEl isSt; rw [hu]
   cases v <;> first | exact hval.elim | skip
   exact one rfl rfl rfl
  case slice el =>
   unfold Typed at h1; rw [hu] at h1
   obtain ⟨b', rfl, _⟩ := h1
   simp only [Cell.okWide, Cell.ok, hu] at hval
   unfold mkEl isSt; rw [hu]
   cases v <;> first | exact hval.elim | skip
   exact one rfl rfl rfl
  case struct fs =>
   obtain ⟨cs, rfl, _⟩ := hval
   unfold mkEl isSt; rw [hu]
   have hl := h2.len
   have e : (Value.agg cs) = .agg (vrange ps.length fun j => cs.toList.getD j (.bool false)).toArray := by
    congr 1
    apply Array.ext'
    simp only [vrange]
    apply List.ext_getElem?
    intro i
    have hl' : cs.toList.length = ps.length := hl
    by_cases hi : i < ps.length
    ·have hi2 : i < cs.toList.length := by omega
     simp [hi, List.getD]
     simp at hi2
     rw [Array.getElem?_eq_getElem hi2]
     simp
    ·simp [hi]
     simp at hl'
     omega
   rw [e]
   exact .agg ps _ (fun j => by
    rcases Nat.lt_or_ge j ps.length with hj | hj
    ·exact (h2.get (.bool false) j hj).2
    ·have hl' : cs.toList.length = ps.length := hl
     rw [List.getD, List.getElem?_eq_none (by omega)]; rfl) (fun j hj => (h2.get (.bool false) j hj).1)

theorem trodAll_carry {w' : World} : ∀ {ts : List TypeId} {vs : List Value} {ds : List (DataW H)} {ps : List MemPlace}, DataW.TrodAll enc P w base spare held ts vs ds ps → (∀ p ∈ ps, w.sameAt w' p) → DataW.TrodAll enc P w' base spare held ts vs ds ps
 | [], [], [], _, h, _ => h
 | _ :: _, _ :: _, _ :: _, _, ⟨p, q, ⟨n, h1⟩, h2, e⟩, hs => ⟨p, q, ⟨n, DataW.trod_carry n _ _ _ h1 (fun x hx => hs x (by rw [e]; exact List.mem_append_left _ hx))⟩, trodAll_carry h2 (fun x hx => hs x (by rw [e]; exact List.mem_append_right _ hx)), e⟩

theorem same_below {w w' : World} (hb : Below w.heap.size w w') {p : MemPlace} (hp : p.block < w.heap.size) : w.sameAt w' p := by
 have := hb.block _ hp
 cases p with
 | cell b o =>
  show _ = _
  unfold World.cell?
  simp only [MemPlace.block] at this
  simp only [this]
 | map b => exact this

theorem args_again (K : Kids P T) (hz : ∀ t e, T t → P.underlying t = some (.slice e) → 0 < P.cellsOf e) {w' : World} {ts : List TypeId} {vs : List Value} {ds : List (DataW H)} {ps : List MemPlace} (hts : ∀ t ∈ ts, T t)
  (h : DataW.TrodAll enc P w base (fun _ => true) true ts vs ds ps) (hb : Below w.heap.size w w') : DataW.TrodAll enc P w' base (fun b => decide (b < w.heap.size)) true ts vs ds ps :=
 trodAll_carry (DataW.TrodAll.respare K hz hts h (fun p hp => by simpa using h.lt p hp)) (fun p hp => same_below hb (h.lt p hp))

end

theorem vrange_getD (l : List Value) (d : Value) : vrange l.length (fun j => l.getD j d) = l := by
 apply List.ext_getElem?
 intro i
 by_cases hi : i < l.length <;> simp [vrange, hi, List.getD]

theorem law_calls {P : Program} {gl : List (Nat × Obj)} {f : FuncId} {args : List PV} {vs : Array Value} (h : FS P gl f args (· = .val (.bool true))) (w : World) (hgl : Glob gl w) (hl : vs.size = args.length)
  (ha : ∀ j (hj : j < args.length), Rep w (fun b => b < w.heap.size) (vs.toList.getD j (.bool false)) args[j]) :
  Calls P f vs w fun e w' => e = .returned (.bool true) ∧ Below w.heap.size w w' := by
 have h1 := h.2 w (fun b => b < w.heap.size) (fun j => vs.toList.getD j (.bool false)) hgl (fun _ hb => hb) ha
 rw [← hl, show vs.size = vs.toList.length from rfl, vrange_getD, Array.toArray_toList] at h1
 refine Calls.mono h1 ?_
 rintro e w' ⟨v, r, rfl, rfl, hb, hr⟩
 refine ⟨?_, hb⟩
 cases hr
 rfl

/-! the shapes that data have, type by type -/

theorem typed_bool {P : Program} {n : Nat} {t : TypeId} {c : List PV} (hu : P.underlying t = some .bool) (h : Typed P (n + 1) t c) : ∃ b, c = [.val (.bool b)] := by
 unfold Typed at h; rw [hu] at h; exact h

theorem typed_int {P : Program} {n : Nat} {t : TypeId} {c : List PV} {k : IntKind} (hu : P.underlying t = some (.int k)) (h : Typed P (n + 1) t c) : ∃ m, c = [.val (.int k m)] ∧ (Lit.int k m).wf = true := by
 unfold Typed at h; rw [hu] at h; exact h

theorem typed_ints {P : Program} {n : Nat} {t e : TypeId} {c : List PV} (hu : P.underlying t = some (.slice e)) (he : P.underlying e = some (.int .i64)) (h : Typed P (n + 2) t c) :
  ∃ l : List Int, c = [.lst (intsL l)] ∧ l.length ≤ maxLen := by
 unfold Typed at h; rw [hu] at h
 obtain ⟨cl, rfl, hl, hc⟩ := h
 have : ∃ l : List Int, cl.map (mkEl P e) = intsL l ∧ l.length = cl.length := by
  clear hl
  induction cl with
  | nil => exact ⟨[], rfl, rfl⟩
  | cons x r ih =>
   obtain ⟨l, h1, h2⟩ := ih (fun c hc' => hc c (List.mem_cons_of_mem _ hc'))
   obtain ⟨m, hm, _⟩ := typed_int he (hc x (by simp))
   refine ⟨m :: l, ?_, by simp [h2]⟩
   rw [List.map_cons, h1, hm]
   unfold mkEl isSt
   rw [he]
   rfl
 obtain ⟨l, h1, h2⟩ := this
 exact ⟨l, by rw [h1], by omega⟩

theorem typed_st1 {P : Program} {n : Nat} {t : TypeId} {c : List PV} {f : Field} (hu : P.underlying t = some (.struct #[f])) (h : Typed P (n + 1) t c) : Typed P n f.type c := by
 unfold Typed at h; rw [hu] at h
 obtain ⟨p, q, h1, h2, rfl⟩ := h
 have h2 : q = [] := h2
 rw [h2, List.append_nil]; exact h1

theorem typed_st2 {P : Program} {n : Nat} {t : TypeId} {c : List PV} {f g : Field} (hu : P.underlying t = some (.struct #[f, g])) (h : Typed P (n + 1) t c) : ∃ p q, Typed P n f.type p ∧ Typed P n g.type q ∧ c = p ++ q := by
 unfold Typed at h; rw [hu] at h
 obtain ⟨p, q, h1, ⟨q1, q2, h2, h3, rfl⟩, rfl⟩ := h
 have h3 : q2 = [] := h3
 exact ⟨p, q1, h1, h2, by rw [h3, List.append_nil]⟩

end Go.Pe

/- Long division: plain laws. -/
namespace Go.Dg
open Go

theorem val_td (l : List Int) (k : Nat) : val l = val (l.take k) + 65536 ^ k * val (l.drop k) := by
 rcases Nat.lt_or_ge l.length k with h | h
 ·rw [List.take_of_length_le (by omega), List.drop_of_length_le (by omega)]
  simp [val]
 ·have := val_append (l.take k) (l.drop k)
  rw [List.take_append_drop, List.length_take, Nat.min_eq_left h] at this
  exact this

theorem pow_mono (b : Nat) (hb : 0 < b) {m k : Nat} (h : m ≤ k) : (b : Int) ^ m ≤ (b : Int) ^ k := by
 rw [← Int.natCast_pow, ← Int.natCast_pow]
 exact Int.ofNat_le.2 (Nat.pow_le_pow_right hb h)

theorem take_lt {l : List Int} (h : Valid l) (k : Nat) : val (l.take k) < 65536 ^ k := by
 refine Int.lt_of_lt_of_le (val_lt_pow (h.take k)) ?_
 rw [List.length_take]
 exact pow_mono 65536 (by decide) (Nat.min_le_left _ _)

def estI (t v1 : Int) (R V q r : Int) : Prop := q * v1 + r = t ∧ 0 ≤ r ∧ r < 65536 ∧ 0 ≤ q ∧ R < (q + 1) * V

theorem est_low {W R V t u2 v1 v2 lr q r : Int} (hW : 0 < W) (hR : R = (t * 65536 + u2) * W + lr) (hlr : lr < W) (hV : (v1 * 65536 + v2) * W ≤ V) (hq : 0 ≤ q) (ht : q * v1 + r = t) (hc : r * 65536 + u2 < q * v2) : R < q * V := by
 have h1 : q * ((v1 * 65536 + v2) * W) ≤ q * V := Int.mul_le_mul_of_nonneg_left hV hq
 have h2 : t * 65536 + u2 + 1 ≤ q * (v1 * 65536 + v2) := by
  have : q * (v1 * 65536 + v2) = (q * v1) * 65536 + q * v2 := by grind
  rw [this]; omega
 have h3 : (t * 65536 + u2 + 1) * W ≤ q * (v1 * 65536 + v2) * W := Int.mul_le_mul_of_nonneg_right h2 (by omega)
 have h4 : (t * 65536 + u2 + 1) * W = (t * 65536 + u2) * W + W := by grind
 have h5 : q * (v1 * 65536 + v2) * W = q * ((v1 * 65536 + v2) * W) := by grind
 omega

theorem est_high {W R V t u2 v1 v2 lr q r : Int} (hW : 0 < W) (hR : R = (t * 65536 + u2) * W + lr) (hlr : 0 ≤ lr) (hV : V < (v1 * 65536 + v2 + 1) * W) (hV0 : 0 ≤ V) (hv1 : 1 ≤ v1) (hv2 : 0 ≤ v2) (hu2 : 0 ≤ u2) (ht0 : 0 ≤ t)
  (hq : 0 ≤ q) (hq1 : q ≤ 65536) (ht : q * v1 + r = t) (hc : q * v2 ≤ r * 65536 + u2) : (q - 1) * V ≤ R := by
 rcases Int.lt_or_le 0 q with h | h
 ·have h1 : (q - 1) * V ≤ (q - 1) * ((v1 * 65536 + v2 + 1) * W) := Int.mul_le_mul_of_nonneg_left (by omega) (by omega)
  have h2 : (q - 1) * (v1 * 65536 + v2 + 1) ≤ t * 65536 + u2 := by
   have : (q - 1) * (v1 * 65536 + v2 + 1) = (q * v1) * 65536 + q * v2 + q - v1 * 65536 - v2 - 1 := by grind
   rw [this]; omega
  have h3 : (q - 1) * (v1 * 65536 + v2 + 1) * W ≤ (t * 65536 + u2) * W := Int.mul_le_mul_of_nonneg_right h2 (by omega)
  have h5 : (q - 1) * ((v1 * 65536 + v2 + 1) * W) = (q - 1) * (v1 * 65536 + v2 + 1) * W := by grind
  omega
 ·have : q = 0 := by omega
  subst this
  have h0 : 0 ≤ (t * 65536 + u2) * W := Int.mul_nonneg (by omega) (by omega)
  omega

theorem est_top {W R V t u2 v1 v2 lr : Int} (hW : 0 < W) (hR : R = (t * 65536 + u2) * W + lr) (hlr : 0 ≤ lr) (hu2 : 0 ≤ u2) (hV : V < (v1 * 65536 + v2 + 1) * W) (hv2 : v2 < 65536) (hRV : R < 65536 * V) : t < 65536 * (v1 + 1) := by
 apply Int.lt_of_not_ge
 intro h
 have h1 : (65536 * (v1 + 1)) * 65536 ≤ t * 65536 + u2 := by omega
 have h2 : (65536 * (v1 + 1)) * 65536 * W ≤ (t * 65536 + u2) * W := Int.mul_le_mul_of_nonneg_right h1 (by omega)
 have h3 : (v1 * 65536 + v2 + 1) * W ≤ ((v1 + 1) * 65536) * W := Int.mul_le_mul_of_nonneg_right (by omega) (by omega)
 have h4 : (65536 * (v1 + 1)) * 65536 * W = 65536 * (((v1 + 1) * 65536) * W) := by grind
 omega

structure EstD (R V t u2 v1 v2 : Int) : Prop where
 ex : ∃ W lr, 0 < W ∧ R = (t * 65536 + u2) * W + lr ∧ 0 ≤ lr ∧ lr < W ∧ (v1 * 65536 + v2) * W ≤ V ∧ V < (v1 * 65536 + v2 + 1) * W
 t0 : 0 ≤ t
 u20 : 0 ≤ u2
 u21 : u2 < 65536
 v10 : 32768 ≤ v1
 v20 : 0 ≤ v2
 v21 : v2 < 65536
 lt : R < 65536 * V

theorem EstD.V0 {R V t u2 v1 v2 : Int} (h : EstD R V t u2 v1 v2) : 0 < V := by
 obtain ⟨W, lr, hW, _, _, _, h1, _⟩ := h.ex
 have h2 : 0 < (v1 * 65536 + v2) * W := Int.mul_pos (by have := h.v10; have := h.v20; omega) hW
 omega

theorem estI_zero {R V t u2 v1 v2 : Int} (h : EstD R V t u2 v1 v2) (hv : v1 < 65536) : estI t v1 R V (t / v1) (t % v1) := by
 have hv1 := h.v10
 have h1 := Int.emod_nonneg t (b := v1) (by omega)
 have h2 := Int.emod_lt_of_pos t (b := v1) (by omega)
 have h3 : t / v1 * v1 + t % v1 = t := by have := Int.mul_ediv_add_emod t v1; grind
 refine ⟨h3, h1, by omega, Int.ediv_nonneg h.t0 (by omega), ?_⟩
 obtain ⟨W, lr, hW, hR, hlr0, hlr, hV, hV'⟩ := h.ex
 have h4 : t + 1 ≤ (t / v1 + 1) * v1 := by
  have : (t / v1 + 1) * v1 = t / v1 * v1 + v1 := by grind
  omega
 have hq : 0 ≤ t / v1 := Int.ediv_nonneg h.t0 (by omega)
 have hV2 : v1 * 65536 * W ≤ V := by
  have : v1 * 65536 * W ≤ (v1 * 65536 + v2) * W := Int.mul_le_mul_of_nonneg_right (by have := h.v20; omega) (by omega)
  omega
 have h5 : (t / v1 + 1) * (v1 * 65536 * W) ≤ (t / v1 + 1) * V := Int.mul_le_mul_of_nonneg_left hV2 (by omega)
 have h6 : (t + 1) * (65536 * W) ≤ (t / v1 + 1) * v1 * (65536 * W) := Int.mul_le_mul_of_nonneg_right h4 (by omega)
 have h7 : (t / v1 + 1) * v1 * (65536 * W) = (t / v1 + 1) * (v1 * 65536 * W) := by grind
 have h8 : (t * 65536 + u2 + 1) * W ≤ (t + 1) * 65536 * W := Int.mul_le_mul_of_nonneg_right (by have := h.u21; omega) (by omega)
 have h9 : (t * 65536 + u2 + 1) * W = (t * 65536 + u2) * W + W := by grind
 have h10 : (t + 1) * 65536 * W = (t + 1) * (65536 * W) := by grind
 omega

theorem estI_next {R V t u2 v1 v2 q r : Int} (h : EstD R V t u2 v1 v2) (hi : estI t v1 R V q r) (hc : 65536 ≤ q ∨ r * 65536 + u2 < q * v2) : (q - 1) * v1 + (r + v1) = t ∧ 0 ≤ q - 1 ∧ R < (q - 1 + 1) * V := by
 obtain ⟨h1, h2, h3, h4, h5⟩ := hi
 obtain ⟨W, lr, hW, hR, hlr0, hlr, hV, hV'⟩ := h.ex
 have hlow : R < q * V := by
  rcases hc with hc | hc
  ·have := h.lt
   have h6 : 65536 * V ≤ q * V := Int.mul_le_mul_of_nonneg_right hc (by have := h.V0; omega)
   omega
  ·exact est_low hW hR hlr hV h4 h1 hc
 have hq1 : 1 ≤ q := by
  rcases hc with hc | hc
  ·omega
  ·by_cases hq : q = 0
   ·subst hq
    have := h.u20
    omega
   ·omega
 refine ⟨by grind, by omega, ?_⟩
 rw [show q - 1 + 1 = q by omega]; exact hlow

theorem estI_exit {R V t u2 v1 v2 q r : Int} (h : EstD R V t u2 v1 v2) (hi : estI t v1 R V q r) (h1 : q < 65536) (h2 : q * v2 ≤ r * 65536 + u2) : (q - 1) * V ≤ R ∧ R < (q + 1) * V ∧ 0 ≤ q ∧ q < 65536 := by
 obtain ⟨a1, a2, a3, a4, a5⟩ := hi
 obtain ⟨W, lr, hW, hR, hlr0, hlr, hV, hV'⟩ := h.ex
 exact ⟨est_high hW hR hlr0 hV' (by have := h.V0; omega) (by have := h.v10; omega) h.v20 h.u20 h.t0 a4 (by omega) a1 h2, a5, a4, h1⟩

theorem estI_break {R V t u2 v1 v2 q r : Int} (h : EstD R V t u2 v1 v2) (ht : q * v1 + r = t) (hq : 0 ≤ q) (hR' : R < (q + 1) * V) (hr : 65536 ≤ r) : (q - 1) * V ≤ R ∧ R < (q + 1) * V ∧ 0 ≤ q ∧ q < 65536 := by
 obtain ⟨W, lr, hW, hR, hlr0, hlr, hV, hV'⟩ := h.ex
 have htop := est_top hW hR hlr0 h.u20 hV' h.v21 h.lt
 have hv1 := h.v10
 have hq1 : q < 65536 := by
  apply Int.lt_of_not_ge
  intro hge
  have : 65536 * v1 ≤ q * v1 := Int.mul_le_mul_of_nonneg_right hge (by omega)
  omega
 have hc : q * v2 ≤ r * 65536 + u2 := by
  have h1 : q * v2 ≤ 65536 * 65536 := by
   have h3 : q * v2 ≤ 65536 * v2 := Int.mul_le_mul_of_nonneg_right (by omega) h.v20
   have := h.v21
   omega
  have := h.u20
  omega
 exact ⟨est_high hW hR hlr0 hV' (by have := h.V0; omega) (by omega) h.v20 h.u20 h.t0 hq (by omega) ht hc, hR', hq, hq1⟩

theorem estD_of {u v : List Int} {j : Nat} (hu : Valid u) (hv : Valid v) (hn : 2 ≤ v.length) (hv1 : 32768 ≤ v.getD (v.length - 1) 0) (hlt : val (u.drop j) < 65536 * val v) :
  EstD (val (u.drop j)) (val v) (u.getD (j + v.length) 0 * 65536 + u.getD (j + v.length - 1) 0) (u.getD (j + v.length - 2) 0) (v.getD (v.length - 1) 0) (v.getD (v.length - 2) 0) := by
 have g0 := hu.get (j + v.length)
 have g1 := hu.get (j + v.length - 1)
 have g2 := hu.get (j + v.length - 2)
 have k1 := hv.get (v.length - 1)
 have k2 := hv.get (v.length - 2)
 refine ⟨⟨65536 ^ (v.length - 2), val ((u.drop j).take (v.length - 2)), pow_pos _, ?_, val_nonneg ((hu.drop j).take _), take_lt (hu.drop j) _, ?_, ?_⟩, by omega, by omega, by omega, hv1, by omega, by omega, hlt⟩
 ·rw [val_td (u.drop j) (v.length - 2), List.drop_drop]
  rw [val_drop0 u (j + (v.length - 2)), val_drop0 u (j + (v.length - 2) + 1), val_drop0 u (j + (v.length - 2) + 1 + 1)]
  have hz : val (u.drop (j + (v.length - 2) + 1 + 1 + 1)) = 0 := by
   have h0 : 0 ≤ val (u.drop (j + (v.length - 2) + 1 + 1 + 1)) := val_nonneg (hu.drop _)
   apply Int.le_antisymm _ h0
   apply Int.le_of_lt_add_one
   apply Int.lt_of_not_ge
   intro hge
   have e1 := val_td (u.drop j) (v.length + 1)
   rw [List.drop_drop] at e1
   have e2 : j + (v.length + 1) = j + (v.length - 2) + 1 + 1 + 1 := by omega
   rw [e2] at e1
   have h1 := val_nonneg ((hu.drop j).take (v.length + 1))
   have h2 : 65536 ^ (v.length + 1) * 1 ≤ 65536 ^ (v.length + 1) * val (u.drop (j + (v.length - 2) + 1 + 1 + 1)) := Int.mul_le_mul_of_nonneg_left (by omega) (by have := pow_pos (v.length + 1); omega)
   have h3 := val_lt_pow hv
   have h4 : (65536 : Int) ^ (v.length + 1) = 65536 * 65536 ^ v.length := by rw [Int.pow_succ]; exact Int.mul_comm _ _
   omega
  rw [hz]
  have e1 : j + (v.length - 2) = j + v.length - 2 := by omega
  have e2 : j + (v.length - 2) + 1 = j + v.length - 1 := by omega
  have e3 : j + (v.length - 2) + 1 + 1 = j + v.length := by omega
  rw [e3, e2, e1]
  generalize val ((u.drop j).take (v.length - 2)) = X
  generalize (65536 : Int) ^ (v.length - 2) = W
  grind
 ·have e := val_td v (v.length - 2)
  have e1 := val_drop0 v (v.length - 2)
  have e2 := val_drop0 v (v.length - 2 + 1)
  rw [List.drop_of_length_le (show v.length ≤ v.length - 2 + 1 + 1 by omega)] at e2
  have e3 : v.length - 2 + 1 = v.length - 1 := by omega
  rw [e3] at e1 e2
  have h0 := val_nonneg (hv.take (v.length - 2))
  have : 65536 ^ (v.length - 2) * val (v.drop (v.length - 2)) = (v.getD (v.length - 1) 0 * 65536 + v.getD (v.length - 2) 0) * 65536 ^ (v.length - 2) := by
   rw [e1, e2, show val [] = 0 from rfl]; grind
  omega
 ·have e := val_td v (v.length - 2)
  have e1 := val_drop0 v (v.length - 2)
  have e2 := val_drop0 v (v.length - 2 + 1)
  rw [List.drop_of_length_le (show v.length ≤ v.length - 2 + 1 + 1 by omega)] at e2
  have e3 : v.length - 2 + 1 = v.length - 1 := by omega
  rw [e3] at e1 e2
  have h0 := take_lt hv (v.length - 2)
  have : 65536 ^ (v.length - 2) * val (v.drop (v.length - 2)) = (v.getD (v.length - 1) 0 * 65536 + v.getD (v.length - 2) 0) * 65536 ^ (v.length - 2) := by
   rw [e1, e2, show val [] = 0 from rfl]; grind
  have h5 : (v.getD (v.length - 1) 0 * 65536 + v.getD (v.length - 2) 0 + 1) * 65536 ^ (v.length - 2) = (v.getD (v.length - 1) 0 * 65536 + v.getD (v.length - 2) 0) * 65536 ^ (v.length - 2) + 65536 ^ (v.length - 2) := by grind
  omega

def tkI (u v : List Int) (j : Nat) (q i b : Int) (o : List Int) : Prop :=
 0 ≤ i ∧ i ≤ v.length ∧ o.length = u.length ∧ 0 ≤ b ∧ b ≤ 65535 ∧ Valid o ∧ (∀ k : Nat, j + i.toNat ≤ k → o.getD k 0 = u.getD k 0) ∧ val o - b * 65536 ^ (j + i.toNat) = val u - q * val (v.take i.toNat) * 65536 ^ j

theorem tkI_zero {u v : List Int} {j : Nat} {q : Int} (hu : Valid u) : tkI u v j q 0 0 u := ⟨Int.le_refl _, by omega, rfl, Int.le_refl _, by decide, hu, fun _ _ => rfl, by simp [val]⟩

theorem tkI_next {u v o : List Int} {j : Nat} {q i b d b' d' : Int} (hv : Valid v) (h : tkI u v j q i b o) (hi : i < v.length) (hj : j + v.length ≤ u.length) (hq0 : 0 ≤ q) (hq1 : q < 65536)
  (hd : d = o.getD (j + i.toNat) 0 - q * v.getD i.toNat 0 - b) (hb' : 0 ≤ b' ∧ b' ≤ 65535) (hd' : d' = d + b' * 65536) (h0 : 0 ≤ d') (h1 : d' < 65536) : tkI u v j q (i + 1) b' (o.set (j + i.toNat) d') := by
 obtain ⟨a1, a2, a3, a4, a5, a6, a7, a8⟩ := h
 have e : (i + 1).toNat = i.toNat + 1 := by omega
 refine ⟨by omega, by omega, by rw [List.length_set]; exact a3, hb'.1, hb'.2, a6.set h0 h1, fun k hk => ?_, ?_⟩
 ·rw [getD_set_ne (by omega)]; exact a7 k (by omega)
 ·rw [val_set _ _ _ (by omega), e, val_take_succ0, hd', hd, ← Nat.add_assoc, Int.pow_succ (65536) (j + i.toNat), Int.pow_add]
  rw [Int.pow_add] at a8
  generalize val o = X at *
  generalize val u = Y at *
  generalize val (v.take i.toNat) = Z at *
  generalize (65536 : Int) ^ j = P at *
  generalize (65536 : Int) ^ i.toNat = W at *
  generalize o.getD (j + i.toNat) 0 = s at *
  generalize v.getD i.toNat 0 = t at *
  grind

theorem borrow_law {x q y b d : Int} (hx : 0 ≤ x ∧ x < 65536) (hq : 0 ≤ q ∧ q < 65536) (hy : 0 ≤ y ∧ y < 65536) (hb : 0 ≤ b ∧ b ≤ 65535) (hd : d = x - q * y - b) (hn : d < 0) :
  0 ≤ (-d + 65535) / 65536 ∧ (-d + 65535) / 65536 ≤ 65535 ∧ 0 ≤ d + (-d + 65535) / 65536 * 65536 ∧ d + (-d + 65535) / 65536 * 65536 < 65536 ∧ -4294967296 ≤ d := by
 have h := mul_bound hq hy
 omega

def tkR (u v : List Int) (j : Nat) (q : Int) (o : List Int) (b : Bool) : Prop :=
 o.length = u.length ∧ val o = val u - q * val v * 65536 ^ j ∧ (∀ k : Nat, k ≠ j + v.length → 0 ≤ o.getD k 0 ∧ o.getD k 0 < 65536) ∧ b = decide (o.getD (j + v.length) 0 < 0) ∧
  -65535 ≤ o.getD (j + v.length) 0 ∧ o.getD (j + v.length) 0 < 65536 ∧ (∀ k : Nat, j + v.length < k → o.getD k 0 = u.getD k 0)

theorem tkI_exit {u v o : List Int} {j : Nat} {q i b t : Int} (h : tkI u v j q i b o) (hi : v.length ≤ i) (hj : j + v.length < u.length) (ht : t = o.getD (j + v.length) 0 - b) : tkR u v j q (o.set (j + v.length) t) (decide (t < 0)) := by
 obtain ⟨a1, a2, a3, a4, a5, a6, a7, a8⟩ := h
 have e : i.toNat = v.length := by omega
 rw [e, List.take_of_length_le (Nat.le_refl _)] at a8
 rw [e] at a7
 have g := a6.get (j + v.length)
 have hs : (o.set (j + v.length) t).getD (j + v.length) 0 = t := getD_set_eq (by omega)
 refine ⟨by rw [List.length_set]; exact a3, ?_, fun k hk => ?_, by rw [hs], by rw [hs]; omega, by rw [hs]; omega, fun k hk => ?_⟩
 ·rw [val_set _ _ _ (by omega), ht]
  generalize val o = X at *
  generalize val u = Y at *
  generalize (65536 : Int) ^ (j + v.length) = W at *
  grind
 ·rw [getD_set_ne (fun h => hk h.symm)]; exact a6.get k
 ·rw [getD_set_ne (by omega)]; exact a7 k (by omega)

def adI (u v : List Int) (j : Nat) (i c : Int) (o : List Int) : Prop :=
 0 ≤ i ∧ i ≤ v.length ∧ o.length = u.length ∧ 0 ≤ c ∧ c ≤ 1 ∧ (∀ k : Nat, k ≠ j + v.length → 0 ≤ o.getD k 0 ∧ o.getD k 0 < 65536) ∧ (∀ k : Nat, j + i.toNat ≤ k → o.getD k 0 = u.getD k 0) ∧
  val o + c * 65536 ^ (j + i.toNat) = val u + val (v.take i.toNat) * 65536 ^ j

theorem adI_zero {u v : List Int} {j : Nat} (hu : ∀ k : Nat, k ≠ j + v.length → 0 ≤ u.getD k 0 ∧ u.getD k 0 < 65536) : adI u v j 0 0 u := ⟨Int.le_refl _, by omega, rfl, Int.le_refl _, by decide, hu, fun _ _ => rfl, by simp [val]⟩

theorem adI_next {u v o : List Int} {j : Nat} {i c s : Int} (hv : Valid v) (h : adI u v j i c o) (hi : i < v.length) (hj : j + v.length ≤ u.length) (hs : s = c + (o.getD (j + i.toNat) 0 + v.getD i.toNat 0)) :
  adI u v j (i + 1) (s / 65536) (o.set (j + i.toNat) (s % 65536)) ∧ 0 ≤ s ∧ s ≤ 131071 := by
 obtain ⟨a1, a2, a3, a4, a5, a6, a7, a8⟩ := h
 have e : (i + 1).toNat = i.toNat + 1 := by omega
 have g1 := a6 (j + i.toNat) (by omega)
 have g2 := hv.get i.toNat
 have hb : 0 ≤ s ∧ s ≤ 131071 := by omega
 refine ⟨⟨by omega, by omega, by rw [List.length_set]; exact a3, by omega, by omega, fun k hk => ?_, fun k hk => ?_, ?_⟩, hb⟩
 ·by_cases hk2 : k = j + i.toNat
  ·rw [hk2, getD_set_eq (by omega)]; omega
  ·rw [getD_set_ne (fun h => hk2 h.symm)]; exact a6 k hk
 ·rw [getD_set_ne (by omega)]; exact a7 k (by omega)
 ·have hm : s % 65536 = s - 65536 * (s / 65536) := by omega
  rw [val_set _ _ _ (by omega), e, val_take_succ0, hm, ← Nat.add_assoc, Int.pow_succ (65536) (j + i.toNat), Int.pow_add]
  rw [Int.pow_add] at a8
  generalize s / 65536 = C at *
  generalize val o = X at *
  generalize val u = Y at *
  generalize val (v.take i.toNat) = Z at *
  generalize (65536 : Int) ^ j = P at *
  generalize (65536 : Int) ^ i.toNat = W at *
  generalize o.getD (j + i.toNat) 0 = x at *
  generalize v.getD i.toNat 0 = y at *
  grind

def adR (u v : List Int) (j : Nat) (o : List Int) : Prop :=
 o.length = u.length ∧ val o = val u + val v * 65536 ^ j ∧ (∀ k : Nat, k ≠ j + v.length → 0 ≤ o.getD k 0 ∧ o.getD k 0 < 65536) ∧ (∀ k : Nat, j + v.length < k → o.getD k 0 = u.getD k 0)

theorem adI_exit {u v o : List Int} {j : Nat} {i c : Int} (h : adI u v j i c o) (hi : v.length ≤ i) (hj : j + v.length < u.length) : adR u v j (o.set (j + v.length) (o.getD (j + v.length) 0 + c)) := by
 obtain ⟨a1, a2, a3, a4, a5, a6, a7, a8⟩ := h
 have e : i.toNat = v.length := by omega
 rw [e, List.take_of_length_le (Nat.le_refl _)] at a8
 rw [e] at a7
 refine ⟨by rw [List.length_set]; exact a3, ?_, fun k hk => ?_, fun k hk => ?_⟩
 ·rw [val_set _ _ _ (by omega)]
  generalize val o = X at *
  generalize val u = Y at *
  generalize (65536 : Int) ^ (j + v.length) = W at *
  grind
 ·rw [getD_set_ne (fun h => hk h.symm)]; exact a6 k hk
 ·rw [getD_set_ne (by omega)]; exact a7 k (by omega)

theorem val_top {o : List Int} {k : Nat} (h : ∀ i, i < k → 0 ≤ o.getD i 0 ∧ o.getD i 0 < 65536) (hz : ∀ i, k < i → o.getD i 0 = 0) : ∃ low, 0 ≤ low ∧ low < 65536 ^ k ∧ val o = low + 65536 ^ k * o.getD k 0 := by
 have hv : Valid (o.take k) := by
  intro x hx
  obtain ⟨i, hi, rfl⟩ := List.getElem_of_mem hx
  rw [List.length_take] at hi
  have := h i (by omega)
  rw [List.getD, List.getElem?_eq_getElem (by omega)] at this
  simpa using this
 refine ⟨val (o.take k), val_nonneg hv, ?_, ?_⟩
 ·have := val_lt_pow hv
  rw [List.length_take] at this
  exact Int.lt_of_lt_of_le this (pow_mono 65536 (by decide) (Nat.min_le_left _ _))
 ·have e := val_td o k
  have e1 := val_drop0 o k
  have e2 : val (o.drop (k + 1)) = 0 := by
   have : o.drop (k + 1) = List.replicate (o.drop (k + 1)).length 0 := by
    apply ext_getD (by simp)
    intro j hj
    have h1 := hz (k + 1 + j) (by omega)
    have h2 : (o.drop (k + 1)).getD j 0 = o.getD (k + 1 + j) 0 := by simp [List.getD, List.getElem?_drop]
    rw [h2, h1, List.getD, List.getElem?_replicate]
    split <;> rfl
   rw [this, val_rep]
  rw [e, e1, e2]
  simp

def dvI (N V : Int) (L M : Nat) (j : Int) (u out : List Int) : Prop :=
 -1 ≤ j ∧ j < M ∧ u.length = L ∧ out.length = M ∧ Valid u ∧ Valid out ∧ (∀ k : Nat, (k : Int) ≤ j → out.getD k 0 = 0) ∧ val out * V + val u = N ∧ val u < V * 65536 ^ (j + 1).toNat

theorem dvI_part {N V : Int} {L M : Nat} {j : Int} {u out : List Int} (h : dvI N V L M j u out) (hj : 0 ≤ j) : val (u.drop j.toNat) < 65536 * V ∧ 0 ≤ val (u.drop j.toNat) ∧
  ∀ Q : Int, (val (u.drop j.toNat) < Q * V ↔ val u < Q * V * 65536 ^ j.toNat) := by
 obtain ⟨a1, a2, a3, a4, a5, a6, a7, a8, a9⟩ := h
 have e := val_td u j.toNat
 have h0 := val_nonneg (a5.take j.toNat)
 have h1 := take_lt a5 j.toNat
 have hW := pow_pos j.toNat
 have key : ∀ Q : Int, (val (u.drop j.toNat) < Q * V ↔ val u < Q * V * 65536 ^ j.toNat) := by
  intro Q
  rw [e]
  generalize val (u.drop j.toNat) = R at *
  generalize val (u.take j.toNat) = low at *
  generalize (65536 : Int) ^ j.toNat = W at *
  generalize Q * V = X at *
  constructor
  ·intro h
   have h2 : W * (R + 1) ≤ W * X := Int.mul_le_mul_of_nonneg_left (by omega) (by omega)
   have h3 : W * (R + 1) = W * R + W := by grind
   have h4 : X * W = W * X := Int.mul_comm _ _
   omega
  ·intro h
   apply Int.lt_of_not_ge
   intro hge
   have h2 : W * X ≤ W * R := Int.mul_le_mul_of_nonneg_left hge (by omega)
   have h4 : X * W = W * X := Int.mul_comm _ _
   omega
 refine ⟨(key 65536).2 ?_, val_nonneg (a5.drop _), key⟩
 have e2 : (j + 1).toNat = j.toNat + 1 := by omega
 rw [e2, Int.pow_succ] at a9
 have : 65536 * V * 65536 ^ j.toNat = V * (65536 ^ j.toNat * 65536) := by grind
 omega

theorem dvI_above {N V : Int} {L M : Nat} {j : Int} {u out : List Int} (h : dvI N V L M j u out) (hj : 0 ≤ j) {n : Nat} (hV : V < 65536 ^ n) : ∀ k : Nat, j.toNat + n < k → u.getD k 0 = 0 := by
 obtain ⟨hR, hR0, _⟩ := dvI_part h hj
 have a5 := h.2.2.2.2.1
 intro k hk
 have h1 : val (u.drop k) = 0 := by
  have e := val_td (u.drop j.toNat) (k - j.toNat)
  rw [List.drop_drop, show j.toNat + (k - j.toNat) = k by omega] at e
  have h0 := val_nonneg ((a5.drop j.toNat).take (k - j.toNat))
  have h2 := val_nonneg (a5.drop k)
  apply Int.le_antisymm _ h2
  apply Int.le_of_lt_add_one
  apply Int.lt_of_not_ge
  intro hge
  have h3 : 65536 ^ (k - j.toNat) * 1 ≤ 65536 ^ (k - j.toNat) * val (u.drop k) := Int.mul_le_mul_of_nonneg_left (by omega) (by have := pow_pos (k - j.toNat); omega)
  have h4 : (65536 : Int) ^ (n + 1) ≤ 65536 ^ (k - j.toNat) := pow_mono 65536 (by decide) (by omega)
  rw [Int.pow_succ] at h4
  omega
 have e := val_drop0 u k
 have h2 := val_nonneg (a5.drop (k + 1))
 have := (a5.get k).1
 omega

theorem Valid.of_get {o : List Int} (h : ∀ k : Nat, 0 ≤ o.getD k 0 ∧ o.getD k 0 < 65536) : Valid o := by
 intro x hx
 obtain ⟨i, hi, rfl⟩ := List.getElem_of_mem hx
 have := h i
 rw [List.getD, List.getElem?_eq_getElem hi] at this
 exact this

theorem dvI_step {N V q : Int} {L M : Nat} {j : Int} {u u' out : List Int} (h : dvI N V L M j u out) (hj : 0 ≤ j) (hq0 : 0 ≤ q) (hq1 : q < 65536) (hl : u'.length = u.length) (hu : Valid u') (hv : val u' = val u - q * V * 65536 ^ j.toNat) (hlt : val u' < V * 65536 ^ j.toNat) :
  dvI N V L M (j - 1) u' (out.set j.toNat q) := by
 obtain ⟨a1, a2, a3, a4, a5, a6, a7, a8, a9⟩ := h
 refine ⟨by omega, by omega, by omega, by rw [List.length_set]; exact a4, hu, a6.set hq0 hq1, fun k hk => ?_, ?_, ?_⟩
 ·rw [getD_set_ne (by omega)]; exact a7 k (by omega)
 ·rw [val_set _ _ _ (by omega), a7 j.toNat (by omega), hv]
  generalize val out = X at *
  generalize val u = Y at *
  generalize (65536 : Int) ^ j.toNat = W at *
  grind
 ·rw [show j - 1 + 1 = j by omega]; exact hlt

theorem dvI_right {N q : Int} {v : List Int} {L M : Nat} {j : Int} {u u' out : List Int} {b : Bool} (h : dvI N (val v) L M j u out) (hj : 0 ≤ j) (hv : Valid v) (hV0 : 0 < val v) (hq0 : 0 ≤ q) (hq1 : q < 65536)
  (hhi : val (u.drop j.toNat) < (q + 1) * val v) (ht : tkR u v j.toNat q u' b) (hb : b = false) : dvI N (val v) L M (j - 1) u' (out.set j.toNat q) := by
 obtain ⟨t1, t2, t3, t4, t5, t6, t7⟩ := ht
 have ht0 : 0 ≤ u'.getD (j.toNat + v.length) 0 := by
  rw [hb] at t4
  have := of_decide_eq_false t4.symm
  omega
 have hval : Valid u' := Valid.of_get fun k => by
  by_cases hk : k = j.toNat + v.length
  ·rw [hk]; exact ⟨ht0, t6⟩
  ·exact t3 k hk
 refine dvI_step h hj hq0 hq1 t1 hval t2 ?_
 have := ((dvI_part h hj).2.2 (q + 1)).1 hhi
 rw [t2]
 have e : (q + 1) * val v * 65536 ^ j.toNat = q * val v * 65536 ^ j.toNat + val v * 65536 ^ j.toNat := by grind
 omega

theorem dvI_great {N q : Int} {v : List Int} {L M : Nat} {j : Int} {u u1 u' out : List Int} {b : Bool} (h : dvI N (val v) L M j u out) (hj : 0 ≤ j) (hv : Valid v) (hV0 : 0 < val v) (hq0 : 0 ≤ q) (hq1 : q < 65536)
  (hlo : (q - 1) * val v ≤ val (u.drop j.toNat)) (ht : tkR u v j.toNat q u1 b) (hb : b = true) (ha : adR u1 v j.toNat u') : dvI N (val v) L M (j - 1) u' (out.set j.toNat (q - 1)) := by
 obtain ⟨t1, t2, t3, t4, t5, t6, t7⟩ := ht
 obtain ⟨b1, b2, b3, b4⟩ := ha
 have hab := dvI_above h hj (val_lt_pow hv)
 obtain ⟨hR, hR0, key⟩ := dvI_part h hj
 have htn : u1.getD (j.toNat + v.length) 0 < 0 := by
  rw [hb] at t4
  exact of_decide_eq_true t4.symm
 have hneg : val u1 < 0 := by
  obtain ⟨low, h0, h1, h2⟩ := val_top (o := u1) (k := j.toNat + v.length) (fun i hi => t3 i (by omega)) (fun i hi => by rw [t7 i hi]; exact hab i hi)
  have h3 : 65536 ^ (j.toNat + v.length) * u1.getD (j.toNat + v.length) 0 ≤ 65536 ^ (j.toNat + v.length) * (-1) := Int.mul_le_mul_of_nonneg_left (by omega) (by have := pow_pos (j.toNat + v.length); omega)
  omega
 have hlt : val u < q * val v * 65536 ^ j.toNat := by omega
 have hq2 : 1 ≤ q := by
  by_cases hq : q = 0
  ·subst hq
   have := val_nonneg h.2.2.2.2.1
   simp at hlt
   omega
  ·omega
 have e1 : val u' = val u - (q - 1) * val v * 65536 ^ j.toNat := by
  rw [b2, t2]; grind
 have hge : 0 ≤ val u' := by
  have : ¬val u < (q - 1) * val v * 65536 ^ j.toNat := fun hc => by
   have := (key (q - 1)).2 hc
   omega
  omega
 have hlt2 : val u' < val v * 65536 ^ j.toNat := by
  rw [e1]
  have e : (q - 1) * val v * 65536 ^ j.toNat = q * val v * 65536 ^ j.toNat - val v * 65536 ^ j.toNat := by grind
  omega
 have hz : ∀ k : Nat, j.toNat + v.length < k → u'.getD k 0 = 0 := fun k hk => by rw [b4 k hk, t7 k hk]; exact hab k hk
 have htop : u'.getD (j.toNat + v.length) 0 = 0 := by
  obtain ⟨low, h0, h1, h2⟩ := val_top (o := u') (k := j.toNat + v.length) (fun i hi => b3 i (by omega)) hz
  have hW := pow_pos (j.toNat + v.length)
  have hb1 : val v * 65536 ^ j.toNat < 65536 ^ (j.toNat + v.length) := by
   have h3 : val v * 65536 ^ j.toNat < 65536 ^ v.length * 65536 ^ j.toNat := Int.mul_lt_mul_of_pos_right (val_lt_pow hv) (pow_pos _)
   rw [Int.pow_add]
   have h4 : (65536 : Int) ^ v.length * 65536 ^ j.toNat = 65536 ^ j.toNat * 65536 ^ v.length := Int.mul_comm _ _
   omega
  generalize u'.getD (j.toNat + v.length) 0 = t at *
  generalize (65536 : Int) ^ (j.toNat + v.length) = W at *
  rcases Int.lt_trichotomy t 0 with hc | hc | hc
  ·have : W * t ≤ W * (-1) := Int.mul_le_mul_of_nonneg_left (by omega) (by omega)
   omega
  ·exact hc
  ·have : W * 1 ≤ W * t := Int.mul_le_mul_of_nonneg_left (by omega) (by omega)
   omega
 have hval : Valid u' := Valid.of_get fun k => by
  by_cases hk : k = j.toNat + v.length
  ·rw [hk, htop]; omega
  ·exact b3 k hk
 exact dvI_step h hj (by omega) (by omega) (by omega) hval e1 hlt2

theorem dvI_exit {N V : Int} {L M : Nat} {j : Int} {u out : List Int} {A B s : Nat} (h : dvI N V L M j u out) (hj : j < 0) (hN : N = ((A * 2 ^ s : Nat) : Int)) (hV : V = ((B * 2 ^ s : Nat) : Int)) (hB : 0 < B) :
  trimL out = dg (A / B) ∧ val u = ((A % B * 2 ^ s : Nat) : Int) := by
 obtain ⟨a1, a2, a3, a4, a5, a6, a7, a8, a9⟩ := h
 rw [show (j + 1).toNat = 0 by omega, Int.pow_zero, Int.mul_one] at a9
 have h0 := val_nonneg a5
 have h1 := val_nonneg a6
 have hq : val out = ((A / B : Nat) : Int) := by
  have h2 : N / V = val out := by
   rw [← a8, Int.add_comm, Int.add_mul_ediv_right _ _ (by omega), Int.ediv_eq_zero_of_lt h0 a9]; omega
  rw [← h2, hN, hV, ← Int.natCast_ediv, Nat.mul_div_mul_right _ _ (Nat.pow_pos (by decide))]
 have hr : val u = ((A % B * 2 ^ s : Nat) : Int) := by
  have h2 : N % V = val u := by
   rw [← a8, Int.add_comm, Int.add_mul_emod_self_right, Int.emod_eq_of_lt h0 a9]
  rw [← h2, hN, hV, ← Int.natCast_emod, Nat.mul_mod_mul_right]
 exact ⟨by rw [trim_dg a6, hq, Int.toNat_natCast], hr⟩

def upI (a : List Int) (k i c : Int) (o : List Int) : Prop :=
 0 ≤ i ∧ i ≤ a.length ∧ 0 ≤ c ∧ c < 65536 ∧ o.length = k.toNat / 16 + i.toNat ∧ Valid o ∧ val o + c * 65536 ^ (k.toNat / 16 + i.toNat) = val (a.take i.toNat) * 2 ^ (k.toNat % 16) * 65536 ^ (k.toNat / 16)

theorem upI_zero {a : List Int} {k : Int} (h : 0 ≤ k) : upI a k 0 0 (List.replicate (k / 16).toNat 0) := by
 have e1 : (k / 16).toNat = k.toNat / 16 := by omega
 exact ⟨Int.le_refl _, by omega, Int.le_refl _, by decide, by simp [e1], Valid.rep _, by simp [val_rep, val]⟩

theorem upI_next {a o : List Int} {k i c x s : Int} (ha : Valid a) (h : upI a k i c o) (hi : i < a.length) (hx : x = a.getD i.toNat 0) (hs : s = c + x * 2 ^ (k.toNat % 16)) :
  upI a k (i + 1) (s / 65536) (o ++ [s % 65536]) := by
 obtain ⟨hi0, hi1, hc0', hc1', hol, hov, hval⟩ := h
 have hx' := ha.get i.toNat
 have hp := pow2_le (b := k.toNat % 16) (by omega)
 have hxp := shift_bound hx' hp
 rw [← hx] at hxp
 have e2 : (i + 1).toNat = i.toNat + 1 := by omega
 refine ⟨by omega, by omega, by omega, by omega, ?_, ?_, ?_⟩
 ·simp only [List.length_append, List.length_cons, List.length_nil]; omega
 ·exact hov.append (Valid.one (by omega) (by omega))
 ·simp only [e2]
  rw [val_take_succ (by omega), hs, hx]
  exact up_step hval hol rfl

theorem upI_exit {a o : List Int} {k i c : Int} {n : Nat} (h : upI a k i c o) (hi : ¬ i < a.length) (hv : val a * 2 ^ k.toNat = n) : trimL (o ++ [c]) = dg n := by
 obtain ⟨hi0, hi1, hc0', hc1', hol, hov, hval⟩ := h
 rw [trim_dg (hov.append (Valid.one hc0' hc1')), val_snoc, hol]
 have h1 : i.toNat = a.length := by omega
 rw [h1, List.take_length] at hval
 rw [h1, Int.mul_comm (65536 ^ _) c, hval, Int.mul_assoc, pow_split, hv]
 rfl

theorem norm_law {Y s : Nat} (h0 : 0 < Y) (hs : s + bl ((dg Y).getD ((dg Y).length - 1) 0).toNat = 16) :
  (dg (Y * 2 ^ s)).length = (dg Y).length ∧ 32768 ≤ (dg (Y * 2 ^ s)).getD ((dg Y).length - 1) 0 := by
 have hp : 0 < 2 ^ s := Nat.pow_pos (by decide)
 have hY2 : 2 ^ s ≤ Y * 2 ^ s := Nat.le_mul_of_pos_left _ h0
 have e1 := bl_top Y (by omega)
 have e2 := bl_down s (Y * 2 ^ s) hY2
 rw [Nat.mul_div_cancel _ hp] at e2
 have e3 := bl_top (Y * 2 ^ s) (by omega)
 have n0 := dg_ne_nil h0
 have n1 : 0 < (dg (Y * 2 ^ s)).length := dg_ne_nil (by omega)
 have hb : bl (Y * 2 ^ s) ≤ 16 * (dg Y).length := by omega
 have hlt := (bl_le _ _).1 hb
 rw [Nat.pow_mul] at hlt
 have hle := dg_len_le _ _ hlt
 have ht : bl ((dg (Y * 2 ^ s)).getD ((dg (Y * 2 ^ s)).length - 1) 0).toNat ≤ 16 := by
  rw [bl_le]
  have := (valid_dg (Y * 2 ^ s)).get ((dg (Y * 2 ^ s)).length - 1)
  omega
 have hlen : (dg (Y * 2 ^ s)).length = (dg Y).length := by omega
 refine ⟨hlen, ?_⟩
 rw [← hlen]
 have h15 : ¬ bl ((dg (Y * 2 ^ s)).getD ((dg (Y * 2 ^ s)).length - 1) 0).toNat ≤ 15 := by omega
 rw [bl_le] at h15
 omega

theorem pow_cast (n : Nat) : ((65536 ^ n : Nat) : Int) = 65536 ^ n := by rw [Int.natCast_pow]; rfl
theorem lt_pow_of {X la : Nat} (hla : la = (dg X).length) : X < 65536 ^ la := by
 have h := val_lt_pow (valid_dg X)
 rw [val_dg, ← hla, ← pow_cast] at h
 exact Int.ofNat_lt.1 h

theorem up_len {X s la : Nat} (hla : la = (dg X).length) (hs : s ≤ 16) : (dg (X * 2 ^ s)).length ≤ la + 1 := by
 refine dg_len_le _ _ ?_
 have h1 : X < 65536 ^ la := lt_pow_of hla
 rw [Nat.pow_succ]
 have h2 : 2 ^ s ≤ 65536 := by
  have := Nat.pow_le_pow_right (n := 2) (by decide) hs
  simpa using this
 calc X * 2 ^ s ≤ X * 65536 := Nat.mul_le_mul_left _ h2
  _ < 65536 ^ la * 65536 := Nat.mul_lt_mul_of_pos_right h1 (by decide)

theorem dvI_zero {X Y s la lb z : Nat} (hla : la = (dg X).length) (hlb : lb = (dg Y).length) (hY : 0 < Y) (h : lb ≤ la) (hz : (dg (X * 2 ^ s)).length + z = la + 1) :
  dvI ((X * 2 ^ s : Nat) : Int) ((Y * 2 ^ s : Nat) : Int) (la + 1) (la - lb + 1) ((la : Int) - lb) (dg (X * 2 ^ s) ++ List.replicate z 0) (List.replicate (la - lb + 1) 0) := by
 have e1 : val (dg (X * 2 ^ s) ++ List.replicate z 0) = ((X * 2 ^ s : Nat) : Int) := by
  rw [val_append, val_rep, Int.mul_zero, Int.add_zero, val_dg]
 refine ⟨by omega, by omega, by rw [List.length_append, List.length_replicate]; exact hz, List.length_replicate, (valid_dg _).append (Valid.rep _), Valid.rep _, fun k _ => ?_, ?_, ?_⟩
 ·simp [List.getD, List.getElem?_replicate]
  split <;> rfl
 ·rw [val_rep, e1]; omega
 ·rw [e1]
  have h1 : X < 65536 ^ la := lt_pow_of hla
  have n0 := dg_ne_nil hY
  have h2 : 65536 ^ (lb - 1) ≤ Y := by
   apply Nat.le_of_not_lt
   intro hlt
   have := dg_len_le _ _ hlt
   omega
  have e2 : ((la : Int) - lb + 1).toNat = la - lb + 1 := by omega
  rw [e2]
  have e3 : (65536 : Nat) ^ la = 65536 ^ (lb - 1) * 65536 ^ (la - lb + 1) := by rw [← Nat.pow_add]; congr 1; omega
  have h3 : X < Y * 65536 ^ (la - lb + 1) := by
   refine Nat.lt_of_lt_of_le h1 ?_
   rw [e3]
   exact Nat.mul_le_mul_right _ h2
  have h4 : X * 2 ^ s < Y * 2 ^ s * 65536 ^ (la - lb + 1) := by
   have := Nat.mul_lt_mul_of_pos_right h3 (Nat.pow_pos (n := s) (show 0 < 2 by decide))
   rw [Nat.mul_assoc, Nat.mul_comm (2 ^ s), ← Nat.mul_assoc]
   exact this
  rw [← pow_cast, ← Int.natCast_mul]
  exact Int.ofNat_lt.2 h4

end Go.Dg

/- Plain laws: rounding. -/
namespace Go.Dg
open Go Go.Pe

def rup (s o : Bool) (h m : Int) : Bool :=
 if m = 2 then !s else if m = 3 then s else if m = 0 then decide (0 < h) || (decide (h = 0) && o) else if m = 4 then decide (0 ≤ h) else false

def rq (s : Bool) (x y : Nat) (m : Int) : Nat :=
 if x % y = 0 then x / y else if rup s (decide (x / y % 2 = 1)) (cmpN (x % y * 2) y) m = true then x / y + 1 else x / y

theorem rq_exact {s : Bool} {x y : Nat} {m : Int} (h : x % y = 0) : rq s x y m = x / y := by unfold rq; rw [if_pos h]
theorem rq_up {s : Bool} {x y : Nat} {m : Int} (h : x % y ≠ 0) (hr : rup s (decide (x / y % 2 = 1)) (cmpN (x % y * 2) y) m = true) : rq s x y m = x / y + 1 := by unfold rq; rw [if_neg h, if_pos hr]
theorem rq_down {s : Bool} {x y : Nat} {m : Int} (h : x % y ≠ 0) (hr : rup s (decide (x / y % 2 = 1)) (cmpN (x % y * 2) y) m = false) : rq s x y m = x / y := by unfold rq; rw [if_neg h, if_neg (by rw [hr]; decide)]
theorem rq_le (s : Bool) (x y : Nat) (m : Int) : rq s x y m ≤ x / y + 1 := by unfold rq; split <;> (try split) <;> omega

theorem cmpN_mul (c x y : Nat) (hc : 0 < c) : cmpN (x * c) (y * c) = cmpN x y := by
 rcases Nat.lt_trichotomy x y with h | h | h
 ·rw [cmpN_lt h, cmpN_lt (Nat.mul_lt_mul_of_pos_right h hc)]
 ·rw [cmpN_eq h, cmpN_eq (by rw [h])]
 ·rw [cmpN_gt h, cmpN_gt (Nat.mul_lt_mul_of_pos_right h hc)]

theorem rq_mul (s : Bool) (x y c : Nat) (m : Int) (hc : 0 < c) : rq s (x * c) (y * c) m = rq s x y m := by
 have e1 : x * c / (y * c) = x / y := Nat.mul_div_mul_right x y hc
 have e2 : x * c % (y * c) = x % y * c := Nat.mul_mod_mul_right c x y
 have e3 : x % y * c = 0 ↔ x % y = 0 := by
  constructor
  ·intro h; rcases Nat.mul_eq_zero.1 h with h | h <;> omega
  ·intro h; rw [h, Nat.zero_mul]
 have e4 : cmpN (x % y * c * 2) (y * c) = cmpN (x % y * 2) y := by
  rw [show x % y * c * 2 = x % y * 2 * c by rw [Nat.mul_right_comm]]; exact cmpN_mul c _ _ hc
 unfold rq
 rw [e1, e2, e4]
 by_cases h : x % y = 0
 ·rw [if_pos h, if_pos (e3.2 h)]
 ·rw [if_neg h, if_neg (fun g => h (e3.1 g))]

theorem rq_sticky (s : Bool) (x y : Nat) (m : Int) (hy : 0 < y) : rq s (2 * (4 * x / y) + (if 4 * x % y = 0 then 0 else 1)) 8 m = rq s x y m := by
 obtain ⟨q, hq⟩ : ∃ q, q = x / y := ⟨_, rfl⟩
 obtain ⟨r, hr⟩ : ∃ r, r = x % y := ⟨_, rfl⟩
 have hx : x = y * q + r := by rw [hq, hr]; exact (Nat.div_add_mod x y).symm
 have hry : r < y := by rw [hr]; exact Nat.mod_lt _ hy
 obtain ⟨t, ht⟩ : ∃ t, t = 4 * r / y := ⟨_, rfl⟩
 obtain ⟨w, hw⟩ : ∃ w, w = 4 * r % y := ⟨_, rfl⟩
 have hrt : 4 * r = y * t + w := by rw [ht, hw]; exact (Nat.div_add_mod _ y).symm
 have hwy : w < y := by rw [hw]; exact Nat.mod_lt _ hy
 have e0 : 4 * x = 4 * r + y * (4 * q) := by rw [hx]; grind
 have e1 : 4 * x / y = 4 * q + t := by rw [e0, Nat.add_mul_div_left _ _ hy, ← ht, Nat.add_comm]
 have e2 : 4 * x % y = w := by rw [e0, Nat.add_mul_mod_self_left, ← hw]
 have ht4 : t < 4 := by
  apply Nat.lt_of_not_le; intro h
  have : y * 4 ≤ y * t := Nat.mul_le_mul_left _ h
  omega
 rw [e1, e2]
 obtain ⟨z, hz⟩ : ∃ z, z = (if w = 0 then 0 else 1) := ⟨_, rfl⟩
 rw [← hz]
 have hz1 : z ≤ 1 := by rw [hz]; split <;> omega
 have hz0 : z = 0 ↔ w = 0 := by rw [hz]; split <;> omega
 have f1 : (2 * (4 * q + t) + z) / 8 = q := by omega
 have f2 : (2 * (4 * q + t) + z) % 8 = 2 * t + z := by omega
 have g0 : 2 * t + z = 0 ↔ r = 0 := by
  constructor
  ·intro h
   have : w = 0 := hz0.1 (by omega)
   have : t = 0 := by omega
   subst this; omega
  ·intro h
   rw [h] at hrt
   have : t = 0 := by
    rcases Nat.eq_zero_or_pos t with h' | h'
    ·exact h'
    ·have : y * 1 ≤ y * t := Nat.mul_le_mul_left _ h'
     omega
   have hw0 : w = 0 := by omega
   have := hz0.2 hw0
   omega
 have g1 : cmpN ((2 * t + z) * 2) 8 = cmpN (r * 2) y := by
  have hcase : t = 0 ∨ t = 1 ∨ t = 2 ∨ t = 3 := by omega
  rcases hcase with h | h | h | h <;> subst h
  ·rw [cmpN_lt (by omega), cmpN_lt (by omega)]
  ·rw [cmpN_lt (by omega), cmpN_lt (by omega)]
  ·rcases Nat.eq_zero_or_pos w with hw0 | hw0
   ·have := hz0.2 hw0
    rw [cmpN_eq (by omega), cmpN_eq (by omega)]
   ·have : z ≠ 0 := fun h => by have := hz0.1 h; omega
    rw [cmpN_gt (by omega), cmpN_gt (by omega)]
  ·rw [cmpN_gt (by omega), cmpN_gt (by omega)]
 unfold rq
 rw [f1, f2, g1, ← hq, ← hr]
 by_cases h : r = 0
 ·rw [if_pos h, if_pos (g0.2 h)]
 ·rw [if_neg h, if_neg (fun g => h (g0.1 g))]

def zover (a b k m : Int) : Int :=
 if (decide (a < 0) != decide (b < 0)) = true then -((rq true (a.natAbs * 2 ^ k.toNat) (b.natAbs * 2 ^ (-k).toNat) m : Nat) : Int) else ((rq false (a.natAbs * 2 ^ k.toNat) (b.natAbs * 2 ^ (-k).toNat) m : Nat) : Int)

theorem zover_abs {a b k m : Int} {s : Bool} (hs : s = (decide (a < 0) != decide (b < 0))) : (zover a b k m).natAbs = rq s (a.natAbs * 2 ^ k.toNat) (b.natAbs * 2 ^ (-k).toNat) m := by
 unfold zover
 cases hs' : (decide (a < 0) != decide (b < 0)) <;> rw [hs'] at hs <;> subst hs <;> simp

theorem zover_neg {a b k m : Int} : decide (zover a b k m < 0) = ((decide (a < 0) != decide (b < 0)) && decide (0 < (zover a b k m).natAbs)) := by
 unfold zover
 cases hs' : (decide (a < 0) != decide (b < 0)) <;> simp <;> omega

theorem len_up (x k : Nat) : (dg (x * 2 ^ k)).length ≤ (dg x).length + k / 16 + 1 := by
 refine dg_len_le _ _ ?_
 have h1 : x < 65536 ^ (dg x).length := lt_pow_of rfl
 have h2 : 2 ^ k ≤ 65536 ^ (k / 16 + 1) := by
  rw [show (65536 : Nat) = 2 ^ 16 from rfl, ← Nat.pow_mul]
  exact Nat.pow_le_pow_right (by decide) (by omega)
 rw [Nat.add_assoc, Nat.pow_add]
 calc x * 2 ^ k ≤ x * 65536 ^ (k / 16 + 1) := Nat.mul_le_mul_left _ h2
  _ < 65536 ^ (dg x).length * 65536 ^ (k / 16 + 1) := Nat.mul_lt_mul_of_pos_right h1 (Nat.pow_pos (by decide))

theorem zover_len (a b k m : Int) : (dg (zover a b k m).natAbs).length ≤ (dg a.natAbs).length + k.toNat / 16 + 2 := by
 rw [zover_abs (s := (decide (a < 0) != decide (b < 0))) rfl]
 refine dg_len_le _ _ ?_
 have h1 := rq_le (decide (a < 0) != decide (b < 0)) (a.natAbs * 2 ^ k.toNat) (b.natAbs * 2 ^ (-k).toNat) m
 have h2 := Nat.div_le_self (a.natAbs * 2 ^ k.toNat) (b.natAbs * 2 ^ (-k).toNat)
 have h3 : a.natAbs * 2 ^ k.toNat < 65536 ^ ((dg a.natAbs).length + k.toNat / 16 + 1) := by
  refine Nat.lt_of_lt_of_le (lt_pow_of rfl) (Nat.pow_le_pow_right (by decide) (len_up _ _))
 rw [Nat.pow_succ]
 omega

def divD (d1 d2 : Dyadic) (low m : Int) : Dyadic := mk (zover (cZ d1) (cZ d2) (cE d1 - cE d2 - low) m) low

def sdI (X Y L : Nat) (i : Int) (n : Nat) (o : List Int) : Prop :=
 -1 ≤ i ∧ i < L ∧ o.length = L ∧ Valid o ∧ n = X / 65536 ^ (i + 1).toNat % Y ∧ val o = ((X / 65536 ^ (i + 1).toNat / Y * 65536 ^ (i + 1).toNat : Nat) : Int) ∧ ∀ k : Nat, (k : Int) ≤ i → o.getD k 0 = 0

theorem sdI_zero {X Y L : Nat} (hL : L = (dg X).length) : sdI X Y L ((L : Int) - 1) 0 (List.replicate L 0) := by
 have h := lt_pow_of hL
 have e : ((L : Int) - 1 + 1).toNat = L := by omega
 refine ⟨by omega, by omega, List.length_replicate, Valid.rep _, ?_, ?_, fun k _ => ?_⟩
 ·rw [e, Nat.div_eq_of_lt h, Nat.zero_mod]
 ·rw [e, Nat.div_eq_of_lt h, Nat.zero_div, Nat.zero_mul, val_rep]; rfl
 ·simp [List.getD, List.getElem?_replicate]
  split <;> rfl

theorem sdI_next {X Y L n R q : Nat} {i x : Int} {o : List Int} (hY : 0 < Y) (h : sdI X Y L i n o) (hi : 0 ≤ i) (hx : x = (dg X).getD i.toNat 0) (hR : (R : Int) = x + 65536 * n) (hq : q = R / Y) :
  R < 65536 * Y ∧ q < 65536 ∧ sdI X Y L (i - 1) (R % Y) (o.set i.toNat q) := by
 obtain ⟨h0, h1, h2, h3, h4, h5, h6⟩ := h
 have e1 : (i + 1).toNat = i.toNat + 1 := by omega
 have e2 : (i - 1 + 1).toNat = i.toNat := by omega
 rw [e1] at h4 h5
 obtain ⟨W, hW⟩ : ∃ W, W = 65536 ^ i.toNat := ⟨_, rfl⟩
 have hW0 : 0 < W := by rw [hW]; exact Nat.pow_pos (by decide)
 obtain ⟨B, hB⟩ : ∃ B, B = X / W := ⟨_, rfl⟩
 have e3 : X / 65536 ^ (i.toNat + 1) = B / 65536 := by rw [Nat.pow_succ, ← hW, ← Nat.div_div_eq_div_mul, ← hB]
 rw [e3] at h4 h5
 rw [dg_getD, ← hW, ← hB] at hx
 have hnY : n < Y := by rw [h4]; exact Nat.mod_lt _ hY
 have hRn : R = B % 65536 + 65536 * n := by rw [hx] at hR; omega
 have hRlt : R < 65536 * Y := by
  have : 65536 * (n + 1) ≤ 65536 * Y := Nat.mul_le_mul_left _ hnY
  omega
 have hq1 : q < 65536 := by rw [hq]; exact Nat.div_lt_of_lt_mul (by rw [Nat.mul_comm]; exact hRlt)
 have hBe : B = R + Y * (65536 * (B / 65536 / Y)) := by
  have d1 := Nat.div_add_mod (B / 65536) Y
  have d2 := Nat.div_add_mod B 65536
  rw [← h4] at d1
  generalize B / 65536 / Y = Q at *
  generalize B / 65536 = B1 at *
  rw [hRn, ← Nat.mul_assoc, Nat.mul_comm Y, Nat.mul_assoc]
  omega
 have f1 : B % Y = R % Y := by rw [hBe, Nat.add_mul_mod_self_left]
 have f2 : B / Y = q + 65536 * (B / 65536 / Y) := by
  have : (R + Y * (65536 * (B / 65536 / Y))) / Y = R / Y + 65536 * (B / 65536 / Y) := Nat.add_mul_div_left _ _ hY
  rw [← hBe, ← hq] at this
  exact this
 refine ⟨hRlt, hq1, by omega, by omega, by rw [List.length_set]; exact h2, h3.set (by omega) (by omega), ?_, ?_, fun k hk => ?_⟩
 ·rw [e2, ← hW, ← hB, f1]
 ·rw [e2, ← hW, ← hB, f2, val_set _ _ _ (by omega), h6 i.toNat (by omega), h5]
  rw [show (65536 : Int) ^ i.toNat = ((W : Nat) : Int) by rw [hW, pow_cast], Nat.pow_succ, ← hW]
  generalize B / 65536 / Y = Q
  rw [Int.natCast_mul Q, Int.natCast_mul W, Int.natCast_mul (q + 65536 * Q), Int.natCast_add, Int.natCast_mul 65536 Q, show ((65536 : Nat) : Int) = 65536 from rfl]
  grind
 ·rw [getD_set_ne (by omega)]; exact h6 k (by omega)

theorem sdI_exit {X Y L n : Nat} {i : Int} {o : List Int} (h : sdI X Y L i n o) (hi : i < 0) : trimL o = dg (X / Y) ∧ n = X % Y := by
 obtain ⟨h0, h1, h2, h3, h4, h5, h6⟩ := h
 have e : (i + 1).toNat = 0 := by omega
 rw [e, Nat.pow_zero, Nat.div_one] at h4 h5
 rw [Nat.mul_one] at h5
 exact ⟨by rw [trim_dg h3, h5, Int.toNat_natCast], h4⟩

def bsI (Y R : Nat) (lo hi : Int) : Prop := 0 ≤ lo ∧ lo < hi ∧ hi ≤ 65536 ∧ lo.toNat * Y ≤ R ∧ R < hi.toNat * Y

theorem bsI_exit {Y R : Nat} {lo hi : Int} (hY : 0 < Y) (h : bsI Y R lo hi) (h1 : hi - lo ≤ 1) : lo.toNat = R / Y := by
 obtain ⟨a, b, c, d, e⟩ := h
 have hh : hi.toNat = lo.toNat + 1 := by omega
 rw [hh] at e
 symm
 rw [Nat.div_eq_iff hY]
 constructor
 ·exact d
 ·rw [Nat.add_mul, Nat.one_mul] at e; omega

end Go.Dg

/- Plain laws: a number rounded; a quotient through two more bits. -/
namespace Go.Dg
open Go Go.Pe

theorem bit_eq (x : Nat) : (((x % 2 : Nat) : Int) == 1) = decide (x % 2 = 1) := by
 rcases Nat.mod_two_eq_zero_or_one x with h | h <;> rw [h] <;> rfl

theorem pow2_dvd {M t m j : Nat} (h : M = 2 ^ t * (2 * m + 1)) : M % 2 ^ j = 0 ↔ j ≤ t := by
 constructor
 ·intro h0
  apply Nat.le_of_not_lt
  intro hlt
  obtain ⟨c, hc⟩ := Nat.dvd_of_mod_eq_zero h0
  obtain ⟨d, rfl⟩ : ∃ d, j = t + 1 + d := ⟨j - (t + 1), by omega⟩
  have e : 2 ^ t * (2 * m + 1) = 2 ^ t * (2 * (2 ^ d * c)) := by rw [← h, hc, Nat.pow_add, Nat.pow_succ]; grind
  have := Nat.eq_of_mul_eq_mul_left (Nat.pow_pos (by decide)) e
  omega
 ·intro hle
  obtain ⟨d, rfl⟩ : ∃ d, t = j + d := ⟨t - j, by omega⟩
  rw [h, Nat.pow_add, Nat.mul_assoc]
  exact Nat.mul_mod_right _ _

theorem ups_law {M t m k : Nat} (hk : 1 ≤ k) (h : M = 2 ^ t * (2 * m + 1)) :
  (M / 2 ^ (k - 1) % 2 = 1 ↔ 0 ≤ cmpN (M % 2 ^ k * 2) (2 ^ k)) ∧ (M / 2 ^ (k - 1) % 2 = 1 ∧ t < k - 1 ↔ 0 < cmpN (M % 2 ^ k * 2) (2 ^ k)) := by
 obtain ⟨j, rfl⟩ : ∃ j, k = j + 1 := ⟨k - 1, by omega⟩
 rw [Nat.add_sub_cancel]
 obtain ⟨H, hH⟩ : ∃ H, H = 2 ^ j := ⟨_, rfl⟩
 have hH0 : 0 < H := by rw [hH]; exact Nat.pow_pos (by decide)
 have h1 : M % 2 ^ (j + 1) = M % H + H * (M / H % 2) := by rw [Nat.pow_succ, hH, Nat.mod_mul]
 have h2 : M % H < H := Nat.mod_lt _ hH0
 have h3 := pow2_dvd (j := j) h
 rw [← hH] at h3
 have h4 : 2 ^ (j + 1) = H * 2 := by rw [Nat.pow_succ, hH]
 rw [h1, h4, ← hH]
 obtain ⟨r, hr⟩ : ∃ r, r = M % H := ⟨_, rfl⟩
 rw [← hr] at h2 h3 ⊢
 rcases Nat.mod_two_eq_zero_or_one (M / H) with hb | hb
 ·rw [hb]
  rw [cmpN_lt (by omega)]
  omega
 ·rw [hb]
  rcases Nat.eq_zero_or_pos r with h0 | h0
  ·rw [h0, cmpN_eq (by omega)]
   have := h3.1 h0
   omega
  ·rw [cmpN_gt (by omega)]
   have : ¬ j ≤ t := fun hh => by have := h3.2 hh; omega
   omega

theorem ups_rup {M t m k : Nat} {s : Bool} {mode : Int} (hk : 1 ≤ k) (h : M = 2 ^ t * (2 * m + 1)) (h0 : 0 ≤ mode) (h1 : mode ≤ 4) :
  rup s (decide (M / 2 ^ k % 2 = 1)) (cmpN (M % 2 ^ k * 2) (2 ^ k)) mode =
   (if mode = 1 then false else if mode = 2 then !s else if mode = 3 then s else if mode = 4 then decide (M / 2 ^ (k - 1) % 2 = 1) else
    (decide (M / 2 ^ (k - 1) % 2 = 1) && (decide (t < k - 1) || decide (M / 2 ^ k % 2 = 1)))) := by
 obtain ⟨a1, a2⟩ := ups_law hk h
 obtain ⟨c, hc⟩ : ∃ c, c = cmpN (M % 2 ^ k * 2) (2 ^ k) := ⟨_, rfl⟩
 rw [← hc] at a1 a2 ⊢
 obtain ⟨b, hb⟩ : ∃ b, b = M / 2 ^ (k - 1) % 2 := ⟨_, rfl⟩
 rw [← hb] at a1 a2 ⊢
 obtain ⟨o, ho⟩ : ∃ o, o = decide (M / 2 ^ k % 2 = 1) := ⟨_, rfl⟩
 rw [← ho]
 have hcase : mode = 0 ∨ mode = 1 ∨ mode = 2 ∨ mode = 3 ∨ mode = 4 := by omega
 unfold rup
 rcases hcase with rfl | rfl | rfl | rfl | rfl
 ·simp only [show ¬ ((0 : Int) = 2) by decide, show ¬ ((0 : Int) = 3) by decide, show ¬ ((0 : Int) = 1) by decide, show ¬ ((0 : Int) = 4) by decide, if_false, if_true]
  by_cases hb1 : b = 1
  ·by_cases ht : t < k - 1
   ·have := a2.1 ⟨hb1, ht⟩
    rw [decide_eq_true this, decide_eq_true hb1, decide_eq_true ht]; rfl
   ·have c0 := a1.1 hb1
    have c1 : ¬ 0 < c := fun h => ht (a2.2 h).2
    rw [decide_eq_false c1, decide_eq_true hb1, decide_eq_false ht, decide_eq_true (show c = 0 by omega)]; rfl
  ·have c0 : ¬ 0 ≤ c := fun h => hb1 (a1.2 h)
   rw [decide_eq_false (show ¬ 0 < c by omega), decide_eq_false hb1, decide_eq_false (show ¬ c = 0 by omega)]; rfl
 ·rfl
 ·rfl
 ·rfl
 ·simp only [show ¬ ((4 : Int) = 2) by decide, show ¬ ((4 : Int) = 3) by decide, show ¬ ((4 : Int) = 1) by decide, show ¬ ((4 : Int) = 0) by decide, if_false, if_true]
  exact decide_eq_decide.2 a1.symm

theorem rq_cross {s : Bool} {x y x' y' : Nat} {m : Int} (hy : 0 < y) (hy' : 0 < y') (h : x * y' = x' * y) : rq s x y m = rq s x' y' m := by
 rw [← rq_mul s x y y' m hy', ← rq_mul s x' y' y m hy, h, Nat.mul_comm y y']

theorem odd_ex : ∀ n : Nat, n ≠ 0 → ∃ t m, n = 2 ^ t * (2 * m + 1) := by
 intro n
 induction n using Nat.strongRecOn with
 | _ n ih =>
  intro hn
  rcases Nat.mod_two_eq_zero_or_one n with h | h
  ·obtain ⟨t, m, e⟩ := ih (n / 2) (by omega) (by omega)
   exact ⟨t + 1, m, by rw [Nat.pow_succ, Nat.mul_right_comm, ← e]; omega⟩
  ·exact ⟨0, n / 2, by omega⟩

theorem zover_one (z k m : Int) : zover z 1 k m = if z < 0 then -((rq true (z.natAbs * 2 ^ k.toNat) (2 ^ (-k).toNat) m : Nat) : Int) else ((rq false (z.natAbs * 2 ^ k.toNat) (2 ^ (-k).toNat) m : Nat) : Int) := by
 unfold zover
 rw [show Int.natAbs 1 = 1 from rfl, Nat.one_mul, show decide ((1 : Int) < 0) = false from rfl, Bool.bne_false]
 simp only [decide_eq_true_eq]

noncomputable def roundD (d : Dyadic) (low m : Int) : Dyadic := open Classical in if d = 0 ∨ low ≤ cE d then d else mk (zover (cZ d) 1 (cE d - low) m) low

theorem roundD_same {d : Dyadic} {low m : Int} (h : d = 0 ∨ low ≤ cE d) : roundD d low m = d := by unfold roundD; rw [if_pos h]
theorem roundD_else {d : Dyadic} {low m : Int} (h : ¬ (d = 0 ∨ low ≤ cE d)) : roundD d low m = mk (zover (cZ d) 1 (cE d - low) m) low := by unfold roundD; rw [if_neg h]

theorem roundD_mk {z e low m : Int} (hz : z ≠ 0) (he : e ≤ low) : roundD (mk z e) low m = mk (zover z 1 (e - low) m) low := by
 obtain ⟨t, n, ht⟩ := odd_ex z.natAbs (by omega)
 obtain ⟨o, ho, hzo⟩ : ∃ o : Int, o % 2 = 1 ∧ z = o * 2 ^ t := by
  have h2 : ((2 ^ t * (2 * n + 1) : Nat) : Int) = (2 * n + 1 : Int) * 2 ^ t := by
   rw [Int.natCast_mul, Int.natCast_pow, Int.mul_comm]; rfl
  rcases Int.natAbs_eq z with h | h
  ·exact ⟨2 * n + 1, by omega, by rw [h, ht, h2]⟩
  ·exact ⟨-(2 * n + 1), by omega, by rw [h, ht, h2, Int.neg_mul]⟩
 obtain ⟨c1, c2⟩ := canon_mk (e := e) ho hzo
 have hne : mk z e ≠ 0 := fun h => hz (by rw [← mk_zero e, mk_inj] at h; exact h)
 have hoa : o.natAbs = 2 * n + 1 := by
  have h3 : z.natAbs = o.natAbs * 2 ^ t := by rw [hzo, Int.natAbs_mul, Int.natAbs_pow]; rfl
  rw [ht, Nat.mul_comm] at h3
  exact (Nat.eq_of_mul_eq_mul_right (Nat.pow_pos (by decide)) h3).symm
 have hsg : z < 0 ↔ o < 0 := by
  have hp : (0 : Int) < 2 ^ t := Int.pow_pos (by decide)
  rw [hzo]
  constructor
  ·intro h
   apply Int.lt_of_not_ge; intro h0
   have := Int.mul_nonneg h0 (Int.le_of_lt hp); omega
  ·intro h
   exact Int.mul_neg_of_neg_of_pos h hp
 obtain ⟨k, hk⟩ : ∃ k : Nat, low = e + k := ⟨(low - e).toNat, by omega⟩
 have e1 : (e - low).toNat = 0 := by omega
 have e2 : (-(e - low)).toNat = k := by omega
 by_cases hc : low ≤ cE (mk z e)
 ·rw [roundD_same (.inr hc), zover_one, e1, e2, Nat.pow_zero, Nat.mul_one]
  rw [c2] at hc
  obtain ⟨d, hd⟩ : ∃ d, t = k + d := ⟨t - k, by omega⟩
  have hdiv : z.natAbs = 2 ^ d * (2 * n + 1) * 2 ^ k := by rw [ht, hd, Nat.pow_add]; grind
  have hm0 : z.natAbs % 2 ^ k = 0 := by rw [hdiv]; exact Nat.mul_mod_left _ _
  have hq0 : z.natAbs / 2 ^ k = 2 ^ d * (2 * n + 1) := by rw [hdiv]; exact Nat.mul_div_cancel _ (Nat.pow_pos (by decide))
  rw [rq_exact hm0, rq_exact hm0, hq0]
  have hback : (if z < 0 then -((2 ^ d * (2 * n + 1) : Nat) : Int) else ((2 ^ d * (2 * n + 1) : Nat) : Int)) * 2 ^ k = z := by
   have h2 : ((z.natAbs : Nat) : Int) = ((2 ^ d * (2 * n + 1) : Nat) : Int) * 2 ^ k := by rw [hdiv, Int.natCast_mul, Int.natCast_pow]; rfl
   split
   ·rw [Int.neg_mul, ← h2]; omega
   ·rw [← h2]; omega
  have hs := mk_shift (if z < 0 then -((2 ^ d * (2 * n + 1) : Nat) : Int) else ((2 ^ d * (2 * n + 1) : Nat) : Int)) low k
  rw [hback, show low - (k : Int) = e by omega] at hs
  exact hs
 ·rw [roundD_else (by rintro (h | h); exact hne h; exact hc h), c1, c2]
  rw [c2] at hc
  congr 1
  rw [zover_one, zover_one]
  have f1 : (e + t - low).toNat = 0 := by omega
  have f2 : (-(e + t - low)).toNat + t = k := by omega
  have hrq : ∀ s, rq s (o.natAbs * 2 ^ (e + t - low).toNat) (2 ^ (-(e + t - low)).toNat) m = rq s (z.natAbs * 2 ^ (e - low).toNat) (2 ^ (-(e - low)).toNat) m := by
   intro s
   rw [f1, e1, e2, Nat.pow_zero, Nat.mul_one, Nat.mul_one, ← rq_mul s o.natAbs _ (2 ^ t) m (Nat.pow_pos (by decide)), ← Nat.pow_add, f2, hoa, ht, Nat.mul_comm]
  rw [hrq, hrq]
  by_cases h : z < 0
  ·rw [if_pos h, if_pos (hsg.1 h)]
  ·rw [if_neg h, if_neg (fun g => h (hsg.2 g))]

def zquo (a b k : Int) : Int :=
 if (decide (a < 0) != decide (b < 0)) = true then -((2 * (a.natAbs * 2 ^ (k + 2).toNat / (b.natAbs * 2 ^ (-(k + 2)).toNat)) + (if a.natAbs * 2 ^ (k + 2).toNat % (b.natAbs * 2 ^ (-(k + 2)).toNat) = 0 then 0 else 1) : Nat) : Int)
 else ((2 * (a.natAbs * 2 ^ (k + 2).toNat / (b.natAbs * 2 ^ (-(k + 2)).toNat)) + (if a.natAbs * 2 ^ (k + 2).toNat % (b.natAbs * 2 ^ (-(k + 2)).toNat) = 0 then 0 else 1) : Nat) : Int)

noncomputable def quotD (d1 d2 : Dyadic) (low : Int) : Dyadic := open Classical in if d1 = 0 then 0 else mk (zquo (cZ d1) (cZ d2) (cE d1 - cE d2 - low)) (low - 3)

theorem div_law {d1 d2 : Dyadic} (low m : Int) (h2 : d2 ≠ 0) : roundD (quotD d1 d2 low) low m = divD d1 d2 low m := by
 unfold quotD divD
 by_cases h1 : d1 = 0
 ·rw [if_pos h1, roundD_same (.inl rfl), h1]
  have : zover (cZ 0) (cZ d2) (cE 0 - cE d2 - low) m = 0 := by
   unfold zover
   rw [cZ_zero, show Int.natAbs 0 = 0 from rfl, Nat.zero_mul, rq_exact (Nat.zero_mod _), rq_exact (Nat.zero_mod _), Nat.zero_div]
   split <;> rfl
  rw [this, mk_zero]
 ·rw [if_neg h1]
  have ha : (cZ d1).natAbs ≠ 0 := by intro h; exact h1 (cZ_eq_zero.1 (Int.natAbs_eq_zero.1 h))
  have hb : (cZ d2).natAbs ≠ 0 := by intro h; exact h2 (cZ_eq_zero.1 (Int.natAbs_eq_zero.1 h))
  obtain ⟨k, hk⟩ : ∃ k, k = cE d1 - cE d2 - low := ⟨_, rfl⟩
  rw [← hk]
  unfold zquo zover
  obtain ⟨a, hA⟩ : ∃ a, a = (cZ d1).natAbs := ⟨_, rfl⟩
  obtain ⟨b, hB⟩ : ∃ b, b = (cZ d2).natAbs := ⟨_, rfl⟩
  rw [← hA] at ha
  rw [← hB] at hb
  rw [← hA, ← hB]
  obtain ⟨n, hn⟩ : ∃ n, n = a * 2 ^ (k + 2).toNat := ⟨_, rfl⟩
  obtain ⟨d, hd⟩ : ∃ d, d = b * 2 ^ (-(k + 2)).toNat := ⟨_, rfl⟩
  obtain ⟨x, hx⟩ : ∃ x, x = a * 2 ^ k.toNat := ⟨_, rfl⟩
  obtain ⟨y, hy⟩ : ∃ y, y = b * 2 ^ (-k).toNat := ⟨_, rfl⟩
  rw [← hn, ← hd, ← hx, ← hy]
  have n0 : 0 < n := by rw [hn]; exact Nat.mul_pos (by omega) (Nat.pow_pos (by decide))
  have d0 : 0 < d := by rw [hd]; exact Nat.mul_pos (by omega) (Nat.pow_pos (by decide))
  have y0 : 0 < y := by rw [hy]; exact Nat.mul_pos (by omega) (Nat.pow_pos (by decide))
  have hcross : n * y = x * (4 * d) := by
   rw [hn, hd, hx, hy]
   have hp : 2 ^ (k + 2).toNat * 2 ^ (-k).toNat = 2 ^ k.toNat * (2 ^ 2 * 2 ^ (-(k + 2)).toNat) := by
    rw [← Nat.pow_add, ← Nat.pow_add, ← Nat.pow_add]; congr 1; omega
   calc a * 2 ^ (k + 2).toNat * (b * 2 ^ (-k).toNat) = a * b * (2 ^ (k + 2).toNat * 2 ^ (-k).toNat) := by grind
    _ = a * b * (2 ^ k.toNat * (2 ^ 2 * 2 ^ (-(k + 2)).toNat)) := by rw [hp]
    _ = a * 2 ^ k.toNat * (4 * (b * 2 ^ (-(k + 2)).toNat)) := by grind
  obtain ⟨W, hW⟩ : ∃ W, W = 2 * (n / d) + (if n % d = 0 then 0 else 1) := ⟨_, rfl⟩
  rw [← hW]
  have hst : ∀ s, rq s W 8 m = rq s x y m := by
   intro s
   have e1 : 4 * n / (4 * d) = n / d := Nat.mul_div_mul_left n d (by decide)
   have e2 : 4 * n % (4 * d) = 4 * (n % d) := Nat.mul_mod_mul_left 4 n d
   have e3 := rq_sticky s n (4 * d) m (by omega)
   rw [e1, e2] at e3
   have e4 : (if 4 * (n % d) = 0 then 0 else 1) = (if n % d = 0 then 0 else 1) := by
    by_cases h : n % d = 0
    ·rw [if_pos h, if_pos (by omega)]
    ·rw [if_neg h, if_neg (by omega)]
   rw [e4, ← hW] at e3
   rw [e3]
   exact rq_cross (by omega) y0 hcross
  have hW0 : 0 < W := by
   rw [hW]
   by_cases h : n % d = 0
   ·have := Nat.div_add_mod n d
    have : n / d ≠ 0 := by intro h'; rw [h', h] at this; omega
    omega
   ·rw [if_neg h]; omega
  have e5 : (low - 3 - low).toNat = 0 := by omega
  have e6 : (-(low - 3 - low)).toNat = 3 := by omega
  cases hs : (decide (cZ d1 < 0) != decide (cZ d2 < 0))
  ·rw [if_neg (by decide), if_neg (by decide), roundD_mk (by omega) (by omega), zover_one, if_neg (by omega), e5, e6, Nat.pow_zero, Nat.mul_one, Int.natAbs_natCast]
   rw [show 2 ^ 3 = 8 from rfl, hst]
  ·rw [if_pos rfl, if_pos rfl, roundD_mk (by omega) (by omega), zover_one, if_pos (by omega), e5, e6, Nat.pow_zero, Nat.mul_one, Int.natAbs_neg, Int.natAbs_natCast]
   rw [show 2 ^ 3 = 8 from rfl, hst]

theorem cE_bound {z e : Int} (hz : z ≠ 0) : e ≤ cE (mk z e) ∧ cE (mk z e) ≤ e + 16 * (dg z.natAbs).length := by
 obtain ⟨t, n, ht⟩ := odd_ex z.natAbs (by omega)
 obtain ⟨_, h2, _⟩ := make_law (e := e) ht
 have h3 : 2 ^ t < 2 ^ (16 * (dg z.natAbs).length) := by
  have h4 := lt_pow_of (X := z.natAbs) rfl
  rw [Nat.pow_mul]
  refine Nat.lt_of_le_of_lt ?_ h4
  have : 2 ^ t ≤ 2 ^ t * (2 * n + 1) := Nat.le_mul_of_pos_right _ (by omega)
  rw [← ht] at this; exact this
 have h5 : t < 16 * (dg z.natAbs).length := (Nat.pow_lt_pow_iff_right (by decide)).1 h3
 rw [h2]; omega

theorem cZ_len (z e : Int) : (dg (cZ (mk z e)).natAbs).length ≤ (dg z.natAbs).length :=
 dg_len_le _ _ (Nat.lt_of_le_of_lt (cZ_le z e) (lt_pow_of rfl))

theorem zquo_len (a b k : Int) : (dg (zquo a b k).natAbs).length ≤ (dg a.natAbs).length + (k + 2).toNat / 16 + 2 := by
 have h : (zquo a b k).natAbs = 2 * (a.natAbs * 2 ^ (k + 2).toNat / (b.natAbs * 2 ^ (-(k + 2)).toNat)) + (if a.natAbs * 2 ^ (k + 2).toNat % (b.natAbs * 2 ^ (-(k + 2)).toNat) = 0 then 0 else 1) := by
  unfold zquo
  split <;> simp only [Int.natAbs_neg, Int.natAbs_natCast]
 rw [h]
 refine dg_len_le _ _ ?_
 have h2 := Nat.div_le_self (a.natAbs * 2 ^ (k + 2).toNat) (b.natAbs * 2 ^ (-(k + 2)).toNat)
 have h3 : a.natAbs * 2 ^ (k + 2).toNat < 65536 ^ ((dg a.natAbs).length + (k + 2).toNat / 16 + 1) :=
  Nat.lt_of_lt_of_le (lt_pow_of rfl) (Nat.pow_le_pow_right (by decide) (len_up _ _))
 rw [Nat.pow_succ]
 split <;> omega

end Go.Dg

/- Lists of dyadic numbers' cells: rules for a walk, sizes, marks. -/
namespace Go.Pe
open Go Go.Dg

theorem c3len (ys : List Cell3) : (cells3 ys).length = ys.length := cells3_len ys
theorem c3set (ys : List Cell3) (k : Nat) (y : Cell3) : (cells3 ys).set k (cell3 y) = cells3 (ys.set k y) := by simp [cells3, List.map_set]
theorem c3app (ys zs : List Cell3) : cells3 ys ++ cells3 zs = cells3 (ys ++ zs) := by simp [cells3]
theorem c3one (y : Cell3) : [cell3 y] = cells3 [y] := rfl
theorem c3rep (n : Nat) (y : Cell3) : List.replicate n (cell3 y) = cells3 (List.replicate n y) := by simp [cells3]
theorem c3nil : cells3 [] = [] := rfl
theorem c3getB (y : Cell3) : getB (cell3 y) 0 = y.1 := rfl
theorem c3getL (y : Cell3) : getL (cell3 y) 1 = intsL y.2.1 := rfl
theorem c3getI (y : Cell3) : getI (cell3 y) 2 = y.2.2 := rfl
theorem c3clen (y : Cell3) : (cell3 y).cells.length = 3 := rfl
theorem c3cells (y : Cell3) : (cell3 y).cells = [.val (.bool y.1), .lst (intsL y.2.1), .val (.int .i64 y.2.2)] := rfl
theorem c3at0 (y : Cell3) : cellAt (cell3 y) 0 = .val (.bool y.1) := rfl
theorem c3at1 (y : Cell3) : cellAt (cell3 y) 1 = .lst (intsL y.2.1) := rfl
theorem c3at2 (y : Cell3) : cellAt (cell3 y) 2 = .val (.int .i64 y.2.2) := rfl
theorem c3p (y : Cell3) : partP true 0 3 (cell3 y).cells = .agg [.val (.bool y.1), .lst (intsL y.2.1), .val (.int .i64 y.2.2)] := rfl
theorem c3p0 (y : Cell3) : partP false 0 1 (cell3 y).cells = .val (.bool y.1) := rfl
theorem c3p1 (y : Cell3) : partP false 1 1 (cell3 y).cells = .lst (intsL y.2.1) := rfl
theorem c3p2 (y : Cell3) : partP false 2 1 (cell3 y).cells = .val (.int .i64 y.2.2) := rfl
theorem c3el {ys : List Cell3} {k : Nat} (h : k < ys.length) : (cells3 ys).getD k D0 = cell3 (ys.getD k noY) := cells3_get h
theorem c3eta (y : Cell3) : PV.agg [.val (.bool y.1), .lst (intsL y.2.1), .val (.int .i64 y.2.2)] = cell3 y := rfl
theorem c3s0 (y : Cell3) (b : Bool) : setCells (cell3 y) 0 [.val (.bool b)] = cell3 (b, y.2) := rfl
theorem c3s1 (y : Cell3) (l : List Int) : setCells (cell3 y) 1 [.lst (intsL l)] = cell3 (y.1, l, y.2.2) := rfl
theorem c3s2 (y : Cell3) (e : Int) : setCells (cell3 y) 2 [.val (.int .i64 e)] = cell3 (y.1, y.2.1, e) := rfl

theorem sE : (∀ ys : List Cell3, (cells3 ys).length = ys.length) ∧ (∀ y : Cell3, getB (cell3 y) 0 = y.1) ∧ (∀ y : Cell3, getL (cell3 y) 1 = intsL y.2.1) ∧ (∀ y : Cell3, getI (cell3 y) 2 = y.2.2) ∧ (∀ y : Cell3, (cell3 y).cells.length = 3) ∧
  (∀ {ys : List Cell3} {k : Nat}, k < ys.length → (cells3 ys).getD k D0 = cell3 (ys.getD k noY)) ∧
  (∀ y : Cell3, cellAt (cell3 y) 0 = .val (.bool y.1)) ∧ (∀ y : Cell3, cellAt (cell3 y) 1 = .lst (intsL y.2.1)) ∧ (∀ y : Cell3, cellAt (cell3 y) 2 = .val (.int .i64 y.2.2)) ∧
  (∀ y : Cell3, partP true 0 3 (cell3 y).cells = .agg [.val (.bool y.1), .lst (intsL y.2.1), .val (.int .i64 y.2.2)]) ∧ (∀ y : Cell3, partP false 0 1 (cell3 y).cells = .val (.bool y.1)) ∧
  (∀ y : Cell3, partP false 1 1 (cell3 y).cells = .lst (intsL y.2.1)) ∧ (∀ y : Cell3, partP false 2 1 (cell3 y).cells = .val (.int .i64 y.2.2)) ∧
  (∀ (ys : List Cell3) (k : Nat) (y : Cell3), (cells3 ys).set k (cell3 y) = cells3 (ys.set k y)) ∧ (∀ y : Cell3, [cell3 y] = cells3 [y]) ∧ (∀ ys zs : List Cell3, cells3 ys ++ cells3 zs = cells3 (ys ++ zs)) ∧
  (∀ (n : Nat) (y : Cell3), List.replicate n (cell3 y) = cells3 (List.replicate n y)) ∧ cells3 [] = [] ∧
  (∀ (y : Cell3) (b : Bool), setCells (cell3 y) 0 [.val (.bool b)] = cell3 (b, y.2)) ∧ (∀ (y : Cell3) (l : List Int), setCells (cell3 y) 1 [.lst (intsL l)] = cell3 (y.1, l, y.2.2)) ∧ (∀ (y : Cell3) (e : Int), setCells (cell3 y) 2 [.val (.int .i64 e)] = cell3 (y.1, y.2.1, e)) ∧
  (∀ (b : Bool) (l : List Int) (e : Int), PV.agg [.val (.bool b), .lst (intsL l), .val (.int .i64 e)] = cell3 (b, l, e)) :=
 ⟨c3len, c3getB, c3getL, c3getI, c3clen, c3el, c3at0, c3at1, c3at2, c3p, c3p0, c3p1, c3p2, c3set, c3one, c3app, c3rep, c3nil, c3s0, c3s1, c3s2, fun _ _ _ => rfl⟩

theorem sF : (∀ {s : Int}, s ≤ 64 → Min.min s.toNat IntKind.i64.bits = s.toNat) ∧ (∀ (a : Int) (n : Nat), Int.fdiv a (2 ^ n) = a / 2 ^ n) ∧
  (∀ (l : List Int) (k : Nat), getI ((intsL l).getD k D0) 0 = l.getD k 0) ∧ (∀ (l : List Int) (k : Nat), ((intsL l).getD k D0).cells.length = 1) ∧
  (∀ l : List Int, (intsL l).length = l.length) ∧ (∀ (l : List Int) (k : Nat), (intsL l).take k = intsL (l.take k)) ∧ (∀ (l : List Int) (k : Nat), (intsL l).drop k = intsL (l.drop k)) ∧
  (∀ (l : List Int) (n : Int), intsL l ++ [.val (.int .i64 n)] = intsL (l ++ [n])) ∧ (∀ l r : List Int, intsL l ++ intsL r = intsL (l ++ r)) ∧ intsL [] = [] ∧
  (∀ l : List PV, [] ++ l = l) ∧ (∀ (l : List Int) (k : Nat) (n : Int), (intsL l).set k (.val (.int .i64 n)) = intsL (l.set k n)) ∧
  (∀ (k : Nat) (n : Int), List.replicate k (PV.val (.int .i64 n)) = intsL (List.replicate k n)) ∧ (∀ {n : Int}, -9223372036854775808 ≤ n → n ≤ 9223372036854775807 → IntKind.i64.wrap n = n) :=
 ⟨min_std, fdiv_two, ints_getI, ints_clen, ints_len, ints_take, ints_drop, ints_app1, ints_app, ints_nil, ints_nil_app, ints_set, ints_rep, wrapi⟩

set_option linter.defProp false in
def sG := And.intro sF (And.intro sB (And.intro sC (And.intro sD sE)))

theorem eG {g : Prop} (h : g := by (subst hA; subst_vars; simp only [AR.std, natCast_eq, sG, reduceCtorEq] at *; try simp (disch := omega) only [AR.std, natCast_eq, sG, reduceCtorEq] at *); omega) : g := h

theorem oG {g : Prop} (h : g := by ((first | (with_reducible refine qn hA ?_) | exfalso); subst hA; subst_vars; simp only [AR.std, natCast_eq, sG, reduceCtorEq] at *; (try simp (disch := omega) only [AR.std, natCast_eq, sG, reduceCtorEq] at *); first | done | rfl | omega | exact ints_ok _ | exact ints_all _ | (apply ints_part <;> first | omega | rfl))) : g := h

theorem pG {g : Prop} (h : g := by ((with_reducible refine qn hA ?_); subst hA; subst_vars; simp only [AR.std, natCast_eq, sG, reduceCtorEq] at *; (try simp (disch := omega) only [AR.std, natCast_eq, sG, reduceCtorEq] at *); first | done | rfl | omega | exact ints_ok _ | exact ints_all _ | (apply ints_part <;> first | omega | rfl))) : g := h

theorem nG {g : Prop} (h : g := by (subst hA; subst_vars; simp only [AR.std, natCast_eq, sG, reduceCtorEq] at *; (try simp (disch := omega) only [AR.std, natCast_eq, sG, reduceCtorEq] at *); first | done | rfl)) : g := h

theorem tG {g : Prop} (h : g := by (subst hA; subst_vars; first | rfl | (simp (disch := omega) only [AR.std, natCast_eq, sG, reduceCtorEq]; rfl))) : g := h

theorem vals_ints {l : List Int} : valsL (intsL l) := by
 intro p hp
 obtain ⟨n, _, rfl⟩ := List.mem_map.1 hp
 exact ⟨_, rfl⟩

theorem getY_mem {ys : List Cell3} {k : Nat} (h : k < ys.length) : ys.getD k noY ∈ ys := by
 rw [List.getD, List.getElem?_eq_getElem h]
 exact List.getElem_mem h

theorem c3set0 {t : List PV} {zs : List Cell3} {i : Nat} {y : Cell3} (b : Bool) (ht : t = cells3 zs) (hi : i < zs.length) (hy : zs.getD i noY = y) : t.set i (setCells (t.getD i D0) 0 [.val (.bool b)]) = cells3 (zs.set i (b, y.2)) := by
 rw [ht, c3el hi, hy, c3s0, c3set]

theorem c3set1 {t : List PV} {zs : List Cell3} {i : Nat} {y : Cell3} (l : List Int) (ht : t = cells3 zs) (hi : i < zs.length) (hy : zs.getD i noY = y) : t.set i (setCells (t.getD i D0) 1 [.lst (intsL l)]) = cells3 (zs.set i (y.1, l, y.2.2)) := by
 rw [ht, c3el hi, hy, c3s1, c3set]

theorem c3set2 {t : List PV} {zs : List Cell3} {i : Nat} {y : Cell3} (e : Int) (ht : t = cells3 zs) (hi : i < zs.length) (hy : zs.getD i noY = y) : t.set i (setCells (t.getD i D0) 2 [.val (.int .i64 e)]) = cells3 (zs.set i (y.1, y.2.1, e)) := by
 rw [ht, c3el hi, hy, c3s2, c3set]

theorem getD_set_self {zs : List Cell3} {i : Nat} (y : Cell3) (hi : i < zs.length) : (zs.set i y).getD i noY = y := by
 rw [List.getD, List.getElem?_set_self hi]; rfl

theorem c3val0 {t : List PV} {zs : List Cell3} {i : Nat} (ht : t = cells3 zs) (hi : i < zs.length) : valCells (t.getD i D0) 0 1 := by
 intro j hj
 obtain rfl : j = 0 := by omega
 rw [ht, c3el hi]; exact ⟨_, rfl⟩

theorem c3val2 {t : List PV} {zs : List Cell3} {i : Nat} (ht : t = cells3 zs) (hi : i < zs.length) : valCells (t.getD i D0) 2 1 := by
 intro j hj
 obtain rfl : j = 0 := by omega
 rw [ht, c3el hi]; exact ⟨_, rfl⟩

theorem c3take {ys : List Cell3} {k : Nat} (h : k < ys.length) : cells3 (ys.take k) ++ [cell3 (ys.getD k noY)] = cells3 (ys.take (k + 1)) := by
 rw [c3one, c3app, List.take_add_one, List.getElem?_eq_getElem h, List.getD, List.getElem?_eq_getElem h]
 rfl

def rowY (y : Nat → Nat → Cell3) (i j : Nat) : List Cell3 := (List.range j).map (y i)
def rowsY (y : Nat → Nat → Cell3) (n i : Nat) : List Cell3 := (List.range i).flatMap fun a => rowY y a n

theorem rowY_len (y : Nat → Nat → Cell3) (i j : Nat) : (rowY y i j).length = j := by simp [rowY]
theorem rowY_succ (y : Nat → Nat → Cell3) (i j : Nat) : rowY y i (j + 1) = rowY y i j ++ [y i j] := by simp [rowY, List.range_succ]
theorem rowsY_succ (y : Nat → Nat → Cell3) (n i : Nat) : rowsY y n (i + 1) = rowsY y n i ++ rowY y i n := by simp [rowsY, List.range_succ]
theorem rowsY_len (y : Nat → Nat → Cell3) (n : Nat) : ∀ i, (rowsY y n i).length = i * n
 | 0 => by simp [rowsY]
 | i + 1 => by rw [rowsY_succ, List.length_append, rowsY_len y n i, rowY_len, Nat.add_mul, Nat.one_mul]

theorem rowsY_get (y : Nat → Nat → Cell3) (n : Nat) : ∀ (m i j : Nat), i < m → j < n → (rowsY y n m).getD (i * n + j) noY = y i j
 | 0, i, j, hi, _ => by omega
 | m + 1, i, j, hi, hj => by
  rw [rowsY_succ, List.getD]
  by_cases h : i < m
  ·have hlt : i * n + j < (rowsY y n m).length := by
    rw [rowsY_len]
    have := Nat.mul_le_mul_right n (show i + 1 ≤ m from h)
    rw [Nat.add_mul, Nat.one_mul] at this
    omega
   rw [List.getElem?_append_left hlt, ← List.getD]
   exact rowsY_get y n m i j h hj
  ·obtain rfl : i = m := by omega
   rw [List.getElem?_append_right (by rw [rowsY_len]; omega), rowsY_len, Nat.add_sub_cancel_left, rowY, List.getElem?_map, List.getElem?_range hj]
   rfl

theorem closed_zero {u : List PV} {k : Nat} (hu : u = cells3 (List.replicate k noY)) (t s : Nat) : closedB (.row t s u) := by
 intro q hq c hc
 rw [hu] at hq
 obtain ⟨y, hy, rfl⟩ := List.mem_map.1 hq
 rw [(List.mem_replicate.1 hy).2] at hc
 simp only [cell3, noY, PV.cells, List.mem_cons, List.not_mem_nil, or_false] at hc
 rcases hc with rfl | rfl | rfl <;> rfl

def tot : List Cell3 → Nat
 | [] => 0
 | y :: r => y.2.1.length + tot r

theorem tot_app : ∀ (a b : List Cell3), tot (a ++ b) = tot a + tot b
 | [], b => by simp [tot]
 | y :: r, b => by simp [tot, tot_app r b]; omega

theorem tot_take_succ {ys : List Cell3} {i : Nat} (h : i < ys.length) : tot (ys.take (i + 1)) = tot (ys.take i) + (ys.getD i noY).2.1.length := by
 rw [List.take_add_one, tot_app, List.getElem?_eq_getElem h, List.getD, List.getElem?_eq_getElem h]
 simp [tot]

theorem tot_take_le (ys : List Cell3) (i : Nat) : tot (ys.take i) ≤ tot ys := by
 have := tot_app (ys.take i) (ys.drop i)
 rw [List.take_append_drop] at this
 omega

theorem tot_get {ys : List Cell3} {i : Nat} (h : i < ys.length) : tot (ys.take i) + (ys.getD i noY).2.1.length ≤ tot ys := by
 rw [← tot_take_succ h]; exact tot_take_le _ _

theorem tot_mem {ys : List Cell3} {y : Cell3} (h : y ∈ ys) : y.2.1.length ≤ tot ys := by
 obtain ⟨i, hi, rfl⟩ := List.getElem_of_mem h
 have := tot_get hi
 rw [List.getD, List.getElem?_eq_getElem hi] at this
 simp only [Option.getD_some] at this
 omega

def cpI3 (ys : List Cell3) (i : Int) (q : List PV) : Prop := 0 ≤ i ∧ i ≤ ys.length ∧ q = cells3 (ys.take i.toNat ++ List.replicate (ys.length - i.toNat) noY)

theorem cpI3_next {ys : List Cell3} {i : Int} {q : List PV} (h : cpI3 ys i q) (hi : i < ys.length) : cpI3 ys (i + 1) (q.set i.toNat (cell3 (ys.getD i.toNat noY))) := by
 obtain ⟨a, b, rfl⟩ := h
 refine ⟨by omega, by omega, ?_⟩
 rw [c3set]
 congr 1
 apply List.ext_getElem?
 intro j
 rw [show (i + 1).toNat = i.toNat + 1 by omega]
 have hl : (ys.take i.toNat).length = i.toNat := by rw [List.length_take]; omega
 by_cases hj : j = i.toNat
 ·subst hj
  rw [List.getElem?_set_self (by simp; omega), List.getElem?_append_left (by rw [List.length_take]; omega), List.getElem?_take, if_pos (by omega), List.getD, List.getElem?_eq_getElem (by omega)]
  rfl
 ·rw [List.getElem?_set_ne (fun e => hj e.symm), List.getElem?_append, List.getElem?_append, hl, List.length_take, Nat.min_eq_left (by omega)]
  by_cases h1 : j < i.toNat
  ·rw [if_pos h1, if_pos (by omega), List.getElem?_take, List.getElem?_take, if_pos h1, if_pos (by omega)]
  ·rw [if_neg h1, if_neg (by omega), List.getElem?_replicate, List.getElem?_replicate]
   by_cases h2 : j < ys.length
   ·rw [if_pos (by omega), if_pos (by omega)]
   ·rw [if_neg (by omega), if_neg (by omega)]

theorem cpI3_exit {ys : List Cell3} {i : Int} {q : List PV} (h : cpI3 ys i q) (hi : ys.length ≤ i) : q = cells3 ys := by
 obtain ⟨a, b, rfl⟩ := h
 rw [List.take_of_length_le (by omega), show ys.length - i.toNat = 0 by omega]
 simp

def szI3 (ys : List Cell3) (k i r : Int) : Prop := 0 ≤ i ∧ i ≤ ys.length ∧ r = k - ys.length - tot (ys.take i.toNat) ∧ 0 ≤ r

def koff (ys : List Cell3) (k : Int) (j : Nat) : Int := k + 2 * j + tot (ys.take j)

def mark1 (k : Int) (n : Nat) : Cell3 := (decide (k % 3 = 0), up1 (k + 1) n, k + 1 + n)

def mkL3 (ys : List Cell3) (k : Int) : List Cell3 := (List.range ys.length).map fun j => mark1 (koff ys k j) (ys.getD j noY).2.1.length

theorem mkL3_len (ys : List Cell3) (k : Int) : (mkL3 ys k).length = ys.length := by simp [mkL3]

theorem mkL3_get {ys : List Cell3} {k : Int} {j : Nat} (h : j < ys.length) : (mkL3 ys k).getD j noY = mark1 (koff ys k j) (ys.getD j noY).2.1.length := by
 simp [mkL3, List.getD, h]

theorem koff_succ {ys : List Cell3} {k : Int} {j : Nat} (h : j < ys.length) : koff ys k (j + 1) = koff ys k j + 2 + (ys.getD j noY).2.1.length := by
 unfold koff
 rw [tot_take_succ h]
 omega

theorem koff_zero (ys : List Cell3) (k : Int) : koff ys k 0 = k := by simp [koff, tot]

theorem koff_end (ys : List Cell3) (k : Int) : koff ys k ys.length = k + 2 * ys.length + tot ys := by simp [koff]

theorem koff_le {ys : List Cell3} {k : Int} {j : Nat} (h : j ≤ ys.length) : k ≤ koff ys k j ∧ koff ys k j ≤ k + 2 * ys.length + tot ys := by
 unfold koff
 have := tot_take_le ys j
 omega

def mkI3 (ys : List Cell3) (k i q : Int) (p : List PV) : Prop := 0 ≤ i ∧ i ≤ ys.length ∧ q = koff ys k i.toNat ∧ p = cells3 ((mkL3 ys k).take i.toNat ++ ys.drop i.toNat)

theorem mkI3_get {ys : List Cell3} {k i q : Int} {p : List PV} (h : mkI3 ys k i q p) (hi : i < ys.length) : ∃ zs : List Cell3, p = cells3 zs ∧ zs.length = ys.length ∧ zs.getD i.toNat noY = ys.getD i.toNat noY := by
 obtain ⟨a, b, _, rfl⟩ := h
 refine ⟨_, rfl, by simp [mkL3_len]; omega, ?_⟩
 have hl : ((mkL3 ys k).take i.toNat).length = i.toNat := by rw [List.length_take, mkL3_len]; omega
 rw [List.getD, List.getD, List.getElem?_append_right (by omega), hl, Nat.sub_self, List.getElem?_drop, Nat.add_zero]

theorem mkI3_next {ys : List Cell3} {k i q : Int} {p : List PV} (h : mkI3 ys k i q p) (hi : i < ys.length) :
  mkI3 ys k (i + 1) (q + 2 + (ys.getD i.toNat noY).2.1.length) (p.set i.toNat (cell3 (mark1 q (ys.getD i.toNat noY).2.1.length))) := by
 obtain ⟨a, b, rfl, rfl⟩ := h
 refine ⟨by omega, by omega, ?_, ?_⟩
 ·rw [show (i + 1).toNat = i.toNat + 1 by omega, koff_succ (by omega)]
 ·rw [c3set]
  congr 1
  rw [show (i + 1).toNat = i.toNat + 1 by omega]
  have hl : ((mkL3 ys k).take i.toNat).length = i.toNat := by rw [List.length_take, mkL3_len]; omega
  apply List.ext_getElem?
  intro j
  by_cases hj : j = i.toNat
  ·subst hj
   rw [List.getElem?_set_self (by simp [mkL3_len]; omega), List.getElem?_append_left (by rw [List.length_take, mkL3_len]; omega), List.getElem?_take, if_pos (by omega)]
   have := mkL3_get (k := k) (show i.toNat < ys.length by omega)
   rw [List.getD, List.getElem?_eq_getElem (by rw [mkL3_len]; omega)] at this
   rw [List.getElem?_eq_getElem (by rw [mkL3_len]; omega)]
   rw [← this]; rfl
  ·rw [List.getElem?_set_ne (fun e => hj e.symm), List.getElem?_append, List.getElem?_append, hl, List.length_take, mkL3_len, Nat.min_eq_left (by omega)]
   by_cases h1 : j < i.toNat
   ·rw [if_pos h1, if_pos (by omega), List.getElem?_take, List.getElem?_take, if_pos h1, if_pos (by omega)]
   ·rw [if_neg h1, if_neg (by omega), List.getElem?_drop, List.getElem?_drop]
    congr 1
    omega

theorem mkI3_zero (ys : List Cell3) (k : Int) : mkI3 ys k 0 k (cells3 ys) := ⟨Int.le_refl _, by omega, by rw [show (0 : Int).toNat = 0 from rfl, koff_zero], by simp⟩

theorem mkI3_exit {ys : List Cell3} {k i q : Int} {p : List PV} (h : mkI3 ys k i q p) (hi : ys.length ≤ i) : p = cells3 (mkL3 ys k) ∧ q = k + 2 * ys.length + tot ys := by
 obtain ⟨a, b, rfl, rfl⟩ := h
 have e : i.toNat = ys.length := by omega
 rw [e]
 refine ⟨?_, koff_end _ _⟩
 rw [List.take_of_length_le (by rw [mkL3_len]; omega), List.drop_length, List.append_nil]

end Go.Pe

/- Numbers in a form that is not canonical: what they stand for, bounds of their cells. -/
namespace Go.Pe
open Go Go.Dg

def X (d : Dyadic) (L E : Nat) (y : Cell3) : Prop := ∃ z : Int, y.1 = decide (z < 0) ∧ y.2.1 = dg z.natAbs ∧ d = mk z y.2.2 ∧ (dg z.natAbs).length ≤ L ∧ y.2.2.natAbs ≤ E

noncomputable def canY (d : Dyadic) : Cell3 := (decide (cZ d < 0), dg (cZ d).natAbs, cE d)

theorem canY_zero : canY 0 = noY := by
 unfold canY
 rw [cZ_zero, show Int.natAbs 0 = 0 from rfl, dg_zero]
 rfl

theorem X.mono {d : Dyadic} {L E L' E' : Nat} {y : Cell3} (h : X d L E y) (hL : L ≤ L') (hE : E ≤ E') : X d L' E' y := by
 obtain ⟨z, h1, h2, h3, h4, h5⟩ := h
 exact ⟨z, h1, h2, h3, by omega, by omega⟩

theorem X_ok {y : Cell3} (h : okY y) : X (dval y.1 y.2.1 y.2.2) 100 3000 y := by
 obtain ⟨⟨h1, h2, h3⟩, h4, h5, h6⟩ := dyOk_val h
 refine ⟨cZ (dval y.1 y.2.1 y.2.2), h1, h2, ?_, by rw [← h2] at h4 ⊢; exact h4, by omega⟩
 have := (mk_canon (dval y.1 y.2.1 y.2.2)).symm
 rw [← h3] at this
 exact this

theorem X_zero {L E : Nat} : X 0 L E noY := ⟨0, rfl, by rw [show Int.natAbs 0 = 0 from rfl, dg_zero]; rfl, (mk_zero 0).symm, by rw [show Int.natAbs 0 = 0 from rfl, dg_zero]; exact Nat.zero_le _, Nat.zero_le _⟩

theorem dg_len_add {x y : Int} {K : Nat} (h1 : (dg x.natAbs).length ≤ K) (h2 : (dg y.natAbs).length ≤ K) : (dg (x + y).natAbs).length ≤ K + 1 := by
 refine dg_len_le _ _ ?_
 have a1 : x.natAbs < 65536 ^ K := Nat.lt_of_lt_of_le (dg_lt_pow _) (Nat.pow_le_pow_right (by decide) h1)
 have a2 : y.natAbs < 65536 ^ K := Nat.lt_of_lt_of_le (dg_lt_pow _) (Nat.pow_le_pow_right (by decide) h2)
 have a3 : (x + y).natAbs ≤ x.natAbs + y.natAbs := Int.natAbs_add_le _ _
 rw [Nat.pow_succ]
 omega

theorem dg_len_mul {x y : Nat} {K J : Nat} (h1 : (dg x).length ≤ K) (h2 : (dg y).length ≤ J) : (dg (x * y)).length ≤ K + J := by
 refine dg_len_le _ _ ?_
 have a1 : x < 65536 ^ K := Nat.lt_of_lt_of_le (dg_lt_pow _) (Nat.pow_le_pow_right (by decide) h1)
 have a2 : y < 65536 ^ J := Nat.lt_of_lt_of_le (dg_lt_pow _) (Nat.pow_le_pow_right (by decide) h2)
 rw [Nat.pow_add]
 exact Nat.mul_lt_mul'' a1 a2

def XL (dd : Nat → Dyadic) (L E : Nat) (ys : List Cell3) : Prop := ∀ k, k < ys.length → X (dd k) L E (ys.getD k noY)

theorem XL.mono {dd : Nat → Dyadic} {L E L' E' : Nat} {ys : List Cell3} (h : XL dd L E ys) (hL : L ≤ L') (hE : E ≤ E') : XL dd L' E' ys := fun k hk => (h k hk).mono hL hE

theorem places {n : Nat} {Q : Nat → Nat → Cell3 → Prop} (h : ∀ i j, i < n → j < n → ∃ c, Q i j c) : ∃ Y : Nat → Nat → Cell3, ∀ i j, i < n → j < n → Q i j (Y i j) := by
 classical
 refine ⟨fun i j => if hc : i < n ∧ j < n then Classical.choose (h i j hc.1 hc.2) else noY, fun i j hi hj => ?_⟩
 simp only [dif_pos (And.intro hi hj)]
 exact Classical.choose_spec (h i j hi hj)

theorem rowsY_XL {n : Nat} {Y : Nat → Nat → Cell3} {dd : Nat → Dyadic} {L E : Nat} (h : ∀ i j, i < n → j < n → X (dd (i * n + j)) L E (Y i j)) : XL dd L E (rowsY Y n n) := by
 intro k hk
 rw [rowsY_len] at hk
 have hn : 0 < n := by
  rcases Nat.eq_zero_or_pos n with h0 | h0
  ·subst h0; simp at hk
  ·exact h0
 have h1 : k / n < n := (Nat.div_lt_iff_lt_mul hn).2 hk
 have h2 : k % n < n := Nat.mod_lt _ hn
 have e : k = k / n * n + k % n := by rw [Nat.mul_comm]; exact (Nat.div_add_mod k n).symm
 have h3 := h _ _ h1 h2
 rw [← rowsY_get Y n n _ _ h1 h2, ← e] at h3
 exact h3

def dvY (ys : List Cell3) (k : Nat) : Dyadic := dval (ys.getD k noY).1 (ys.getD k noY).2.1 (ys.getD k noY).2.2

theorem allY_XL {ys : List Cell3} (h : allY ys) : XL (dvY ys) 100 3000 ys := fun k hk => X_ok (h _ (getY_mem hk))

noncomputable def canL (dd : Nat → Dyadic) (n : Nat) : List Cell3 := (List.range n).map fun k => canY (dd k)

theorem canL_len (dd : Nat → Dyadic) (n : Nat) : (canL dd n).length = n := by simp [canL]
theorem canL_succ (dd : Nat → Dyadic) (n : Nat) : canL dd (n + 1) = canL dd n ++ [canY (dd n)] := by simp [canL, List.range_succ]
theorem canL_get {dd : Nat → Dyadic} {n k : Nat} (h : k < n) : (canL dd n).getD k noY = canY (dd k) := by simp [canL, List.getD, h]

theorem chain {S : Nat → Dyadic} {Lf : Nat → Nat} {E : Nat} {Q : Nat → Cell3 → Cell3 → Cell3 → Prop} {y0 : Cell3} (h0 : X (S 0) (Lf 0) E y0) : ∀ {n : Nat}, (∀ k y, k < n → X (S k) (Lf k) E y → ∃ t y', Q k y t y' ∧ X (S (k + 1)) (Lf (k + 1)) E y') →
  ∃ c t : Nat → Cell3, c 0 = y0 ∧ (∀ k, k < n → Q k (c k) (t k) (c (k + 1))) ∧ ∀ k, k ≤ n → X (S k) (Lf k) E (c k)
 | 0, _ => ⟨fun _ => y0, fun _ => y0, rfl, fun k hk => by omega, fun k hk => by
  obtain rfl : k = 0 := by omega
  exact h0⟩
 | n + 1, hs => by
  obtain ⟨c, t, h1, h2, h3⟩ := chain (n := n) h0 (fun k y hk hx => hs k y (by omega) hx)
  obtain ⟨t', y', h4, h5⟩ := hs n (c n) (by omega) (h3 n (Nat.le_refl _))
  refine ⟨fun k => if k ≤ n then c k else y', fun k => if k < n then t k else t', by simp [h1], fun k hk => ?_, fun k hk => ?_⟩
  ·by_cases hkn : k < n
   ·simp only [show k ≤ n by omega, show k + 1 ≤ n by omega, hkn, if_true]
    exact h2 k hkn
   ·obtain rfl : k = n := by omega
    simp only [Nat.le_refl, if_true, Nat.lt_irrefl, if_false, show ¬ k + 1 ≤ k by omega]
    exact h4
  ·by_cases hkn : k ≤ n
   ·simp only [hkn, if_true]; exact h3 k hkn
   ·obtain rfl : k = n + 1 := by omega
    simp only [show ¬ n + 1 ≤ n by omega, if_false]
    exact h5

def psum (f : Nat → Dyadic) : Nat → Dyadic
 | 0 => 0
 | k + 1 => psum f k + f k

theorem FX.mono {P : Program} {gl : List (Nat × Obj)} {f : FuncId} {own : List Blk} {args : List FV} {R R' : List Blk → FV → Prop} (h : FX P gl f own args R) (hR : ∀ o r, R o r → R' o r) : FX P gl f own args R' :=
 ⟨h.1, fun w S m vs h1 h2 h3 h4 h5 => (h.2 w S m vs h1 h2 h3 h4 h5).mono (by
  rintro e w' ⟨v, r, own', m', g1, g2, g3⟩
  exact ⟨v, r, own', m', g1, hR _ _ g2, g3⟩)⟩

end Go.Pe

/- Lists of dyadic numbers among a row's arguments. -/
namespace Go.Pe
open Go Go.Dg Go.RowKit

theorem typed_dys {P : Program} {n : Nat} {t e : TypeId} {c : List PV} (hu : P.underlying t = some (.slice e)) (hst : isSt P e = true)
  (hE : ∀ c, Typed P n e c → ∃ (s : Bool) (l : List Int) (x : Int), c = [.val (.bool s), .lst (intsL l), .val (.int .i64 x)] ∧ l.length ≤ maxLen) (h : Typed P (n + 1) t c) :
  ∃ ys : List Cell3, c = [.lst (cells3 ys)] ∧ ys.length ≤ maxLen ∧ ∀ y ∈ ys, y.2.1.length ≤ maxLen := by
 unfold Typed at h; rw [hu] at h
 obtain ⟨cl, rfl, hl, hc⟩ := h
 have : ∃ ys : List Cell3, cl.map (mkEl P e) = cells3 ys ∧ ys.length = cl.length ∧ ∀ y ∈ ys, y.2.1.length ≤ maxLen := by
  clear hl
  induction cl with
  | nil => exact ⟨[], rfl, rfl, fun y hy => by cases hy⟩
  | cons x r ih =>
   obtain ⟨l, h1, h2, h3⟩ := ih (fun c hc' => hc c (List.mem_cons_of_mem _ hc'))
   obtain ⟨s, d, m, hm, hd⟩ := hE x (hc x (by simp))
   refine ⟨(s, d, m) :: l, ?_, by simp [h2], fun y hy => ?_⟩
   ·rw [List.map_cons, h1, hm]
    simp only [cells3, List.map_cons, cell3, mkEl, hst]
   ·rcases List.mem_cons.1 hy with rfl | hy
    ·exact hd
    ·exact h3 y hy
 obtain ⟨ys, h1, h2, h3⟩ := this
 exact ⟨ys, by rw [h1], by omega, h3⟩

end Go.Pe

/- Sharper bounds of sums, sums of products. -/
namespace Go.Pe
open Go Go.Dg

theorem place {n k : Nat} (h : k < n * n) : k / n < n ∧ k % n < n ∧ k = k / n * n + k % n := by
 have hn : 0 < n := by
  rcases Nat.eq_zero_or_pos n with h0 | h0
  ·subst h0; simp at h
  ·exact h0
 exact ⟨(Nat.div_lt_iff_lt_mul hn).2 h, Nat.mod_lt _ hn, by rw [Nat.mul_comm]; exact (Nat.div_add_mod k n).symm⟩

theorem place_lt {n i j : Nat} (hi : i < n) (hj : j < n) : i * n + j < n * n := by
 have := Nat.mul_le_mul_right n (show i + 1 ≤ n from hi)
 rw [Nat.add_mul, Nat.one_mul] at this
 omega

noncomputable def partL (dd : Nat → Dyadic) (N m : Nat) : List Cell3 := canL dd m ++ List.replicate (N - m) noY

theorem partL_len {dd : Nat → Dyadic} {N m : Nat} (h : m ≤ N) : (partL dd N m).length = N := by
 rw [partL, List.length_append, canL_len, List.length_replicate]; omega
theorem partL_zero (dd : Nat → Dyadic) (N : Nat) : partL dd N 0 = List.replicate N noY := by simp [partL, canL]
theorem partL_all (dd : Nat → Dyadic) (N : Nat) : partL dd N N = canL dd N := by simp [partL]
theorem partL_set {dd : Nat → Dyadic} {N m : Nat} (h : m < N) : (partL dd N m).set m (canY (dd m)) = partL dd N (m + 1) := by
 rw [partL, partL, canL_succ, List.append_assoc, List.set_append_right _ _ (by rw [canL_len]; exact Nat.le_refl _), canL_len, Nat.sub_self, show N - m = (N - (m + 1)) + 1 by omega, List.replicate_succ]
 rfl

end Go.Pe

/- Sizes of numbers, the greatest of some numbers. -/
namespace Go.Pe
open Go Go.Dg

open Classical in
noncomputable def absD (d : Dyadic) : Dyadic := if d < 0 then -d else d

noncomputable def maxD (a b : Dyadic) : Dyadic := if cmpD a b < 0 then b else a

theorem cmpD_swap (a b : Dyadic) : 0 < cmpD b a ↔ cmpD a b < 0 := by
 unfold cmpD
 have h := @Dyadic.toRat_lt_toRat_iff
 by_cases h1 : a < b <;> by_cases h2 : b < a
 ·exfalso
  have g1 := h.2 h1
  have g2 := h.2 h2
  exact Rat.not_lt.2 (Rat.le_of_lt g1) g2
 all_goals simp [h1, h2]

noncomputable def pmax (f : Nat → Dyadic) : Nat → Dyadic
 | 0 => 0
 | k + 1 => maxD (pmax f k) (f k)

noncomputable def colD (m : Nat) (d : Nat → Dyadic) (j : Nat) : Dyadic := psum (fun i => absD (d (i * m + j))) m

noncomputable def normD (m : Nat) (d : Nat → Dyadic) : Dyadic := pmax (colD m d) m

end Go.Pe

/- The sum of a diagonal. -/
namespace Go.Pe
open Go Go.Dg

end Go.Pe

/- How great a number is and how fine: bounds that sums and products keep sharp. -/
namespace Go.Pe
open Go Go.Dg

def Mg (a b : Nat) (d : Dyadic) : Prop := ∃ z : Int, d = mk z (-(a : Int)) ∧ z.natAbs < 2 ^ (a + b)

theorem Mg_zero {a b : Nat} : Mg a b 0 := ⟨0, (mk_zero _).symm, Nat.two_pow_pos _⟩

theorem mk_shl (z e : Int) (k : Nat) : mk z e = mk (z * 2 ^ k) (e - k) := (mk_shift z e k).symm

theorem Mg.mono {a b a' b' : Nat} {d : Dyadic} (h : Mg a b d) (ha : a ≤ a') (hb : b ≤ b') : Mg a' b' d := by
 obtain ⟨z, h1, h2⟩ := h
 refine ⟨z * 2 ^ (a' - a), ?_, ?_⟩
 ·rw [h1, mk_shl z _ (a' - a)]; congr 1; omega
 ·rw [Int.natAbs_mul, Int.natAbs_pow]
  show z.natAbs * 2 ^ (a' - a) < _
  have : 2 ^ (a + b) * 2 ^ (a' - a) ≤ 2 ^ (a' + b') := by rw [← Nat.pow_add]; exact Nat.pow_le_pow_right (by decide) (by omega)
  exact Nat.lt_of_lt_of_le (Nat.mul_lt_mul_of_pos_right h2 (Nat.two_pow_pos _)) this

theorem Mg.add {a b : Nat} {d e : Dyadic} (h : Mg a b d) (g : Mg a b e) : Mg a (b + 1) (d + e) := by
 obtain ⟨z, h1, h2⟩ := h
 obtain ⟨y, g1, g2⟩ := g
 refine ⟨z + y, by rw [h1, g1, mk_add], ?_⟩
 have := Int.natAbs_add_le z y
 rw [← Nat.add_assoc, Nat.pow_succ]
 omega

theorem Mg.mul {a b a' b' : Nat} {d e : Dyadic} (h : Mg a b d) (g : Mg a' b' e) : Mg (a + a') (b + b') (d * e) := by
 obtain ⟨z, h1, h2⟩ := h
 obtain ⟨y, g1, g2⟩ := g
 refine ⟨z * y, by rw [h1, g1, mk_mul]; congr 1; omega, ?_⟩
 rw [Int.natAbs_mul, show a + a' + (b + b') = a + b + (a' + b') by omega, Nat.pow_add]
 exact Nat.mul_lt_mul'' h2 g2

theorem Mg.neg {a b : Nat} {d : Dyadic} (h : Mg a b d) : Mg a b (-d) := by
 obtain ⟨z, h1, h2⟩ := h
 exact ⟨-z, by rw [h1, mk_neg], by rw [Int.natAbs_neg]; exact h2⟩

theorem Mg.psum {f : Nat → Dyadic} {a b n : Nat} (h : ∀ k, k < n → Mg a b (f k)) : ∀ k, k ≤ n → Mg a (b + k) (psum f k)
 | 0, _ => Mg_zero
 | k + 1, hk => ((Mg.psum h k (by omega)).add ((h k (by omega)).mono (Nat.le_refl _) (by omega))).mono (Nat.le_refl _) (by omega)

theorem Mg_len {a b : Nat} {d : Dyadic} (h : Mg a b d) : (dg (cZ d).natAbs).length ≤ (a + b) / 16 + 1 := by
 obtain ⟨z, h1, h2⟩ := h
 refine dg_len_le _ _ ?_
 have h3 : (cZ d).natAbs ≤ z.natAbs := by rw [h1]; exact cZ_le z _
 have h4 : 2 ^ (a + b) ≤ 65536 ^ ((a + b) / 16 + 1) := by
  rw [show (65536 : Nat) = 2 ^ 16 from rfl, ← Nat.pow_mul]
  exact Nat.pow_le_pow_right (by decide) (by omega)
 omega

theorem Mg_cE {a b : Nat} {d : Dyadic} (h : Mg a b d) : -(a : Int) ≤ cE d ∨ cE d = 0 := by
 obtain ⟨z, h1, h2⟩ := h
 by_cases hz : z = 0
 ·right; rw [h1, hz, mk_zero]; rfl
 ·left
  have := (cE_bound (e := -(a : Int)) hz).1
  rw [← h1] at this
  exact this

theorem Mg_cE2 {a b : Nat} {d : Dyadic} (h : Mg a b d) : cE d ≤ b := by
 obtain ⟨z, h1, h2⟩ := h
 by_cases hz : z = 0
 ·rw [h1, hz, mk_zero]; exact Int.natCast_nonneg _
 ·obtain ⟨t, n, ht⟩ := odd_ex z.natAbs (by omega)
  obtain ⟨_, g2, _⟩ := make_law (e := -(a : Int)) ht
  have h4 : 2 ^ t < 2 ^ (a + b) := by
   refine Nat.lt_of_le_of_lt ?_ h2
   have : 2 ^ t ≤ 2 ^ t * (2 * n + 1) := Nat.le_mul_of_pos_right _ (by omega)
   rw [← ht] at this; exact this
  have h5 : t < a + b := (Nat.pow_lt_pow_iff_right (by decide)).1 h4
  rw [h1, g2]
  omega

set_option exponentiation.threshold 10000 in
theorem Mg_fits {d : Dyadic} (h : fits d) : Mg 3000 4600 d := by
 obtain ⟨h1, h2, h3⟩ := h
 refine ⟨cZ d * 2 ^ (cE d + 3000).toNat, ?_, ?_⟩
 ·have := mk_shl (cZ d) (cE d) (cE d + 3000).toNat
  rw [mk_canon] at this
  rw [show cE d - ((cE d + 3000).toNat : Int) = -((3000 : Nat) : Int) by omega] at this
  exact this
 ·rw [Int.natAbs_mul, Int.natAbs_pow]
  show (cZ d).natAbs * 2 ^ (cE d + 3000).toNat < _
  have a1 : (cZ d).natAbs < 2 ^ 1600 := by
   refine Nat.lt_of_lt_of_le (dg_lt_pow _) ?_
   rw [show (2 : Nat) ^ 1600 = 65536 ^ 100 by rw [show (65536 : Nat) = 2 ^ 16 from rfl, ← Nat.pow_mul]]
   exact Nat.pow_le_pow_right (by decide) h1
  have a2 : 2 ^ (cE d + 3000).toNat ≤ 2 ^ 6000 := Nat.pow_le_pow_right (by decide) (by omega)
  have a3 : (cZ d).natAbs * 2 ^ (cE d + 3000).toNat < 2 ^ 1600 * 2 ^ 6000 := Nat.mul_lt_mul_of_lt_of_le a1 a2 (Nat.two_pow_pos _)
  rw [← Nat.pow_add] at a3
  exact a3

def CL (a b : Nat) (dd : Nat → Dyadic) (ys : List Cell3) : Prop := ∀ k, k < ys.length → ys.getD k noY = canY (dd k) ∧ Mg a b (dd k)

theorem allY_CL {ys : List Cell3} (h : allY ys) : CL 3000 4600 (dvY ys) ys := by
 intro k hk
 have hy := h _ (getY_mem hk)
 obtain ⟨⟨h1, h2, h3⟩, h4, h5, h6⟩ := dyOk_val hy
 refine ⟨?_, Mg_fits ⟨h4, h5, h6⟩⟩
 exact Prod.ext h1 (Prod.ext h2 h3)

theorem Mg.max {a b : Nat} {d e : Dyadic} (h : Mg a b d) (g : Mg a b e) : Mg a b (maxD d e) := by
 unfold maxD
 by_cases hc : cmpD d e < 0
 ·rw [if_pos hc]; exact g
 ·rw [if_neg hc]; exact h

end Go.Pe

/- Plain laws: matrices without a row and a column, determinants. -/
namespace Go.Pe
open Go Go.Dg

def idxL (n r c : Nat) : List Nat := (List.range (n * n)).filter fun k => k / n != r && k % n != c

theorem idxL_lt {n r c k : Nat} (h : k ∈ idxL n r c) : k < n * n := List.mem_range.1 (List.mem_filter.1 h).1

theorem idxL_len {n r c : Nat} (h4 : n ≤ 4) (hr : r < n) (hc : c < n) : (idxL n r c).length = (n - 1) * (n - 1) := by
 have h : ∀ n : Fin 5, ∀ r : Fin 4, ∀ c : Fin 4, r.1 < n.1 → c.1 < n.1 → (idxL n.1 r.1 c.1).length = (n.1 - 1) * (n.1 - 1) := by decide +kernel
 exact h ⟨n, by omega⟩ ⟨r, by omega⟩ ⟨c, by omega⟩ hr hc

theorem idxL_get {n r c k : Nat} (h : k < (idxL n r c).length) : (idxL n r c).getD k 0 < n * n := by
 rw [List.getD, List.getElem?_eq_getElem h]
 exact idxL_lt (List.getElem_mem h)

def minorD (n r c : Nat) (d : Nat → Dyadic) (k : Nat) : Dyadic := d ((idxL n r c).getD k 0)

def minorP (n r c m : Nat) (ys : List Cell3) : List Cell3 := ((List.range m).filter fun k => k / n != r && k % n != c).map fun k => ys.getD k noY

def minorL (n r c : Nat) (ys : List Cell3) : List Cell3 := (idxL n r c).map fun k => ys.getD k noY

theorem minorP_zero (n r c : Nat) (ys : List Cell3) : minorP n r c 0 ys = [] := rfl
theorem minorP_all (n r c : Nat) (ys : List Cell3) : minorP n r c (n * n) ys = minorL n r c ys := rfl
theorem minorP_len (n r c m : Nat) (ys : List Cell3) : (minorP n r c m ys).length ≤ m := by
 rw [minorP, List.length_map]
 exact Nat.le_trans (List.length_filter_le _ _) (by simp)

theorem minorP_succ {n r c i j : Nat} {ys : List Cell3} (hj : j < n) : minorP n r c (i * n + j + 1) ys = minorP n r c (i * n + j) ys ++ if i ≠ r ∧ j ≠ c then [ys.getD (i * n + j) noY] else [] := by
 have h1 : (i * n + j) / n = i := by rw [Nat.mul_comm, Nat.mul_add_div (by omega), Nat.div_eq_of_lt hj, Nat.add_zero]
 have h2 : (i * n + j) % n = j := by rw [Nat.mul_comm, Nat.mul_add_mod, Nat.mod_eq_of_lt hj]
 unfold minorP
 rw [List.range_succ, List.filter_append, List.map_append]
 congr 1
 by_cases h : i ≠ r ∧ j ≠ c
 ·rw [if_pos h, List.filter_cons_of_pos (by rw [h1, h2]; simp [h.1, h.2])]; rfl
 ·rw [if_neg h, List.filter_cons_of_neg (by rw [h1, h2, Bool.and_eq_true, bne_iff_ne, bne_iff_ne]; exact h)]; rfl

theorem minorL_len {n r c : Nat} {ys : List Cell3} : (minorL n r c ys).length = (idxL n r c).length := by simp [minorL]

theorem minorL_get {n r c k : Nat} {ys : List Cell3} (h : k < (idxL n r c).length) : (minorL n r c ys).getD k noY = ys.getD ((idxL n r c).getD k 0) noY := by
 simp [minorL, List.getD, h]

theorem minor_XL {n r c L E : Nat} {d : Nat → Dyadic} {ys : List Cell3} (h : XL d L E ys) (hy : ys.length = n * n) : XL (minorD n r c d) L E (minorL n r c ys) := by
 intro k hk
 rw [minorL_len] at hk
 rw [minorL_get hk]
 exact h _ (by rw [hy]; exact idxL_get hk)

theorem minor_CL {n r c a b : Nat} {d : Nat → Dyadic} {ys : List Cell3} (h : CL a b d ys) (hy : ys.length = n * n) : CL a b (minorD n r c d) (minorL n r c ys) := by
 intro k hk
 rw [minorL_len] at hk
 rw [minorL_get hk]
 exact h _ (by rw [hy]; exact idxL_get hk)

def sgnD (k : Nat) (d : Dyadic) : Dyadic := if k % 2 = 1 then -d else d

def detD : Nat → (Nat → Dyadic) → Dyadic
 | 0, _ => 1
 | n + 1, d => psum (fun j => sgnD j (d j * detD n (minorD (n + 1) 0 j d))) (n + 1)

theorem detD_one (d : Nat → Dyadic) : detD 1 d = d 0 := by
 show (0 : Dyadic) + sgnD 0 (d 0 * 1) = d 0
 show (0 : Dyadic) + d 0 * 1 = d 0
 grind

theorem Mg.sgn {a b k : Nat} {d : Dyadic} (h : Mg a b d) : Mg a b (sgnD k d) := by
 unfold sgnD; split
 ·exact h.neg
 ·exact h

theorem Mg_one : Mg 0 1 1 := ⟨1, by show (1 : Dyadic) = mk 1 0; rfl, by decide⟩

theorem Mg.det {a b : Nat} : ∀ {n : Nat} {d : Nat → Dyadic}, n ≤ 4 → (∀ k, k < n * n → Mg a b (d k)) → Mg (n * a) (n * (b + 4) + 1) (detD n d)
 | 0, d, _, _ => by
  rw [Nat.zero_mul, Nat.zero_mul]; exact Mg_one
 | n + 1, d, h4, h => by
  have ht : ∀ j, j < n + 1 → Mg (a + n * a) (b + (n * (b + 4) + 1)) (sgnD j (d j * detD n (minorD (n + 1) 0 j d))) := by
   intro j hj
   refine Mg.sgn (Mg.mul (h j ?_) (Mg.det (by omega) fun k hk => ?_))
   ·exact Nat.lt_of_lt_of_le hj (Nat.le_mul_of_pos_right _ (by omega))
   ·refine h _ (idxL_get ?_)
    rw [idxL_len h4 (by omega) hj]; exact hk
  refine (Mg.psum (f := fun j => sgnD j (d j * detD n (minorD (n + 1) 0 j d))) (n := n + 1) ht (n + 1) (Nat.le_refl _)).mono ?_ ?_
  ·rw [Nat.add_mul, Nat.one_mul]; omega
  ·rw [Nat.add_mul n 1 (b + 4), Nat.one_mul]; omega

theorem cZ_neg (d : Dyadic) : cZ (-d) = -cZ d := by
 cases d <;> rfl

theorem cE_neg (d : Dyadic) : cE (-d) = cE d := by
 cases d <;> rfl

theorem canY_neg (d : Dyadic) : canY (-d) = (decide (0 < cZ d), dg (cZ d).natAbs, cE d) := by
 unfold canY
 rw [cZ_neg, cE_neg, Int.natAbs_neg]
 congr 1
 rw [decide_eq_decide]; omega

end Go.Pe

