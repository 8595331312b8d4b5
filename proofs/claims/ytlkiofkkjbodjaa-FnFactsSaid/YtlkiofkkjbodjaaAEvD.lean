/- Bodies and functions: the conditions of a body are its contract; numbers as lists of digits, dyadic numbers, arguments read by value: plain laws, no condition on the input. -/
import Derived.Test.YtlkiofkkjbodjaaAEvC
import Derived.KernelRfl
import Derived.Laws.BitsLemmas
import Derived.ReadAgain
import Derived.ChangeOld
import Derived.Below
import Derived.Deep.Slices
set_option linter.unusedSimpArgs false
set_option linter.unusedVariables false
/- The same conditions, with the types' table apart and the arithmetic veiled. -/
namespace Go.Pe
open Go Go.RowKit

structure TT where
 cells : TypeId → Nat
 und : TypeId → Option TypeDesc
 inf : TypeId → Option TypeInfo
 bytes : TypeId → Nat

def TT.of (P : Program) : TT := ⟨P.cellsOf, P.underlying, P.info?, P.bytesOf⟩

structure AR where
 ints : List Int → List PV
 len : List PV → Nat
 el : List PV → Nat → PV
 gi : PV → Nat → Int
 gb : PV → Nat → Bool
 gl : PV → Nat → List PV
 gc : PV → Nat → PV
 nat : Int → Nat
 cast : Nat → Int
 add : IntKind → Int → Int → Int
 sub : IntKind → Int → Int → Int
 mul : IntKind → Int → Int → Int
 quo : IntKind → Int → Int → Int
 rem : IntKind → Int → Int → Int
 shl : IntKind → Int → Int → Int
 shr : IntKind → Int → Int → Int
 band : IntKind → Int → Int → Int
 bor : IntKind → Int → Int → Int
 bxor : IntKind → Int → Int → Int
 conv : IntKind → Int → Int
 max : Int → Int → Int
 min : Int → Int → Int
 eq : Int → Int → Bool
 ne : Int → Int → Bool
 lt : Int → Int → Bool
 le : Int → Int → Bool
 beq : Bool → Bool → Bool
 bnot : Bool → Bool
 andb : Bool → Bool → Bool
 pick : Bool → Bool → Bool → Bool
 app : List PV → List PV → List PV
 set : List PV → Nat → PV → List PV
 rep : Int → PV → List PV
 sl : List PV → Int → Int → List PV
 lei : Int → Int → Prop
 lti : Int → Int → Prop
 ltn : Nat → Nat → Prop
 nez : Int → Prop
 okA : List PV → Nat → Prop
 allC : List PV → Nat → Prop
 cap : List PV → List PV → Prop
 len_le : Nat → PV → Prop
 len_eq : PV → Nat → Prop
 setc : PV → Nat → List PV → PV
 valc : PV → Nat → Nat → Prop
 vals : List PV → Prop
 cel : PV → Nat → PV → Prop
 isl : PV → Nat → Prop
 nil : PV → Nat → Prop
 non : PV → Nat → Prop
 lfA : List PV → Prop
 peq : Bool → Nat → Nat → PV → PV → Prop
 loop : Code → ((Ex → St → Prop) → St → Prop) → (Ex → St → Prop) → St → Prop
 call : Program → List (Nat × Obj) → St → FuncId → List FV → (FV → St → Prop) → Prop

def intsL (l : List Int) : List PV := l.map fun n => .val (.int .i64 n)

def AR.std : AR where
 ints := intsL
 len l := l.length
 el els k := els.getD k (.val (.bool false))
 gi := getI
 gb := getB
 gl := getL
 gc := cellAt
 nat n := n.toNat
 cast n := n
 add k a b := k.wrap (a + b)
 sub k a b := k.wrap (a - b)
 mul k a b := k.wrap (a * b)
 quo k a b := k.wrap (a.tdiv b)
 rem _ a b := a.tmod b
 shl k a b := k.wrap (a * 2 ^ (Min.min b.toNat k.bits))
 shr k a b := a.fdiv (2 ^ (Min.min b.toNat k.bits))
 band k a b := k.wrap (BitVec.ofInt k.bits a &&& BitVec.ofInt k.bits b).toNat
 bor k a b := k.wrap (BitVec.ofInt k.bits a ||| BitVec.ofInt k.bits b).toNat
 bxor k a b := k.wrap (BitVec.ofInt k.bits a ^^^ BitVec.ofInt k.bits b).toNat
 conv k n := k.wrap n
 max a b := if b > a then b else a
 min a b := if b < a then b else a
 eq a b := a == b
 ne a b := a != b
 lt a b := decide (a < b)
 le a b := decide (a ≤ b)
 beq a b := a == b
 bnot b := !b
 andb a b := a && b
 pick c x y := bif c then x else y
 app a b := a ++ b
 set els k p := els.set k p
 rep n z := List.replicate n.toNat z
 sl els l h := (els.take h.toNat).drop l.toNat
 lei a b := a ≤ b
 lti a b := a < b
 ltn a b := a < b
 nez b := b ≠ 0
 okA els s := ∀ p ∈ els, okEl s p
 allC els n := ∀ p ∈ els, p.cells.length = n
 cap els new := els.length + new.length ≤ 1000000000
 len_le n p := n ≤ p.cells.length
 len_eq p n := p.cells.length = n
 setc := setCells
 valc := valCells
 vals := valsL
 cel p j q := cellAt p j = q
 isl p j := ∃ l, cellAt p j = .lst l
 nil p j := cellAt p j = .lst []
 non p j := ∃ l, l ≠ [] ∧ cellAt p j = .lst l
 lfA l := ∀ p ∈ l, (p.cells.all leafy) = true
 peq ag off size p q := partP ag off size p.cells = q
 loop _ body Q st := ∃ (ls : List Lift) (keep : List Nat) (k : Nat) (ι : Type) (f : ι → St) (μ : ι → Nat) (i0 : ι) (rl : List (Nat × Nat)), st.liftsOk ls ∧ (st.lifts ls).norm keep k = some (f i0) ∧
   ∀ i, body (fun e s => match e with
    | .normal => ∃ j, (s.relocs rl).norm keep k = some (f j) ∧ μ j < μ i
    | e => Q e s) (f i)
 call := callVC

def isAggT' (T : TT) (t : TypeId) : Bool :=
 match T.und t with
 | some (.struct _) => true
 | some (.array _ _) => true
 | _ => false

def scal' (T : TT) (t : TypeId) : Bool := isAggT' T t || (T.cells t == 1 && (T.und t).isSome)

def fieldT' (T : TT) (s : TypeId) (f : Nat) : Option Nat :=
 match T.und s with
 | some (.struct fs) => match fs[f]? with
  | some fd => if T.cells fd.type = 0 then none else some fd.offset
  | none => none
 | _ => none

def elemT' (T : TT) (t : TypeId) : Option TypeId :=
 match T.und t with
 | some (.slice e) => if T.cells e = 0 then none else some e
 | _ => none

def isBoolT' (T : TT) (t : TypeId) : Bool :=
 match T.und t with
 | some .bool => true
 | _ => false

def intT' (T : TT) (t : TypeId) : Option IntKind :=
 match T.und t with
 | some (.int k) => some k
 | _ => none

def flat' (T : TT) : Nat → TypeId → List CK
 | 0, _ => []
 | n + 1, t => match T.und t with
  | some (.int k) => [.int k]
  | some .bool => [.bool]
  | some (.slice _) => [.sl]
  | some (.struct fs) => fs.toList.flatMap fun f => flat' T n f.type
  | _ => [.other]

def cmpV' (A : AR) (op : BinOp) (a b : Int) : Option Bool :=
 match op with
 | .eql => some (A.eq a b)
 | .neq => some (A.ne a b)
 | .lss => some (A.lt a b)
 | .leq => some (A.le a b)
 | .gtr => some (A.lt b a)
 | .geq => some (A.le b a)
 | _ => none

def bitV' (A : AR) (op : BinOp) (k : IntKind) (a b : Int) : Option Int :=
 match op with
 | .and => some (A.band k a b)
 | .or => some (A.bor k a b)
 | .xor => some (A.bxor k a b)
 | _ => none

def binV' (T : TT) (A : AR) (op : BinOp) (t : TypeId) (x y : FV) : Option (Prop × FV) :=
 match x, y with
 | .pv (.val (.int k a)), .pv (.val (.int k' b)) =>
  match op with
  | .shl => some (A.lei 0 b, .pv (.val (.int k (A.shl k a b))))
  | .shr => some (A.lei 0 b, .pv (.val (.int k (A.shr k a b))))
  | op => if k ≠ k' then none else
   match op with
   | .add => some (True, .pv (.val (.int k (A.add k a b))))
   | .sub => some (True, .pv (.val (.int k (A.sub k a b))))
   | .mul => some (True, .pv (.val (.int k (A.mul k a b))))
   | .quo => some (A.nez b, .pv (.val (.int k (A.quo k a b))))
   | .rem => some (A.nez b, .pv (.val (.int k (A.rem k a b))))
   | op => match cmpV' A op a b, bitV' A op k a b with
    | some c, _ => some (True, .pv (.val (.bool c)))
    | none, some n => some (True, .pv (.val (.int k n)))
    | none, none => none
 | .pv (.val (.bool a)), .pv (.val (.bool b)) =>
  if isBoolT' T t then
   match op with
   | .eql => some (True, .pv (.val (.bool (A.beq a b))))
   | .neq => some (True, .pv (.val (.bool (A.bnot (A.beq a b)))))
   | _ => none
  else none
 | _, _ => none

def lenV' (A : AR) (own : List Blk) : FV → Option Nat
 | .pv (.lst els) => some (A.len els)
 | .pv (.val (.slice none 0 0)) => some 0
 | .own i => match own[i]? with
  | some (.row _ _ els) => some (A.len els)
  | some (.tree _ _ _ els) => some (A.len els)
  | _ => none
 | _ => none

def mkC' (A : AR) (c : CK) (p : PV) (j : Nat) : PV :=
 match c with
 | .int k => .val (.int k (A.gi p j))
 | .bool => .val (.bool (A.gb p j))
 | .sl => .lst (A.gl p j)
 | .other => A.gc p j

def mkCs' (A : AR) (p : PV) : List CK → Nat → List PV
 | [], _ => []
 | c :: r, j => mkC' A c p j :: mkCs' A p r (j + 1)

def partX' (A : AR) (ag : Bool) (cks : List CK) (off : Nat) (p : PV) : PV :=
 if ag then .agg (mkCs' A p cks off) else mkC' A (cks.headD .other) p off

def buildF' (T : TT) (t : TypeId) (ev : Operand → FV) : List (Nat × Operand) → List FV → Option (List FV)
 | [], cs => some cs
 | (i, x) :: r, cs => match T.und t with
  | some (.struct fs) => match fs[i]?, fcells (ev x) with
   | some fd, some new => if new.length = T.cells fd.type ∧ fd.offset + new.length ≤ cs.length then buildF' T t ev r (setSeg cs fd.offset new) else none
   | _, _ => none
  | _ => none

def zeroF' (T : TT) (t : TypeId) : Option (List FV) :=
 match T.inf t with
 | some i => match i.zero with
  | some z => if z.cells.toList.all free then some (z.cells.toList.map fun v => .pv (.val v)) else none
  | none => none
 | none => none

def hasZero' (T : TT) (t : TypeId) : Bool :=
 match T.inf t with
 | some i => match i.zero with
  | some z => z.cells.size == i.size
  | none => false
 | none => false

def pop' (T : TT) (A : AR) (own : List Blk) (ev : Operand → FV) : Op → Option (Prop × FV)
 | .move x => some (True, ev x)
 | .assign x => some (True, ev x)
 | .load t x => match ev x with
  | .box i off => match own[i]? with
   | some (.box cs) => some (off + T.cells t ≤ cs.length  ∧ scal' T t = true, partF (isAggT' T t) off (T.cells t) cs)
   | _ => none
  | .relt i s k off => match own[i]? with
   | some (.row _ s' els) => if s' = s then some (A.ltn k (A.len els) ∧ off + T.cells t ≤ s ∧ scal' T t = true ∧ A.peq (isAggT' T t) off (T.cells t) (A.el els k) (partX' A (isAggT' T t) (flat' T 6 t) off (A.el els k)),
    .pv (partX' A (isAggT' T t) (flat' T 6 t) off (A.el els k))) else none
   | _ => none
  | .pv (.ptr cs off) => some (off + T.cells t ≤ cs.length  ∧ scal' T t = true, .pv (partP (isAggT' T t) off (T.cells t) cs))
  | .pv (.elt els k off) => some (A.ltn k (A.len els) ∧ A.len_le (off + T.cells t) (A.el els k) ∧ scal' T t = true ∧ A.peq (isAggT' T t) off (T.cells t) (A.el els k) (partX' A (isAggT' T t) (flat' T 6 t) off (A.el els k)),
    .pv (partX' A (isAggT' T t) (flat' T 6 t) off (A.el els k)))
  | _ => none
 | .fieldAddr s x f => match fieldT' T s f, ev x with
  | some o, .box i off => some (True, .box i (off + o))
  | some o, .relt i s k off => some (True, .relt i s k (off + o))
  | some o, .pv (.ptr cs off) => some (True, .pv (.ptr cs (off + o)))
  | some o, .pv (.elt els k off) => some (True, .pv (.elt els k (off + o)))
  | _, _ => none
 | .indexAddr t x i => match elemT' T t, ev i with
  | some e, .pv (.val (.int _ n)) => match ev x with
   | .pv (.lst els) => some (A.lei 0 n ∧ A.lti n (A.cast (A.len els)) ∧ A.len_eq (A.el els (A.nat n)) (T.cells e), .pv (.elt els (A.nat n) 0))
   | .own j => match own[j]? with
    | some (.row _ s els) => if s = T.cells e then some (A.lei 0 n ∧ A.lti n (A.cast (A.len els)), .relt j s (A.nat n) 0) else none
    | some (.tree _ s _ els) => if s = T.cells e then some (A.lei 0 n ∧ A.lti n (A.cast (A.len els)), .relt j s (A.nat n) 0) else none
    | _ => none
   | _ => none
  | _, _ => none
 | .binOp op t x y _ => binV' T A op t (ev x) (ev y)
 | .unOp .not _ x => match ev x with
  | .pv (.val (.bool b)) => some (True, .pv (.val (.bool (A.bnot b))))
  | _ => none
 | .unOp .neg _ x => match ev x with
  | .pv (.val (.int k n)) => some (True, .pv (.val (.int k (A.sub k 0 n))))
  | _ => none
 | .convert s d x => match ev x, intT' T s, intT' T d with
  | .pv (.val (.int _ n)), some _, some k => some (True, .pv (.val (.int k (A.conv k n))))
  | _, _, _ => none
 | .extract x i => match ev x with
  | .pv (.tup vs) => some (i < vs.length, .pv (vs.getD i (.val (.bool false))))
  | .tup vs => some (i < vs.length, vs.getD i .junk)
  | _ => none
 | .build t parts => match T.und t, zeroF' T t with
  | some (.struct fs), some z => if fs.toList.all (fun f => (T.inf f.type).isSome) then
    match buildF' T t ev parts.toList z with
    | some cs => some (True, .agg cs)
    | none => none
   else none
  | _, _ => none
 | .makeFunc (.func f) first caps => if first.size = 0 then some (True, .fn f (caps.toList.map ev)) else none
 | .call { callee := .builtin .len, args, argTypes } => match args.toList, argTypes.toList with
  | [x], [t] => match elemT' T t, lenV' A own (ev x) with
   | some _, some n => some (True, .pv (.val (.int .i64 (A.cast n))))
   | _, _ => none
  | _, _ => none
 | .call { callee := .builtin .max, args, .. } => match args.toList with
  | [x, y] => match ev x, ev y with
   | .pv (.val (.int k a)), .pv (.val (.int _ b)) => some (True, .pv (.val (.int k (A.max a b))))
   | _, _ => none
  | _ => none
 | .call { callee := .builtin .min, args, .. } => match args.toList with
  | [x, y] => match ev x, ev y with
   | .pv (.val (.int k a)), .pv (.val (.int _ b)) => some (True, .pv (.val (.int k (A.min a b))))
   | _, _ => none
  | _ => none
 | .nilCheck x => match ev x with
  | .box i off => some (True, .box i off)
  | .pv (.ptr cs off) => some (True, .pv (.ptr cs off))
  | _ => none
 | .slice t x lo hi none => match elemT' T t, ev x with
  | some e, .pv (.lst els) =>
   match (match lo with | none => some 0 | some o => match ev o with | .pv (.val (.int _ n)) => some n | _ => none),
      (match hi with | none => some (A.cast (A.len els)) | some o => match ev o with | .pv (.val (.int _ n)) => some n | _ => none) with
   | some l, some h => some (A.lei 0 l ∧ A.lei l h ∧ A.lei h (A.cast (A.len els)) ∧ A.allC els (T.cells e), .pv (.lst (A.sl els l h)))
   | _, _ => none
  | _, _ => none
 | _ => none

def pickV' (A : AR) (c : Bool) (a b : FV) : Option FV :=
 match a, b with
 | .pv (.val (.bool x)), .pv (.val (.bool y)) => some (.pv (.val (.bool (A.pick c x y))))
 | _, _ => none

def zeroP' (T : TT) (t : TypeId) : Option PV :=
 match T.inf t with
 | some i => match i.zero with
  | some (.agg cs) => if cs.toList.all (fun v => free v) then some (.agg (cs.toList.map fun v => normP (.val v))) else none
  | some v => if free v then some (normP (.val v)) else none
  | none => none
 | none => none

def qop' (P : Program) (T : TT) (A : AR) (gl : List (Nat × Obj)) (st : St) (g : Option Bool) (o : Oper) (K : FV → Prop) : Prop :=
 match o.op with
 | .pick c a b => match st.ev c with
  | .pv (.val (.bool t)) => match pickV' A t (strip (st.ev a)) (strip (st.ev b)) with
   | some x => imp g (t = true → condOk none (st.ev a)) ∧ imp g (t = false → condOk none (st.ev b)) ∧ K x
   | none => False
  | .iff c (.pv (.val (.bool t))) => match pickV' A t (strip (st.ev a)) (strip (st.ev b)) with
   | some x => imp g (c = true) ∧ imp g (t = true → condOk none (st.ev a)) ∧ imp g (t = false → condOk none (st.ev b)) ∧ K x
   | none => False
  | _ => False
 | .call { callee := .value f, args, .. } => condsOk g st (f :: args.toList) ∧
  match asFn (strip (st.ev f)) with
  | some (fid, caps) => match snapL [] [] ((args.toList.map fun x => strip (st.ev x)) ++ caps) with
   | some as => ∃ r, imp g (FS P gl fid as (fun r' => r' = r)) ∧ K (.pv r)
   | none => match snapL st.own (idsL st.own ((args.toList.map fun x => strip (st.ev x)) ++ caps)) ((args.toList.map fun x => strip (st.ev x)) ++ caps) with
    | some as => ∃ r, imp g (FS P gl fid as (fun r' => r' = r)) ∧ (∃ x, flatO r = some x) ∧ K (.pv r)
    | none => False
  | none => False
 | .buildSlice t n parts => condsOk g st (parts.toList.map (·.2)) ∧
  match elemT' T t, snapL [] [] (parts.toList.map fun x => strip (st.ev x.2)) with
  | some e, some els => if inOrder 0 parts.toList && n == parts.size && n * T.cells e < 65536 && hasZero' T e then (A.okA els (T.cells e)) ∧ K (.xl els) else False
  | _, _ => False
 | .makeSlice t l c => condsOk g st [l, c] ∧ match elemT' T t with
  | some e => match zeroP' T e, strip (st.ev l), strip (st.ev c) with
   | some z, .pv (.val (.int _ n)), .pv (.val (.int _ n')) =>
    if T.bytes e ≤ 1000 ∧ z.cells.length = T.cells e then
     imp g (A.lei 0 n ∧ n' = n ∧ A.lei n 1000000000) ∧ K (.xl (A.rep n z))
    else False
   | _, _, _ => False
  | none => False
 | .call { callee := .builtin .append, args, argTypes } => match two args.toList, two argTypes.toList with
  | some (s, x), some (t, t') => condsOk g st [s, x] ∧ match elemT' T t with
   | some e => match st.ev s, srcEls st.own (strip (st.ev x)) with
    | .xl els, some new => if t' = t ∧ T.bytes e ≤ 1000 ∧ hasZero' T e = true then
      imp g ((A.okA els (T.cells e)) ∧ (A.okA new (T.cells e)) ∧ A.cap els new) ∧ K (.pv (.lst (A.app els new)))
     else False
    | _, _ => False
   | none => False
  | _, _ => False
 | op => condsOk g st op.operands.toList ∧ popK g K (pop' T A st.own (fun x => strip (st.ev x)) op)

def gcond' (A : AR) (ops : List Oper) (st : St) (j : Nat) (want : Bool) : Option Bool :=
 match (ops[j]?).bind (·.dst) with
 | some t => match st.get t with
  | .pv (.val (.bool b)) => some (A.beq b want)
  | .iff c (.pv (.val (.bool b))) => some (A.andb c (A.beq b want))
  | _ => none
 | none => none

def valsAll' (A : AR) : List (Nat × List PV) → Prop
 | [] => True
 | x :: r => A.vals x.2 ∧ valsAll' A r

def storeTVC' (T : TT) (A : AR) (st : St) (t : TypeId) (i s k off : Nat) (e : TypeId) (s' : Nat) (et : TypeId) (els : List PV) (new : List FV) (K : St → Prop) : Prop :=
 if s' = s then
  A.ltn k (A.len els) ∧ new.length = T.cells t ∧ T.cells t ≠ 0 ∧
  if T.cells t = s ∧ off = 0 then
   match leafsF st.own et new with
   | some (ps, jl) => if nodupB (jl.map (·.1)) && !(jl.map (·.1)).contains i && st.noSub i && decide (st.k0 ≤ i) then
     valsAll' A jl ∧ K (st.give i (.tree e s et (A.set els k (.agg ps))) (jl.map (·.1)))
    else False
   | none => False
  else match snapL [] [] new with
   | some pn => if decide (off + pn.length ≤ s) && pn.all leafy then
     A.valc (A.el els k) off pn.length ∧ K (st.setOwn i (.tree e s et (A.set els k (A.setc (A.el els k) off pn))))
    else False
   | none => False
 else False

def loadTVC' (T : TT) (A : AR) (t : TypeId) (i s k off s' : Nat) (els : List PV) (K : FV → Prop) : Prop :=
 if s' = s ∧ off < s ∧ scal' T t = true ∧ isAggT' T t = false then
  A.ltn k (A.len els) ∧ match flat' T 6 t with
   | [.int q] => A.cel (A.el els k) off (.val (.int q (A.gi (A.el els k) off))) ∧ K (.pv (.val (.int q (A.gi (A.el els k) off))))
   | [.bool] => A.cel (A.el els k) off (.val (.bool (A.gb (A.el els k) off))) ∧ K (.pv (.val (.bool (A.gb (A.el els k) off))))
   | [.sl] => A.isl (A.el els k) off ∧ (A.nil (A.el els k) off → K (.pv (.lst []))) ∧
     (A.non (A.el els k) off → K (.sub i s k off))
   | _ => False
 else False

def buildTVC' (T : TT) (A : AR) (st : St) (e : TypeId) (n : Nat) (parts : List (Nat × Operand)) (K : St → Prop) : Prop :=
 match parts with
 | [(0, x)] => match fcells (strip (st.ev x)) with
  | some cs => match etOf st.own cs with
   | some et => match leafsF st.own et cs with
    | some (ps, jl) => if n == 1 && cs.length == T.cells e && decide (T.cells e < 65536) && hasZero' T e && nodupB (jl.map (·.1)) then
      valsAll' A jl ∧ K (st.newTree e (T.cells e) et (.agg ps) (jl.map (·.1)))
     else False
    | none => False
   | none => False
  | none => False
 | _ => False

def appendTVC' (T : TT) (A : AR) (st : St) (e : TypeId) (i : Nat) (e' : TypeId) (s' : Nat) (et : TypeId) (els : List PV) (x : FV) (K : FV → St → Prop) : Prop :=
 if e' = e ∧ s' = T.cells e ∧ st.k0 ≤ i ∧ T.bytes e ≤ 1000 ∧ hasZero' T e = true then
  match treeAt st.own x with
  | some (i2, e2, s2, et2, new) => if i2 ≠ i ∧ e2 = e' ∧ s2 = s' ∧ et2 = et then
    A.cap els new ∧ K (.own i) ((st.drop i).give i (.tree e' s' et (A.app els new)) [i2])
   else False
  | none => match srcEls st.own x with
   | some new => A.okA new (T.cells e) ∧ A.lfA new ∧ A.cap els new ∧ K (.own i) ((st.drop i).give i (.tree e' s' et (A.app els new)) [])
   | none => False
 else False

def appendVC' (T : TT) (A : AR) (st : St) (e : TypeId) (s x : FV) (K : FV → St → Prop) : Prop :=
 match srcEls st.own x with
 | some new => (A.okA new (T.cells e)) ∧
  match s with
  | .own i => match st.own[i]? with
   | some (.row e' s' els) => if e' = e ∧ s' = T.cells e ∧ st.k0 ≤ i ∧ isOwn i x = false ∧ T.bytes e ≤ 1000 ∧ hasZero' T e = true then
     A.cap els new ∧ K (.own i) ((st.drop i).setOwn i (.row e s' (A.app els new)))
    else False
   | _ => False
  | .pv (.val (.slice none 0 0)) => if T.bytes e ≤ 1000 ∧ hasZero' T e = true then
    new.length ≤ 1000000000 ∧ K (.own st.own.length) (st.addOwn (.row e (T.cells e) new))
   else False
  | _ => False
 | none => False

def zerosVC' (T : TT) (A : AR) (st : St) (e t' : TypeId) (s x : FV) (K : FV → St → Prop) : Prop :=
 match T.und t' with
 | some (.int .i64) => match s, x with
  | .own i, .pv (.val (.int .i64 n)) => match st.own[i]?, zeroP' T e with
   | some (.row e' s' els), some z => if e' = e ∧ s' = T.cells e ∧ st.k0 ≤ i ∧ T.bytes e ≤ 1000 ∧ hasZero' T e = true ∧ z.cells.length = T.cells e then
     A.lei 0 n ∧ A.cap els (A.rep n z) ∧ K (.own i) ((st.drop i).setOwn i (.row e s' (A.app els (A.rep n z))))
    else False
   | _, _ => False
  | _, _ => False
 | _ => False

def cutOwn' (T : TT) (A : AR) (st : St) (t : TypeId) (i : Nat) (h : Int) (K : FV → St → Prop) : Prop :=
 match st.own[i]?, elemT' T t with
 | some (.row e s els), some e' => if e = e' then
   A.lei 0 h ∧ A.lei h (A.cast (A.len els)) ∧ if st.k0 ≤ i then K (.own i) ((st.drop i).setOwn i (.row e s (A.sl els 0 h)))
    else K (.own st.own.length) { st with own := st.own.set i .gone ++ [.row e s (A.sl els 0 h)] }
  else False
 | _, _ => False

def effVC' (P : Program) (T : TT) (A : AR) (gl : List (Nat × Obj)) (o : Oper) (st : St) (K : St → Prop) : Prop :=
 match o.op with
 | .alloc t => match zeroF' T t with
  | some cs => K ((st.addOwn (.box cs)).put o.dst (.box st.own.length 0))
  | none => False
 | .box _ x => condOk none (st.ev x) ∧ match fcells (strip (st.ev x)) with
  | some cs => K ((st.addOwn (.box cs)).put o.dst (.box st.own.length 0))
  | none => False
 | .store t p x => condOk none (st.ev p) ∧ condOk none (st.ev x) ∧ match strip (st.ev p), fcells (strip (st.ev x)) with
  | .box i off, some new => match st.own[i]? with
   | some (.box cs) => new.length = T.cells t ∧ T.cells t ≠ 0 ∧ off + new.length ≤ cs.length ∧ K ((st.setOwn i (.box (setSeg cs off new))).put o.dst .junk)
   | _ => False
  | .relt i s k off, some new => match st.own[i]? with
   | some (.row e s' els) => if s' = s then
     A.ltn k (A.len els) ∧ new.length = T.cells t ∧ T.cells t ≠ 0 ∧
     if T.cells t = s ∧ off = 0 then
      match snapD [] [] 8 (strip (st.ev x)) with
      | some p => okEl s p ∧ K ((st.setOwn i (.row e s (A.set els k p))).put o.dst .junk)
      | none => False
     else match snapL [] [] new with
      | some pn => match setEl (A.el els k) off pn with
       | some p => K ((st.setOwn i (.row e s (A.set els k p))).put o.dst .junk)
       | none => False
      | none => False
    else False
   | some (.tree e s' et els) => storeTVC' T A st t i s k off e s' et els new (fun st' => K (st'.put o.dst .junk))
   | _ => False
  | _, _ => False
 | .load t x => match strip (st.ev x) with
  | .relt i s k off => match st.own[i]? with
   | some (.tree _ s' _ els) => condOk none (st.ev x) ∧ loadTVC' T A t i s k off s' els (fun v => K (st.put o.dst v))
   | _ => qop' P T A gl st none o (fun x => K (st.put o.dst x))
  | _ => qop' P T A gl st none o (fun x => K (st.put o.dst x))
 | .binOp .eql t x (.const (.slice none 0 0)) _ => condOk none (st.ev x) ∧ match elemT' T t, strip (st.ev x) with
  | some _, .pv (.lst els) => ∀ b : Bool, (b = true → els = []) → K (st.put o.dst (.pv (.val (.bool b))))
  | _, _ => False
 | .makeSlice t l c => condOk none (st.ev l) ∧ condOk none (st.ev c) ∧ match elemT' T t with
  | some e => match zeroP' T e, strip (st.ev l), strip (st.ev c) with
   | some z, .pv (.val (.int _ n)), .pv (.val (.int _ n')) =>
    if T.bytes e ≤ 1000 ∧ z.cells.length = T.cells e then
     A.lei 0 n ∧ A.lei n n' ∧ A.lei n' 1000000000 ∧ K ((st.addOwn (.row e (T.cells e) (A.rep n z))).put o.dst (.own st.own.length))
    else False
   | _, _, _ => False
  | none => False
 | .buildSlice t n parts => condsOk none st (parts.toList.map (·.2)) ∧
  match elemT' T t, snapL [] [] (parts.toList.map fun x => strip (st.ev x.2)) with
  | some e, some els => if inOrder 0 parts.toList && n == parts.size && n * T.cells e < 65536 && hasZero' T e then
    (A.okA els (T.cells e)) ∧ K ((st.addOwn (.row e (T.cells e) els)).put o.dst (.own st.own.length)) else False
  | some e, none => buildTVC' T A st e n parts.toList (fun st' => K (st'.put o.dst (.own st.own.length)))
  | _, _ => False
 | .call { callee := .builtin .append, args, argTypes } => match two args.toList, two argTypes.toList with
  | some (s, x), some (t, t') => match isXl (st.ev s) with
   | true => qop' P T A gl st none o (fun x => K (st.put o.dst x))
   | false => condOk none (st.ev s) ∧ condOk none (st.ev x) ∧ match elemT' T t with
    | some e => match treeAt st.own (strip (st.ev s)) with
     | some (i, e', s', et, els) => if t' = t then appendTVC' T A st e i e' s' et els (strip (st.ev x)) (fun v st' => K (st'.put o.dst v)) else False
     | none => if t' = t then appendVC' T A st e (strip (st.ev s)) (strip (st.ev x)) (fun v st' => K (st'.put o.dst v)) else zerosVC' T A st e t' (strip (st.ev s)) (strip (st.ev x)) (fun v st' => K (st'.put o.dst v))
    | none => False
  | _, _ => False
 | .slice t x none (some q) none => match strip (st.ev x), strip (st.ev q) with
  | .own i, .pv (.val (.int _ h)) => condOk none (st.ev x) ∧ condOk none (st.ev q) ∧ cutOwn' T A st t i h (fun v st' => K (st'.put o.dst v))
  | _, _ => qop' P T A gl st none o (fun x => K (st.put o.dst x))
 | .call { callee := .value f, args, .. } => condsOk none st (f :: args.toList) ∧
  match asFn (strip (st.ev f)) with
  | some (fid, caps) => A.call P gl st fid ((args.toList.map fun x => strip (st.ev x)) ++ caps) (fun v st' => K (st'.put o.dst v))
  | none => False
 | _ => qop' P T A gl st none o (fun x => K (st.put o.dst x))

def quietVC1' (P : Program) (T : TT) (A : AR) (gl : List (Nat × Obj)) (ops : List Oper) (o : Oper) (st : St) (K : FV → Prop) : Prop :=
 match o.guard with
 | none => qop' P T A gl st none o K
 | some (j, want) => match gcond' A ops st j want with
  | some g => qop' P T A gl st (some g) o (fun x => K (.iff g x))
  | none => False

def stepVC' (P : Program) (T : TT) (A : AR) (gl : List (Nat × Obj)) (ops : List Oper) (o : Oper) (st : St) (K : St → Prop) : Prop :=
 match o.guard with
 | none => effVC' P T A gl o st K
 | some (j, want) => match gcond' A ops st j want with
  | some g => qop' P T A gl st (some g) o (fun x => K (st.put o.dst (.iff g x)))
  | none => False

def seqVC' (P : Program) (T : TT) (A : AR) (gl : List (Nat × Obj)) (ops : List Oper) : List Oper → St → (St → Prop) → Prop
 | [], st, K => K st
 | o :: r, st, K => stepVC' P T A gl ops o st (fun st' => seqVC' P T A gl ops r st' K)

def allocOf' (P : Program) (T : TT) (A : AR) (o : Oper) : Option (List FV) :=
 match o.guard, o.op with
 | none, .alloc t => zeroF' T t
 | _, _ => none

def fillsOf' (P : Program) (T : TT) (A : AR) : Nat → Nat → List Oper → List (Nat × Nat × List FV)
 | _, _, [] => []
 | i, c, o :: r => match allocOf' P T A o with
  | some cs => (i, c, cs) :: fillsOf' P T A (i + 1) (c + 1) r
  | none => fillsOf' P T A (i + 1) c r

def quietVC' (P : Program) (T : TT) (A : AR) (gl : List (Nat × Obj)) (ops : List Oper) : Nat → List Oper → St → (St → Prop) → Prop
 | _, [], st, K => K st
 | c, o :: r, st, K => match allocOf' P T A o with
  | some _ => quietVC' P T A gl ops (c + 1) r (st.put o.dst (.box c 0)) K
  | none => quietVC1' P T A gl ops o st (fun x => quietVC' P T A gl ops c r (st.put o.dst x) K)

def recheck1' (P : Program) (T : TT) (A : AR) (ops : List Oper) (st : St) (j : Nat) : Prop :=
 condsOk none st (ops.getD j default).op.operands.toList ∧
 match pop' T A st.own (fun x => strip (st.ev x)) (ops.getD j default).op with
 | some (ob, x) => ob ∧ match (ops.getD j default).dst with
  | some t => st.get t = x
  | none => True
 | none => False

def recheck' (P : Program) (T : TT) (A : AR) (ops : List Oper) (st : St) : List Nat → Prop
 | [] => True
 | j :: r => recheck1' P T A ops st j ∧ recheck' P T A ops st r

def seqL' (P : Program) (T : TT) (A : AR) (gl : List (Nat × Obj)) (ops : List Oper) (an : List (List Nat)) (lt : List Nat) : Nat → List Oper → St → (St → Prop) → Prop
 | _, [], st, K => K st
 | k, o :: r, st, K => stepVC' P T A gl ops o st (fun st' => recheck' P T A ops st' (lt.filter fun j => !(an.getD k []).contains j) ∧ seqL' P T A gl ops an lt (k + 1) r st' K)

def lateVC' (P : Program) (T : TT) (A : AR) (gl : List (Nat × Obj)) (ops : List Oper) (an : List (List Nat)) (p : Nat) (st : St) (K : St → Prop) : Prop :=
 if quietOkL ops an p then
  quietVC' P T A gl ops st.own.length (ops.take p) (st.gones (fillsOf' P T A 0 st.own.length (ops.take p)).length)
   (fun st' => recheck' P T A ops (st'.over (fun _ => true) (fillsOf' P T A 0 st.own.length (ops.take p))) (lateSet ops an p) ∧
    seqL' P T A gl ops an (lateSet ops an p) p (ops.drop p) (st'.over (fun _ => true) (fillsOf' P T A 0 st.own.length (ops.take p))) K)
 else False

def regionVC' (P : Program) (T : TT) (A : AR) (gl : List (Nat × Obj)) (ops : List Oper) (draw : Bool) (st : St) (K : St → Prop) : Prop :=
 if draw then
  match (ops.take (splitFrom (ancs [] ops) ops.length)).all (fun o => !isStore o) with
  | true =>
   if quietOk ops (ancs [] ops) (splitFrom (ancs [] ops) ops.length) then
    quietVC' P T A gl ops st.own.length (ops.take (splitFrom (ancs [] ops) ops.length)) (st.gones (fillsOf' P T A 0 st.own.length (ops.take (splitFrom (ancs [] ops) ops.length))).length)
     (fun st' => seqVC' P T A gl ops (ops.drop (splitFrom (ancs [] ops) ops.length)) (st'.over (fun _ => true) (fillsOf' P T A 0 st.own.length (ops.take (splitFrom (ancs [] ops) ops.length)))) K)
   else False
  | false => lateVC' P T A gl ops (ancs [] ops) (firstP ops (ancs [] ops)) st K
 else seqVC' P T A gl ops ops st K

def cutVC' (P : Program) (T : TT) (A : AR) (gl : List (Nat × Obj)) : Nat → List Oper → St → (St → Prop) → Prop
 | 0, ops, st, K => regionVC' P T A gl ops true st K
 | n + 1, ops, st, K => match cutAt ops with
  | some c => regionVC' P T A gl (ops.take c) true st (fun st' => cutVC' P T A gl n ((ops.drop c).map (shiftO c)) st' K)
  | none => regionVC' P T A gl ops true st K

def codeVC' (P : Program) (T : TT) (A : AR) (gl : List (Nat × Obj)) (b : Md) : Code → (Ex → St → Prop) → St → Prop
 | .skip, Q, st => Q .normal st
 | .region _ ops draw, Q, st => match draw with
  | true => match b with
   | .any => regionVC' P T A gl ops.toList true st (Q .normal)
   | .cut => cutVC' P T A gl ops.toList.length ops.toList st (Q .normal)
   | .ret => regionVC' P T A gl ops.toList true (st.retire (movedRows st ops.toList)) (Q .normal)
   | .rc => cutVC' P T A gl ops.toList.length ops.toList (st.retire (loadedRows st ops.toList)) (Q .normal)
  | false => regionVC' P T A gl ops.toList false st (Q .normal)
 | .seq x y, Q, st => codeVC' P T A gl b x (fun e s => match e with
  | .normal => codeVC' P T A gl b y Q s
  | e => Q e s) st
 | .cond c x y, Q, st => match st.ev c with
  | .pv (.val (.bool t)) => (t = true → codeVC' P T A gl b x Q st) ∧ (t = false → codeVC' P T A gl b y Q st)
  | _ => False
 | .block id c, Q, st => codeVC' P T A gl b c (fun e s => match e with
  | .exit i => if i = id then Q .normal s else Q (.exit i) s
  | e => Q e s) st
 | .loop c, Q, st => A.loop c (fun Q' st' => codeVC' P T A gl b c Q' st') Q st
 | .exit id, Q, st => Q (.exit id) st
 | .ret, Q, st => Q .ret st
 | .label _, Q, st => Q .normal st
 | _, _, _ => False

def retOne' (T : TT) (A : AR) (st : St) : ResultVar → Option (Prop × FV)
 | .tmp t => some (condOk none (st.get t), strip (st.get t))
 | .cell a t => pop' T A st.own st.ev (.load t (.tmp a))

def retAll' (T : TT) (A : AR) (st : St) : List ResultVar → Option (Prop × List FV)
 | [] => some (True, [])
 | r :: rs => match retOne' T A st r, retAll' T A st rs with
  | some (o1, x), some (o2, xs) => some (o1 ∧ o2, x :: xs)
  | _, _ => none

def endS' (T : TT) (A : AR) (fn : Func) (R : PV → Prop) (e : Ex) (st : St) : Prop :=
 match e with
 | .exit _ => False
 | _ => match retAll' T A st fn.results.toList with
  | some (o, xs) => o ∧ match snapD st.own (List.range st.own.length) 8 (oneOrTup xs) with
   | some p => R p
   | none => False
  | none => False

def endX' (T : TT) (A : AR) (fn : Func) (k0 : Nat) (R : List Blk → FV → Prop) (e : Ex) (st : St) : Prop :=
 match e with
 | .exit _ => False
 | _ => match retAll' T A st fn.results.toList with
  | some (o, xs) => o ∧ st.k0 = k0 ∧ ∃ (es : List Nat) (bs : List Blk) (x : FV), es.Nodup ∧ k0 ≤ es.length ∧ es.take k0 = List.range k0 ∧ mapO (fun i => st.own[i]?) es = some bs ∧ (bs.all plainB) = true ∧ renT es (oneOrTup xs) = some x ∧ R bs x
  | none => False

theorem codeVC_eq (P : Program) : codeVC' P (TT.of P) AR.std = codeVC P := by kernel_rfl
theorem endS_eq (P : Program) : endS' (TT.of P) AR.std = endS P := by kernel_rfl
theorem endX_eq (P : Program) : endX' (TT.of P) AR.std = endX P := by kernel_rfl

end Go.Pe

/- Functions, with the types' table apart and the arithmetic veiled; lists of numbers. -/
namespace Go.Pe
open Go Go.RowKit

abbrev I (n : Int) : PV := .val (.int .i64 n)
abbrev B (b : Bool) : PV := .val (.bool b)

def endR (T : TT) (A : AR) (rs : List ResultVar) (R : PV → Prop) (e : Ex) (st : St) : Prop :=
 match e with
 | .exit _ => False
 | _ => match retAll' T A st rs with
  | some (o, xs) => o ∧ match snapD st.own (List.range st.own.length) 8 (oneOrTup xs) with
   | some p => R p
   | none => False
  | none => False

theorem endR_eq (T : TT) (A : AR) (fn : Func) (R : PV → Prop) : endS' T A fn R = endR T A fn.results.toList R := by kernel_rfl

def endXR (T : TT) (A : AR) (rs : List ResultVar) (k0 : Nat) (R : List Blk → FV → Prop) (e : Ex) (st : St) : Prop :=
 match e with
 | .exit _ => False
 | _ => match retAll' T A st rs with
  | some (o, xs) => o ∧ st.k0 = k0 ∧ ∃ (es : List Nat) (bs : List Blk) (x : FV), es.Nodup ∧ k0 ≤ es.length ∧ es.take k0 = List.range k0 ∧ mapO (fun i => st.own[i]?) es = some bs ∧ (bs.all plainB) = true ∧ renT es (oneOrTup xs) = some x ∧ R bs x
  | none => False

theorem endXR_eq (T : TT) (A : AR) (fn : Func) (k0 : Nat) (R : List Blk → FV → Prop) : endX' T A fn k0 R = endXR T A fn.results.toList k0 R := by kernel_rfl

def vcS (P : Program) (T : TT) (gl : List (Nat × Obj)) (b : Md) (c : Code) (rs : List ResultVar) (nt : Nat) (args : AR → List PV) (R : AR → PV → Prop) : Prop :=
 ∀ A, A = AR.std → codeVC' P T A gl b c (endR T A rs (R A)) ⟨startSlots 0 ((args A).map .pv), [], nt, 0⟩

theorem FS_ofB {b : Md} {P : Program} {gl : List (Nat × Obj)} {f : FuncId} {fn : Func} {c : Code} {args : AR → List PV} {R : AR → PV → Prop} {T : TT} (hT : T = TT.of P) (mix : P.follows .mixedOrders = true)
  (hf : P.funcs[f]? = some fn) (hb : fn.body = some c) (hname : (fn.name == "runtime.NumGoroutine") = false) (hn : (args AR.std).length ≤ fn.ntmps)
  (hv : vcS P T gl b c fn.results.toList fn.ntmps args R) : FS P gl f (args AR.std) (R AR.std) := by
 refine FS_of (b := b) mix hf hb hname hn ?_
 have := hv AR.std rfl
 rw [hT, codeVC_eq, ← endR_eq, endS_eq] at this
 exact this

def vcX (P : Program) (T : TT) (gl : List (Nat × Obj)) (b : Md) (c : Code) (rs : List ResultVar) (nt : Nat) (own : AR → List Blk) (args : AR → List FV) (R : AR → List Blk → FV → Prop) : Prop :=
 ∀ A, A = AR.std → codeVC' P T A gl b c (endXR T A rs (own A).length (R A)) ⟨startSlots 0 (args A), own A, nt, (own A).length⟩

theorem FX_ofB {b : Md} {P : Program} {gl : List (Nat × Obj)} {f : FuncId} {fn : Func} {c : Code} {own : AR → List Blk} {args : AR → List FV} {R : AR → List Blk → FV → Prop} {T : TT} (hT : T = TT.of P) (mix : P.follows .mixedOrders = true)
  (hf : P.funcs[f]? = some fn) (hb : fn.body = some c) (hname : (fn.name == "runtime.NumGoroutine") = false) (hn : (args AR.std).length ≤ fn.ntmps)
  (hv : vcX P T gl b c fn.results.toList fn.ntmps own args R) : FX P gl f (own AR.std) (args AR.std) (R AR.std) := by
 refine FX_of (b := b) mix hf hb hname hn ?_
 have := hv AR.std rfl
 rw [hT, codeVC_eq, ← endXR_eq, endX_eq] at this
 exact this

theorem FS_ofT {P : Program} {gl : List (Nat × Obj)} {f : FuncId} {fn : Func} {c : Code} {args : AR → List PV} {R : AR → PV → Prop} {T : TT} (hT : T = TT.of P) (mix : P.follows .mixedOrders = true)
  (hf : P.funcs[f]? = some fn) (hb : fn.body = some c) (hname : (fn.name == "runtime.NumGoroutine") = false) (hn : (args AR.std).length ≤ fn.ntmps)
  (hv : vcS P T gl .any c fn.results.toList fn.ntmps args R) : FS P gl f (args AR.std) (R AR.std) := FS_ofB hT mix hf hb hname hn hv

theorem FX_ofT {P : Program} {gl : List (Nat × Obj)} {f : FuncId} {fn : Func} {c : Code} {own : AR → List Blk} {args : AR → List FV} {R : AR → List Blk → FV → Prop} {T : TT} (hT : T = TT.of P) (mix : P.follows .mixedOrders = true)
  (hf : P.funcs[f]? = some fn) (hb : fn.body = some c) (hname : (fn.name == "runtime.NumGoroutine") = false) (hn : (args AR.std).length ≤ fn.ntmps)
  (hv : vcX P T gl .any c fn.results.toList fn.ntmps own args R) : FX P gl f (own AR.std) (args AR.std) (R AR.std) := FX_ofB hT mix hf hb hname hn hv

theorem FS.mono {P : Program} {gl : List (Nat × Obj)} {f : FuncId} {args : List PV} {R R' : PV → Prop} (h : FS P gl f args R) (hR : ∀ r, R r → R' r) : FS P gl f args R' := by
 refine ⟨h.1, fun w S vs hgl hS hargs => ?_⟩
 intro cs
 obtain ⟨e, w', fr, ⟨v, r, he, hr, hb, hrep⟩, h2⟩ := h.2 w S vs hgl hS hargs cs
 exact ⟨e, w', fr, ⟨v, r, he, hR r hr, hb, hrep⟩, h2⟩

abbrev D0 : PV := .val (.bool false)

theorem wrapi {n : Int} (h0 : -9223372036854775808 ≤ n) (h1 : n ≤ 9223372036854775807) : IntKind.i64.wrap n = n := by rw [IntKind.wrap_i64]; omega

theorem ints_len (l : List Int) : (intsL l).length = l.length := by simp [intsL]
theorem ints_get (l : List Int) (k : Nat) (h : k < l.length) : (intsL l).getD k D0 = I (l.getD k 0) := by
 simp [intsL, List.getD, List.getElem?_eq_getElem h]
theorem ints_getI (l : List Int) (k : Nat) : getI ((intsL l).getD k D0) 0 = l.getD k 0 := by
 by_cases h : k < l.length
 ·rw [ints_get l k h]; rfl
 ·rw [List.getD, List.getD, List.getElem?_eq_none (by rw [ints_len]; omega), List.getElem?_eq_none (by omega)]; rfl
theorem ints_clen (l : List Int) (k : Nat) : ((intsL l).getD k D0).cells.length = 1 := by
 by_cases h : k < l.length
 ·rw [ints_get l k h]; rfl
 ·rw [List.getD, List.getElem?_eq_none (by rw [ints_len]; omega)]; rfl
theorem ints_part (l : List Int) (k : Nat) (z : Int) (h : k < l.length) (hz : l.getD k 0 = z) : partP false 0 1 ((intsL l).getD k D0).cells = I z := by
 rw [ints_get l k h, hz]; rfl
theorem ints_app1 (l : List Int) (n : Int) : intsL l ++ [PV.val (.int .i64 n)] = intsL (l ++ [n]) := by simp [intsL]
theorem ints_app (l r : List Int) : intsL l ++ intsL r = intsL (l ++ r) := by simp [intsL]
theorem ints_nil : intsL [] = [] := rfl
theorem ints_nil_app (l : List PV) : [] ++ l = l := rfl
theorem ints_one (n : Int) : [PV.val (.int .i64 n)] = intsL [n] := rfl
theorem ints_set (l : List Int) (k : Nat) (n : Int) : (intsL l).set k (PV.val (.int .i64 n)) = intsL (l.set k n) := by simp [intsL, List.map_set]
theorem ints_rep (k : Nat) (n : Int) : List.replicate k (PV.val (.int .i64 n)) = intsL (List.replicate k n) := by simp [intsL]
theorem ints_take (l : List Int) (k : Nat) : (intsL l).take k = intsL (l.take k) := by simp [intsL]
theorem ints_drop (l : List Int) (k : Nat) : (intsL l).drop k = intsL (l.drop k) := by simp [intsL]
theorem ints_ok (l : List Int) : ∀ p ∈ intsL l, okEl 1 p := by
 intro p hp
 simp only [intsL, List.mem_map] at hp
 obtain ⟨n, _, rfl⟩ := hp
 exact ⟨rfl, rfl⟩
theorem ints_all (l : List Int) : ∀ p ∈ intsL l, p.cells.length = 1 := fun p hp => (ints_ok l p hp).1

theorem natCast_eq (n : Nat) : @NatCast.natCast Int instNatCastInt n = @Nat.cast Int instNatCastInt n := rfl

end Go.Pe

/- Functions that hand out memory of their own, and nothing else's. -/
namespace Go.Pe
open Go Go.RowKit

def closedC : PV → Bool
 | .val _ => true
 | .lst [] => true
 | _ => false

def closedP : PV → Bool
 | .agg cs => cs.all closedC
 | p => closedC p

def closedF0 : FV → Bool
 | .pv p => closedC p
 | .own _ => true
 | _ => false

def closedF1 : FV → Bool
 | .pv p => closedP p
 | .own _ => true
 | .agg cs => cs.all closedF0
 | _ => false

def closedF : FV → Bool
 | .tup cs => cs.all closedF1
 | .pv (.tup cs) => cs.all closedP
 | x => closedF1 x

def closedB : Blk → Prop
 | .gone => True
 | .row _ _ els => ∀ p ∈ els, ∀ c ∈ p.cells, leafy c = true
 | .box _ => False
 | .tree _ _ _ _ => True

theorem closedC_rep {w : World} {S S' : Nat → Prop} {v : Value} {p : PV} (hc : closedC p = true) (h : Rep w S v p) : Rep w S' v p := by
 cases h with
 | val v hf => exact .val v hf
 | nil a c => exact .nil a c
 | lst b o c s els f hS hle => cases els with
  | nil => exact .nil _ _
  | cons x r => simp [closedC] at hc
 | _ => simp [closedC] at hc

theorem closedP_rep {w : World} {S S' : Nat → Prop} {v : Value} {p : PV} (hc : closedP p = true) (h : Rep w S v p) : Rep w S' v p := by
 cases h with
 | agg cs f h1 hr => exact .agg cs f h1 fun j hj => closedC_rep (List.all_eq_true.1 hc _ (List.getElem_mem hj)) (hr j hj)
 | val v hf => exact .val v hf
 | nil a c => exact .nil a c
 | lst b o c s els f hS hle h2 h3 h4 h5 => exact closedC_rep (S := S) hc (.lst b o c s els f hS hle h2 h3 h4 h5)
 | _ => simp [closedP, closedC] at hc

theorem closedF0_rep {w : World} {S S' : Nat → Prop} {m : Nat → Option MV} {v : Value} {x : FV} (hc : closedF0 x = true) (h : RepF w S m v x) : RepF w S' m v x := by
 cases h with
 | pv v p h => exact .pv v p (closedC_rep hc h)
 | own i v h => exact .own i v h
 | _ => simp [closedF0] at hc

theorem closedF1_rep {w : World} {S S' : Nat → Prop} {m : Nat → Option MV} {v : Value} {x : FV} (hc : closedF1 x = true) (h : RepF w S m v x) : RepF w S' m v x := by
 cases h with
 | pv v p h => exact .pv v p (closedP_rep hc h)
 | own i v h => exact .own i v h
 | agg cs f h1 hr => exact .agg cs f h1 fun j hj => closedF0_rep (List.all_eq_true.1 hc _ (List.getElem_mem hj)) (hr j hj)
 | _ => simp [closedF1] at hc

theorem closedF_rep {w : World} {S S' : Nat → Prop} {m : Nat → Option MV} {v : Value} {x : FV} (hc : closedF x = true) (h : RepF w S m v x) : RepF w S' m v x := by
 cases h with
 | tup cs f hr => exact .tup cs f fun j hj => closedF1_rep (List.all_eq_true.1 hc _ (List.getElem_mem hj)) (hr j hj)
 | pv v p h =>
  cases h with
  | tup cs f hr => exact .pv _ _ (.tup cs f fun j hj => closedP_rep (List.all_eq_true.1 hc _ (List.getElem_mem hj)) (hr j hj))
  | val v hf => exact .pv _ _ (.val v hf)
  | nil a c => exact .pv _ _ (.nil a c)
  | agg cs f h1 hr => exact .pv _ _ (closedP_rep (S := S) hc (.agg cs f h1 hr))
  | lst b o c s els f hS hle h2 h3 h4 h5 => exact .pv _ _ (closedP_rep (S := S) hc (.lst b o c s els f hS hle h2 h3 h4 h5))
  | fn => simp [closedF, closedF1, closedP, closedC] at hc
  | ptr => simp [closedF, closedF1, closedP, closedC] at hc
  | elt => simp [closedF, closedF1, closedP, closedC] at hc
 | own i v h => exact .own i v h
 | agg cs f h1 hr => exact closedF1_rep (S := S) hc (.agg cs f h1 hr)
 | _ => simp [closedF, closedF1] at hc

theorem closedB_ok {w : World} {S S' : Nat → Prop} {m m' : Nat → Option MV} {v : MV} {b : Blk} (hc : closedB b) (h : OwnOk w S m v b) : OwnOk w S' m' v b := by
 cases b with
 | gone => trivial
 | box cs => exact hc.elim
 | tree e s et els => exact h
 | row e s els =>
  obtain ⟨h0, xs, f, hown, hs, hx, h1, h2, hr⟩ := h
  refine ⟨h0, xs, f, hown, hs, hx, h1, h2, fun k hk j hj => ?_⟩
  exact (leafy_rep (hr k hk j hj) (hc _ (List.getElem_mem hk) _ (List.getElem_mem hj))).mono (fun _ h => h.elim) (fun _ h => h.elim)

theorem FN_of {P : Program} {gl : List (Nat × Obj)} {f : FuncId} {args : List PV} {R : List Blk → FV → Prop} (h : FX P gl f [] (args.map FV.pv) R)
  (hc : ∀ own r, R own r → (∀ b ∈ own, closedB b) ∧ closedF r = true) : FN P gl f args R := by
 refine ⟨h.1, fun w vs hgl hargs => ?_⟩
 have hno0 : ∀ i, ¬ lives ([] : List Blk) i := by
  rintro i ⟨_, hb, _⟩
  simp at hb
 have := h.2 w (fun b => b < w.heap.size) (fun _ => none) vs hgl (fun _ hb => hb) (OwnS.mk (fun i v hv => by cases hv) (fun i b hi => by simp at hi) (fun i j b _ hi => (hno0 i hi).elim) (fun i b hi => (hno0 i hi).elim) (fun i b hi => (hno0 i hi).elim))
  (fun i b hi => (hno0 i hi).elim) (fun j hj => by
   simp only [List.length_map] at hj
   simp only [List.getElem_map]
   exact .pv _ _ (hargs j hj))
 rw [List.length_map] at this
 refine this.mono ?_
 rintro e w' ⟨v, r, own', m', rfl, hR, _, _, hbx, hos, hbn, hrr⟩
 obtain ⟨hcb, hcr⟩ := hc own' r hR
 have hno : ∀ b, ¬ ∃ i, lives ([] : List Blk) i ∧ mblk (fun _ => none) i b := by
  rintro b ⟨i, ⟨_, hb, _⟩, _⟩
  simp at hb
 refine ⟨v, r, own', m', rfl, hR, ⟨hbx.os, hbx.tape, hbx.output, hbx.size, fun k hk => hbx.block k hk (hno k)⟩, ⟨hos.len, fun i b hi hl => ?_, hos.sep, hos.lt, fun _ _ _ _ => id⟩, fun i b hi hb => (hbn i b hi hb).resolve_right (hno b), closedF_rep hcr hrr⟩
 obtain ⟨u, hu, hok⟩ := hos.ok i b hi hl
 exact ⟨u, hu, closedB_ok (hcb b (List.mem_of_getElem? hi)) hok⟩

def liftCs : Nat → List FV → List FV
 | _, [] => []
 | n, x :: r => if isNil x = true then .own n :: liftCs (n + 1) r else x :: liftCs n r

def nilsIn : List FV → Nat
 | [] => 0
 | x :: r => if isNil x = true then nilsIn r + 1 else nilsIn r

theorem liftCs_length : ∀ (cs : List FV) (n : Nat), (liftCs n cs).length = cs.length
 | [], n => rfl
 | x :: r, n => by
  simp only [liftCs]
  split <;> simp [liftCs_length r]

theorem liftCs_rep {w : World} {S : Nat → Prop} {m : Nat → Option MV} : ∀ (cs : List FV) (n : Nat) (f : Nat → Value), (∀ i, n ≤ i → i < n + nilsIn cs → m i = some (.slice none 0 0, [])) →
  (∀ j (hj : j < cs.length), RepF w S m (f j) cs[j]) → ∀ j (hj : j < (liftCs n cs).length), RepF w S m (f j) (liftCs n cs)[j] := by
 intro cs
 induction cs with
 | nil => intro n f _ _ j hj; simp [liftCs] at hj
 | cons x r ih =>
  intro n f hm hr j hj
  have h0 := hr 0 (by simp)
  have hr' : ∀ j (hj : j < r.length), RepF w S m (f (j + 1)) r[j] := fun j hj => by
   have := hr (j + 1) (by simpa using hj)
   simpa using this
  by_cases hx : isNil x = true
  ·have el : liftCs n (x :: r) = .own n :: liftCs (n + 1) r := by simp only [liftCs]; rw [if_pos hx]
   have en : nilsIn (x :: r) = nilsIn r + 1 := by simp only [nilsIn]; rw [if_pos hx]
   simp only [el] at hj ⊢
   cases j with
   | zero =>
    simp only [List.getElem_cons_zero] at h0 ⊢
    rw [isNil_spec hx] at h0
    rw [h0.valInv]
    exact .own n _ (hm n (Nat.le_refl _) (by omega))
   | succ j =>
    simp only [List.getElem_cons_succ]
    exact ih (n + 1) (fun j => f (j + 1)) (fun i h1 h2 => hm i (by omega) (by omega)) hr' j (by simpa using hj)
  ·have el : liftCs n (x :: r) = x :: liftCs n r := by simp only [liftCs]; rw [if_neg hx]
   have en : nilsIn (x :: r) = nilsIn r := by simp only [nilsIn]; rw [if_neg hx]
   simp only [el] at hj ⊢
   cases j with
   | zero => simpa using h0
   | succ j =>
    simp only [List.getElem_cons_succ]
    exact ih n (fun j => f (j + 1)) (fun i h1 h2 => hm i h1 (by omega)) hr' j (by simpa using hj)

theorem FN.lift {P : Program} {gl : List (Nat × Obj)} {f : FuncId} {args : List PV} {R R' : List Blk → FV → Prop} (e : TypeId) (s : Nat) (hs : 0 < s) (h : FN P gl f args R)
  (hR : ∀ own r, R own r → ∃ cs rest, r = .tup (.agg cs :: rest) ∧ R' (own ++ List.replicate (nilsIn cs) (.row e s [])) (.tup (.agg (liftCs own.length cs) :: rest))) : FN P gl f args R' := by
 refine ⟨h.1, fun w vs hgl hargs => (h.2 w vs hgl hargs).mono ?_⟩
 rintro en w' ⟨v, r, own', m', rfl, hr0, hb, hos, hbn, hrr⟩
 obtain ⟨cs, rest, rfl, hR'⟩ := hR own' r hr0
 let m2 : Nat → Option MV := fun i => if i < own'.length then m' i else if i < own'.length + nilsIn cs then some (.slice none 0 0, []) else none
 have hm2 : ∀ i v, m' i = some v → m2 i = some v := fun i v hv => by simp only [m2]; rw [if_pos (hos.len i v hv).1]; exact hv
 have hmb : ∀ i b, mblk m2 i b → i < own'.length ∧ mblk m' i b := by
  intro i b hi
  obtain ⟨u, hu, hi⟩ := hi
  simp only [m2] at hu
  split at hu
  ·rename_i hl; exact ⟨hl, u, hu, hi⟩
  ·split at hu
   ·cases hu; rw [hasB_one] at hi; simp [blk] at hi
   ·cases hu
 have hlv : ∀ i, i < own'.length → lives (own' ++ List.replicate (nilsIn cs) (.row e s [])) i → lives own' i := by
  rintro i hi ⟨b, hb, hl⟩
  rw [List.getElem?_append_left hi] at hb
  exact ⟨b, hb, hl⟩
 refine ⟨v, _, _, m2, rfl, hR', hb, ⟨fun i u hu => ?_, fun i b hi hl => ?_, fun i j b hne hi hj hbi hbj => ?_, fun i b hi hbi => ?_, fun _ _ _ _ => id⟩, fun i b hi hbi => ?_, ?_⟩
 ·simp only [m2] at hu
  simp only [List.length_append, List.length_replicate]
  split at hu
  ·rename_i hl; exact ⟨by omega, (hos.len i u hu).2⟩
  ·split at hu
   ·rename_i hl; cases hu; exact ⟨hl, rfl, fun _ h => by cases h⟩
   ·cases hu
 ·rw [List.getElem?_append] at hi
  split at hi
  ·obtain ⟨u, hu, hok⟩ := hos.ok i b hi hl
   exact ⟨u, hm2 i u hu, hok.mono (fun _ _ => rfl) (fun _ => id) hm2 (fun _ _ => rfl)⟩
  ·rename_i hge
   rw [List.getElem?_replicate] at hi
   split at hi
   ·rename_i hlt
    cases hi
    exact ⟨(.slice none 0 0, []), by simp only [m2]; rw [if_neg hge, if_pos (by omega)], nilRow_ok hs⟩
   ·cases hi
 ·obtain ⟨h1, h2⟩ := hmb i b hbi
  obtain ⟨h3, h4⟩ := hmb j b hbj
  exact hos.sep i j b hne (hlv i h1 hi) (hlv j h3 hj) h2 h4
 ·obtain ⟨h1, h2⟩ := hmb i b hbi
  exact hos.lt i b (hlv i h1 hi) h2
 ·obtain ⟨h1, h2⟩ := hmb i b hbi
  exact hbn i b (hlv i h1 hi) h2
 ·have hup : ∀ {v x}, RepF w' (fun _ => False) m' v x → RepF w' (fun _ => False) m2 v x := fun hx => hx.mono (fun _ _ => rfl) (fun _ => id) hm2
  cases hrr with
  | tup _ f hf =>
   have h0 := hf 0 (by simp)
   simp only [List.getElem_cons_zero] at h0
   have hcs : ∃ g : Nat → Value, (∀ j, (g j).oneCell' = true) ∧ f 0 = .agg (vrange cs.length g).toArray ∧ ∀ j (hj : j < cs.length), RepF w' (fun _ => False) m2 (g j) cs[j] := by
    generalize f 0 = u at h0
    cases h0 with | agg _ g h1 hg => exact ⟨g, h1, rfl, fun j hj => hup (hg j hj)⟩
   obtain ⟨g, g1, g2, g3⟩ := hcs
   have hl := liftCs_rep cs own'.length g (fun i h1 h2 => by simp only [m2]; rw [if_neg (by omega), if_pos (by omega)]) g3
   have := RepF.tup (w := w') (S := fun _ => False) (m := m2) (.agg (liftCs own'.length cs) :: rest) f (fun j hj => by
    cases j with
    | zero =>
     simp only [List.getElem_cons_zero]
     rw [g2]
     have := RepF.agg (w := w') (S := fun _ => False) (m := m2) (liftCs own'.length cs) g g1 hl
     rw [liftCs_length] at this
     exact this
    | succ j =>
     have := hf (j + 1) (by simpa using hj)
     simp only [List.getElem_cons_succ] at this ⊢
     exact hup this)
   simpa using this

end Go.Pe

/- Numbers as lists of digits to the base 65536, the least first. -/
namespace Go.Dg

def val : List Int → Int
 | [] => 0
 | x :: r => x + 65536 * val r

def Valid (l : List Int) : Prop := ∀ x ∈ l, 0 ≤ x ∧ x < 65536

def dg (n : Nat) : List Int := if n = 0 then [] else ((n % 65536 : Nat) : Int) :: dg (n / 65536)
 termination_by n

theorem dg_zero : dg 0 = [] := by rw [dg]; simp
theorem dg_pos {n : Nat} (h : n ≠ 0) : dg n = ((n % 65536 : Nat) : Int) :: dg (n / 65536) := by rw [dg]; simp [h]

theorem Valid.tail {x : Int} {r : List Int} (h : Valid (x :: r)) : Valid r := fun y hy => h y (List.mem_cons_of_mem _ hy)
theorem Valid.head {x : Int} {r : List Int} (h : Valid (x :: r)) : 0 ≤ x ∧ x < 65536 := h x (by simp)
theorem Valid.nil : Valid [] := fun x hx => by simp at hx
theorem Valid.cons {x : Int} {r : List Int} (h0 : 0 ≤ x) (h1 : x < 65536) (h : Valid r) : Valid (x :: r) := by
 intro y hy
 rcases List.mem_cons.1 hy with rfl | hy
 ·exact ⟨h0, h1⟩
 ·exact h y hy
theorem Valid.append {l r : List Int} (h : Valid l) (h' : Valid r) : Valid (l ++ r) := fun x hx => (List.mem_append.1 hx).elim (h x) (h' x)
theorem Valid.one {x : Int} (h0 : 0 ≤ x) (h1 : x < 65536) : Valid [x] := Valid.cons h0 h1 Valid.nil
theorem Valid.set {l : List Int} {k : Nat} {x : Int} (h : Valid l) (h0 : 0 ≤ x) (h1 : x < 65536) : Valid (l.set k x) := fun y hy => by
 rcases List.mem_or_eq_of_mem_set hy with hy | rfl
 ·exact h y hy
 ·exact ⟨h0, h1⟩
theorem Valid.rep (n : Nat) : Valid (List.replicate n 0) := fun x hx => by rw [(List.mem_replicate.1 hx).2]; omega
theorem Valid.get {l : List Int} (h : Valid l) (k : Nat) : 0 ≤ l.getD k 0 ∧ l.getD k 0 < 65536 := by
 by_cases hk : k < l.length
 ·rw [List.getD, List.getElem?_eq_getElem hk]
  exact h _ (List.getElem_mem hk)
 ·rw [List.getD, List.getElem?_eq_none (by omega)]; exact ⟨by simp, by simp⟩
theorem Valid.take {l : List Int} (h : Valid l) (k : Nat) : Valid (l.take k) := fun x hx => h x (List.mem_of_mem_take hx)
theorem Valid.drop {l : List Int} (h : Valid l) (k : Nat) : Valid (l.drop k) := fun x hx => h x (List.mem_of_mem_drop hx)

theorem val_nonneg : ∀ {l : List Int}, Valid l → 0 ≤ val l
 | [], _ => by simp [val]
 | x :: r, h => by
  have := val_nonneg h.tail
  have := h.head
  simp only [val]; omega

theorem val_dg (n : Nat) : val (dg n) = n := by
 induction n using Nat.strongRecOn with
 | ind n ih =>
  by_cases h : n = 0
  ·subst h; rw [dg_zero]; rfl
  ·rw [dg_pos h, val, ih (n / 65536) (by omega)]; omega

theorem valid_dg (n : Nat) : Valid (dg n) := by
 induction n using Nat.strongRecOn with
 | ind n ih =>
  by_cases h : n = 0
  ·subst h; rw [dg_zero]; exact Valid.nil
  ·rw [dg_pos h]; exact Valid.cons (by omega) (by omega) (ih (n / 65536) (by omega))

def trimL : List Int → List Int
 | [] => []
 | x :: r => match trimL r with
  | [] => if x = 0 then [] else [x]
  | y :: t => x :: y :: t

theorem trim_dg : ∀ {l : List Int}, Valid l → trimL l = dg (val l).toNat
 | [], _ => by simp [trimL, val, dg_zero]
 | x :: r, h => by
  have ih := trim_dg h.tail
  have h0 := val_nonneg h.tail
  have hx := h.head
  simp only [trimL, val]
  by_cases hr : (val r).toNat = 0
  ·rw [hr, dg_zero] at ih
   rw [ih]
   simp only
   have : val r = 0 := by omega
   split
   ·rename_i hx0; subst hx0; rw [this]; simp [dg_zero]
   ·rename_i hx0
    have e0 : (x + 65536 * val r).toNat ≠ 0 := by omega
    rw [dg_pos e0]
    have e1 : (x + 65536 * val r).toNat / 65536 = 0 := by omega
    rw [e1, dg_zero]
    congr 1
    omega
  ·rw [dg_pos hr] at ih
   rw [ih]
   simp only
   have e0 : (x + 65536 * val r).toNat ≠ 0 := by omega
   rw [dg_pos e0]
   have e1 : (x + 65536 * val r).toNat / 65536 = (val r).toNat := by omega
   rw [e1, dg_pos hr]
   congr 1
   omega

theorem trimL_snoc0 : ∀ (l : List Int), trimL (l ++ [0]) = trimL l
 | [] => by simp [trimL]
 | x :: r => by simp only [List.cons_append, trimL, trimL_snoc0 r]

theorem trimL_snoc : ∀ (l : List Int) {x : Int}, x ≠ 0 → trimL (l ++ [x]) = l ++ [x]
 | [], x, h => by simp [trimL, h]
 | y :: r, x, h => by
  simp only [List.cons_append, trimL, trimL_snoc r h]
  cases r <;> rfl

theorem split_last {l : List Int} (h : 0 < l.length) : l = l.take (l.length - 1) ++ [l.getD (l.length - 1) 0] := by
 have hk : l.length - 1 < l.length := by omega
 rw [List.getD, List.getElem?_eq_getElem hk]
 simp only [Option.getD_some]
 rw [← List.take_succ_eq_append_getElem hk]
 rw [List.take_of_length_le (by omega)]

theorem trimL_last {l : List Int} (h : 0 < l.length) (hz : l.getD (l.length - 1) 0 ≠ 0) : trimL l = l := by
 rw [split_last h]; exact trimL_snoc _ hz
theorem trimL_take {l : List Int} (h : 0 < l.length) (hz : l.getD (l.length - 1) 0 = 0) : trimL (l.take (l.length - 1)) = trimL l := by
 conv => rhs; rw [split_last h, hz]
 exact (trimL_snoc0 _).symm
theorem trimL_len0 {l : List Int} (h : l.length = 0) : trimL l = l := by
 have : l = [] := List.length_eq_zero_iff.1 h
 subst this; rfl

theorem val_append (l r : List Int) : val (l ++ r) = val l + 65536 ^ l.length * val r := by
 induction l with
 | nil => simp [val]
 | cons x l ih =>
  simp only [List.cons_append, val, ih, List.length_cons, Int.pow_succ]
  rw [Int.mul_add, Int.mul_comm (65536 ^ l.length) 65536, Int.mul_assoc]
  omega
theorem val_snoc (l : List Int) (x : Int) : val (l ++ [x]) = val l + 65536 ^ l.length * x := by rw [val_append]; simp [val]

theorem val_rep (n : Nat) : val (List.replicate n 0) = 0 := by
 induction n with
 | zero => rfl
 | succ n ih => simp [List.replicate_succ, val, ih]

theorem val_set : ∀ (l : List Int) (k : Nat) (x : Int), k < l.length → val (l.set k x) = val l + 65536 ^ k * (x - l.getD k 0)
 | [], k, x, h => by simp at h
 | y :: r, 0, x, h => by simp [val]; omega
 | y :: r, k + 1, x, h => by
  simp only [List.set_cons_succ, val, val_set r k x (by simpa using h), List.getD_cons_succ, Int.pow_succ]
  rw [Int.mul_add, Int.mul_comm (65536 ^ k) 65536, Int.mul_assoc]
  omega

theorem val_take_succ {l : List Int} {k : Nat} (h : k < l.length) : val (l.take (k + 1)) = val (l.take k) + 65536 ^ k * l.getD k 0 := by
 rw [List.take_succ_eq_append_getElem h, val_snoc, List.length_take, Nat.min_eq_left (by omega), List.getD, List.getElem?_eq_getElem h]
 rfl

theorem pow_pos (k : Nat) : (0 : Int) < 65536 ^ k := Int.pow_pos (by decide)

theorem dg_len_le : ∀ (k n : Nat), n < 65536 ^ k → (dg n).length ≤ k
 | 0, n, h => by
  have : n = 0 := by simp at h; exact h
  subst this; rw [dg_zero]; simp
 | k + 1, n, h => by
  by_cases h0 : n = 0
  ·subst h0; rw [dg_zero]; simp
  ·rw [dg_pos h0]
   have := dg_len_le k (n / 65536) (by rw [Nat.pow_succ] at h; omega)
   simpa using this
theorem dg_len (n : Nat) (h : n ≤ 9223372036854775807) : (dg n).length ≤ 100 := by
 have := dg_len_le 4 n (by omega)
 omega

theorem mul_bound {x y : Int} (hx : 0 ≤ x ∧ x < 65536) (hy : 0 ≤ y ∧ y < 65536) : 0 ≤ x * y ∧ x * y ≤ 4294836225 := by
 refine ⟨Int.mul_nonneg hx.1 hy.1, ?_⟩
 have h1 : x * y ≤ 65535 * y := Int.mul_le_mul_of_nonneg_right (by omega) hy.1
 omega

theorem getD_set_ne {l : List Int} {k q : Nat} {x : Int} (h : k ≠ q) : (l.set k x).getD q 0 = l.getD q 0 := by
 simp only [List.getD, List.getElem?_set, if_neg h]

theorem mul_inner {out : List Int} {i j : Nat} {carry x y V W c : Int} (h : val out + carry * 65536 ^ (i + j) = V + x * W * 65536 ^ i) (hk : i + j < out.length)
  (hc : c = carry + (out.getD (i + j) 0 + x * y)) : val (out.set (i + j) (c % 65536)) + (c / 65536) * 65536 ^ (i + (j + 1)) = V + x * (W + 65536 ^ j * y) * 65536 ^ i := by
 rw [val_set _ _ _ hk]
 have e1 : (65536 : Int) ^ (i + (j + 1)) = 65536 ^ (i + j) * 65536 := by rw [← Nat.add_assoc, Int.pow_succ]
 have e2 : (65536 : Int) ^ (i + j) = 65536 ^ i * 65536 ^ j := by rw [Int.pow_add]
 have e3 : c = 65536 * (c / 65536) + c % 65536 := by omega
 rw [e1]
 generalize c / 65536 = q at *
 generalize c % 65536 = r at *
 generalize (65536 : Int) ^ (i + j) = p at *
 grind

theorem mul_outer {out : List Int} {i n : Nat} {carry x V W Z : Int} (h : val out + carry * 65536 ^ (i + n) = V + x * W * 65536 ^ i) (hV : V = Z * W) (hk : i + n < out.length)
  (h0 : out.getD (i + n) 0 = 0) : val (out.set (i + n) carry) = (Z + 65536 ^ i * x) * W := by
 rw [val_set _ _ _ hk, h0]
 grind

def fac : Nat → Nat
 | 0 => 1
 | n + 1 => (n + 1) * fac n

theorem fac_pos : ∀ n, 0 < fac n
 | 0 => by simp [fac]
 | n + 1 => by simp only [fac]; exact Nat.mul_pos (by omega) (fac_pos n)

theorem fac_mono : ∀ {m n : Nat}, m ≤ n → fac m ≤ fac n
 | m, 0, h => by
  have : m = 0 := by omega
  subst this; exact Nat.le_refl _
 | m, n + 1, h => by
  by_cases he : m = n + 1
  ·subst he; exact Nat.le_refl _
  ·have := fac_mono (m := m) (n := n) (by omega)
   simp only [fac]
   have h2 : 1 * fac n ≤ (n + 1) * fac n := Nat.mul_le_mul_right _ (by omega)
   omega

theorem fac200 : fac 200 < 65536 ^ 80 := by decide +kernel

theorem fac_len {n : Nat} (h : n ≤ 200) : (dg (fac n)).length ≤ 80 := dg_len_le 80 _ (Nat.lt_of_le_of_lt (fac_mono h) fac200)

theorem dg_ne_nil {n : Nat} (h : 0 < n) : 0 < (dg n).length := by rw [dg_pos (by omega)]; simp

end Go.Dg

/- Numbers as lists of digits: order, shifts: plain laws. -/
namespace Go.Dg

theorem val_lt_pow : ∀ {l : List Int}, Valid l → val l < 65536 ^ l.length
 | [], _ => by simp [val]
 | x :: r, h => by
  have h1 := val_lt_pow h.tail
  have h2 := h.head
  simp only [val, List.length_cons, Int.pow_succ]
  omega

theorem dg_len_lt {x y : Nat} (h : (dg x).length < (dg y).length) : x < y := by
 have h1 := val_lt_pow (valid_dg x)
 rw [val_dg] at h1
 have h2 : ¬ y < 65536 ^ (dg x).length := fun hy => by have := dg_len_le _ _ hy; omega
 have h3 : (x : Int) < ((65536 ^ (dg x).length : Nat) : Int) := by rw [Int.natCast_pow]; exact h1
 have h4 : x < 65536 ^ (dg x).length := by exact_mod_cast h3
 omega

theorem val_split (l : List Int) (i : Nat) (h : i < l.length) : val l = val (l.take i) + 65536 ^ i * (l.getD i 0 + 65536 * val (l.drop (i + 1))) := by
 have e : l = l.take i ++ (l.getD i 0 :: l.drop (i + 1)) := by
  rw [List.getD, List.getElem?_eq_getElem h]
  simp
 conv => lhs; rw [e, val_append]
 rw [List.length_take, Nat.min_eq_left (by omega)]
 rfl

theorem val_lt_at {a b : List Int} (ha : Valid a) (hb : Valid b) (hl : a.length = b.length) {i : Nat} (hi : i < a.length) (hd : a.drop (i + 1) = b.drop (i + 1)) (h : a.getD i 0 < b.getD i 0) : val a < val b := by
 rw [val_split a i hi, val_split b i (by omega), hd]
 have h1 := val_lt_pow (ha.take i)
 have h2 := val_nonneg (hb.take i)
 rw [List.length_take, Nat.min_eq_left (by omega)] at h1
 have h3 : (65536 : Int) ^ i * (a.getD i 0 + 65536 * val (b.drop (i + 1)) + 1) ≤ 65536 ^ i * (b.getD i 0 + 65536 * val (b.drop (i + 1))) := Int.mul_le_mul_of_nonneg_left (by omega) (Int.le_of_lt (pow_pos i))
 rw [Int.mul_add _ _ 1, Int.mul_one] at h3
 omega

theorem drop_eq_step {a b : List Int} {i : Nat} (hl : a.length = b.length) (hi : i < a.length) (hd : a.drop (i + 1) = b.drop (i + 1)) (h : a.getD i 0 = b.getD i 0) : a.drop i = b.drop i := by
 rw [List.getD, List.getD, List.getElem?_eq_getElem hi, List.getElem?_eq_getElem (by omega)] at h
 rw [List.drop_eq_getElem_cons hi, List.drop_eq_getElem_cons (by omega : i < b.length), hd]
 simp only [Option.getD_some] at h
 rw [h]

def cmpN (x y : Nat) : Int := if x < y then -1 else if y < x then 1 else 0

theorem pow2_le {b : Nat} (h : b < 16) : (1 : Int) ≤ 2 ^ b ∧ (2 : Int) ^ b ≤ 32768 := by
 have : b = 0 ∨ b = 1 ∨ b = 2 ∨ b = 3 ∨ b = 4 ∨ b = 5 ∨ b = 6 ∨ b = 7 ∨ b = 8 ∨ b = 9 ∨ b = 10 ∨ b = 11 ∨ b = 12 ∨ b = 13 ∨ b = 14 ∨ b = 15 := by omega
 rcases this with h | h | h | h | h | h | h | h | h | h | h | h | h | h | h | h <;> subst h <;> decide

theorem shift_bound {x p : Int} (hx : 0 ≤ x ∧ x < 65536) (hp : 1 ≤ p ∧ p ≤ 32768) : 0 ≤ x * p ∧ x * p ≤ 2147450880 := by
 refine ⟨Int.mul_nonneg hx.1 (by omega), ?_⟩
 have h1 : x * p ≤ 65535 * p := Int.mul_le_mul_of_nonneg_right (by omega) (by omega)
 omega

theorem up_step {out : List Int} {q i : Nat} {carry x p W c : Int} (h : val out + carry * 65536 ^ (q + i) = W * p * 65536 ^ q) (hl : out.length = q + i) (hc : c = carry + x * p) :
  val (out ++ [c % 65536]) + (c / 65536) * 65536 ^ (q + (i + 1)) = (W + 65536 ^ i * x) * p * 65536 ^ q := by
 rw [val_snoc, hl]
 have e1 : (65536 : Int) ^ (q + (i + 1)) = 65536 ^ (q + i) * 65536 := by rw [← Nat.add_assoc, Int.pow_succ]
 have e2 : (65536 : Int) ^ (q + i) = 65536 ^ q * 65536 ^ i := by rw [Int.pow_add]
 have e3 : c = 65536 * (c / 65536) + c % 65536 := by omega
 rw [e1]
 generalize c / 65536 = u at *
 generalize c % 65536 = r at *
 generalize (65536 : Int) ^ (q + i) = z at *
 grind

theorem pow_split (k : Nat) : (2 : Int) ^ (k % 16) * 65536 ^ (k / 16) = 2 ^ k := by
 have e : (65536 : Int) = 2 ^ 16 := by decide
 rw [e, ← Int.pow_mul, ← Int.pow_add]
 congr 1
 omega

def bl (n : Nat) : Nat := if n = 0 then 0 else bl (n / 2) + 1
 termination_by n

theorem bl_zero : bl 0 = 0 := by rw [bl]; simp
theorem bl_pos {n : Nat} (h : n ≠ 0) : bl n = bl (n / 2) + 1 := by rw [bl]; simp [h]

theorem bl_le : ∀ (k n : Nat), bl n ≤ k ↔ n < 2 ^ k
 | 0, n => by
  by_cases h : n = 0
  ·subst h; simp [bl_zero]
  ·rw [bl_pos h]; simp; omega
 | k + 1, n => by
  by_cases h : n = 0
  ·subst h; simp [bl_zero, Nat.two_pow_pos]
  ·rw [bl_pos h, Nat.add_le_add_iff_right, bl_le k (n / 2), Nat.pow_succ]; omega

theorem bl_down : ∀ (k n : Nat), 2 ^ k ≤ n → bl n = bl (n / 2 ^ k) + k
 | 0, n, _ => by simp
 | k + 1, n, h => by
  have h1 : 2 ^ (k + 1) = 2 * 2 ^ k := by rw [Nat.pow_succ]; omega
  have h2 := Nat.two_pow_pos k
  rw [bl_pos (by omega), bl_down k (n / 2) (by omega), h1, Nat.div_div_eq_div_mul]
  omega

theorem bl_top : ∀ (n : Nat), n ≠ 0 → (bl n : Int) = 16 * ((dg n).length - 1) + bl ((dg n).getD ((dg n).length - 1) 0).toNat := by
 intro n
 induction n using Nat.strongRecOn with
 | ind n ih =>
  intro h
  rw [dg_pos h]
  by_cases h1 : n < 65536
  ·have e1 : n / 65536 = 0 := by omega
   rw [e1, dg_zero]
   have e2 : n % 65536 = n := by omega
   rw [e2]
   simp
  ·have h2 := ih (n / 65536) (by omega) (by omega)
   have h3 : 0 < (dg (n / 65536)).length := dg_ne_nil (by omega)
   have h4 := bl_down 16 n (by omega)
   rw [show (2 : Nat) ^ 16 = 65536 by decide] at h4
   rw [h4]
   have e : (((n % 65536 : Nat) : Int) :: dg (n / 65536)).length - 1 = ((dg (n / 65536)).length - 1) + 1 := by simp; omega
   rw [e, List.getD_cons_succ]
   simp only [List.length_cons]
   omega

def isT (m t : Nat) : Prop := 1 ≤ t ∧ t ≤ 100 ∧ 2 ^ m ≤ fac (t + 1) * 2 ^ t ∧ ∀ k, 1 ≤ k → k < t → fac (k + 1) * 2 ^ k < 2 ^ m

theorem least_from (p : Nat → Prop) : ∀ n, (∃ t, 1 ≤ t ∧ t ≤ n ∧ p t ∧ ∀ k, 1 ≤ k → k < t → ¬ p k) ∨ ∀ k, 1 ≤ k → k ≤ n → ¬ p k
 | 0 => .inr fun k h1 h2 => by omega
 | n + 1 => by
  rcases least_from p n with ⟨t, h1, h2, h3, h4⟩ | h
  ·exact .inl ⟨t, h1, by omega, h3, h4⟩
  ·by_cases hp : p (n + 1)
   ·exact .inl ⟨n + 1, by omega, Nat.le_refl _, hp, fun k h1 h2 => h k h1 (by omega)⟩
   ·refine .inr fun k h1 h2 => ?_
    by_cases he : k = n + 1
    ·subst he; exact hp
    ·exact h k h1 (by omega)

theorem big_fac : 2 ^ 400 ≤ fac 101 * 2 ^ 100 := by decide +kernel

theorem exists_T {m : Nat} (h : m ≤ 400) : ∃ t, isT m t := by
 have h0 : 2 ^ m ≤ fac 101 * 2 ^ 100 := Nat.le_trans (Nat.pow_le_pow_right (by omega) h) big_fac
 rcases least_from (fun k => 2 ^ m ≤ fac (k + 1) * 2 ^ k) 100 with ⟨t, h1, h2, h3, h4⟩ | hn
 ·exact ⟨t, h1, h2, h3, fun k a b => by have := h4 k a b; omega⟩
 ·exact absurd h0 (hn 100 (by omega) (Nat.le_refl _))

theorem fac_up_len {k : Nat} (h : k ≤ 100) : (dg (fac (k + 1) * 2 ^ k)).length ≤ 1000 := by
 refine dg_len_le 1000 _ ?_
 have h1 := fac_mono (m := k + 1) (n := 200) (by omega)
 have h2 : (2 : Nat) ^ k ≤ 2 ^ 100 := Nat.pow_le_pow_right (by omega) h
 have h3 : fac (k + 1) * 2 ^ k ≤ fac 200 * 2 ^ 100 := Nat.mul_le_mul h1 h2
 have h4 : fac 200 * 2 ^ 100 < 65536 ^ 1000 := by decide +kernel
 omega

end Go.Dg

/- Dyadic numbers: an integer times a power of two, and the one form that each has. -/
namespace Go.Dg

def mk (z e : Int) : Dyadic := Dyadic.ofIntWithPrec z (-e)

theorem mk_rat (z e : Int) : (mk z e).toRat = z * 2 ^ e := by
 unfold mk; rw [Dyadic.toRat_ofIntWithPrec_eq_mul_two_pow, Int.neg_neg]

theorem two_ne : (2 : Rat) ≠ 0 := by decide
theorem two_pos (e : Int) : (0 : Rat) < 2 ^ e := Rat.zpow_pos (by decide)

theorem mk_add (a b e : Int) : mk a e + mk b e = mk (a + b) e := by
 apply Dyadic.toRat_inj.1
 rw [Dyadic.toRat_add, mk_rat, mk_rat, mk_rat, Rat.intCast_add, Rat.add_mul]

theorem mk_neg (a e : Int) : -mk a e = mk (-a) e := by
 apply Dyadic.toRat_inj.1
 rw [Dyadic.toRat_neg, mk_rat, mk_rat, Rat.intCast_neg, Rat.neg_mul]

theorem mk_mul (a b e f : Int) : mk a e * mk b f = mk (a * b) (e + f) := by
 apply Dyadic.toRat_inj.1
 rw [Dyadic.toRat_mul, mk_rat, mk_rat, mk_rat, Rat.intCast_mul, Rat.zpow_add two_ne]
 grind

theorem mk_shift (a e : Int) (k : Nat) : mk (a * 2 ^ k) (e - k) = mk a e := by
 apply Dyadic.toRat_inj.1
 rw [mk_rat, mk_rat, Rat.intCast_mul, Rat.intCast_pow]
 have h : (2 : Rat) ^ e = 2 ^ (k : Nat) * 2 ^ (e - k) := by
  rw [← Rat.zpow_natCast, ← Rat.zpow_add two_ne]
  congr 1; omega
 rw [h]
 have : ((2 : Int) : Rat) = 2 := rfl
 rw [this]
 grind

theorem mk_zero (e : Int) : mk 0 e = 0 := rfl

def cZ : Dyadic → Int
 | .zero => 0
 | .ofOdd n _ _ => n
def cE : Dyadic → Int
 | .zero => 0
 | .ofOdd _ k _ => -k

theorem mk_canon (d : Dyadic) : mk (cZ d) (cE d) = d := by
 cases d with
 | zero => rfl
 | ofOdd n k h => unfold mk cZ cE; rw [Int.neg_neg]; exact Dyadic.ofOdd_eq_ofIntWithPrec.symm

theorem cZ_zero : cZ 0 = 0 := rfl
theorem cE_zero : cE 0 = 0 := rfl

theorem canon_odd {z e : Int} (h : z % 2 = 1) : cZ (mk z e) = z ∧ cE (mk z e) = e := by
 have : mk z e = .ofOdd z (-e) h := by unfold mk; exact Dyadic.ofOdd_eq_ofIntWithPrec.symm
 rw [this]
 exact ⟨rfl, Int.neg_neg e⟩

theorem canon_mk {z o e : Int} {k : Nat} (ho : o % 2 = 1) (hz : z = o * 2 ^ k) : cZ (mk z e) = o ∧ cE (mk z e) = e + k := by
 have h : mk z e = mk o (e + k) := by
  rw [hz, ← mk_shift o (e + k) k]
  congr 1; omega
 rw [h]
 exact canon_odd ho

end Go.Dg

/- Loops and calls, where the conditions keep them apart. -/
namespace Go.Pe
open Go Go.RowKit

theorem min_std {s : Int} (h1 : s ≤ 64) : Min.min s.toNat IntKind.i64.bits = s.toNat := Nat.min_eq_left (by show s.toNat ≤ 64; omega)
theorem fdiv_two (a : Int) (n : Nat) : a.fdiv (2 ^ n) = a / 2 ^ n := Int.fdiv_eq_ediv_of_nonneg _ (Int.le_of_lt (Int.pow_pos (by decide)))

def dsts : Code → List Nat
 | .region _ ops _ => ops.toList.filterMap (·.dst)
 | .seq a b => dsts a ++ dsts b
 | .cond _ a b => dsts a ++ dsts b
 | .block _ c => dsts c
 | .loop c => dsts c
 | _ => []

def notJunk : FV → Bool
 | .junk => false
 | _ => true

def isRow (ow : List (Nat × Blk)) : FV → Bool
 | .own i => ow.any fun x => x.1 == i
 | .relt i _ _ _ => ow.any fun x => x.1 == i
 | _ => false

def keepOf (c : Code) (st : St) (ch : List (Nat × FV)) (ow : List (Nat × Blk)) : List Nat :=
 ((List.range st.nt).filter fun t => !(dsts c).contains t && (ch.all fun x => !(x.1 == t)) && notJunk (st.get t) && !isRow ow (st.get t)) ++ ch.map (·.1)

def lookD (ch : List (Nat × FV)) (t : Nat) (x : FV) : FV :=
 match ch with
 | [] => x
 | (k, y) :: r => if t = k then y else lookD r t x

def lookB (ow : List (Nat × Blk)) (n : Nat) (b : Blk) : Blk :=
 match ow with
 | [] => b
 | (k, y) :: r => if n = k then y else lookB r n b

def patchO (ow : List (Nat × Blk)) : Nat → List Blk → List Blk
 | _, [] => []
 | n, b :: r => lookB ow n b :: patchO ow (n + 1) r

def St.patch (st : St) (ch : List (Nat × FV)) (ow : List (Nat × Blk)) : St :=
 { st with slots := st.slots.map fun x => (x.1, lookD ch x.1 x.2), own := patchO ow 0 st.own }

def St.normD (st : St) (keep : List Nat) (k : Nat) : St := (st.norm keep k).getD st

theorem loopT {A : AR} (hA : A = AR.std) {c : Code} {body : (Ex → St → Prop) → St → Prop} {Q : Ex → St → Prop} {st : St} (ls : List Lift) {ι : Type} (ch : ι → List (Nat × FV)) (ow : ι → List (Nat × Blk)) (μ : ι → Nat) (Inv : ι → Prop) (i0 : ι)
  (h0 : (((st.lifts ls).norm (keepOf c (st.lifts ls) (ch i0) (ow i0)) (st.lifts ls).own.length).isSome) = true)
  (h1 : ((st.lifts ls).normD (keepOf c (st.lifts ls) (ch i0) (ow i0)) (st.lifts ls).own.length).patch (ch i0) (ow i0) = (st.lifts ls).normD (keepOf c (st.lifts ls) (ch i0) (ow i0)) (st.lifts ls).own.length)
  (hL : st.liftsOk ls) (hi : Inv i0)
  (h : ∀ i, Inv i → body (fun e s => match e with
    | .normal => ∃ j : { i : ι // Inv i }, s.norm (keepOf c (st.lifts ls) (ch i0) (ow i0)) (st.lifts ls).own.length = some (((st.lifts ls).normD (keepOf c (st.lifts ls) (ch i0) (ow i0)) (st.lifts ls).own.length).patch (ch j.1) (ow j.1)) ∧ μ j.1 < μ i
    | e => Q e s) (((st.lifts ls).normD (keepOf c (st.lifts ls) (ch i0) (ow i0)) (st.lifts ls).own.length).patch (ch i) (ow i))) : A.loop c body Q st := by
 subst hA
 refine ⟨ls, keepOf c (st.lifts ls) (ch i0) (ow i0), (st.lifts ls).own.length, { i : ι // Inv i }, fun i => ((st.lifts ls).normD (keepOf c (st.lifts ls) (ch i0) (ow i0)) (st.lifts ls).own.length).patch (ch i.1) (ow i.1), fun i => μ i.1, ⟨i0, hi⟩, [], hL, ?_, ?_⟩
 ·show _ = some (St.patch _ (ch i0) (ow i0))
  rw [h1]
  unfold St.normD
  cases hn : (st.lifts ls).norm (keepOf c (st.lifts ls) (ch i0) (ow i0)) (st.lifts ls).own.length with
  | none => rw [hn] at h0; cases h0
  | some s => rfl
 ·rintro ⟨i, hi⟩
  exact h i hi

def noTree : List Lift → Bool
 | [] => true
 | .tree _ _ :: _ => false
 | _ :: r => noTree r

theorem noTree_ok : ∀ (ls : List Lift) (st : St), noTree ls = true → st.liftsOk ls
 | [], _, _ => trivial
 | l :: r, st, h => by
  cases l with
  | tree i et => cases h
  | _ => exact ⟨trivial, noTree_ok r _ h⟩

theorem loopI {A : AR} (hA : A = AR.std) {c : Code} {body : (Ex → St → Prop) → St → Prop} {Q : Ex → St → Prop} {st : St} (ls : List Lift) {ι : Type} (ch : ι → List (Nat × FV)) (ow : ι → List (Nat × Blk)) (μ : ι → Nat) (Inv : ι → Prop) (i0 : ι)
  (h0 : (((st.lifts ls).norm (keepOf c (st.lifts ls) (ch i0) (ow i0)) (st.lifts ls).own.length).isSome) = true)
  (h1 : ((st.lifts ls).normD (keepOf c (st.lifts ls) (ch i0) (ow i0)) (st.lifts ls).own.length).patch (ch i0) (ow i0) = (st.lifts ls).normD (keepOf c (st.lifts ls) (ch i0) (ow i0)) (st.lifts ls).own.length)
  (hi : Inv i0)
  (h : ∀ i, Inv i → body (fun e s => match e with
    | .normal => ∃ j : { i : ι // Inv i }, s.norm (keepOf c (st.lifts ls) (ch i0) (ow i0)) (st.lifts ls).own.length = some (((st.lifts ls).normD (keepOf c (st.lifts ls) (ch i0) (ow i0)) (st.lifts ls).own.length).patch (ch j.1) (ow j.1)) ∧ μ j.1 < μ i
    | e => Q e s) (((st.lifts ls).normD (keepOf c (st.lifts ls) (ch i0) (ow i0)) (st.lifts ls).own.length).patch (ch i) (ow i))) (hT : noTree ls = true := by rfl) : A.loop c body Q st := by
 exact loopT hA ls ch ow μ Inv i0 h0 h1 (noTree_ok ls st hT) hi h

theorem callS {A : AR} (hA : A = AR.std) {P : Program} {gl : List (Nat × Obj)} {st : St} {fid : FuncId} {args : List FV} {as : List PV} {R : PV → Prop} {K : FV → St → Prop}
  (hs : snapL st.own (idsL st.own args) args = some as) (h : FS P gl fid as R) (hk : ∀ r, R r → K (.pv r) (st.retire (idsL st.own args))) : A.call P gl st fid args K := by
 subst hA; exact .inl ⟨as, R, hs, h, hk⟩

theorem callX {A : AR} (hA : A = AR.std) {P : Program} {gl : List (Nat × Obj)} {st : St} {fid : FuncId} {args : List FV} (ds : List Nat) {bs : List Blk} {as : List FV} {R : List Blk → FV → Prop} {K : FV → St → Prop}
  (hd : ds.Nodup) (hb : mapO (fun i => st.own[i]?) ds = some bs) (hl : (bs.all fun b => b.live && plainB b) = true) (ha : mapO (renR ds) args = some as) (h : FX P gl fid bs as R)
  (hk : ∀ own' r, R own' r → (own'.all plainB) = true ∧ K (backR ds st.own.length r) { st with own := setAll ds own' st.own ++ own'.drop ds.length }) : A.call P gl st fid args K := by
 subst hA; exact .inr (.inr (.inr (.inr ⟨ds, bs, as, R, hd, hb, hl, ha, h, hk⟩)))

section
variable {A : AR} (hA : A = AR.std)
include hA
theorem lei_of {a b : Int} (h : a ≤ b) : A.lei a b := by subst hA; exact h
theorem lti_of {a b : Int} (h : a < b) : A.lti a b := by subst hA; exact h
theorem ltn_of {a b : Nat} (h : a < b) : A.ltn a b := by subst hA; exact h
theorem nez_of {a : Int} (h : a ≠ 0) : A.nez a := by subst hA; exact h
theorem okA_of {l : List PV} {s : Nat} (h : ∀ p ∈ l, okEl s p) : A.okA l s := by subst hA; exact h
theorem allC_of {l : List PV} {s : Nat} (h : ∀ p ∈ l, p.cells.length = s) : A.allC l s := by subst hA; exact h
theorem cap_of {l r : List PV} (h : l.length + r.length ≤ 1000000000) : A.cap l r := by subst hA; exact h
theorem len_le_of {n : Nat} {p : PV} (h : n ≤ p.cells.length) : A.len_le n p := by subst hA; exact h
theorem len_eq_of {n : Nat} {p : PV} (h : p.cells.length = n) : A.len_eq p n := by subst hA; exact h
theorem peq_of {ag : Bool} {o s : Nat} {p q : PV} (h : partP ag o s p.cells = q) : A.peq ag o s p q := by subst hA; exact h
end
theorem valc_of {A : AR} (hA : A = AR.std) {p : PV} {o n : Nat} (h : valCells p o n) : A.valc p o n := by subst hA; exact h
theorem vals_of {A : AR} (hA : A = AR.std) {l : List PV} (h : valsL l) : A.vals l := by subst hA; exact h
theorem cel_of {A : AR} (hA : A = AR.std) {p q : PV} {j : Nat} (h : cellAt p j = q) : A.cel p j q := by subst hA; exact h
theorem isl_of {A : AR} (hA : A = AR.std) {p : PV} {j : Nat} (h : ∃ l, cellAt p j = .lst l) : A.isl p j := by subst hA; exact h
theorem lfA_of {A : AR} (hA : A = AR.std) {l : List PV} (h : ∀ p ∈ l, (p.cells.all leafy) = true) : A.lfA l := by subst hA; exact h

def stripT : List Lift → List Lift
 | [] => []
 | .tree _ _ :: r => stripT r
 | .slot t e s :: r => .slot t e s :: stripT r
 | .cell i j e s :: r => .cell i j e s :: stripT r
 | .move i :: r => .move i :: stripT r
 | .nilc i j :: r => .nilc i j :: stripT r
 | .nils t :: r => .nils t :: stripT r

theorem stripT_no : ∀ ls : List Lift, noTree (stripT ls) = true
 | [] => rfl
 | l :: r => by cases l <;> simp only [stripT, noTree] <;> exact stripT_no r

theorem loopE {A : AR} (hA : A = AR.std) {c : Code} {body : (Ex → St → Prop) → St → Prop} {Q : Ex → St → Prop} {st : St}
  (h : ∃ (ls : List Lift) (keep : List Nat) (k : Nat) (ι : Type) (f : ι → St) (μ : ι → Nat) (i0 : ι), (st.lifts (stripT ls)).norm keep k = some (f i0) ∧
   ∀ i, body (fun e s => match e with
    | .normal => ∃ j, s.norm keep k = some (f j) ∧ μ j < μ i
    | e => Q e s) (f i)) : A.loop c body Q st := by
 subst hA
 obtain ⟨ls, keep, k, ι, f, μ, i0, h1, h2⟩ := h
 exact ⟨stripT ls, keep, k, ι, f, μ, i0, [], noTree_ok _ st (stripT_no ls), h1, h2⟩

end Go.Pe

/- Steps of loops over digits: plain laws. -/
namespace Go.Dg

theorem getD_ge {l : List Int} {k : Nat} (h : l.length ≤ k) : l.getD k 0 = 0 := by
 rw [List.getD, List.getElem?_eq_none h]; rfl

end Go.Dg

/- Digits: shifts, bits, quotients by a digit: plain laws. -/
namespace Go.Dg

theorem val_drop {l : List Int} {i : Nat} (h : i < l.length) : val (l.drop i) = l.getD i 0 + 65536 * val (l.drop (i + 1)) := by
 rw [List.drop_eq_getElem_cons h]
 simp only [val, List.getD, List.getElem?_eq_getElem h, Option.getD_some]

theorem val_drop_ge {l : List Int} {i : Nat} (h : l.length ≤ i) : val (l.drop i) = 0 := by
 rw [List.drop_of_length_le h]; rfl

theorem val_drop0 (l : List Int) (i : Nat) : val (l.drop i) = l.getD i 0 + 65536 * val (l.drop (i + 1)) := by
 by_cases h : i < l.length
 ·exact val_drop h
 ·rw [val_drop_ge (by omega), val_drop_ge (by omega), getD_ge (by omega)]; rfl

end Go.Dg

/- Sums, orders, trailing zeros of numbers in digits: plain laws. -/
namespace Go.Dg

theorem cmpN_lt {x y : Nat} (h : x < y) : cmpN x y = -1 := by unfold cmpN; rw [if_pos h]
theorem cmpN_gt {x y : Nat} (h : y < x) : cmpN x y = 1 := by unfold cmpN; rw [if_neg (by omega), if_pos h]
theorem cmpN_eq {x y : Nat} (h : x = y) : cmpN x y = 0 := by unfold cmpN; rw [if_neg (by omega), if_neg (by omega)]

theorem dg_inj {x y : Nat} (h : dg x = dg y) : x = y := by
 have := congrArg val h
 rw [val_dg, val_dg] at this
 omega

def trI (a : List Int) (i : Int) : Prop := 0 ≤ i ∧ i ≤ a.length ∧ val a = 65536 ^ i.toNat * val (a.drop i.toNat)

theorem trI_zero (a : List Int) : trI a 0 := ⟨Int.le_refl _, by omega, by simp⟩
theorem trI_next {a : List Int} {i : Int} (h : trI a i) (hi : i < a.length) (hz : a.getD i.toNat 0 = 0) : trI a (i + 1) := by
 obtain ⟨h0, h1, h2⟩ := h
 have e : (i + 1).toNat = i.toNat + 1 := by omega
 refine ⟨by omega, by omega, ?_⟩
 rw [h2, val_drop0, hz, e, Int.pow_succ]
 grind

theorem two_odd {x : Nat} (h : x ≠ 0) : ∃ k m, x = 2 ^ k * (2 * m + 1) := by
 induction x using Nat.strongRecOn with
 | _ x ih =>
  by_cases h2 : x % 2 = 1
  ·exact ⟨0, x / 2, by simp; omega⟩
  ·obtain ⟨k, m, hk⟩ := ih (x / 2) (by omega) (by omega)
   refine ⟨k + 1, m, ?_⟩
   have : x = 2 * (x / 2) := by omega
   rw [this, hk, Nat.pow_succ]
   simp only [Nat.mul_assoc, Nat.mul_comm, Nat.mul_left_comm]

end Go.Dg

/- The rules for the side goals of a walk, bound together. -/
namespace Go.Pe
open Go Go.Dg

theorem sA : (∀ {s : Int}, s ≤ 64 → Min.min s.toNat IntKind.i64.bits = s.toNat) ∧ (∀ (a : Int) (n : Nat), Int.fdiv a (2 ^ n) = a / 2 ^ n) ∧
  (∀ (l : List Int) (k : Nat), getI ((intsL l).getD k D0) 0 = l.getD k 0) ∧ (∀ (l : List Int) (k : Nat), ((intsL l).getD k D0).cells.length = 1) ∧
  (∀ l : List Int, (intsL l).length = l.length) ∧ (∀ (l : List Int) (k : Nat), (intsL l).take k = intsL (l.take k)) ∧ (∀ (l : List Int) (k : Nat), (intsL l).drop k = intsL (l.drop k)) ∧
  (∀ (l : List Int) (n : Int), intsL l ++ [.val (.int .i64 n)] = intsL (l ++ [n])) ∧ (∀ l r : List Int, intsL l ++ intsL r = intsL (l ++ r)) ∧ intsL [] = [] ∧
  (∀ l : List PV, [] ++ l = l) ∧ (∀ n : Int, [PV.val (.int .i64 n)] = intsL [n]) ∧ (∀ (l : List Int) (k : Nat) (n : Int), (intsL l).set k (.val (.int .i64 n)) = intsL (l.set k n)) ∧
  (∀ (k : Nat) (n : Int), List.replicate k (PV.val (.int .i64 n)) = intsL (List.replicate k n)) ∧ (∀ {n : Int}, -9223372036854775808 ≤ n → n ≤ 9223372036854775807 → IntKind.i64.wrap n = n) :=
 ⟨min_std, fdiv_two, ints_getI, ints_clen, ints_len, ints_take, ints_drop, ints_app1, ints_app, ints_nil, ints_nil_app, ints_one, ints_set, ints_rep, wrapi⟩

theorem sB : (∀ {α : Type} [BEq α] [LawfulBEq α] {a b : α}, (a == b) = true ↔ a = b) ∧ (∀ {p : Prop} [Decidable p], (decide p = true) = p) ∧ (∀ c t : Bool, (bif c then t else false) = (c && t)) ∧
  (∀ a b : Bool, ((a && b) = true) = (a = true ∧ b = true)) ∧ (∀ {x y : Bool}, (x && y) = false ↔ x = false ∨ y = false) ∧
  (∀ {α : Type} [BEq α] [LawfulBEq α] {a b : α}, (a == b) = false ↔ a ≠ b) ∧ (∀ {p : Prop} {x : Decidable p}, decide p = false ↔ ¬p) ∧ (∀ n : Nat, (n : Int).toNat = n) ∧
  (∀ c f : Bool, (bif c then true else f) = (c || f)) ∧ (∀ a b : Bool, ((a || b) = true) = (a = true ∨ b = true)) ∧ (∀ {x y : Bool}, (x || y) = false ↔ x = false ∧ y = false) ∧
  (∀ {α : Type} [BEq α] [LawfulBEq α] {a b : α}, (a != b) = true ↔ a ≠ b) ∧ (∀ {α : Type} [BEq α] [LawfulBEq α] {a b : α}, (a != b) = false ↔ a = b) ∧
  (∀ b : Bool, ((!b) = true) = (b = false)) ∧ (∀ b : Bool, ((!b) = false) = (b = true)) ∧ (∀ {a b : Int}, 0 ≤ a → Int.tdiv a b = a / b) ∧ (∀ {a b : Int}, 0 ≤ a → Int.tmod a b = a % b) :=
 ⟨beq_iff_eq, decide_eq_true_eq, Bool.cond_false_right, Bool.and_eq_true, Bool.and_eq_false_iff, beq_eq_false_iff_ne, decide_eq_false_iff_not, Int.toNat_natCast, Bool.cond_true_left, Bool.or_eq_true, Bool.or_eq_false_iff, bne_iff_ne, bne_eq_false_iff_eq, Bool.not_eq_true', Bool.not_eq_false', Int.tdiv_eq_ediv_of_nonneg, Int.tmod_eq_emod_of_nonneg⟩

theorem sC : (∀ {α : Type} {a : α} {l : List α}, (a :: l).length = l.length + 1) ∧ (∀ {α : Type}, ([] : List α).length = 0) ∧ (∀ {α : Type} {l r : List α}, (l ++ r).length = l.length + r.length) ∧
  (∀ {α : Type} {l : List α} {i : Nat} {a : α}, (l.set i a).length = l.length) ∧ (∀ {α : Type} {n : Nat} {a : α}, (List.replicate n a).length = n) ∧ (∀ {α : Type} {i : Nat} {l : List α}, (l.take i).length = Min.min i l.length) ∧
  (∀ {α : Type} {i : Nat} {l : List α}, (l.drop i).length = l.length - i) ∧ (∀ {α : Type} {l : List α}, l.drop 0 = l) ∧ Int.toNat 0 = 0 ∧ (∀ {α : Type} (a b : α), (a ≠ b) = ¬a = b) ∧
  (∀ n : Nat, NatCast.natCast n = (n : Int)) ∧ (!true) = false ∧ (!false) = true :=
 ⟨List.length_cons, List.length_nil, List.length_append, List.length_set, List.length_replicate, List.length_take, List.length_drop, List.drop_zero, Int.toNat_zero, ne_eq, natCast_eq, Bool.not_true, Bool.not_false⟩

theorem sD : (∀ {α : Type} (a : α), (a = a) = True) ∧ (¬True) = False ∧ (¬False) = True ∧ (∀ p : Prop, (p ∨ p) = p) ∧ (∀ p : Prop, (p ∨ False) = p) ∧ (∀ p : Prop, (False ∨ p) = p) ∧ (∀ p : Prop, (p ∨ True) = True) ∧ (∀ p : Prop, (True ∨ p) = True) ∧
  (∀ p : Prop, (p ∧ p) = p) ∧ (∀ p : Prop, (p ∧ True) = p) ∧ (∀ p : Prop, (True ∧ p) = p) ∧ (∀ p : Prop, (p ∧ False) = False) ∧ (∀ p : Prop, (False ∧ p) = False) ∧
  (∀ {α : Type} [BEq α] [LawfulBEq α] (a : α), (a != a) = false) ∧ (∀ {α : Type} [BEq α] [ReflBEq α] (a : α), (a == a) = true) ∧ (true = false) = False ∧ (false = true) = False :=
 ⟨eq_self, not_true_eq_false, not_false_eq_true, or_self, or_false, false_or, or_true, true_or, and_self, and_true, true_and, and_false, false_and, bne_self_eq_false, beq_self_eq_true, Bool.true_eq_false, Bool.false_eq_true⟩

section
variable {A : AR} (hA : A = AR.std)
include hA
theorem q1 {a b : Int} (h : a ≤ b) : A.lei a b := lei_of hA h
theorem q2 {a b : Int} (h : a < b) : A.lti a b := lti_of hA h
theorem q3 {a b : Nat} (h : a < b) : A.ltn a b := ltn_of hA h
theorem q4 {a : Int} (h : a ≠ 0) : A.nez a := nez_of hA h
theorem q5 {l : List PV} {s : Nat} (h : ∀ p ∈ l, okEl s p) : A.okA l s := okA_of hA h
theorem q6 {l : List PV} {s : Nat} (h : ∀ p ∈ l, p.cells.length = s) : A.allC l s := allC_of hA h
theorem q7 {l r : List PV} (h : l.length + r.length ≤ 1000000000) : A.cap l r := cap_of hA h
theorem q8 {n : Nat} {p : PV} (h : n ≤ p.cells.length) : A.len_le n p := len_le_of hA h
theorem q9 {n : Nat} {p : PV} (h : p.cells.length = n) : A.len_eq p n := len_eq_of hA h
theorem q0 {ag : Bool} {o s : Nat} {p q : PV} (h : partP ag o s p.cells = q) : A.peq ag o s p q := peq_of hA h
end

class QN (A : AR) (g : Prop) (h : outParam Prop) : Prop where
 q : A = AR.std → h → g

section
variable {A : AR}
instance {a b : Int} : QN A (A.lei a b) (a ≤ b) := ⟨fun hA h => q1 hA h⟩
instance {a b : Int} : QN A (A.lti a b) (a < b) := ⟨fun hA h => q2 hA h⟩
instance {a b : Nat} : QN A (A.ltn a b) (a < b) := ⟨fun hA h => q3 hA h⟩
instance {a : Int} : QN A (A.nez a) (a ≠ 0) := ⟨fun hA h => q4 hA h⟩
instance {l : List PV} {s : Nat} : QN A (A.okA l s) (∀ p ∈ l, okEl s p) := ⟨fun hA h => q5 hA h⟩
instance {l : List PV} {s : Nat} : QN A (A.allC l s) (∀ p ∈ l, p.cells.length = s) := ⟨fun hA h => q6 hA h⟩
instance {l r : List PV} : QN A (A.cap l r) (l.length + r.length ≤ 1000000000) := ⟨fun hA h => q7 hA h⟩
instance {n : Nat} {p : PV} : QN A (A.len_le n p) (n ≤ p.cells.length) := ⟨fun hA h => q8 hA h⟩
instance {n : Nat} {p : PV} : QN A (A.len_eq p n) (p.cells.length = n) := ⟨fun hA h => q9 hA h⟩
instance {ag : Bool} {o s : Nat} {p q : PV} : QN A (A.peq ag o s p q) (partP ag o s p.cells = q) := ⟨fun hA h => q0 hA h⟩
instance {b : Bool} : QN A (b = true) (b = true) := ⟨fun _ h => h⟩
end

theorem qn {A : AR} {g h : Prop} [i : QN A g h] (hA : A = AR.std) (x : h) : g := i.q hA x

set_option linter.defProp false in
def sH := And.intro sA (And.intro sB (And.intro sC sD))

theorem oH {g : Prop} (h : g := by ((first | (with_reducible refine qn hA ?_) | exfalso); subst hA; subst_vars; simp only [AR.std, natCast_eq, sH, reduceCtorEq] at *; (try simp (disch := omega) only [AR.std, natCast_eq, sH, reduceCtorEq] at *); first | done | rfl | omega | exact ints_ok _ | exact ints_all _ | (apply ints_part <;> first | omega | rfl))) : g := h

theorem nH {g : Prop} (h : g := by (subst hA; subst_vars; simp only [AR.std, natCast_eq, sH, reduceCtorEq] at *; (try simp (disch := omega) only [AR.std, natCast_eq, sH, reduceCtorEq] at *); first | done | rfl)) : g := h

theorem tH {g : Prop} (h : g := by (subst hA; subst_vars; first | rfl | (simp (disch := omega) only [AR.std, natCast_eq, sH, reduceCtorEq]; rfl))) : g := h

end Go.Pe

/- Dyadic numbers as the reference makes, aligns and compares them. -/
namespace Go.Dg
open Go

theorem make_law {z e : Int} {k m : Nat} (h : z.natAbs = 2 ^ k * (2 * m + 1)) : (cZ (mk z e)).natAbs = 2 * m + 1 ∧ cE (mk z e) = e + k ∧ decide (cZ (mk z e) < 0) = decide (z < 0) := by
 have hk : (0 : Int) < 2 ^ k := Int.pow_pos (by decide)
 have hz : (z.natAbs : Int) = 2 ^ k * (2 * m + 1) := by rw [h, Int.natCast_mul, Int.natCast_pow]; rfl
 rcases Int.lt_or_le z 0 with hz0 | hz0
 ·have e1 : z = (-(2 * (m : Int) + 1)) * 2 ^ k := by
   have : z = -(z.natAbs : Int) := by omega
   rw [this, hz]; grind
  obtain ⟨c1, c2⟩ := canon_mk (e := e) (o := -(2 * (m : Int) + 1)) (by omega) e1
  refine ⟨by rw [c1]; omega, c2, ?_⟩
  rw [c1, decide_eq_true (by omega), decide_eq_true (by omega)]
 ·have e1 : z = (2 * (m : Int) + 1) * 2 ^ k := by
   have : z = (z.natAbs : Int) := by omega
   rw [this, hz]; grind
  obtain ⟨c1, c2⟩ := canon_mk (e := e) (o := 2 * (m : Int) + 1) (by omega) e1
  refine ⟨by rw [c1]; omega, c2, ?_⟩
  rw [c1, decide_eq_false (by omega), decide_eq_false (by omega)]

open Classical in
noncomputable def cmpD (a b : Dyadic) : Int := if a < b then -1 else if b < a then 1 else 0

end Go.Dg

/- Which lists, wholes and dyadic numbers are in form. -/
namespace Go.Dg
open Go

theorem trimL_length : ∀ (l : List Int), (trimL l).length ≤ l.length
 | [] => Nat.le_refl _
 | x :: r => by
  have := trimL_length r
  unfold trimL
  cases h : trimL r with
  | nil => by_cases hx : x = 0 <;> simp [hx]
  | cons y q => rw [h] at this; simp at this ⊢; omega

theorem dg_last {n : Nat} (h : 0 < (dg n).length) : 0 < (dg n).getD ((dg n).length - 1) 0 := by
 rcases Int.lt_or_le 0 ((dg n).getD ((dg n).length - 1) 0) with h1 | h1
 ·exact h1
 ·exfalso
  have h2 := ((valid_dg n).get ((dg n).length - 1)).1
  have h3 := trimL_take h (by omega)
  rw [trim_dg (valid_dg n), val_dg, Int.toNat_natCast] at h3
  have h4 := trimL_length ((dg n).take ((dg n).length - 1))
  rw [h3, List.length_take] at h4
  omega

def natOk (l : List Int) : Prop := l.length ≤ 100 ∧ Valid l ∧ (l.length = 0 ∨ 0 < l.getD (l.length - 1) 0)

theorem natOk_dg {l : List Int} : natOk l ↔ l.length ≤ 100 ∧ ∃ n, l = dg n := by
 constructor
 ·rintro ⟨h1, h2, h3⟩
  refine ⟨h1, (val l).toNat, ?_⟩
  rw [← trim_dg h2]
  rcases h3 with h | h
  ·exact (trimL_len0 h).symm
  ·rcases Nat.eq_zero_or_pos l.length with h0 | h0
   ·exact (trimL_len0 h0).symm
   ·exact (trimL_last h0 (by omega)).symm
 ·rintro ⟨h1, n, rfl⟩
  refine ⟨h1, valid_dg n, ?_⟩
  rcases Nat.eq_zero_or_pos (dg n).length with h0 | h0
  ·exact .inl h0
  ·exact .inr (dg_last h0)

def nokI (l : List Int) (i : Int) : Prop := 0 ≤ i ∧ i ≤ l.length ∧ Valid (l.take i.toNat)

theorem nokI_zero (l : List Int) : nokI l 0 := ⟨Int.le_refl _, by omega, by simpa using Valid.nil⟩

theorem nokI_next {l : List Int} {i : Int} (h : nokI l i) (hi : i < l.length) (h0 : 0 ≤ l.getD i.toNat 0) (h1 : l.getD i.toNat 0 < 65536) : nokI l (i + 1) := by
 obtain ⟨a, b, c⟩ := h
 refine ⟨by omega, by omega, ?_⟩
 rw [show (i + 1).toNat = i.toNat + 1 by omega, List.take_add_one]
 rw [List.getD, List.getElem?_eq_getElem (by omega)] at h0 h1
 rw [List.getElem?_eq_getElem (by omega)]
 exact c.append (Valid.one h0 h1)

theorem nokI_exit {l : List Int} {i : Int} (h : nokI l i) (hi : l.length ≤ i) : Valid l := by
 obtain ⟨a, b, c⟩ := h
 rwa [List.take_of_length_le (by omega)] at c

theorem cZ_le (z e : Int) : (cZ (mk z e)).natAbs ≤ z.natAbs := by
 by_cases h : z = 0
 ·rw [h, mk_zero, cZ_zero]; exact Nat.le_refl _
 ·obtain ⟨k, m, hk⟩ := two_odd (x := z.natAbs) (by omega)
  obtain ⟨h1, _⟩ := make_law (e := e) hk
  rw [h1, hk]
  exact Nat.le_mul_of_pos_left _ (Nat.two_pow_pos k)

end Go.Dg

/- Lists of dyadic numbers' cells. -/
namespace Go.Dg
open Go Go.Pe

abbrev Cell3 := Bool × List Int × Int

def cell3 (y : Cell3) : PV := .agg [.val (.bool y.1), .lst (intsL y.2.1), .val (.int .i64 y.2.2)]

def cells3 (ys : List Cell3) : List PV := ys.map cell3

def noY : Cell3 := (false, [], 0)

theorem cells3_len (ys : List Cell3) : (cells3 ys).length = ys.length := by simp [cells3]

theorem cells3_get {ys : List Cell3} {k : Nat} (h : k < ys.length) : (cells3 ys).getD k (.val (.bool false)) = cell3 (ys.getD k noY) := by
 simp [cells3, List.getD, h]

end Go.Dg

namespace Go.Pe
open Go

theorem closed_ints {p : List PV} {l : List Int} (hp : p = intsL l) (t s : Nat) : closedB (.row t s p) := by
 intro q hq c hc
 rw [hp] at hq
 obtain ⟨n, _, rfl⟩ := List.mem_map.1 hq
 simp only [PV.cells, List.mem_singleton] at hc
 rw [hc]; rfl

theorem FS_ofFN {P : Program} {gl : List (Nat × Obj)} {f : FuncId} {args : List PV} {R : List Blk → FV → Prop} {p : PV} (h : FN P gl f args R) (hR : ∀ own r, R own r → snapD own (List.range own.length) 8 r = some p) : FS P gl f args (· = p) := by
 refine ⟨h.1, fun w S vs hgl hS hargs => (h.2 w vs hgl (fun j hj => (hargs j hj).mono (fun _ _ => rfl) hS)).mono ?_⟩
 rintro e w' ⟨v, r, own', m', rfl, hr, hb, hos, hbn, hrr⟩
 refine ⟨v, p, rfl, rfl, hb, ?_⟩
 refine snapD_rep (own := own') (ds := List.range own'.length) (S := fun _ => False) (m := m') (fun i bl u hi hl hu => ?_) (fun b hf => hf.elim) (fun i b hi hl hm => .inr ⟨hbn i b hl hm, hos.lt i b hl hm⟩) 8 _ _ _ hrr (hR own' r hr)
 obtain ⟨u', hu', hok⟩ := hos.ok i bl hi hl
 rw [hu] at hu'
 rw [Option.some.inj hu']
 exact hok

end Go.Pe

/- Arguments that can be read as data are read by value; and they read again behind a call that turned nothing old. -/
namespace Go.Pe
open Go Go.ChangeShapes Go.WideShapes Go.Deep Go.RowKit

def isSt (P : Program) (t : TypeId) : Bool :=
 match P.underlying t with
 | some (.struct _) => true
 | _ => false

def mkEl (P : Program) (t : TypeId) (c : List PV) : PV := match isSt P t with
 | true => .agg c
 | false => c.headD (.val (.bool false))

def TypedF (R : TypeId → List PV → Prop) : List Field → List PV → Prop
 | [], ps => ps = []
 | f :: fs, ps => ∃ p q, R f.type p ∧ TypedF R fs q ∧ ps = p ++ q

def Typed (P : Program) : Nat → TypeId → List PV → Prop
 | 0, _, _ => False
 | n + 1, t, ps =>
  match P.underlying t with
  | some .bool => ∃ b, ps = [.val (.bool b)]
  | some (.int k) => ∃ m, ps = [.val (.int k m)] ∧ (Lit.int k m).wf = true
  | some (.slice e) => ∃ cl : List (List PV), ps = [.lst (cl.map (mkEl P e))] ∧ cl.length ≤ maxLen ∧ ∀ c ∈ cl, Typed P n e c
  | some (.struct fs) => TypedF (Typed P n) fs.toList ps
  | _ => False

def plainTy (P : Program) : Nat → TypeId → Bool
 | 0, _ => false
 | n + 1, t =>
  match P.underlying t with
  | some .bool => true
  | some (.int _) => true
  | some (.slice e) => decide (0 < P.cellsOf e) && plainTy P n e
  | some (.struct fs) => fs.toList.all fun f => plainTy P n f.type
  | _ => false

inductive RepL (w : World) (S : Nat → Prop) : List Value → List PV → Prop
 | nil : RepL w S [] []
 | cons {v p vs ps} : Rep w S v p → v.oneCell' = true → RepL w S vs ps → RepL w S (v :: vs) (p :: ps)

theorem RepL.len {w : World} {S : Nat → Prop} {vs : List Value} {ps : List PV} (h : RepL w S vs ps) : vs.length = ps.length := by
 induction h with
 | nil => rfl
 | cons _ _ _ ih => simp [ih]

theorem RepL.get {w : World} {S : Nat → Prop} {vs : List Value} {ps : List PV} (h : RepL w S vs ps) (d : Value) : ∀ j (hj : j < ps.length), Rep w S (vs.getD j d) ps[j] ∧ (vs.getD j d).oneCell' = true := by
 induction h with
 | nil => intro j hj; simp at hj
 | cons h1 h2 _ ih =>
  intro j hj
  cases j with
  | zero => exact ⟨h1, h2⟩
  | succ j => simpa using ih j (by simpa using hj)

theorem RepL.append {w : World} {S : Nat → Prop} {vs us : List Value} {ps qs : List PV} (h : RepL w S vs ps) (h' : RepL w S us qs) : RepL w S (vs ++ us) (ps ++ qs) := by
 induction h with
 | nil => exact h'
 | cons h1 h2 _ ih => exact .cons h1 h2 ih

theorem typed_cells {P : Program} {n : Nat} {t : TypeId} {c : List PV} (h : Typed P n t c) : (mkEl P t c).cells = c := by
 cases n with
 | zero => exact h.elim
 | succ n =>
  unfold Typed at h
  unfold mkEl isSt
  cases hu : P.underlying t with
  | none => rw [hu] at h; exact h.elim
  | some u =>
   rw [hu] at h
   cases u <;> first | exact h.elim | skip
   ·obtain ⟨b, rfl⟩ := h; rfl
   ·obtain ⟨b, rfl, _⟩ := h; rfl
   ·obtain ⟨b, rfl, _⟩ := h; rfl
   ·rfl

theorem range_mapM_get {α : Type} {f : Nat → Option α} {n : Nat} {l : List α} (h : (List.range n).mapM f = some l) : l.length = n ∧ ∀ j, j < n → f j = l[j]? := by
 have h1 := mapM_some_length h
 rw [List.length_range] at h1
 exact ⟨h1, fun j hj => mapM_some_get h j j (by simp [hj])⟩

section
variable {H : Type} {enc : TypeId × Value → H} {P : Program} {w : World} {base : Nat} {spare : Nat → Bool} {held : Bool} {T : TypeId → Prop}

theorem cells_at {a : Addr} {n : Nat} {cs : List Value} (h : w.cells? base a n = some cs) : cs.length = n ∧ ∀ j, j < n → w.cell? (a.add j) = some (cs.getD j (.bool false)) := by
 unfold World.cells? at h
 split at h
 ·obtain ⟨h1, h2⟩ := range_mapM_get h
  refine ⟨h1, fun j hj => ?_⟩
  rw [h2 j hj, List.getD, List.getElem?_eq_getElem (by omega)]
  rfl
 ·cases h

theorem cell_spot {a : Addr} {v : Value} (h : w.cell? a = some v) : a.spot = none ∧ a.block < w.heap.size := by
 unfold World.cell? at h
 split at h
 ·rename_i hb
  split at h
  ·cases h
  ·rename_i hs
   refine ⟨by cases hq : a.spot <;> simp_all, ?_⟩
   rcases Nat.lt_or_ge a.block w.heap.size with h1 | h1
   ·exact h1
   ·rw [Array.getElem?_eq_none h1] at hb; cases hb
 ·cases h

theorem fields_rep {m n : Nat} (ih : ∀ (t : TypeId) (cs : List Value) (x : DataW H × List MemPlace), T t → plainTy P m t = true → DataW.trod enc P w base spare held n t cs = some x →
   ∃ ps, Typed P m t ps ∧ RepL w (fun b => b < w.heap.size) cs ps) :
  ∀ (fs : List Field) (cs : List Value) (off : Nat), (∀ j f, fs[j]? = some f → f.offset = off + ((fs.take j).map fun f => P.cellsOf f.type).sum) → cs.length = off + (fs.map fun f => P.cellsOf f.type).sum →
   (∀ f ∈ fs, T f.type ∧ plainTy P m f.type = true ∧ ∃ y, DataW.trod enc P w base spare held n f.type ((cs.drop f.offset).take (P.cellsOf f.type)) = some y) →
   ∃ ps, TypedF (Typed P m) fs ps ∧ RepL w (fun b => b < w.heap.size) (cs.drop off) ps := by
 intro fs
 induction fs with
 | nil =>
  intro cs off _ hl _
  refine ⟨[], rfl, ?_⟩
  rw [List.drop_of_length_le (by simp at hl; omega)]
  exact .nil
 | cons f fs ihf =>
  intro cs off hoff hl hall
  obtain ⟨hT, hp, y, hy⟩ := hall f (by simp)
  have h0 : f.offset = off := by simpa using hoff 0 f rfl
  rw [h0] at hy
  obtain ⟨p, hp1, hp2⟩ := ih _ _ _ hT hp hy
  obtain ⟨q, hq1, hq2⟩ := ihf cs (off + P.cellsOf f.type) (fun j g hg => by
   have := hoff (j + 1) g (by simpa using hg)
   rw [this]
   simp only [List.take_succ_cons, List.map_cons, List.sum_cons]
   omega) (by simp only [List.map_cons, List.sum_cons] at hl; omega) (fun g hg => hall g (List.mem_cons_of_mem _ hg))
  refine ⟨p ++ q, ⟨p, q, hp1, hq1, rfl⟩, ?_⟩
  have := hp2.append hq2
  rwa [← List.drop_drop, List.take_append_drop] at this

theorem rep_of_trod (K : Kids P T) : ∀ (m n : Nat) (t : TypeId) (cs : List Value) (x : DataW H × List MemPlace), T t → plainTy P m t = true → DataW.trod enc P w base spare held n t cs = some x →
  ∃ ps, Typed P m t ps ∧ RepL w (fun b => b < w.heap.size) cs ps := by
 intro m
 induction m with
 | zero => intro n t cs x _ hp; simp [plainTy] at hp
 | succ m ih =>
  intro n t cs x hT hp h
  unfold plainTy at hp
  cases hu : P.underlying t with
  | none => rw [hu] at hp; cases hp
  | some u =>
   rw [hu] at hp
   cases u <;> first | cases hp; done | skip
   case bool =>
    obtain ⟨b, rfl, _⟩ := DataW.trod_bool hu h
    exact ⟨[.val (.bool b)], by unfold Typed; rw [hu]; exact ⟨b, rfl⟩, .cons (.val _ rfl) rfl .nil⟩
   case int k =>
    obtain ⟨z, rfl, _, hw⟩ := DataW.trod_int hu h
    exact ⟨[.val (.int k z)], by unfold Typed; rw [hu]; exact ⟨z, rfl, hw⟩, .cons (.val _ rfl) rfl .nil⟩
   case slice e =>
    rw [Bool.and_eq_true, decide_eq_true_eq] at hp
    have hTe : T e := K.slice hT hu
    rcases open_slice hu h with ⟨rfl, _⟩ | ⟨a, len, cap, m', n', D, Pl, rfl, _, hlc, hcm, hm', _, hel⟩
    ·exact ⟨[.lst []], by unfold Typed; rw [hu]; exact ⟨[], rfl, Nat.zero_le _, by simp⟩, .cons (.nil _ _) rfl .nil⟩
    ·rcases Nat.eq_zero_or_pos len with rfl | hpos
     ·exact ⟨[.lst []], by unfold Typed; rw [hu]; exact ⟨[], rfl, Nat.zero_le _, by simp⟩, .cons (.nil _ _) rfl .nil⟩
     have hlm : len ≤ m' := by rw [hm']; split <;> omega
     have hex : ∀ i, i < len → ∃ z : List Value × List PV, w.cells? base (a.add (i * P.cellsOf e)) (P.cellsOf e) = some z.1 ∧ Typed P m e z.2 ∧ RepL w (fun b => b < w.heap.size) z.1 z.2 := by
      intro i hi
      obtain ⟨cs', h1, h2⟩ := hel i (by omega)
      obtain ⟨ps, h3, h4⟩ := ih _ _ _ _ hTe hp.2 h2
      exact ⟨(cs', ps), h1, h3, h4⟩
     obtain ⟨Z, hZ⟩ := choose_lt hex
     have hs0 : a.spot = none ∧ a.block < w.heap.size := by
      have h1 := (cells_at (hZ 0 hpos).1).2 0 hp.1
      simp only [Nat.zero_mul, Addr.add, if_true] at h1
      exact cell_spot h1
     obtain ⟨b, o, sp⟩ := a
     simp only at hs0
     obtain ⟨rfl, hb⟩ := hs0
     have hadd : ∀ i, (⟨b, o, none⟩ : Addr).add i = ⟨b, o + i, none⟩ := by
      intro i
      unfold Addr.add
      by_cases hi : i = 0 <;> simp [hi]
     have hcl : ((List.range len).map fun i => (Z i).2).length = len := by simp
     have hge : ∀ i, i < len → (((List.range len).map fun i => (Z i).2).map (mkEl P e)).getD i (.lst []) = mkEl P e (Z i).2 := by
      intro i hi; simp [List.getD, hi]
     have hgg : ∀ i (hi : i < (((List.range len).map fun i => (Z i).2).map (mkEl P e)).length), (((List.range len).map fun i => (Z i).2).map (mkEl P e))[i] = mkEl P e (Z i).2 := by
      intro i hi; simp
     have hL : (((List.range len).map fun i => (Z i).2).map (mkEl P e)).length = len := by simp
     refine ⟨[.lst (((List.range len).map fun i => (Z i).2).map (mkEl P e))], ?_, .cons ?_ rfl .nil⟩
     ·unfold Typed; rw [hu]
      refine ⟨_, rfl, by omega, ?_⟩
      intro c hc
      obtain ⟨i, hi, rfl⟩ := List.mem_map.1 hc
      exact (hZ i (List.mem_range.1 hi)).2.1
     ·have hin : ∀ k j, k < len → j < (Z k).2.length → Rep w (fun b => b < w.heap.size) ((Z k).1.getD j (.bool false)) ((Z k).2.getD j (.lst [])) := by
       intro k j hk hj
       have := ((hZ k hk).2.2.get (.bool false) j hj).1
       simpa [List.getD, hj] using this
      have hR := Rep.lst (w := w) (S := fun b => b < w.heap.size) b o cap (P.cellsOf e) (((List.range len).map fun i => (Z i).2).map (mkEl P e)) (fun k j => if k < len ∧ j < P.cellsOf e then (Z k).1.getD j (.bool false) else .bool false) hb (by omega)
       (fun k hk => by
        rw [hgg, typed_cells (hZ k (by omega)).2.1, ← (hZ k (by omega)).2.2.len]
        exact (cells_at (hZ k (by omega)).1).1)
       (fun k j hk hj => by
        have h1 := (cells_at (hZ k (by omega)).1).2 j hj
        rw [hadd] at h1
        rw [show (⟨b, o + k * P.cellsOf e, none⟩ : Addr).add j = ⟨b, o + k * P.cellsOf e + j, none⟩ by unfold Addr.add; by_cases hi : j = 0 <;> simp [hi]] at h1
        rw [h1, if_pos ⟨by omega, hj⟩])
       (fun k j => by
        split
        ·rename_i hkj
         have h0 := (cells_at (hZ k hkj.1).1).1
         have h1 := (hZ k hkj.1).2.2
         exact (h1.get (.bool false) j (by rw [← h1.len]; omega)).2
        ·rfl)
       (fun k hk j hj => by
        have hk' : k < len := by omega
        simp only [hgg, typed_cells (hZ k hk').2.1] at hj ⊢
        have h0 := (cells_at (hZ k hk').1).1
        have h1 := (hZ k hk').2.2
        rw [if_pos ⟨hk', by have := h1.len; omega⟩]
        exact (h1.get (.bool false) j hj).1)
      rwa [hL] at hR
   case struct fs =>
    obtain ⟨xs, n', rfl, _, hlen, hxl, hf⟩ := DataW.trod_struct hu h
    obtain ⟨hk1, hk2, hk3⟩ := K.struct hT hu
    obtain ⟨ps, hp1, hp2⟩ := fields_rep (ih n') fs.toList cs 0 (fun j f hj => by rw [Nat.zero_add]; exact hk3 j f hj) (by rw [hlen, hk2, Nat.zero_add]) (fun f hfm => by
     refine ⟨hk1 f hfm, List.all_eq_true.1 hp f hfm, ?_⟩
     obtain ⟨i, hi, he⟩ := List.getElem_of_mem hfm
     have h1 := hf i f (by rw [← he]; simp [Array.getElem?_eq_getElem (by simpa using hi)])
     rw [h1, List.getElem?_eq_getElem (by simp at hi; omega)]
     exact ⟨_, rfl⟩)
    rw [List.drop_zero] at hp2
    exact ⟨ps, by unfold Typed; rw [hu]; exact hp1, hp2⟩

theorem rep_arg (K : Kids P T) {m : Nat} {t : TypeId} {v : Value} {d : DataW H} {pl : List MemPlace} {r : Reach} {b0 : Nat} (hT : T t) (hp : plainTy P m t = true) (hval : Value.okWide P w r b0 t v)
  (h : DataW.Trod enc P w base spare held t v d pl) : ∃ c, Typed P m t c ∧ Rep w (fun b => b < w.heap.size) v (mkEl P t c) := by
 obtain ⟨fuel, h⟩ := h
 obtain ⟨ps, h1, h2⟩ := rep_of_trod K m _ t _ _ hT hp h
 refine ⟨ps, h1, ?_⟩
 cases m with
 | zero => simp [plainTy] at hp
 | succ m =>
 unfold plainTy at hp
 unfold Value.okWide at hval
 cases hu : P.underlying t with
 | none => rw [hu] at hp; cases hp
 | some u =>
  rw [hu] at hp hval
  have one : ∀ {u : Value} {p : PV}, v.cells.toList = [u] → v = u → ps = [p] → Rep w (fun b => b < w.heap.size) v p := by
   intro u p e1 e2 e3
   rw [e1, e3] at h2
   cases h2 with | cons a _ _ => rw [e2]; exact a
  cases u <;> first | cases hp; done | skip
  case bool =>
   obtain ⟨b, e, _⟩ := DataW.trod_bool hu h
   unfold Typed at h1; rw [hu] at h1
   obtain ⟨b', rfl⟩ := h1
   simp only [Cell.okWide, Cell.ok, hu] at hval
   unfold mkEl isSt; rw [hu]
   cases v <;> first | exact hval.elim | skip
   exact one rfl rfl rfl
  case int k =>
   obtain ⟨b, e, _⟩ := DataW.trod_int hu h
   unfold Typed at h1; rw [hu] at h1
   obtain ⟨b', rfl, _⟩ := h1
   simp only [Cell.okWide, Cell.ok, hu] at hval
   unfold mkEl isSt; rw [hu]
   cases v <;> first | exact hval.elim | skip
   exact one rfl rfl rfl
  case slice el =>
   unfold Typed at h1; rw [hu] at h1
   obtain ⟨b', rfl, _⟩ := h1
   simp only [Cell.okWide, Cell.ok, hu] at hval
   unfold mkEl isSt; rw [hu]
   cases v <;> first | exact hval.elim | skip
   exact one rfl rfl rfl
  case struct fs =>
   obtain ⟨cs, rfl, _⟩ := hval
   unfold mkEl isSt; rw [hu]
   have hl := h2.len
   have e : (Value.agg cs) = .agg (vrange ps.length fun j => cs.toList.getD j (.bool false)).toArray := by
    congr 1
    apply Array.ext'
    simp only [vrange]
    apply List.ext_getElem?
    intro i
    have hl' : cs.toList.length = ps.length := hl
    by_cases hi : i < ps.length
    ·have hi2 : i < cs.toList.length := by omega
     simp [hi, List.getD]
     simp at hi2
     rw [Array.getElem?_eq_getElem hi2]
     simp
    ·simp [hi]
     simp at hl'
     omega
   rw [e]
   exact .agg ps _ (fun j => by
    rcases Nat.lt_or_ge j ps.length with hj | hj
    ·exact (h2.get (.bool false) j hj).2
    ·have hl' : cs.toList.length = ps.length := hl
     rw [List.getD, List.getElem?_eq_none (by omega)]; rfl) (fun j hj => (h2.get (.bool false) j hj).1)

theorem trodAll_carry {w' : World} : ∀ {ts : List TypeId} {vs : List Value} {ds : List (DataW H)} {ps : List MemPlace}, DataW.TrodAll enc P w base spare held ts vs ds ps → (∀ p ∈ ps, w.sameAt w' p) → DataW.TrodAll enc P w' base spare held ts vs ds ps
 | [], [], [], _, h, _ => h
 | _ :: _, _ :: _, _ :: _, _, ⟨p, q, ⟨n, h1⟩, h2, e⟩, hs => ⟨p, q, ⟨n, DataW.trod_carry n _ _ _ h1 (fun x hx => hs x (by rw [e]; exact List.mem_append_left _ hx))⟩, trodAll_carry h2 (fun x hx => hs x (by rw [e]; exact List.mem_append_right _ hx)), e⟩

theorem same_below {w w' : World} (hb : Below w.heap.size w w') {p : MemPlace} (hp : p.block < w.heap.size) : w.sameAt w' p := by
 have := hb.block _ hp
 cases p with
 | cell b o =>
  show _ = _
  unfold World.cell?
  simp only [MemPlace.block] at this
  simp only [this]
 | map b => exact this

theorem args_again (K : Kids P T) (hz : ∀ t e, T t → P.underlying t = some (.slice e) → 0 < P.cellsOf e) {w' : World} {ts : List TypeId} {vs : List Value} {ds : List (DataW H)} {ps : List MemPlace} (hts : ∀ t ∈ ts, T t)
  (h : DataW.TrodAll enc P w base (fun _ => true) true ts vs ds ps) (hb : Below w.heap.size w w') : DataW.TrodAll enc P w' base (fun b => decide (b < w.heap.size)) true ts vs ds ps :=
 trodAll_carry (DataW.TrodAll.respare K hz hts h (fun p hp => by simpa using h.lt p hp)) (fun p hp => same_below hb (h.lt p hp))

end

theorem vrange_getD (l : List Value) (d : Value) : vrange l.length (fun j => l.getD j d) = l := by
 apply List.ext_getElem?
 intro i
 by_cases hi : i < l.length <;> simp [vrange, hi, List.getD]

theorem law_calls {P : Program} {gl : List (Nat × Obj)} {f : FuncId} {args : List PV} {vs : Array Value} (h : FS P gl f args (· = .val (.bool true))) (w : World) (hgl : Glob gl w) (hl : vs.size = args.length)
  (ha : ∀ j (hj : j < args.length), Rep w (fun b => b < w.heap.size) (vs.toList.getD j (.bool false)) args[j]) :
  Calls P f vs w fun e w' => e = .returned (.bool true) ∧ Below w.heap.size w w' := by
 have h1 := h.2 w (fun b => b < w.heap.size) (fun j => vs.toList.getD j (.bool false)) hgl (fun _ hb => hb) ha
 rw [← hl, show vs.size = vs.toList.length from rfl, vrange_getD, Array.toArray_toList] at h1
 refine Calls.mono h1 ?_
 rintro e w' ⟨v, r, rfl, rfl, hb, hr⟩
 refine ⟨?_, hb⟩
 cases hr
 rfl

/-! the shapes that data have, type by type -/

end Go.Pe

/- Long division: plain laws. -/
namespace Go.Dg
open Go

theorem pow_cast (n : Nat) : ((65536 ^ n : Nat) : Int) = 65536 ^ n := by rw [Int.natCast_pow]; rfl
theorem lt_pow_of {X la : Nat} (hla : la = (dg X).length) : X < 65536 ^ la := by
 have h := val_lt_pow (valid_dg X)
 rw [val_dg, ← hla, ← pow_cast] at h
 exact Int.ofNat_lt.1 h

end Go.Dg

/- Plain laws: rounding. -/
namespace Go.Dg
open Go Go.Pe

def rup (s o : Bool) (h m : Int) : Bool :=
 if m = 2 then !s else if m = 3 then s else if m = 0 then decide (0 < h) || (decide (h = 0) && o) else if m = 4 then decide (0 ≤ h) else false

def rq (s : Bool) (x y : Nat) (m : Int) : Nat :=
 if x % y = 0 then x / y else if rup s (decide (x / y % 2 = 1)) (cmpN (x % y * 2) y) m = true then x / y + 1 else x / y

theorem rq_exact {s : Bool} {x y : Nat} {m : Int} (h : x % y = 0) : rq s x y m = x / y := by unfold rq; rw [if_pos h]
theorem rq_up {s : Bool} {x y : Nat} {m : Int} (h : x % y ≠ 0) (hr : rup s (decide (x / y % 2 = 1)) (cmpN (x % y * 2) y) m = true) : rq s x y m = x / y + 1 := by unfold rq; rw [if_neg h, if_pos hr]
theorem rq_down {s : Bool} {x y : Nat} {m : Int} (h : x % y ≠ 0) (hr : rup s (decide (x / y % 2 = 1)) (cmpN (x % y * 2) y) m = false) : rq s x y m = x / y := by unfold rq; rw [if_neg h, if_neg (by rw [hr]; decide)]
theorem rq_le (s : Bool) (x y : Nat) (m : Int) : rq s x y m ≤ x / y + 1 := by unfold rq; split <;> (try split) <;> omega

def zover (a b k m : Int) : Int :=
 if (decide (a < 0) != decide (b < 0)) = true then -((rq true (a.natAbs * 2 ^ k.toNat) (b.natAbs * 2 ^ (-k).toNat) m : Nat) : Int) else ((rq false (a.natAbs * 2 ^ k.toNat) (b.natAbs * 2 ^ (-k).toNat) m : Nat) : Int)

end Go.Dg

/- Plain laws: a number rounded; a quotient through two more bits. -/
namespace Go.Dg
open Go Go.Pe

theorem odd_ex : ∀ n : Nat, n ≠ 0 → ∃ t m, n = 2 ^ t * (2 * m + 1) := by
 intro n
 induction n using Nat.strongRecOn with
 | _ n ih =>
  intro hn
  rcases Nat.mod_two_eq_zero_or_one n with h | h
  ·obtain ⟨t, m, e⟩ := ih (n / 2) (by omega) (by omega)
   exact ⟨t + 1, m, by rw [Nat.pow_succ, Nat.mul_right_comm, ← e]; omega⟩
  ·exact ⟨0, n / 2, by omega⟩

noncomputable def roundD (d : Dyadic) (low m : Int) : Dyadic := open Classical in if d = 0 ∨ low ≤ cE d then d else mk (zover (cZ d) 1 (cE d - low) m) low

theorem roundD_same {d : Dyadic} {low m : Int} (h : d = 0 ∨ low ≤ cE d) : roundD d low m = d := by unfold roundD; rw [if_pos h]
theorem roundD_else {d : Dyadic} {low m : Int} (h : ¬ (d = 0 ∨ low ≤ cE d)) : roundD d low m = mk (zover (cZ d) 1 (cE d - low) m) low := by unfold roundD; rw [if_neg h]

theorem cE_bound {z e : Int} (hz : z ≠ 0) : e ≤ cE (mk z e) ∧ cE (mk z e) ≤ e + 16 * (dg z.natAbs).length := by
 obtain ⟨t, n, ht⟩ := odd_ex z.natAbs (by omega)
 obtain ⟨_, h2, _⟩ := make_law (e := e) ht
 have h3 : 2 ^ t < 2 ^ (16 * (dg z.natAbs).length) := by
  have h4 := lt_pow_of (X := z.natAbs) rfl
  rw [Nat.pow_mul]
  refine Nat.lt_of_le_of_lt ?_ h4
  have : 2 ^ t ≤ 2 ^ t * (2 * n + 1) := Nat.le_mul_of_pos_right _ (by omega)
  rw [← ht] at this; exact this
 have h5 : t < 16 * (dg z.natAbs).length := (Nat.pow_lt_pow_iff_right (by decide)).1 h3
 rw [h2]; omega

end Go.Dg

/- Lists of dyadic numbers' cells: rules for a walk, sizes, marks. -/
namespace Go.Pe
open Go Go.Dg

theorem c3len (ys : List Cell3) : (cells3 ys).length = ys.length := cells3_len ys
theorem c3set (ys : List Cell3) (k : Nat) (y : Cell3) : (cells3 ys).set k (cell3 y) = cells3 (ys.set k y) := by simp [cells3, List.map_set]
theorem c3app (ys zs : List Cell3) : cells3 ys ++ cells3 zs = cells3 (ys ++ zs) := by simp [cells3]
theorem c3one (y : Cell3) : [cell3 y] = cells3 [y] := rfl
theorem c3rep (n : Nat) (y : Cell3) : List.replicate n (cell3 y) = cells3 (List.replicate n y) := by simp [cells3]
theorem c3nil : cells3 [] = [] := rfl
theorem c3getB (y : Cell3) : getB (cell3 y) 0 = y.1 := rfl
theorem c3getL (y : Cell3) : getL (cell3 y) 1 = intsL y.2.1 := rfl
theorem c3getI (y : Cell3) : getI (cell3 y) 2 = y.2.2 := rfl
theorem c3clen (y : Cell3) : (cell3 y).cells.length = 3 := rfl
theorem c3cells (y : Cell3) : (cell3 y).cells = [.val (.bool y.1), .lst (intsL y.2.1), .val (.int .i64 y.2.2)] := rfl
theorem c3at0 (y : Cell3) : cellAt (cell3 y) 0 = .val (.bool y.1) := rfl
theorem c3at1 (y : Cell3) : cellAt (cell3 y) 1 = .lst (intsL y.2.1) := rfl
theorem c3at2 (y : Cell3) : cellAt (cell3 y) 2 = .val (.int .i64 y.2.2) := rfl
theorem c3p (y : Cell3) : partP true 0 3 (cell3 y).cells = .agg [.val (.bool y.1), .lst (intsL y.2.1), .val (.int .i64 y.2.2)] := rfl
theorem c3p0 (y : Cell3) : partP false 0 1 (cell3 y).cells = .val (.bool y.1) := rfl
theorem c3p1 (y : Cell3) : partP false 1 1 (cell3 y).cells = .lst (intsL y.2.1) := rfl
theorem c3p2 (y : Cell3) : partP false 2 1 (cell3 y).cells = .val (.int .i64 y.2.2) := rfl
theorem c3el {ys : List Cell3} {k : Nat} (h : k < ys.length) : (cells3 ys).getD k D0 = cell3 (ys.getD k noY) := cells3_get h
theorem c3eta (y : Cell3) : PV.agg [.val (.bool y.1), .lst (intsL y.2.1), .val (.int .i64 y.2.2)] = cell3 y := rfl
theorem c3s0 (y : Cell3) (b : Bool) : setCells (cell3 y) 0 [.val (.bool b)] = cell3 (b, y.2) := rfl
theorem c3s1 (y : Cell3) (l : List Int) : setCells (cell3 y) 1 [.lst (intsL l)] = cell3 (y.1, l, y.2.2) := rfl
theorem c3s2 (y : Cell3) (e : Int) : setCells (cell3 y) 2 [.val (.int .i64 e)] = cell3 (y.1, y.2.1, e) := rfl

def rowY (y : Nat → Nat → Cell3) (i j : Nat) : List Cell3 := (List.range j).map (y i)
def rowsY (y : Nat → Nat → Cell3) (n i : Nat) : List Cell3 := (List.range i).flatMap fun a => rowY y a n

theorem rowY_len (y : Nat → Nat → Cell3) (i j : Nat) : (rowY y i j).length = j := by simp [rowY]
theorem rowY_succ (y : Nat → Nat → Cell3) (i j : Nat) : rowY y i (j + 1) = rowY y i j ++ [y i j] := by simp [rowY, List.range_succ]
theorem rowsY_succ (y : Nat → Nat → Cell3) (n i : Nat) : rowsY y n (i + 1) = rowsY y n i ++ rowY y i n := by simp [rowsY, List.range_succ]
theorem rowsY_len (y : Nat → Nat → Cell3) (n : Nat) : ∀ i, (rowsY y n i).length = i * n
 | 0 => by simp [rowsY]
 | i + 1 => by rw [rowsY_succ, List.length_append, rowsY_len y n i, rowY_len, Nat.add_mul, Nat.one_mul]

end Go.Pe

/- Numbers in a form that is not canonical: what they stand for, bounds of their cells. -/
namespace Go.Pe
open Go Go.Dg

def X (d : Dyadic) (L E : Nat) (y : Cell3) : Prop := ∃ z : Int, y.1 = decide (z < 0) ∧ y.2.1 = dg z.natAbs ∧ d = mk z y.2.2 ∧ (dg z.natAbs).length ≤ L ∧ y.2.2.natAbs ≤ E

noncomputable def canY (d : Dyadic) : Cell3 := (decide (cZ d < 0), dg (cZ d).natAbs, cE d)

theorem X.mono {d : Dyadic} {L E L' E' : Nat} {y : Cell3} (h : X d L E y) (hL : L ≤ L') (hE : E ≤ E') : X d L' E' y := by
 obtain ⟨z, h1, h2, h3, h4, h5⟩ := h
 exact ⟨z, h1, h2, h3, by omega, by omega⟩

def XL (dd : Nat → Dyadic) (L E : Nat) (ys : List Cell3) : Prop := ∀ k, k < ys.length → X (dd k) L E (ys.getD k noY)

theorem XL.mono {dd : Nat → Dyadic} {L E L' E' : Nat} {ys : List Cell3} (h : XL dd L E ys) (hL : L ≤ L') (hE : E ≤ E') : XL dd L' E' ys := fun k hk => (h k hk).mono hL hE

theorem places {n : Nat} {Q : Nat → Nat → Cell3 → Prop} (h : ∀ i j, i < n → j < n → ∃ c, Q i j c) : ∃ Y : Nat → Nat → Cell3, ∀ i j, i < n → j < n → Q i j (Y i j) := by
 classical
 refine ⟨fun i j => if hc : i < n ∧ j < n then Classical.choose (h i j hc.1 hc.2) else noY, fun i j hi hj => ?_⟩
 simp only [dif_pos (And.intro hi hj)]
 exact Classical.choose_spec (h i j hi hj)

def XW (L : Nat) (ys : List Cell3) : Prop := ∀ k, k < ys.length → ∃ z : Int, (ys.getD k noY).1 = decide (z < 0) ∧ (ys.getD k noY).2.1 = dg z.natAbs ∧ (dg z.natAbs).length ≤ L

theorem XL.w {dd : Nat → Dyadic} {L E : Nat} {ys : List Cell3} (h : XL dd L E ys) : XW L ys := fun k hk => by
 obtain ⟨z, h1, h2, _, h4, _⟩ := h k hk
 exact ⟨z, h1, h2, h4⟩

noncomputable def canL (dd : Nat → Dyadic) (n : Nat) : List Cell3 := (List.range n).map fun k => canY (dd k)

theorem canL_len (dd : Nat → Dyadic) (n : Nat) : (canL dd n).length = n := by simp [canL]
theorem canL_succ (dd : Nat → Dyadic) (n : Nat) : canL dd (n + 1) = canL dd n ++ [canY (dd n)] := by simp [canL, List.range_succ]
theorem canL_get {dd : Nat → Dyadic} {n k : Nat} (h : k < n) : (canL dd n).getD k noY = canY (dd k) := by simp [canL, List.getD, h]

def psum (f : Nat → Dyadic) : Nat → Dyadic
 | 0 => 0
 | k + 1 => psum f k + f k

theorem FX.mono {P : Program} {gl : List (Nat × Obj)} {f : FuncId} {own : List Blk} {args : List FV} {R R' : List Blk → FV → Prop} (h : FX P gl f own args R) (hR : ∀ o r, R o r → R' o r) : FX P gl f own args R' :=
 ⟨h.1, fun w S m vs h1 h2 h3 h4 h5 => (h.2 w S m vs h1 h2 h3 h4 h5).mono (by
  rintro e w' ⟨v, r, own', m', g1, g2, g3⟩
  exact ⟨v, r, own', m', g1, hR _ _ g2, g3⟩)⟩

end Go.Pe

/- Lists of dyadic numbers among a row's arguments. -/
namespace Go.Pe
open Go Go.Dg Go.RowKit

end Go.Pe

/- Sharper bounds of sums, sums of products. -/
namespace Go.Pe
open Go Go.Dg

theorem place {n k : Nat} (h : k < n * n) : k / n < n ∧ k % n < n ∧ k = k / n * n + k % n := by
 have hn : 0 < n := by
  rcases Nat.eq_zero_or_pos n with h0 | h0
  ·subst h0; simp at h
  ·exact h0
 exact ⟨(Nat.div_lt_iff_lt_mul hn).2 h, Nat.mod_lt _ hn, by rw [Nat.mul_comm]; exact (Nat.div_add_mod k n).symm⟩

theorem place_lt {n i j : Nat} (hi : i < n) (hj : j < n) : i * n + j < n * n := by
 have := Nat.mul_le_mul_right n (show i + 1 ≤ n from hi)
 rw [Nat.add_mul, Nat.one_mul] at this
 omega

noncomputable def partL (dd : Nat → Dyadic) (N m : Nat) : List Cell3 := canL dd m ++ List.replicate (N - m) noY

theorem partL_len {dd : Nat → Dyadic} {N m : Nat} (h : m ≤ N) : (partL dd N m).length = N := by
 rw [partL, List.length_append, canL_len, List.length_replicate]; omega
theorem partL_zero (dd : Nat → Dyadic) (N : Nat) : partL dd N 0 = List.replicate N noY := by simp [partL, canL]
theorem partL_all (dd : Nat → Dyadic) (N : Nat) : partL dd N N = canL dd N := by simp [partL]
theorem partL_set {dd : Nat → Dyadic} {N m : Nat} (h : m < N) : (partL dd N m).set m (canY (dd m)) = partL dd N (m + 1) := by
 rw [partL, partL, canL_succ, List.append_assoc, List.set_append_right _ _ (by rw [canL_len]; exact Nat.le_refl _), canL_len, Nat.sub_self, show N - m = (N - (m + 1)) + 1 by omega, List.replicate_succ]
 rfl

end Go.Pe

/- Sizes of numbers, the greatest of some numbers. -/
namespace Go.Pe
open Go Go.Dg

open Classical in
noncomputable def absD (d : Dyadic) : Dyadic := if d < 0 then -d else d

noncomputable def maxD (a b : Dyadic) : Dyadic := if cmpD a b < 0 then b else a

noncomputable def pmax (f : Nat → Dyadic) : Nat → Dyadic
 | 0 => 0
 | k + 1 => maxD (pmax f k) (f k)

noncomputable def colD (m : Nat) (d : Nat → Dyadic) (j : Nat) : Dyadic := psum (fun i => absD (d (i * m + j))) m

noncomputable def normD (m : Nat) (d : Nat → Dyadic) : Dyadic := pmax (colD m d) m

end Go.Pe

/- The sum of a diagonal. -/
namespace Go.Pe
open Go Go.Dg

end Go.Pe

/- How great a number is and how fine: bounds that sums and products keep sharp. -/
namespace Go.Pe
open Go Go.Dg

def Mg (a b : Nat) (d : Dyadic) : Prop := ∃ z : Int, d = mk z (-(a : Int)) ∧ z.natAbs < 2 ^ (a + b)

theorem Mg_zero {a b : Nat} : Mg a b 0 := ⟨0, (mk_zero _).symm, Nat.two_pow_pos _⟩

theorem mk_shl (z e : Int) (k : Nat) : mk z e = mk (z * 2 ^ k) (e - k) := (mk_shift z e k).symm

theorem Mg.mono {a b a' b' : Nat} {d : Dyadic} (h : Mg a b d) (ha : a ≤ a') (hb : b ≤ b') : Mg a' b' d := by
 obtain ⟨z, h1, h2⟩ := h
 refine ⟨z * 2 ^ (a' - a), ?_, ?_⟩
 ·rw [h1, mk_shl z _ (a' - a)]; congr 1; omega
 ·rw [Int.natAbs_mul, Int.natAbs_pow]
  show z.natAbs * 2 ^ (a' - a) < _
  have : 2 ^ (a + b) * 2 ^ (a' - a) ≤ 2 ^ (a' + b') := by rw [← Nat.pow_add]; exact Nat.pow_le_pow_right (by decide) (by omega)
  exact Nat.lt_of_lt_of_le (Nat.mul_lt_mul_of_pos_right h2 (Nat.two_pow_pos _)) this

theorem Mg.add {a b : Nat} {d e : Dyadic} (h : Mg a b d) (g : Mg a b e) : Mg a (b + 1) (d + e) := by
 obtain ⟨z, h1, h2⟩ := h
 obtain ⟨y, g1, g2⟩ := g
 refine ⟨z + y, by rw [h1, g1, mk_add], ?_⟩
 have := Int.natAbs_add_le z y
 rw [← Nat.add_assoc, Nat.pow_succ]
 omega

theorem Mg.mul {a b a' b' : Nat} {d e : Dyadic} (h : Mg a b d) (g : Mg a' b' e) : Mg (a + a') (b + b') (d * e) := by
 obtain ⟨z, h1, h2⟩ := h
 obtain ⟨y, g1, g2⟩ := g
 refine ⟨z * y, by rw [h1, g1, mk_mul]; congr 1; omega, ?_⟩
 rw [Int.natAbs_mul, show a + a' + (b + b') = a + b + (a' + b') by omega, Nat.pow_add]
 exact Nat.mul_lt_mul'' h2 g2

theorem Mg.neg {a b : Nat} {d : Dyadic} (h : Mg a b d) : Mg a b (-d) := by
 obtain ⟨z, h1, h2⟩ := h
 exact ⟨-z, by rw [h1, mk_neg], by rw [Int.natAbs_neg]; exact h2⟩

theorem Mg.psum {f : Nat → Dyadic} {a b n : Nat} (h : ∀ k, k < n → Mg a b (f k)) : ∀ k, k ≤ n → Mg a (b + k) (psum f k)
 | 0, _ => Mg_zero
 | k + 1, hk => ((Mg.psum h k (by omega)).add ((h k (by omega)).mono (Nat.le_refl _) (by omega))).mono (Nat.le_refl _) (by omega)

theorem Mg_len {a b : Nat} {d : Dyadic} (h : Mg a b d) : (dg (cZ d).natAbs).length ≤ (a + b) / 16 + 1 := by
 obtain ⟨z, h1, h2⟩ := h
 refine dg_len_le _ _ ?_
 have h3 : (cZ d).natAbs ≤ z.natAbs := by rw [h1]; exact cZ_le z _
 have h4 : 2 ^ (a + b) ≤ 65536 ^ ((a + b) / 16 + 1) := by
  rw [show (65536 : Nat) = 2 ^ 16 from rfl, ← Nat.pow_mul]
  exact Nat.pow_le_pow_right (by decide) (by omega)
 omega

theorem Mg_cE {a b : Nat} {d : Dyadic} (h : Mg a b d) : -(a : Int) ≤ cE d ∨ cE d = 0 := by
 obtain ⟨z, h1, h2⟩ := h
 by_cases hz : z = 0
 ·right; rw [h1, hz, mk_zero]; rfl
 ·left
  have := (cE_bound (e := -(a : Int)) hz).1
  rw [← h1] at this
  exact this

theorem Mg_cE2 {a b : Nat} {d : Dyadic} (h : Mg a b d) : cE d ≤ b := by
 obtain ⟨z, h1, h2⟩ := h
 by_cases hz : z = 0
 ·rw [h1, hz, mk_zero]; exact Int.natCast_nonneg _
 ·obtain ⟨t, n, ht⟩ := odd_ex z.natAbs (by omega)
  obtain ⟨_, g2, _⟩ := make_law (e := -(a : Int)) ht
  have h4 : 2 ^ t < 2 ^ (a + b) := by
   refine Nat.lt_of_le_of_lt ?_ h2
   have : 2 ^ t ≤ 2 ^ t * (2 * n + 1) := Nat.le_mul_of_pos_right _ (by omega)
   rw [← ht] at this; exact this
  have h5 : t < a + b := (Nat.pow_lt_pow_iff_right (by decide)).1 h4
  rw [h1, g2]
  omega

def CL (a b : Nat) (dd : Nat → Dyadic) (ys : List Cell3) : Prop := ∀ k, k < ys.length → ys.getD k noY = canY (dd k) ∧ Mg a b (dd k)

theorem CL.x {a b : Nat} {dd : Nat → Dyadic} {ys : List Cell3} (h : CL a b dd ys) : XL dd ((a + b) / 16 + 1) (a + b) ys := by
 intro k hk
 obtain ⟨e, m⟩ := h k hk
 rw [e]
 refine ⟨cZ (dd k), rfl, rfl, (mk_canon _).symm, Mg_len m, ?_⟩
 show (cE (dd k)).natAbs ≤ _
 have h1 := Mg_cE m
 have h2 := Mg_cE2 m
 omega

theorem Mg.abs {a b : Nat} {d : Dyadic} (h : Mg a b d) : Mg a b (absD d) := by
 unfold absD
 by_cases hd : d < 0
 ·rw [if_pos hd]; exact h.neg
 ·rw [if_neg hd]; exact h

theorem Mg.max {a b : Nat} {d e : Dyadic} (h : Mg a b d) (g : Mg a b e) : Mg a b (maxD d e) := by
 unfold maxD
 by_cases hc : cmpD d e < 0
 ·rw [if_pos hc]; exact g
 ·rw [if_neg hc]; exact h

theorem Mg.pmax {f : Nat → Dyadic} {a b n : Nat} (h : ∀ k, k < n → Mg a b (f k)) : ∀ k, k ≤ n → Mg a b (pmax f k)
 | 0, _ => Mg_zero
 | k + 1, hk => (Mg.pmax h k (by omega)).max (h k (by omega))

theorem Mg.colD {m : Nat} {d : Nat → Dyadic} {a b j : Nat} (h4 : m ≤ 4) (hd : ∀ k, k < m * m → Mg a b (d k)) (hj : j < m) : Mg a (b + 4) (colD m d j) :=
 (Mg.psum (f := fun i => absD (d (i * m + j))) (n := m) (fun i hi => (hd _ (place_lt hi hj)).abs) m (Nat.le_refl _)).mono (Nat.le_refl _) (by omega)

end Go.Pe

/- Plain laws: matrices without a row and a column, determinants. -/
namespace Go.Pe
open Go Go.Dg

def idxL (n r c : Nat) : List Nat := (List.range (n * n)).filter fun k => k / n != r && k % n != c

def minorP (n r c m : Nat) (ys : List Cell3) : List Cell3 := ((List.range m).filter fun k => k / n != r && k % n != c).map fun k => ys.getD k noY

def minorL (n r c : Nat) (ys : List Cell3) : List Cell3 := (idxL n r c).map fun k => ys.getD k noY

theorem minorP_zero (n r c : Nat) (ys : List Cell3) : minorP n r c 0 ys = [] := rfl
theorem minorP_all (n r c : Nat) (ys : List Cell3) : minorP n r c (n * n) ys = minorL n r c ys := rfl
theorem minorP_len (n r c m : Nat) (ys : List Cell3) : (minorP n r c m ys).length ≤ m := by
 rw [minorP, List.length_map]
 exact Nat.le_trans (List.length_filter_le _ _) (by simp)

end Go.Pe

