/- Bodies and functions: the conditions of a body are its contract; numbers as lists of digits, dyadic numbers, arguments read by value: plain laws, no condition on the input. -/
import Derived.Test.YtlkiofkkjbodjaaGreatDoorBEvC
import Derived.KernelRfl
import Derived.Laws.BitsLemmas
import Derived.ReadAgain
import Derived.ChangeOld
import Derived.Below
import Derived.Deep.Slices
set_option linter.unusedSimpArgs false
set_option linter.unusedVariables false
/- The same conditions, with the types' table apart and the arithmetic veiled. -/
namespace Go.Pe
open Go Go.RowKit

structure TT where
 cells : TypeId → Nat
 und : TypeId → Option TypeDesc
 inf : TypeId → Option TypeInfo
 bytes : TypeId → Nat

def TT.of (P : Program) : TT := ⟨P.cellsOf, P.underlying, P.info?, P.bytesOf⟩

structure AR where
 ints : List Int → List PV
 len : List PV → Nat
 el : List PV → Nat → PV
 gi : PV → Nat → Int
 gb : PV → Nat → Bool
 gl : PV → Nat → List PV
 gc : PV → Nat → PV
 nat : Int → Nat
 cast : Nat → Int
 add : IntKind → Int → Int → Int
 sub : IntKind → Int → Int → Int
 mul : IntKind → Int → Int → Int
 quo : IntKind → Int → Int → Int
 rem : IntKind → Int → Int → Int
 shl : IntKind → Int → Int → Int
 shr : IntKind → Int → Int → Int
 band : IntKind → Int → Int → Int
 bor : IntKind → Int → Int → Int
 bxor : IntKind → Int → Int → Int
 conv : IntKind → Int → Int
 max : Int → Int → Int
 min : Int → Int → Int
 eq : Int → Int → Bool
 ne : Int → Int → Bool
 lt : Int → Int → Bool
 le : Int → Int → Bool
 beq : Bool → Bool → Bool
 bnot : Bool → Bool
 andb : Bool → Bool → Bool
 pick : Bool → Bool → Bool → Bool
 app : List PV → List PV → List PV
 set : List PV → Nat → PV → List PV
 rep : Int → PV → List PV
 sl : List PV → Int → Int → List PV
 lei : Int → Int → Prop
 lti : Int → Int → Prop
 ltn : Nat → Nat → Prop
 nez : Int → Prop
 okA : List PV → Nat → Prop
 allC : List PV → Nat → Prop
 cap : List PV → List PV → Prop
 len_le : Nat → PV → Prop
 len_eq : PV → Nat → Prop
 setc : PV → Nat → List PV → PV
 valc : PV → Nat → Nat → Prop
 aHD : List PV → Prop
 cel : PV → Nat → PV → Prop
 isl : PV → Nat → Prop
 nil : PV → Nat → Prop
 non : PV → Nat → Prop
 lfA : List PV → Prop
 peq : Bool → Nat → Nat → PV → PV → Prop
 loop : Code → ((Ex → St → Prop) → St → Prop) → (Ex → St → Prop) → St → Prop
 call : Program → List (Nat × Obj) → St → FuncId → List FV → (FV → St → Prop) → Prop

def aA (l : List Int) : List PV := l.map fun n => .val (.int .i64 n)

def AR.std : AR where
 ints := aA
 len l := l.length
 el els k := els.getD k (.val (.bool false))
 gi := aCR
 gb := aKY
 gl := aRX
 gc := cellAt
 nat n := n.toNat
 cast n := n
 add k a b := k.wrap (a + b)
 sub k a b := k.wrap (a - b)
 mul k a b := k.wrap (a * b)
 quo k a b := k.wrap (a.tdiv b)
 rem _ a b := a.tmod b
 shl k a b := k.wrap (a * 2 ^ (Min.min b.toNat k.bits))
 shr k a b := a.fdiv (2 ^ (Min.min b.toNat k.bits))
 band k a b := k.wrap (BitVec.ofInt k.bits a &&& BitVec.ofInt k.bits b).toNat
 bor k a b := k.wrap (BitVec.ofInt k.bits a ||| BitVec.ofInt k.bits b).toNat
 bxor k a b := k.wrap (BitVec.ofInt k.bits a ^^^ BitVec.ofInt k.bits b).toNat
 conv k n := k.wrap n
 max a b := if b > a then b else a
 min a b := if b < a then b else a
 eq a b := a == b
 ne a b := a != b
 lt a b := decide (a < b)
 le a b := decide (a ≤ b)
 beq a b := a == b
 bnot b := !b
 andb a b := a && b
 pick c x y := bif c then x else y
 app a b := a ++ b
 set els k p := els.set k p
 rep n z := List.replicate n.toNat z
 sl els l h := (els.take h.toNat).drop l.toNat
 lei a b := a ≤ b
 lti a b := a < b
 ltn a b := a < b
 nez b := b ≠ 0
 okA els s := ∀ p ∈ els, kY s p
 allC els n := ∀ p ∈ els, p.cells.length = n
 cap els new := els.length + new.length ≤ 1000000000
 len_le n p := n ≤ p.cells.length
 len_eq p n := p.cells.length = n
 setc := setCells
 valc := gZ
 aHD := qT
 cel p j q := cellAt p j = q
 isl p j := ∃ l, cellAt p j = .lst l
 nil p j := cellAt p j = .lst []
 non p j := ∃ l, l ≠ [] ∧ cellAt p j = .lst l
 lfA l := ∀ p ∈ l, (p.cells.all mD) = true
 peq ag off size p q := gT ag off size p.cells = q
 loop _ body Q st := ∃ (ls : List qP) (keep : List Nat) (k : Nat) (ι : Type) (f : ι → St) (μ : ι → Nat) (i0 : ι) (rl : List (Nat × Nat)), st.qD ls ∧ (st.bJ ls).norm keep k = some (f i0) ∧
   ∀ i, body (fun e s => match e with
    | .normal => ∃ j, (s.rG rl).norm keep k = some (f j) ∧ μ j < μ i
    | e => Q e s) (f i)
 call := aG5

def iT (T : TT) (t : TypeId) : Bool :=
 match T.und t with
 | some (.struct _) => true
 | some (.array _ _) => true
 | _ => false

def aE9 (T : TT) (t : TypeId) : Bool := iT T t || (T.cells t == 1 && (T.und t).isSome)

def aSF (T : TT) (s : TypeId) (f : Nat) : Option Nat :=
 match T.und s with
 | some (.struct fs) => match fs[f]? with
  | some fd => if T.cells fd.type = 0 then none else some fd.offset
  | none => none
 | _ => none

def kL (T : TT) (t : TypeId) : Option TypeId :=
 match T.und t with
 | some (.slice e) => if T.cells e = 0 then none else some e
 | _ => none

def aOZ (T : TT) (t : TypeId) : Bool :=
 match T.und t with
 | some .bool => true
 | _ => false

def aTW (T : TT) (t : TypeId) : Option IntKind :=
 match T.und t with
 | some (.int k) => some k
 | _ => none

def aBW (T : TT) : Nat → TypeId → List CK
 | 0, _ => []
 | n + 1, t => match T.und t with
  | some (.int k) => [.int k]
  | some .bool => [.bool]
  | some (.slice _) => [.sl]
  | some (.struct fs) => fs.toList.flatMap fun f => aBW T n f.type
  | _ => [.other]

def aW8 (A : AR) (op : BinOp) (a b : Int) : Option Bool :=
 match op with
 | .eql => some (A.eq a b)
 | .neq => some (A.ne a b)
 | .lss => some (A.lt a b)
 | .leq => some (A.le a b)
 | .gtr => some (A.lt b a)
 | .geq => some (A.le b a)
 | _ => none

def aW9 (A : AR) (op : BinOp) (k : IntKind) (a b : Int) : Option Int :=
 match op with
 | .and => some (A.band k a b)
 | .or => some (A.bor k a b)
 | .xor => some (A.bxor k a b)
 | _ => none

def aXA (T : TT) (A : AR) (op : BinOp) (t : TypeId) (x y : FV) : Option (Prop × FV) :=
 match x, y with
 | .pv (.val (.int k a)), .pv (.val (.int k' b)) =>
  match op with
  | .shl => some (A.lei 0 b, .pv (.val (.int k (A.shl k a b))))
  | .shr => some (A.lei 0 b, .pv (.val (.int k (A.shr k a b))))
  | op => if k ≠ k' then none else
   match op with
   | .add => some (True, .pv (.val (.int k (A.add k a b))))
   | .sub => some (True, .pv (.val (.int k (A.sub k a b))))
   | .mul => some (True, .pv (.val (.int k (A.mul k a b))))
   | .quo => some (A.nez b, .pv (.val (.int k (A.quo k a b))))
   | .rem => some (A.nez b, .pv (.val (.int k (A.rem k a b))))
   | op => match aW8 A op a b, aW9 A op k a b with
    | some c, _ => some (True, .pv (.val (.bool c)))
    | none, some n => some (True, .pv (.val (.int k n)))
    | none, none => none
 | .pv (.val (.bool a)), .pv (.val (.bool b)) =>
  if aOZ T t then
   match op with
   | .eql => some (True, .pv (.val (.bool (A.beq a b))))
   | .neq => some (True, .pv (.val (.bool (A.bnot (A.beq a b)))))
   | _ => none
  else none
 | _, _ => none

def aXB (A : AR) (own : List Blk) : FV → Option Nat
 | .pv (.lst els) => some (A.len els)
 | .pv (.val (.slice none 0 0)) => some 0
 | .own i => match own[i]? with
  | some (.row _ _ els) => some (A.len els)
  | some (.tree _ _ _ els) => some (A.len els)
  | _ => none
 | _ => none

def aXC (A : AR) (c : CK) (p : PV) (j : Nat) : PV :=
 match c with
 | .int k => .val (.int k (A.gi p j))
 | .bool => .val (.bool (A.gb p j))
 | .sl => .lst (A.gl p j)
 | .other => A.gc p j

def aTX (A : AR) (p : PV) : List CK → Nat → List PV
 | [], _ => []
 | c :: r, j => aXC A c p j :: aTX A p r (j + 1)

def aC7 (A : AR) (ag : Bool) (cks : List CK) (off : Nat) (p : PV) : PV :=
 if ag then .agg (aTX A p cks off) else aXC A (cks.headD .other) p off

def aJZ (T : TT) (t : TypeId) (ev : Operand → FV) : List (Nat × Operand) → List FV → Option (List FV)
 | [], cs => some cs
 | (i, x) :: r, cs => match T.und t with
  | some (.struct fs) => match fs[i]?, dQ (ev x) with
   | some fd, some new => if new.length = T.cells fd.type ∧ fd.offset + new.length ≤ cs.length then aJZ T t ev r (aS cs fd.offset new) else none
   | _, _ => none
  | _ => none

def aHP (T : TT) (t : TypeId) : Option (List FV) :=
 match T.inf t with
 | some i => match i.zero with
  | some z => if z.cells.toList.all free then some (z.cells.toList.map fun v => .pv (.val v)) else none
  | none => none
 | none => none

def jB (T : TT) (t : TypeId) : Bool :=
 match T.inf t with
 | some i => match i.zero with
  | some z => z.cells.size == i.size
  | none => false
 | none => false

def aK2 (T : TT) (A : AR) (own : List Blk) (ev : Operand → FV) : Op → Option (Prop × FV)
 | .move x => some (True, ev x)
 | .assign x => some (True, ev x)
 | .load t x => match ev x with
  | .box i off => match own[i]? with
   | some (.box cs) => some (off + T.cells t ≤ cs.length  ∧ aE9 T t = true, aJN (iT T t) off (T.cells t) cs)
   | _ => none
  | .relt i s k off => match own[i]? with
   | some (.row _ s' els) => if s' = s then some (A.ltn k (A.len els) ∧ off + T.cells t ≤ s ∧ aE9 T t = true ∧ A.peq (iT T t) off (T.cells t) (A.el els k) (aC7 A (iT T t) (aBW T 6 t) off (A.el els k)),
    .pv (aC7 A (iT T t) (aBW T 6 t) off (A.el els k))) else none
   | _ => none
  | .pv (.ptr cs off) => some (off + T.cells t ≤ cs.length  ∧ aE9 T t = true, .pv (gT (iT T t) off (T.cells t) cs))
  | .pv (.elt els k off) => some (A.ltn k (A.len els) ∧ A.len_le (off + T.cells t) (A.el els k) ∧ aE9 T t = true ∧ A.peq (iT T t) off (T.cells t) (A.el els k) (aC7 A (iT T t) (aBW T 6 t) off (A.el els k)),
    .pv (aC7 A (iT T t) (aBW T 6 t) off (A.el els k)))
  | _ => none
 | .fieldAddr s x f => match aSF T s f, ev x with
  | some o, .box i off => some (True, .box i (off + o))
  | some o, .relt i s k off => some (True, .relt i s k (off + o))
  | some o, .pv (.ptr cs off) => some (True, .pv (.ptr cs (off + o)))
  | some o, .pv (.elt els k off) => some (True, .pv (.elt els k (off + o)))
  | _, _ => none
 | .indexAddr t x i => match kL T t, ev i with
  | some e, .pv (.val (.int _ n)) => match ev x with
   | .pv (.lst els) => some (A.lei 0 n ∧ A.lti n (A.cast (A.len els)) ∧ A.len_eq (A.el els (A.nat n)) (T.cells e), .pv (.elt els (A.nat n) 0))
   | .own j => match own[j]? with
    | some (.row _ s els) => if s = T.cells e then some (A.lei 0 n ∧ A.lti n (A.cast (A.len els)), .relt j s (A.nat n) 0) else none
    | some (.tree _ s _ els) => if s = T.cells e then some (A.lei 0 n ∧ A.lti n (A.cast (A.len els)), .relt j s (A.nat n) 0) else none
    | _ => none
   | _ => none
  | _, _ => none
 | .binOp op t x y _ => aXA T A op t (ev x) (ev y)
 | .unOp .not _ x => match ev x with
  | .pv (.val (.bool b)) => some (True, .pv (.val (.bool (A.bnot b))))
  | _ => none
 | .unOp .neg _ x => match ev x with
  | .pv (.val (.int k n)) => some (True, .pv (.val (.int k (A.sub k 0 n))))
  | _ => none
 | .convert s d x => match ev x, aTW T s, aTW T d with
  | .pv (.val (.int _ n)), some _, some k => some (True, .pv (.val (.int k (A.conv k n))))
  | _, _, _ => none
 | .extract x i => match ev x with
  | .pv (.tup vs) => some (i < vs.length, .pv (vs.getD i (.val (.bool false))))
  | .tup vs => some (i < vs.length, vs.getD i .junk)
  | _ => none
 | .build t parts => match T.und t, aHP T t with
  | some (.struct fs), some z => if fs.toList.all (fun f => (T.inf f.type).isSome) then
    match aJZ T t ev parts.toList z with
    | some cs => some (True, .agg cs)
    | none => none
   else none
  | _, _ => none
 | .makeFunc (.func f) first caps => if first.size = 0 then some (True, .fn f (caps.toList.map ev)) else none
 | .call { callee := .builtin .len, args, argTypes } => match args.toList, argTypes.toList with
  | [x], [t] => match kL T t, aXB A own (ev x) with
   | some _, some n => some (True, .pv (.val (.int .i64 (A.cast n))))
   | _, _ => none
  | _, _ => none
 | .call { callee := .builtin .max, args, .. } => match args.toList with
  | [x, y] => match ev x, ev y with
   | .pv (.val (.int k a)), .pv (.val (.int _ b)) => some (True, .pv (.val (.int k (A.max a b))))
   | _, _ => none
  | _ => none
 | .call { callee := .builtin .min, args, .. } => match args.toList with
  | [x, y] => match ev x, ev y with
   | .pv (.val (.int k a)), .pv (.val (.int _ b)) => some (True, .pv (.val (.int k (A.min a b))))
   | _, _ => none
  | _ => none
 | .nilCheck x => match ev x with
  | .box i off => some (True, .box i off)
  | .pv (.ptr cs off) => some (True, .pv (.ptr cs off))
  | _ => none
 | .slice t x lo hi none => match kL T t, ev x with
  | some e, .pv (.lst els) =>
   match (match lo with | none => some 0 | some o => match ev o with | .pv (.val (.int _ n)) => some n | _ => none),
      (match hi with | none => some (A.cast (A.len els)) | some o => match ev o with | .pv (.val (.int _ n)) => some n | _ => none) with
   | some l, some h => some (A.lei 0 l ∧ A.lei l h ∧ A.lei h (A.cast (A.len els)) ∧ A.allC els (T.cells e), .pv (.lst (A.sl els l h)))
   | _, _ => none
  | _, _ => none
 | _ => none

def aO0 (A : AR) (c : Bool) (a b : FV) : Option FV :=
 match a, b with
 | .pv (.val (.bool x)), .pv (.val (.bool y)) => some (.pv (.val (.bool (A.pick c x y))))
 | _, _ => none

def aHQ (T : TT) (t : TypeId) : Option PV :=
 match T.inf t with
 | some i => match i.zero with
  | some (.agg cs) => if cs.toList.all (fun v => free v) then some (.agg (cs.toList.map fun v => kC (.val v))) else none
  | some v => if free v then some (kC (.val v)) else none
  | none => none
 | none => none

def xK (P : Program) (T : TT) (A : AR) (gl : List (Nat × Obj)) (st : St) (g : Option Bool) (o : Oper) (K : FV → Prop) : Prop :=
 match o.op with
 | .pick c a b => match st.ev c with
  | .pv (.val (.bool t)) => match aO0 A t (strip (st.ev a)) (strip (st.ev b)) with
   | some x => imp g (t = true → bB none (st.ev a)) ∧ imp g (t = false → bB none (st.ev b)) ∧ K x
   | none => False
  | .iff c (.pv (.val (.bool t))) => match aO0 A t (strip (st.ev a)) (strip (st.ev b)) with
   | some x => imp g (c = true) ∧ imp g (t = true → bB none (st.ev a)) ∧ imp g (t = false → bB none (st.ev b)) ∧ K x
   | none => False
  | _ => False
 | .call { callee := .value f, args, .. } => bN g st (f :: args.toList) ∧
  match aAN (strip (st.ev f)) with
  | some (fid, caps) => match fK [] [] ((args.toList.map fun x => strip (st.ev x)) ++ caps) with
   | some as => ∃ r, imp g (FS P gl fid as (fun r' => r' = r)) ∧ K (.pv r)
   | none => match fK st.own (tX st.own ((args.toList.map fun x => strip (st.ev x)) ++ caps)) ((args.toList.map fun x => strip (st.ev x)) ++ caps) with
    | some as => ∃ r, imp g (FS P gl fid as (fun r' => r' = r)) ∧ (∃ x, xH r = some x) ∧ K (.pv r)
    | none => False
  | none => False
 | .buildSlice t n parts => bN g st (parts.toList.map (·.2)) ∧
  match kL T t, fK [] [] (parts.toList.map fun x => strip (st.ev x.2)) with
  | some e, some els => if iQ 0 parts.toList && n == parts.size && n * T.cells e < 65536 && jB T e then (A.okA els (T.cells e)) ∧ K (.xl els) else False
  | _, _ => False
 | .makeSlice t l c => bN g st [l, c] ∧ match kL T t with
  | some e => match aHQ T e, strip (st.ev l), strip (st.ev c) with
   | some z, .pv (.val (.int _ n)), .pv (.val (.int _ n')) =>
    if T.bytes e ≤ 1000 ∧ z.cells.length = T.cells e then
     imp g (A.lei 0 n ∧ n' = n ∧ A.lei n 1000000000) ∧ K (.xl (A.rep n z))
    else False
   | _, _, _ => False
  | none => False
 | .call { callee := .builtin .append, args, argTypes } => match two args.toList, two argTypes.toList with
  | some (s, x), some (t, t') => bN g st [s, x] ∧ match kL T t with
   | some e => match st.ev s, mR st.own (strip (st.ev x)) with
    | .xl els, some new => if t' = t ∧ T.bytes e ≤ 1000 ∧ jB T e = true then
      imp g ((A.okA els (T.cells e)) ∧ (A.okA new (T.cells e)) ∧ A.cap els new) ∧ K (.pv (.lst (A.app els new)))
     else False
    | _, _ => False
   | none => False
  | _, _ => False
 | op => bN g st op.operands.toList ∧ aRY g K (aK2 T A st.own (fun x => strip (st.ev x)) op)

def aO1 (A : AR) (ops : List Oper) (st : St) (j : Nat) (want : Bool) : Option Bool :=
 match (ops[j]?).bind (·.dst) with
 | some t => match st.get t with
  | .pv (.val (.bool b)) => some (A.beq b want)
  | .iff c (.pv (.val (.bool b))) => some (A.andb c (A.beq b want))
  | _ => none
 | none => none

def yK (A : AR) : List (Nat × List PV) → Prop
 | [] => True
 | x :: r => A.aHD x.2 ∧ yK A r

def aLM (T : TT) (A : AR) (st : St) (t : TypeId) (i s k off : Nat) (e : TypeId) (s' : Nat) (et : TypeId) (els : List PV) (new : List FV) (K : St → Prop) : Prop :=
 if s' = s then
  A.ltn k (A.len els) ∧ new.length = T.cells t ∧ T.cells t ≠ 0 ∧
  if T.cells t = s ∧ off = 0 then
   match jE st.own et new with
   | some (ps, jl) => if rE (jl.map (·.1)) && !(jl.map (·.1)).contains i && st.vT i && decide (st.k0 ≤ i) then
     yK A jl ∧ K (st.aAV i (.tree e s et (A.set els k (.agg ps))) (jl.map (·.1)))
    else False
   | none => False
  else match fK [] [] new with
   | some pn => if decide (off + pn.length ≤ s) && pn.all mD then
     A.valc (A.el els k) off pn.length ∧ K (st.aR i (.tree e s et (A.set els k (A.setc (A.el els k) off pn))))
    else False
   | none => False
 else False

def aO2 (T : TT) (A : AR) (t : TypeId) (i s k off s' : Nat) (els : List PV) (K : FV → Prop) : Prop :=
 if s' = s ∧ off < s ∧ aE9 T t = true ∧ iT T t = false then
  A.ltn k (A.len els) ∧ match aBW T 6 t with
   | [.int q] => A.cel (A.el els k) off (.val (.int q (A.gi (A.el els k) off))) ∧ K (.pv (.val (.int q (A.gi (A.el els k) off))))
   | [.bool] => A.cel (A.el els k) off (.val (.bool (A.gb (A.el els k) off))) ∧ K (.pv (.val (.bool (A.gb (A.el els k) off))))
   | [.sl] => A.isl (A.el els k) off ∧ (A.nil (A.el els k) off → K (.pv (.lst []))) ∧
     (A.non (A.el els k) off → K (.sub i s k off))
   | _ => False
 else False

def aLN (T : TT) (A : AR) (st : St) (e : TypeId) (n : Nat) (parts : List (Nat × Operand)) (K : St → Prop) : Prop :=
 match parts with
 | [(0, x)] => match dQ (strip (st.ev x)) with
  | some cs => match aR4 st.own cs with
   | some et => match jE st.own et cs with
    | some (ps, jl) => if n == 1 && cs.length == T.cells e && decide (T.cells e < 65536) && jB T e && rE (jl.map (·.1)) then
      yK A jl ∧ K (st.aCW e (T.cells e) et (.agg ps) (jl.map (·.1)))
     else False
    | none => False
   | none => False
  | none => False
 | _ => False

def aHR (T : TT) (A : AR) (st : St) (e : TypeId) (i : Nat) (e' : TypeId) (s' : Nat) (et : TypeId) (els : List PV) (x : FV) (K : FV → St → Prop) : Prop :=
 if e' = e ∧ s' = T.cells e ∧ st.k0 ≤ i ∧ T.bytes e ≤ 1000 ∧ jB T e = true then
  match rF st.own x with
  | some (i2, e2, s2, et2, new) => if i2 ≠ i ∧ e2 = e' ∧ s2 = s' ∧ et2 = et then
    A.cap els new ∧ K (.own i) ((st.drop i).aAV i (.tree e' s' et (A.app els new)) [i2])
   else False
  | none => match mR st.own x with
   | some new => A.okA new (T.cells e) ∧ A.lfA new ∧ A.cap els new ∧ K (.own i) ((st.drop i).aAV i (.tree e' s' et (A.app els new)) [])
   | none => False
 else False

def aLO (T : TT) (A : AR) (st : St) (e : TypeId) (s x : FV) (K : FV → St → Prop) : Prop :=
 match mR st.own x with
 | some new => (A.okA new (T.cells e)) ∧
  match s with
  | .own i => match st.own[i]? with
   | some (.row e' s' els) => if e' = e ∧ s' = T.cells e ∧ st.k0 ≤ i ∧ aTR i x = false ∧ T.bytes e ≤ 1000 ∧ jB T e = true then
     A.cap els new ∧ K (.own i) ((st.drop i).aR i (.row e s' (A.app els new)))
    else False
   | _ => False
  | .pv (.val (.slice none 0 0)) => if T.bytes e ≤ 1000 ∧ jB T e = true then
    new.length ≤ 1000000000 ∧ K (.own st.own.length) (st.bE (.row e (T.cells e) new))
   else False
  | _ => False
 | none => False

def aO3 (T : TT) (A : AR) (st : St) (e t' : TypeId) (s x : FV) (K : FV → St → Prop) : Prop :=
 match T.und t' with
 | some (.int .i64) => match s, x with
  | .own i, .pv (.val (.int .i64 n)) => match st.own[i]?, aHQ T e with
   | some (.row e' s' els), some z => if e' = e ∧ s' = T.cells e ∧ st.k0 ≤ i ∧ T.bytes e ≤ 1000 ∧ jB T e = true ∧ z.cells.length = T.cells e then
     A.lei 0 n ∧ A.cap els (A.rep n z) ∧ K (.own i) ((st.drop i).aR i (.row e s' (A.app els (A.rep n z))))
    else False
   | _, _ => False
  | _, _ => False
 | _ => False

def aSG (T : TT) (A : AR) (st : St) (t : TypeId) (i : Nat) (h : Int) (K : FV → St → Prop) : Prop :=
 match st.own[i]?, kL T t with
 | some (.row e s els), some e' => if e = e' then
   A.lei 0 h ∧ A.lei h (A.cast (A.len els)) ∧ if st.k0 ≤ i then K (.own i) ((st.drop i).aR i (.row e s (A.sl els 0 h)))
    else K (.own st.own.length) { st with own := st.own.set i .gone ++ [.row e s (A.sl els 0 h)] }
  else False
 | _, _ => False

def aUW (P : Program) (T : TT) (A : AR) (gl : List (Nat × Obj)) (o : Oper) (st : St) (K : St → Prop) : Prop :=
 match o.op with
 | .alloc t => match aHP T t with
  | some cs => K ((st.bE (.box cs)).put o.dst (.box st.own.length 0))
  | none => False
 | .box _ x => bB none (st.ev x) ∧ match dQ (strip (st.ev x)) with
  | some cs => K ((st.bE (.box cs)).put o.dst (.box st.own.length 0))
  | none => False
 | .store t p x => bB none (st.ev p) ∧ bB none (st.ev x) ∧ match strip (st.ev p), dQ (strip (st.ev x)) with
  | .box i off, some new => match st.own[i]? with
   | some (.box cs) => new.length = T.cells t ∧ T.cells t ≠ 0 ∧ off + new.length ≤ cs.length ∧ K ((st.aR i (.box (aS cs off new))).put o.dst .junk)
   | _ => False
  | .relt i s k off, some new => match st.own[i]? with
   | some (.row e s' els) => if s' = s then
     A.ltn k (A.len els) ∧ new.length = T.cells t ∧ T.cells t ≠ 0 ∧
     if T.cells t = s ∧ off = 0 then
      match fJ [] [] 8 (strip (st.ev x)) with
      | some p => kY s p ∧ K ((st.aR i (.row e s (A.set els k p))).put o.dst .junk)
      | none => False
     else match fK [] [] new with
      | some pn => match aN8 (A.el els k) off pn with
       | some p => K ((st.aR i (.row e s (A.set els k p))).put o.dst .junk)
       | none => False
      | none => False
    else False
   | some (.tree e s' et els) => aLM T A st t i s k off e s' et els new (fun st' => K (st'.put o.dst .junk))
   | _ => False
  | _, _ => False
 | .load t x => match strip (st.ev x) with
  | .relt i s k off => match st.own[i]? with
   | some (.tree _ s' _ els) => bB none (st.ev x) ∧ aO2 T A t i s k off s' els (fun v => K (st.put o.dst v))
   | _ => xK P T A gl st none o (fun x => K (st.put o.dst x))
  | _ => xK P T A gl st none o (fun x => K (st.put o.dst x))
 | .binOp .eql t x (.const (.slice none 0 0)) _ => bB none (st.ev x) ∧ match kL T t, strip (st.ev x) with
  | some _, .pv (.lst els) => ∀ b : Bool, (b = true → els = []) → K (st.put o.dst (.pv (.val (.bool b))))
  | _, _ => False
 | .makeSlice t l c => bB none (st.ev l) ∧ bB none (st.ev c) ∧ match kL T t with
  | some e => match aHQ T e, strip (st.ev l), strip (st.ev c) with
   | some z, .pv (.val (.int _ n)), .pv (.val (.int _ n')) =>
    if T.bytes e ≤ 1000 ∧ z.cells.length = T.cells e then
     A.lei 0 n ∧ A.lei n n' ∧ A.lei n' 1000000000 ∧ K ((st.bE (.row e (T.cells e) (A.rep n z))).put o.dst (.own st.own.length))
    else False
   | _, _, _ => False
  | none => False
 | .buildSlice t n parts => bN none st (parts.toList.map (·.2)) ∧
  match kL T t, fK [] [] (parts.toList.map fun x => strip (st.ev x.2)) with
  | some e, some els => if iQ 0 parts.toList && n == parts.size && n * T.cells e < 65536 && jB T e then
    (A.okA els (T.cells e)) ∧ K ((st.bE (.row e (T.cells e) els)).put o.dst (.own st.own.length)) else False
  | some e, none => aLN T A st e n parts.toList (fun st' => K (st'.put o.dst (.own st.own.length)))
  | _, _ => False
 | .call { callee := .builtin .append, args, argTypes } => match two args.toList, two argTypes.toList with
  | some (s, x), some (t, t') => match aWU (st.ev s) with
   | true => xK P T A gl st none o (fun x => K (st.put o.dst x))
   | false => bB none (st.ev s) ∧ bB none (st.ev x) ∧ match kL T t with
    | some e => match rF st.own (strip (st.ev s)) with
     | some (i, e', s', et, els) => if t' = t then aHR T A st e i e' s' et els (strip (st.ev x)) (fun v st' => K (st'.put o.dst v)) else False
     | none => if t' = t then aLO T A st e (strip (st.ev s)) (strip (st.ev x)) (fun v st' => K (st'.put o.dst v)) else aO3 T A st e t' (strip (st.ev s)) (strip (st.ev x)) (fun v st' => K (st'.put o.dst v))
    | none => False
  | _, _ => False
 | .slice t x none (some q) none => match strip (st.ev x), strip (st.ev q) with
  | .own i, .pv (.val (.int _ h)) => bB none (st.ev x) ∧ bB none (st.ev q) ∧ aSG T A st t i h (fun v st' => K (st'.put o.dst v))
  | _, _ => xK P T A gl st none o (fun x => K (st.put o.dst x))
 | .call { callee := .value f, args, .. } => bN none st (f :: args.toList) ∧
  match aAN (strip (st.ev f)) with
  | some (fid, caps) => A.call P gl st fid ((args.toList.map fun x => strip (st.ev x)) ++ caps) (fun v st' => K (st'.put o.dst v))
  | none => False
 | _ => xK P T A gl st none o (fun x => K (st.put o.dst x))

def aLP (P : Program) (T : TT) (A : AR) (gl : List (Nat × Obj)) (ops : List Oper) (o : Oper) (st : St) (K : FV → Prop) : Prop :=
 match o.guard with
 | none => xK P T A gl st none o K
 | some (j, want) => match aO1 A ops st j want with
  | some g => xK P T A gl st (some g) o (fun x => K (.iff g x))
  | none => False

def aJ0 (P : Program) (T : TT) (A : AR) (gl : List (Nat × Obj)) (ops : List Oper) (o : Oper) (st : St) (K : St → Prop) : Prop :=
 match o.guard with
 | none => aUW P T A gl o st K
 | some (j, want) => match aO1 A ops st j want with
  | some g => xK P T A gl st (some g) o (fun x => K (st.put o.dst (.iff g x)))
  | none => False

def aHS (P : Program) (T : TT) (A : AR) (gl : List (Nat × Obj)) (ops : List Oper) : List Oper → St → (St → Prop) → Prop
 | [], st, K => K st
 | o :: r, st, K => aJ0 P T A gl ops o st (fun st' => aHS P T A gl ops r st' K)

def aFA (P : Program) (T : TT) (A : AR) (o : Oper) : Option (List FV) :=
 match o.guard, o.op with
 | none, .alloc t => aHP T t
 | _, _ => none

def kM (P : Program) (T : TT) (A : AR) : Nat → Nat → List Oper → List (Nat × Nat × List FV)
 | _, _, [] => []
 | i, c, o :: r => match aFA P T A o with
  | some cs => (i, c, cs) :: kM P T A (i + 1) (c + 1) r
  | none => kM P T A (i + 1) c r

def sU (P : Program) (T : TT) (A : AR) (gl : List (Nat × Obj)) (ops : List Oper) : Nat → List Oper → St → (St → Prop) → Prop
 | _, [], st, K => K st
 | c, o :: r, st, K => match aFA P T A o with
  | some _ => sU P T A gl ops (c + 1) r (st.put o.dst (.box c 0)) K
  | none => aLP P T A gl ops o st (fun x => sU P T A gl ops c r (st.put o.dst x) K)

def aLQ (P : Program) (T : TT) (A : AR) (ops : List Oper) (st : St) (j : Nat) : Prop :=
 bN none st (ops.getD j default).op.operands.toList ∧
 match aK2 T A st.own (fun x => strip (st.ev x)) (ops.getD j default).op with
 | some (ob, x) => ob ∧ match (ops.getD j default).dst with
  | some t => st.get t = x
  | none => True
 | none => False

def yL (P : Program) (T : TT) (A : AR) (ops : List Oper) (st : St) : List Nat → Prop
 | [] => True
 | j :: r => aLQ P T A ops st j ∧ yL P T A ops st r

def aTY (P : Program) (T : TT) (A : AR) (gl : List (Nat × Obj)) (ops : List Oper) (an : List (List Nat)) (lt : List Nat) : Nat → List Oper → St → (St → Prop) → Prop
 | _, [], st, K => K st
 | k, o :: r, st, K => aJ0 P T A gl ops o st (fun st' => yL P T A ops st' (lt.filter fun j => !(an.getD k []).contains j) ∧ aTY P T A gl ops an lt (k + 1) r st' K)

def aSH (P : Program) (T : TT) (A : AR) (gl : List (Nat × Obj)) (ops : List Oper) (an : List (List Nat)) (p : Nat) (st : St) (K : St → Prop) : Prop :=
 if sK ops an p then
  sU P T A gl ops st.own.length (ops.take p) (st.gG (kM P T A 0 st.own.length (ops.take p)).length)
   (fun st' => yL P T A ops (st'.over (fun _ => true) (kM P T A 0 st.own.length (ops.take p))) (lF ops an p) ∧
    aTY P T A gl ops an (lF ops an p) p (ops.drop p) (st'.over (fun _ => true) (kM P T A 0 st.own.length (ops.take p))) K)
 else False

def jW (P : Program) (T : TT) (A : AR) (gl : List (Nat × Obj)) (ops : List Oper) (draw : Bool) (st : St) (K : St → Prop) : Prop :=
 if draw then
  match (ops.take (bM (eF [] ops) ops.length)).all (fun o => !aCZ o) with
  | true =>
   if qC ops (eF [] ops) (bM (eF [] ops) ops.length) then
    sU P T A gl ops st.own.length (ops.take (bM (eF [] ops) ops.length)) (st.gG (kM P T A 0 st.own.length (ops.take (bM (eF [] ops) ops.length))).length)
     (fun st' => aHS P T A gl ops (ops.drop (bM (eF [] ops) ops.length)) (st'.over (fun _ => true) (kM P T A 0 st.own.length (ops.take (bM (eF [] ops) ops.length)))) K)
   else False
  | false => aSH P T A gl ops (eF [] ops) (aG8 ops (eF [] ops)) st K
 else aHS P T A gl ops ops st K

def aHT (P : Program) (T : TT) (A : AR) (gl : List (Nat × Obj)) : Nat → List Oper → St → (St → Prop) → Prop
 | 0, ops, st, K => jW P T A gl ops true st K
 | n + 1, ops, st, K => match cutAt ops with
  | some c => jW P T A gl (ops.take c) true st (fun st' => aHT P T A gl n ((ops.drop c).map (dY c)) st' K)
  | none => jW P T A gl ops true st K

def iU (P : Program) (T : TT) (A : AR) (gl : List (Nat × Obj)) (b : Md) : Code → (Ex → St → Prop) → St → Prop
 | .skip, Q, st => Q .normal st
 | .region _ ops draw, Q, st => match draw with
  | true => match b with
   | .any => jW P T A gl ops.toList true st (Q .normal)
   | .cut => aHT P T A gl ops.toList.length ops.toList st (Q .normal)
   | .ret => jW P T A gl ops.toList true (st.fW (gH st ops.toList)) (Q .normal)
   | .rc => aHT P T A gl ops.toList.length ops.toList (st.fW (eY st ops.toList)) (Q .normal)
  | false => jW P T A gl ops.toList false st (Q .normal)
 | .seq x y, Q, st => iU P T A gl b x (fun e s => match e with
  | .normal => iU P T A gl b y Q s
  | e => Q e s) st
 | .cond c x y, Q, st => match st.ev c with
  | .pv (.val (.bool t)) => (t = true → iU P T A gl b x Q st) ∧ (t = false → iU P T A gl b y Q st)
  | _ => False
 | .block id c, Q, st => iU P T A gl b c (fun e s => match e with
  | .exit i => if i = id then Q .normal s else Q (.exit i) s
  | e => Q e s) st
 | .loop c, Q, st => A.loop c (fun Q' st' => iU P T A gl b c Q' st') Q st
 | .exit id, Q, st => Q (.exit id) st
 | .ret, Q, st => Q .ret st
 | .label _, Q, st => Q .normal st
 | _, _, _ => False

def aSI (T : TT) (A : AR) (st : St) : ResultVar → Option (Prop × FV)
 | .tmp t => some (bB none (st.get t), strip (st.get t))
 | .cell a t => aK2 T A st.own st.ev (.load t (.tmp a))

def sV (T : TT) (A : AR) (st : St) : List ResultVar → Option (Prop × List FV)
 | [] => some (True, [])
 | r :: rs => match aSI T A st r, sV T A st rs with
  | some (o1, x), some (o2, xs) => some (o1 ∧ o2, x :: xs)
  | _, _ => none

def aTZ (T : TT) (A : AR) (fn : Func) (R : PV → Prop) (e : Ex) (st : St) : Prop :=
 match e with
 | .exit _ => False
 | _ => match sV T A st fn.results.toList with
  | some (o, xs) => o ∧ match fJ st.own (List.range st.own.length) 8 (hC xs) with
   | some p => R p
   | none => False
  | none => False

def aT0 (T : TT) (A : AR) (fn : Func) (k0 : Nat) (R : List Blk → FV → Prop) (e : Ex) (st : St) : Prop :=
 match e with
 | .exit _ => False
 | _ => match sV T A st fn.results.toList with
  | some (o, xs) => o ∧ st.k0 = k0 ∧ ∃ (es : List Nat) (bs : List Blk) (x : FV), es.Nodup ∧ k0 ≤ es.length ∧ es.take k0 = List.range k0 ∧ fQ (fun i => st.own[i]?) es = some bs ∧ (bs.all fN) = true ∧ aLA es (hC xs) = some x ∧ R bs x
  | none => False

theorem aBX (P : Program) : iU P (TT.of P) AR.std = fZ P := by kernel_rfl
theorem aSJ (P : Program) : aTZ (TT.of P) AR.std = aR5 P := by kernel_rfl
theorem aSK (P : Program) : aT0 (TT.of P) AR.std = aR6 P := by kernel_rfl

end Go.Pe

/- Functions, with the types' table apart and the arithmetic veiled; lists of numbers. -/
namespace Go.Pe
open Go Go.RowKit

abbrev I (n : Int) : PV := .val (.int .i64 n)
abbrev B (b : Bool) : PV := .val (.bool b)

def aUX (T : TT) (A : AR) (rs : List ResultVar) (R : PV → Prop) (e : Ex) (st : St) : Prop :=
 match e with
 | .exit _ => False
 | _ => match sV T A st rs with
  | some (o, xs) => o ∧ match fJ st.own (List.range st.own.length) 8 (hC xs) with
   | some p => R p
   | none => False
  | none => False

theorem aSL (T : TT) (A : AR) (fn : Func) (R : PV → Prop) : aTZ T A fn R = aUX T A fn.results.toList R := by kernel_rfl

def aT1 (T : TT) (A : AR) (rs : List ResultVar) (k0 : Nat) (R : List Blk → FV → Prop) (e : Ex) (st : St) : Prop :=
 match e with
 | .exit _ => False
 | _ => match sV T A st rs with
  | some (o, xs) => o ∧ st.k0 = k0 ∧ ∃ (es : List Nat) (bs : List Blk) (x : FV), es.Nodup ∧ k0 ≤ es.length ∧ es.take k0 = List.range k0 ∧ fQ (fun i => st.own[i]?) es = some bs ∧ (bs.all fN) = true ∧ aLA es (hC xs) = some x ∧ R bs x
  | none => False

theorem aO4 (T : TT) (A : AR) (fn : Func) (k0 : Nat) (R : List Blk → FV → Prop) : aT0 T A fn k0 R = aT1 T A fn.results.toList k0 R := by kernel_rfl

def vcS (P : Program) (T : TT) (gl : List (Nat × Obj)) (b : Md) (c : Code) (rs : List ResultVar) (nt : Nat) (args : AR → List PV) (R : AR → PV → Prop) : Prop :=
 ∀ A, A = AR.std → iU P T A gl b c (aUX T A rs (R A)) ⟨cS 0 ((args A).map .pv), [], nt, 0⟩

theorem aC8 {b : Md} {P : Program} {gl : List (Nat × Obj)} {f : FuncId} {fn : Func} {c : Code} {args : AR → List PV} {R : AR → PV → Prop} {T : TT} (hT : T = TT.of P) (mix : P.follows .mixedOrders = true)
  (hf : P.funcs[f]? = some fn) (hb : fn.body = some c) (hU : (fn.name == "runtime.NumGoroutine") = false) (hn : (args AR.std).length ≤ fn.ntmps)
  (hv : vcS P T gl b c fn.results.toList fn.ntmps args R) : FS P gl f (args AR.std) (R AR.std) := by
 refine aW6 (b := b) mix hf hb hU hn ?_
 have := hv AR.std rfl
 rw [hT, aBX, ← aSL, aSJ] at this
 exact this

def vcX (P : Program) (T : TT) (gl : List (Nat × Obj)) (b : Md) (c : Code) (rs : List ResultVar) (nt : Nat) (own : AR → List Blk) (args : AR → List FV) (R : AR → List Blk → FV → Prop) : Prop :=
 ∀ A, A = AR.std → iU P T A gl b c (aT1 T A rs (own A).length (R A)) ⟨cS 0 (args A), own A, nt, (own A).length⟩

theorem aO5 {b : Md} {P : Program} {gl : List (Nat × Obj)} {f : FuncId} {fn : Func} {c : Code} {own : AR → List Blk} {args : AR → List FV} {R : AR → List Blk → FV → Prop} {T : TT} (hT : T = TT.of P) (mix : P.follows .mixedOrders = true)
  (hf : P.funcs[f]? = some fn) (hb : fn.body = some c) (hU : (fn.name == "runtime.NumGoroutine") = false) (hn : (args AR.std).length ≤ fn.ntmps)
  (hv : vcX P T gl b c fn.results.toList fn.ntmps own args R) : FX P gl f (own AR.std) (args AR.std) (R AR.std) := by
 refine aW7 (b := b) mix hf hb hU hn ?_
 have := hv AR.std rfl
 rw [hT, aBX, ← aO4, aSK] at this
 exact this

theorem eN {P : Program} {gl : List (Nat × Obj)} {f : FuncId} {fn : Func} {c : Code} {args : AR → List PV} {R : AR → PV → Prop} {T : TT} (hT : T = TT.of P) (mix : P.follows .mixedOrders = true)
  (hf : P.funcs[f]? = some fn) (hb : fn.body = some c) (hU : (fn.name == "runtime.NumGoroutine") = false) (hn : (args AR.std).length ≤ fn.ntmps)
  (hv : vcS P T gl .any c fn.results.toList fn.ntmps args R) : FS P gl f (args AR.std) (R AR.std) := aC8 hT mix hf hb hU hn hv

theorem aNL {P : Program} {gl : List (Nat × Obj)} {f : FuncId} {fn : Func} {c : Code} {own : AR → List Blk} {args : AR → List FV} {R : AR → List Blk → FV → Prop} {T : TT} (hT : T = TT.of P) (mix : P.follows .mixedOrders = true)
  (hf : P.funcs[f]? = some fn) (hb : fn.body = some c) (hU : (fn.name == "runtime.NumGoroutine") = false) (hn : (args AR.std).length ≤ fn.ntmps)
  (hv : vcX P T gl .any c fn.results.toList fn.ntmps own args R) : FX P gl f (own AR.std) (args AR.std) (R AR.std) := aO5 hT mix hf hb hU hn hv

theorem aC9 {P : Program} {gl : List (Nat × Obj)} {f : FuncId} {fn : Func} {c : Code} {args : AR → List PV} {R : AR → PV → Prop} {T : TT} (hT : T = TT.of P) (mix : P.follows .mixedOrders = true)
  (hf : P.funcs[f]? = some fn) (hb : fn.body = some c) (hU : (fn.name == "runtime.NumGoroutine") = false) (hn : (args AR.std).length ≤ fn.ntmps)
  (hv : vcS P T gl .cut c fn.results.toList fn.ntmps args R) : FS P gl f (args AR.std) (R AR.std) := aC8 hT mix hf hb hU hn hv

theorem aUY {P : Program} {gl : List (Nat × Obj)} {f : FuncId} {fn : Func} {c : Code} {args : AR → List PV} {R : AR → PV → Prop} {T : TT} (hT : T = TT.of P) (mix : P.follows .mixedOrders = true)
  (hf : P.funcs[f]? = some fn) (hb : fn.body = some c) (hU : (fn.name == "runtime.NumGoroutine") = false) (hn : (args AR.std).length ≤ fn.ntmps)
  (hv : vcS P T gl .ret c fn.results.toList fn.ntmps args R) : FS P gl f (args AR.std) (R AR.std) := aC8 hT mix hf hb hU hn hv

theorem aDA {P : Program} {gl : List (Nat × Obj)} {f : FuncId} {fn : Func} {c : Code} {own : AR → List Blk} {args : AR → List FV} {R : AR → List Blk → FV → Prop} {T : TT} (hT : T = TT.of P) (mix : P.follows .mixedOrders = true)
  (hf : P.funcs[f]? = some fn) (hb : fn.body = some c) (hU : (fn.name == "runtime.NumGoroutine") = false) (hn : (args AR.std).length ≤ fn.ntmps)
  (hv : vcX P T gl .cut c fn.results.toList fn.ntmps own args R) : FX P gl f (own AR.std) (args AR.std) (R AR.std) := aO5 hT mix hf hb hU hn hv

theorem aUZ {P : Program} {gl : List (Nat × Obj)} {f : FuncId} {fn : Func} {c : Code} {args : AR → List PV} {R : AR → PV → Prop} {T : TT} (hT : T = TT.of P) (mix : P.follows .mixedOrders = true)
  (hf : P.funcs[f]? = some fn) (hb : fn.body = some c) (hU : (fn.name == "runtime.NumGoroutine") = false) (hn : (args AR.std).length ≤ fn.ntmps)
  (hv : vcS P T gl .rc c fn.results.toList fn.ntmps args R) : FS P gl f (args AR.std) (R AR.std) := aC8 hT mix hf hb hU hn hv

abbrev D0 : PV := .val (.bool false)

theorem aX {n : Int} (h0 : -9223372036854775808 ≤ n) (h1 : n ≤ 9223372036854775807) : IntKind.i64.wrap n = n := by rw [IntKind.wrap_i64]; omega

theorem bC (l : List Int) : (aA l).length = l.length := by simp [aA]
theorem yM (l : List Int) (k : Nat) (h : k < l.length) : (aA l).getD k D0 = I (l.getD k 0) := by
 simp [aA, List.getD, List.getElem?_eq_getElem h]
theorem jS (l : List Int) (k : Nat) : aCR ((aA l).getD k D0) 0 = l.getD k 0 := by
 by_cases h : k < l.length
 ·rw [yM l k h]; rfl
 ·rw [List.getD, List.getD, List.getElem?_eq_none (by rw [bC]; omega), List.getElem?_eq_none (by omega)]; rfl
theorem uN (l : List Int) (k : Nat) : ((aA l).getD k D0).cells.length = 1 := by
 by_cases h : k < l.length
 ·rw [yM l k h]; rfl
 ·rw [List.getD, List.getElem?_eq_none (by rw [bC]; omega)]; rfl
theorem jR (l : List Int) (k : Nat) (z : Int) (h : k < l.length) (hz : l.getD k 0 = z) : gT false 0 1 ((aA l).getD k D0).cells = I z := by
 rw [yM l k h, hz]; rfl
theorem uO (l : List Int) (n : Int) : aA l ++ [PV.val (.int .i64 n)] = aA (l ++ [n]) := by simp [aA]
theorem xD (l r : List Int) : aA l ++ aA r = aA (l ++ r) := by simp [aA]
theorem aFB : aA [] = [] := rfl
theorem sW (l : List PV) : [] ++ l = l := rfl
theorem aO6 (n : Int) : [PV.val (.int .i64 n)] = aA [n] := rfl
theorem ints_set (l : List Int) (k : Nat) (n : Int) : (aA l).set k (PV.val (.int .i64 n)) = aA (l.set k n) := by simp [aA, List.map_set]
theorem oJ (k : Nat) (n : Int) : List.replicate k (PV.val (.int .i64 n)) = aA (List.replicate k n) := by simp [aA]
theorem uP (l : List Int) (k : Nat) : (aA l).take k = aA (l.take k) := by simp [aA]
theorem uQ (l : List Int) (k : Nat) : (aA l).drop k = aA (l.drop k) := by simp [aA]
theorem nE (l : List Int) : ∀ p ∈ aA l, kY 1 p := by
 intro p hp
 simp only [aA, List.mem_map] at hp
 obtain ⟨n, _, rfl⟩ := hp
 exact ⟨rfl, rfl⟩
theorem kN (l : List Int) : ∀ p ∈ aA l, p.cells.length = 1 := fun p hp => (nE l p hp).1

theorem bBG (n : Nat) : @NatCast.natCast Int instNatCastInt n = @Nat.cast Int instNatCastInt n := rfl

end Go.Pe

/- Functions that hand out memory of their own, and nothing else's. -/
namespace Go.Pe
open Go Go.RowKit

def iV : PV → Bool
 | .val _ => true
 | .lst [] => true
 | _ => false

def nF : PV → Bool
 | .agg cs => cs.all iV
 | p => iV p

def yN : FV → Bool
 | .pv p => iV p
 | .own _ => true
 | _ => false

def jC : FV → Bool
 | .pv p => nF p
 | .own _ => true
 | .agg cs => cs.all yN
 | _ => false

def nI : FV → Bool
 | .tup cs => cs.all jC
 | .pv (.tup cs) => cs.all nF
 | x => jC x

def fU : Blk → Prop
 | .gone => True
 | .row _ _ els => ∀ p ∈ els, ∀ c ∈ p.cells, mD c = true
 | .box _ => False
 | .tree _ _ _ _ => True

theorem pB {w : World} {S S' : Nat → Prop} {v : Value} {p : PV} (hc : iV p = true) (h : Rep w S v p) : Rep w S' v p := by
 cases h with
 | val v hf => exact .val v hf
 | nil a c => exact .nil a c
 | lst b o c s els f hS hle => cases els with
  | nil => exact .nil _ _
  | cons x r => simp [iV] at hc
 | _ => simp [iV] at hc

theorem lL {w : World} {S S' : Nat → Prop} {v : Value} {p : PV} (hc : nF p = true) (h : Rep w S v p) : Rep w S' v p := by
 cases h with
 | agg cs f h1 hr => exact .agg cs f h1 fun j hj => pB (List.all_eq_true.1 hc _ (List.getElem_mem hj)) (hr j hj)
 | val v hf => exact .val v hf
 | nil a c => exact .nil a c
 | lst b o c s els f hS hle h2 h3 h4 h5 => exact pB (S := S) hc (.lst b o c s els f hS hle h2 h3 h4 h5)
 | _ => simp [nF, iV] at hc

theorem aDB {w : World} {S S' : Nat → Prop} {m : Nat → Option MV} {v : Value} {x : FV} (hc : yN x = true) (h : aF w S m v x) : aF w S' m v x := by
 cases h with
 | pv v p h => exact .pv v p (pB hc h)
 | own i v h => exact .own i v h
 | _ => simp [yN] at hc

theorem sX {w : World} {S S' : Nat → Prop} {m : Nat → Option MV} {v : Value} {x : FV} (hc : jC x = true) (h : aF w S m v x) : aF w S' m v x := by
 cases h with
 | pv v p h => exact .pv v p (lL hc h)
 | own i v h => exact .own i v h
 | agg cs f h1 hr => exact .agg cs f h1 fun j hj => aDB (List.all_eq_true.1 hc _ (List.getElem_mem hj)) (hr j hj)
 | _ => simp [jC] at hc

theorem vW {w : World} {S S' : Nat → Prop} {m : Nat → Option MV} {v : Value} {x : FV} (hc : nI x = true) (h : aF w S m v x) : aF w S' m v x := by
 cases h with
 | tup cs f hr => exact .tup cs f fun j hj => sX (List.all_eq_true.1 hc _ (List.getElem_mem hj)) (hr j hj)
 | pv v p h =>
  cases h with
  | tup cs f hr => exact .pv _ _ (.tup cs f fun j hj => lL (List.all_eq_true.1 hc _ (List.getElem_mem hj)) (hr j hj))
  | val v hf => exact .pv _ _ (.val v hf)
  | nil a c => exact .pv _ _ (.nil a c)
  | agg cs f h1 hr => exact .pv _ _ (lL (S := S) hc (.agg cs f h1 hr))
  | lst b o c s els f hS hle h2 h3 h4 h5 => exact .pv _ _ (lL (S := S) hc (.lst b o c s els f hS hle h2 h3 h4 h5))
  | fn => simp [nI, jC, nF, iV] at hc
  | ptr => simp [nI, jC, nF, iV] at hc
  | elt => simp [nI, jC, nF, iV] at hc
 | own i v h => exact .own i v h
 | agg cs f h1 hr => exact sX (S := S) hc (.agg cs f h1 hr)
 | _ => simp [nI, jC] at hc

theorem aHU {w : World} {S S' : Nat → Prop} {m m' : Nat → Option MV} {v : MV} {b : Blk} (hc : fU b) (h : cY w S m v b) : cY w S' m' v b := by
 cases b with
 | gone => trivial
 | box cs => exact hc.elim
 | tree e s et els => exact h
 | row e s els =>
  obtain ⟨h0, xs, f, aM, hs, hx, h1, h2, hr⟩ := h
  refine ⟨h0, xs, f, aM, hs, hx, h1, h2, fun k hk j hj => ?_⟩
  exact (iH (hr k hk j hj) (hc _ (List.getElem_mem hk) _ (List.getElem_mem hj))).mono (fun _ h => h.elim) (fun _ h => h.elim)

theorem kO {P : Program} {gl : List (Nat × Obj)} {f : FuncId} {args : List PV} {R : List Blk → FV → Prop} (h : FX P gl f [] (args.map FV.pv) R)
  (hc : ∀ own r, R own r → (∀ b ∈ own, fU b) ∧ nI r = true) : FN P gl f args R := by
 refine ⟨h.1, fun w vs hgl kF => ?_⟩
 have aSM : ∀ i, ¬ aK ([] : List Blk) i := by
  rintro i ⟨_, hb, _⟩
  simp at hb
 have := h.2 w (fun b => b < w.heap.size) (fun _ => none) vs hgl (fun _ hb => hb) (tY.mk (fun i v hv => by cases hv) (fun i b hi => by simp at hi) (fun i j b _ hi => (aSM i hi).elim) (fun i b hi => (aSM i hi).elim) (fun i b hi => (aSM i hi).elim))
  (fun i b hi => (aSM i hi).elim) (fun j hj => by
   simp only [List.length_map] at hj
   simp only [List.getElem_map]
   exact .pv _ _ (kF j hj))
 rw [List.length_map] at this
 refine this.mono ?_
 rintro e w' ⟨v, r, own', m', rfl, hR, _, _, hbx, hos, hbn, hrr⟩
 obtain ⟨hcb, hcr⟩ := hc own' r hR
 have hno : ∀ b, ¬ ∃ i, aK ([] : List Blk) i ∧ bA (fun _ => none) i b := by
  rintro b ⟨i, ⟨_, hb, _⟩, _⟩
  simp at hb
 refine ⟨v, r, own', m', rfl, hR, ⟨hbx.os, hbx.tape, hbx.output, hbx.size, fun k hk => hbx.block k hk (hno k)⟩, ⟨hos.len, fun i b hi hl => ?_, hos.sep, hos.lt, fun _ _ _ _ => id⟩, fun i b hi hb => (hbn i b hi hb).resolve_right (hno b), vW hcr hrr⟩
 obtain ⟨u, hu, hok⟩ := hos.ok i b hi hl
 exact ⟨u, hu, aHU (hcb b (List.mem_of_getElem? hi)) hok⟩

end Go.Pe

/- Numbers as lists of digits to the base 65536, the least first. -/
namespace Go.Dg

def val : List Int → Int
 | [] => 0
 | x :: r => x + 65536 * val r

def Valid (l : List Int) : Prop := ∀ x ∈ l, 0 ≤ x ∧ x < 65536

def dg (n : Nat) : List Int := if n = 0 then [] else ((n % 65536 : Nat) : Int) :: dg (n / 65536)
 termination_by n

theorem aO : dg 0 = [] := by rw [dg]; simp
theorem fC {n : Nat} (h : n ≠ 0) : dg n = ((n % 65536 : Nat) : Int) :: dg (n / 65536) := by rw [dg]; simp [h]

theorem Valid.tail {x : Int} {r : List Int} (h : Valid (x :: r)) : Valid r := fun y hy => h y (List.mem_cons_of_mem _ hy)
theorem Valid.head {x : Int} {r : List Int} (h : Valid (x :: r)) : 0 ≤ x ∧ x < 65536 := h x (by simp)
theorem Valid.nil : Valid [] := fun x hx => by simp at hx
theorem Valid.cons {x : Int} {r : List Int} (h0 : 0 ≤ x) (h1 : x < 65536) (h : Valid r) : Valid (x :: r) := by
 intro y hy
 rcases List.mem_cons.1 hy with rfl | hy
 ·exact ⟨h0, h1⟩
 ·exact h y hy
theorem Valid.append {l r : List Int} (h : Valid l) (h' : Valid r) : Valid (l ++ r) := fun x hx => (List.mem_append.1 hx).elim (h x) (h' x)
theorem Valid.one {x : Int} (h0 : 0 ≤ x) (h1 : x < 65536) : Valid [x] := Valid.cons h0 h1 Valid.nil
theorem Valid.set {l : List Int} {k : Nat} {x : Int} (h : Valid l) (h0 : 0 ≤ x) (h1 : x < 65536) : Valid (l.set k x) := fun y hy => by
 rcases List.mem_or_eq_of_mem_set hy with hy | rfl
 ·exact h y hy
 ·exact ⟨h0, h1⟩
theorem Valid.rep (n : Nat) : Valid (List.replicate n 0) := fun x hx => by rw [(List.mem_replicate.1 hx).2]; omega
theorem Valid.get {l : List Int} (h : Valid l) (k : Nat) : 0 ≤ l.getD k 0 ∧ l.getD k 0 < 65536 := by
 by_cases hk : k < l.length
 ·rw [List.getD, List.getElem?_eq_getElem hk]
  exact h _ (List.getElem_mem hk)
 ·rw [List.getD, List.getElem?_eq_none (by omega)]; exact ⟨by simp, by simp⟩
theorem Valid.take {l : List Int} (h : Valid l) (k : Nat) : Valid (l.take k) := fun x hx => h x (List.mem_of_mem_take hx)
theorem Valid.drop {l : List Int} (h : Valid l) (k : Nat) : Valid (l.drop k) := fun x hx => h x (List.mem_of_mem_drop hx)

theorem bD : ∀ {l : List Int}, Valid l → 0 ≤ val l
 | [], _ => by simp [val]
 | x :: r, h => by
  have := bD h.tail
  have := h.head
  simp only [val]; omega

theorem aQ (n : Nat) : val (dg n) = n := by
 induction n using Nat.strongRecOn with
 | ind n ih =>
  by_cases h : n = 0
  ·subst h; rw [aO]; rfl
  ·rw [fC h, val, ih (n / 65536) (by omega)]; omega

theorem aI (n : Nat) : Valid (dg n) := by
 induction n using Nat.strongRecOn with
 | ind n ih =>
  by_cases h : n = 0
  ·subst h; rw [aO]; exact Valid.nil
  ·rw [fC h]; exact Valid.cons (by omega) (by omega) (ih (n / 65536) (by omega))

def bG : List Int → List Int
 | [] => []
 | x :: r => match bG r with
  | [] => if x = 0 then [] else [x]
  | y :: t => x :: y :: t

theorem dO : ∀ {l : List Int}, Valid l → bG l = dg (val l).toNat
 | [], _ => by simp [bG, val, aO]
 | x :: r, h => by
  have ih := dO h.tail
  have h0 := bD h.tail
  have hx := h.head
  simp only [bG, val]
  by_cases hr : (val r).toNat = 0
  ·rw [hr, aO] at ih
   rw [ih]
   simp only
   have : val r = 0 := by omega
   split
   ·rename_i hx0; subst hx0; rw [this]; simp [aO]
   ·rename_i hx0
    have e0 : (x + 65536 * val r).toNat ≠ 0 := by omega
    rw [fC e0]
    have e1 : (x + 65536 * val r).toNat / 65536 = 0 := by omega
    rw [e1, aO]
    congr 1
    omega
  ·rw [fC hr] at ih
   rw [ih]
   simp only
   have e0 : (x + 65536 * val r).toNat ≠ 0 := by omega
   rw [fC e0]
   have e1 : (x + 65536 * val r).toNat / 65536 = (val r).toNat := by omega
   rw [e1, fC hr]
   congr 1
   omega

theorem vX : ∀ (l : List Int), bG (l ++ [0]) = bG l
 | [] => by simp [bG]
 | x :: r => by simp only [List.cons_append, bG, vX r]

theorem yO : ∀ (l : List Int) {x : Int}, x ≠ 0 → bG (l ++ [x]) = l ++ [x]
 | [], x, h => by simp [bG, h]
 | y :: r, x, h => by
  simp only [List.cons_append, bG, yO r h]
  cases r <;> rfl

theorem yP {l : List Int} (h : 0 < l.length) : l = l.take (l.length - 1) ++ [l.getD (l.length - 1) 0] := by
 have hk : l.length - 1 < l.length := by omega
 rw [List.getD, List.getElem?_eq_getElem hk]
 simp only [Option.getD_some]
 rw [← List.take_succ_eq_append_getElem hk]
 rw [List.take_of_length_le (by omega)]

theorem jZ {l : List Int} (h : 0 < l.length) (hz : l.getD (l.length - 1) 0 ≠ 0) : bG l = l := by
 rw [yP h]; exact yO _ hz
theorem jY {l : List Int} (h : 0 < l.length) (hz : l.getD (l.length - 1) 0 = 0) : bG (l.take (l.length - 1)) = bG l := by
 conv => rhs; rw [yP h, hz]
 exact (vX _).symm
theorem eV {l : List Int} (h : l.length = 0) : bG l = l := by
 have : l = [] := List.length_eq_zero_iff.1 h
 subst this; rfl

theorem iL (l r : List Int) : val (l ++ r) = val l + 65536 ^ l.length * val r := by
 induction l with
 | nil => simp [val]
 | cons x l ih =>
  simp only [List.cons_append, val, ih, List.length_cons, Int.pow_succ]
  rw [Int.mul_add, Int.mul_comm (65536 ^ l.length) 65536, Int.mul_assoc]
  omega
theorem jD (l : List Int) (x : Int) : val (l ++ [x]) = val l + 65536 ^ l.length * x := by rw [iL]; simp [val]

theorem jM (n : Nat) : val (List.replicate n 0) = 0 := by
 induction n with
 | zero => rfl
 | succ n ih => simp [List.replicate_succ, val, ih]

theorem jN : ∀ (l : List Int) (k : Nat) (x : Int), k < l.length → val (l.set k x) = val l + 65536 ^ k * (x - l.getD k 0)
 | [], k, x, h => by simp at h
 | y :: r, 0, x, h => by simp [val]; omega
 | y :: r, k + 1, x, h => by
  simp only [List.set_cons_succ, val, jN r k x (by simpa using h), List.getD_cons_succ, Int.pow_succ]
  rw [Int.mul_add, Int.mul_comm (65536 ^ k) 65536, Int.mul_assoc]
  omega

theorem dS {l : List Int} {k : Nat} (h : k < l.length) : val (l.take (k + 1)) = val (l.take k) + 65536 ^ k * l.getD k 0 := by
 rw [List.take_succ_eq_append_getElem h, jD, List.length_take, Nat.min_eq_left (by omega), List.getD, List.getElem?_eq_getElem h]
 rfl

theorem pow_pos (k : Nat) : (0 : Int) < 65536 ^ k := Int.pow_pos (by decide)

theorem aT : ∀ (k n : Nat), n < 65536 ^ k → (dg n).length ≤ k
 | 0, n, h => by
  have : n = 0 := by simp at h; exact h
  subst this; rw [aO]; simp
 | k + 1, n, h => by
  by_cases h0 : n = 0
  ·subst h0; rw [aO]; simp
  ·rw [fC h0]
   have := aT k (n / 65536) (by rw [Nat.pow_succ] at h; omega)
   simpa using this
theorem lQ (n : Nat) (h : n ≤ 9223372036854775807) : (dg n).length ≤ 100 := by
 have := aT 4 n (by omega)
 omega

theorem lY {x y : Int} (hx : 0 ≤ x ∧ x < 65536) (hy : 0 ≤ y ∧ y < 65536) : 0 ≤ x * y ∧ x * y ≤ 4294836225 := by
 refine ⟨Int.mul_nonneg hx.1 hy.1, ?_⟩
 have h1 : x * y ≤ 65535 * y := Int.mul_le_mul_of_nonneg_right (by omega) hy.1
 omega

theorem getD_set_ne {l : List Int} {k q : Nat} {x : Int} (h : k ≠ q) : (l.set k x).getD q 0 = l.getD q 0 := by
 simp only [List.getD, List.getElem?_set, if_neg h]

theorem aBY {out : List Int} {i j : Nat} {carry x y V W c : Int} (h : val out + carry * 65536 ^ (i + j) = V + x * W * 65536 ^ i) (hk : i + j < out.length)
  (hc : c = carry + (out.getD (i + j) 0 + x * y)) : val (out.set (i + j) (c % 65536)) + (c / 65536) * 65536 ^ (i + (j + 1)) = V + x * (W + 65536 ^ j * y) * 65536 ^ i := by
 rw [jN _ _ _ hk]
 have e1 : (65536 : Int) ^ (i + (j + 1)) = 65536 ^ (i + j) * 65536 := by rw [← Nat.add_assoc, Int.pow_succ]
 have e2 : (65536 : Int) ^ (i + j) = 65536 ^ i * 65536 ^ j := by rw [Int.pow_add]
 have e3 : c = 65536 * (c / 65536) + c % 65536 := by omega
 rw [e1]
 generalize c / 65536 = q at *
 generalize c % 65536 = r at *
 generalize (65536 : Int) ^ (i + j) = p at *
 grind

theorem aBZ {out : List Int} {i n : Nat} {carry x V W Z : Int} (h : val out + carry * 65536 ^ (i + n) = V + x * W * 65536 ^ i) (hV : V = Z * W) (hk : i + n < out.length)
  (h0 : out.getD (i + n) 0 = 0) : val (out.set (i + n) carry) = (Z + 65536 ^ i * x) * W := by
 rw [jN _ _ _ hk, h0]
 grind

theorem dV {n : Nat} (h : 0 < n) : 0 < (dg n).length := by rw [fC (by omega)]; simp

def up1 (k : Int) : Nat → List Int
 | 0 => []
 | n + 1 => up1 k n ++ [k + n]

theorem qJ (k : Int) : ∀ n, (up1 k n).length = n
 | 0 => rfl
 | n + 1 => by simp [up1, qJ k n]

theorem aDC (k : Int) : ∀ (n j : Nat), j < n → (up1 k n).getD j 0 = k + j
 | 0, j, h => by omega
 | n + 1, j, h => by
  simp only [up1, List.getD]
  by_cases hj : j < n
  ·rw [List.getElem?_append_left (by rw [qJ]; exact hj)]
   exact aDC k n j hj
  ·have : j = n := by omega
   subst this
   rw [List.getElem?_append_right (by rw [qJ]; omega), qJ]
   simp

theorem yQ {l r : List Int} (h : l.length = r.length) (hg : ∀ j, j < l.length → l.getD j 0 = r.getD j 0) : l = r := by
 apply List.ext_getElem h
 intro j h1 h2
 have := hg j h1
 rwa [List.getD, List.getD, List.getElem?_eq_getElem h1, List.getElem?_eq_getElem h2] at this

theorem gE {l : List Int} {k : Nat} {x : Int} (h : k < l.length) : (l.set k x).getD k 0 = x := by
 simp [List.getD, h]

end Go.Dg

/- Numbers as lists of digits: order, shifts: plain laws. -/
namespace Go.Dg

theorem bW : ∀ {l : List Int}, Valid l → val l < 65536 ^ l.length
 | [], _ => by simp [val]
 | x :: r, h => by
  have h1 := bW h.tail
  have h2 := h.head
  simp only [val, List.length_cons, Int.pow_succ]
  omega

theorem jT {x y : Nat} (h : (dg x).length < (dg y).length) : x < y := by
 have h1 := bW (aI x)
 rw [aQ] at h1
 have h2 : ¬ y < 65536 ^ (dg x).length := fun hy => by have := aT _ _ hy; omega
 have h3 : (x : Int) < ((65536 ^ (dg x).length : Nat) : Int) := by rw [Int.natCast_pow]; exact h1
 have h4 : x < 65536 ^ (dg x).length := by exact_mod_cast h3
 omega

theorem aB0 (l : List Int) (i : Nat) (h : i < l.length) : val l = val (l.take i) + 65536 ^ i * (l.getD i 0 + 65536 * val (l.drop (i + 1))) := by
 have e : l = l.take i ++ (l.getD i 0 :: l.drop (i + 1)) := by
  rw [List.getD, List.getElem?_eq_getElem h]
  simp
 conv => lhs; rw [e, iL]
 rw [List.length_take, Nat.min_eq_left (by omega)]
 rfl

theorem qK {a b : List Int} (ha : Valid a) (hb : Valid b) (hl : a.length = b.length) {i : Nat} (hi : i < a.length) (hd : a.drop (i + 1) = b.drop (i + 1)) (h : a.getD i 0 < b.getD i 0) : val a < val b := by
 rw [aB0 a i hi, aB0 b i (by omega), hd]
 have h1 := bW (ha.take i)
 have h2 := bD (hb.take i)
 rw [List.length_take, Nat.min_eq_left (by omega)] at h1
 have h3 : (65536 : Int) ^ i * (a.getD i 0 + 65536 * val (b.drop (i + 1)) + 1) ≤ 65536 ^ i * (b.getD i 0 + 65536 * val (b.drop (i + 1))) := Int.mul_le_mul_of_nonneg_left (by omega) (Int.le_of_lt (pow_pos i))
 rw [Int.mul_add _ _ 1, Int.mul_one] at h3
 omega

theorem sY {a b : List Int} {i : Nat} (hl : a.length = b.length) (hi : i < a.length) (hd : a.drop (i + 1) = b.drop (i + 1)) (h : a.getD i 0 = b.getD i 0) : a.drop i = b.drop i := by
 rw [List.getD, List.getD, List.getElem?_eq_getElem hi, List.getElem?_eq_getElem (by omega)] at h
 rw [List.drop_eq_getElem_cons hi, List.drop_eq_getElem_cons (by omega : i < b.length), hd]
 simp only [Option.getD_some] at h
 rw [h]

def dJ (x y : Nat) : Int := if x < y then -1 else if y < x then 1 else 0

theorem lB {b : Nat} (h : b < 16) : (1 : Int) ≤ 2 ^ b ∧ (2 : Int) ^ b ≤ 32768 := by
 have : b = 0 ∨ b = 1 ∨ b = 2 ∨ b = 3 ∨ b = 4 ∨ b = 5 ∨ b = 6 ∨ b = 7 ∨ b = 8 ∨ b = 9 ∨ b = 10 ∨ b = 11 ∨ b = 12 ∨ b = 13 ∨ b = 14 ∨ b = 15 := by omega
 rcases this with h | h | h | h | h | h | h | h | h | h | h | h | h | h | h | h <;> subst h <;> decide

theorem oI {x p : Int} (hx : 0 ≤ x ∧ x < 65536) (hp : 1 ≤ p ∧ p ≤ 32768) : 0 ≤ x * p ∧ x * p ≤ 2147450880 := by
 refine ⟨Int.mul_nonneg hx.1 (by omega), ?_⟩
 have h1 : x * p ≤ 65535 * p := Int.mul_le_mul_of_nonneg_right (by omega) (by omega)
 omega

theorem aJ1 {out : List Int} {q i : Nat} {carry x p W c : Int} (h : val out + carry * 65536 ^ (q + i) = W * p * 65536 ^ q) (hl : out.length = q + i) (hc : c = carry + x * p) :
  val (out ++ [c % 65536]) + (c / 65536) * 65536 ^ (q + (i + 1)) = (W + 65536 ^ i * x) * p * 65536 ^ q := by
 rw [jD, hl]
 have e1 : (65536 : Int) ^ (q + (i + 1)) = 65536 ^ (q + i) * 65536 := by rw [← Nat.add_assoc, Int.pow_succ]
 have e2 : (65536 : Int) ^ (q + i) = 65536 ^ q * 65536 ^ i := by rw [Int.pow_add]
 have e3 : c = 65536 * (c / 65536) + c % 65536 := by omega
 rw [e1]
 generalize c / 65536 = u at *
 generalize c % 65536 = r at *
 generalize (65536 : Int) ^ (q + i) = z at *
 grind

theorem aB1 (k : Nat) : (2 : Int) ^ (k % 16) * 65536 ^ (k / 16) = 2 ^ k := by
 have e : (65536 : Int) = 2 ^ 16 := by decide
 rw [e, ← Int.pow_mul, ← Int.pow_add]
 congr 1
 omega

def bl (n : Nat) : Nat := if n = 0 then 0 else bl (n / 2) + 1
 termination_by n

theorem aDD : bl 0 = 0 := by rw [bl]; simp
theorem aDE {n : Nat} (h : n ≠ 0) : bl n = bl (n / 2) + 1 := by rw [bl]; simp [h]

theorem aD3 : ∀ (k n : Nat), bl n ≤ k ↔ n < 2 ^ k
 | 0, n => by
  by_cases h : n = 0
  ·subst h; simp [aDD]
  ·rw [aDE h]; simp; omega
 | k + 1, n => by
  by_cases h : n = 0
  ·subst h; simp [aDD, Nat.two_pow_pos]
  ·rw [aDE h, Nat.add_le_add_iff_right, aD3 k (n / 2), Nat.pow_succ]; omega

theorem aDF : ∀ (k n : Nat), 2 ^ k ≤ n → bl n = bl (n / 2 ^ k) + k
 | 0, n, _ => by simp
 | k + 1, n, h => by
  have h1 : 2 ^ (k + 1) = 2 * 2 ^ k := by rw [Nat.pow_succ]; omega
  have h2 := Nat.two_pow_pos k
  rw [aDE (by omega), aDF k (n / 2) (by omega), h1, Nat.div_div_eq_div_mul]
  omega

theorem aGY : ∀ (n : Nat), n ≠ 0 → (bl n : Int) = 16 * ((dg n).length - 1) + bl ((dg n).getD ((dg n).length - 1) 0).toNat := by
 intro n
 induction n using Nat.strongRecOn with
 | ind n ih =>
  intro h
  rw [fC h]
  by_cases h1 : n < 65536
  ·have e1 : n / 65536 = 0 := by omega
   rw [e1, aO]
   have e2 : n % 65536 = n := by omega
   rw [e2]
   simp
  ·have h2 := ih (n / 65536) (by omega) (by omega)
   have h3 : 0 < (dg (n / 65536)).length := dV (by omega)
   have h4 := aDF 16 n (by omega)
   rw [show (2 : Nat) ^ 16 = 65536 by decide] at h4
   rw [h4]
   have e : (((n % 65536 : Nat) : Int) :: dg (n / 65536)).length - 1 = ((dg (n / 65536)).length - 1) + 1 := by simp; omega
   rw [e, List.getD_cons_succ]
   simp only [List.length_cons]
   omega

end Go.Dg

/- Dyadic numbers: an integer times a power of two, and the one form that each has. -/
namespace Go.Dg

def mk (z e : Int) : Dyadic := Dyadic.ofIntWithPrec z (-e)

theorem jG (z e : Int) : (mk z e).toRat = z * 2 ^ e := by
 unfold mk; rw [Dyadic.toRat_ofIntWithPrec_eq_mul_two_pow, Int.neg_neg]

theorem aO7 : (2 : Rat) ≠ 0 := by decide
theorem two_pos (e : Int) : (0 : Rat) < 2 ^ e := Rat.zpow_pos (by decide)

theorem aHV (a b e : Int) : mk a e + mk b e = mk (a + b) e := by
 apply Dyadic.toRat_inj.1
 rw [Dyadic.toRat_add, jG, jG, jG, Rat.intCast_add, Rat.add_mul]

theorem uR (a e : Int) : -mk a e = mk (-a) e := by
 apply Dyadic.toRat_inj.1
 rw [Dyadic.toRat_neg, jG, jG, Rat.intCast_neg, Rat.neg_mul]

theorem aHW (a b e f : Int) : mk a e * mk b f = mk (a * b) (e + f) := by
 apply Dyadic.toRat_inj.1
 rw [Dyadic.toRat_mul, jG, jG, jG, Rat.intCast_mul, Rat.zpow_add aO7]
 grind

theorem pC (a e : Int) (k : Nat) : mk (a * 2 ^ k) (e - k) = mk a e := by
 apply Dyadic.toRat_inj.1
 rw [jG, jG, Rat.intCast_mul, Rat.intCast_pow]
 have h : (2 : Rat) ^ e = 2 ^ (k : Nat) * 2 ^ (e - k) := by
  rw [← Rat.zpow_natCast, ← Rat.zpow_add aO7]
  congr 1; omega
 rw [h]
 have : ((2 : Int) : Rat) = 2 := rfl
 rw [this]
 grind

theorem mk_zero (e : Int) : mk 0 e = 0 := rfl

theorem aJ2 (a b e : Int) : mk a e < mk b e ↔ a < b := by
 rw [← Dyadic.toRat_lt_toRat_iff, jG, jG, Rat.mul_lt_mul_right (two_pos e)]
 exact Rat.intCast_lt_intCast

theorem mk_inj (a b e : Int) : mk a e = mk b e ↔ a = b := by
 constructor
 ·intro h
  rcases Int.lt_trichotomy a b with h1 | h1 | h1
  ·have := (aJ2 a b e).2 h1; rw [h] at this; exact absurd this (Std.lt_irrefl)
  ·exact h1
  ·have := (aJ2 b a e).2 h1; rw [h] at this; exact absurd this (Std.lt_irrefl)
 ·rintro rfl; rfl

def cZ : Dyadic → Int
 | .zero => 0
 | .ofOdd n _ _ => n
def cE : Dyadic → Int
 | .zero => 0
 | .ofOdd _ k _ => -k

theorem cH (d : Dyadic) : mk (cZ d) (cE d) = d := by
 cases d with
 | zero => rfl
 | ofOdd n k h => unfold mk cZ cE; rw [Int.neg_neg]; exact Dyadic.ofOdd_eq_ofIntWithPrec.symm

theorem dT : cZ 0 = 0 := rfl
theorem nJ : cE 0 = 0 := rfl

theorem aHX {d : Dyadic} (h : d ≠ 0) : cZ d % 2 = 1 := by
 cases d with
 | zero => exact absurd rfl h
 | ofOdd n k hn => exact hn

theorem eI {d : Dyadic} : cZ d = 0 ↔ d = 0 := by
 constructor
 ·intro h
  refine Classical.byContradiction fun hd => ?_
  have := aHX hd
  omega
 ·rintro rfl; rfl

theorem uS {z e : Int} (h : z % 2 = 1) : cZ (mk z e) = z ∧ cE (mk z e) = e := by
 have : mk z e = .ofOdd z (-e) h := by unfold mk; exact Dyadic.ofOdd_eq_ofIntWithPrec.symm
 rw [this]
 exact ⟨rfl, Int.neg_neg e⟩

theorem yR {z o e : Int} {k : Nat} (ho : o % 2 = 1) (hz : z = o * 2 ^ k) : cZ (mk z e) = o ∧ cE (mk z e) = e + k := by
 have h : mk z e = mk o (e + k) := by
  rw [hz, ← pC o (e + k) k]
  congr 1; omega
 rw [h]
 exact uS ho

end Go.Dg

/- Loops and calls, where the conditions keep them apart. -/
namespace Go.Pe
open Go Go.RowKit

theorem aJ3 {s : Int} (h1 : s ≤ 64) : Min.min s.toNat IntKind.i64.bits = s.toNat := Nat.min_eq_left (by show s.toNat ≤ 64; omega)
theorem aFC (a : Int) (n : Nat) : a.fdiv (2 ^ n) = a / 2 ^ n := Int.fdiv_eq_ediv_of_nonneg _ (Int.le_of_lt (Int.pow_pos (by decide)))

def aHY : Code → List Nat
 | .region _ ops _ => ops.toList.filterMap (·.dst)
 | .seq a b => aHY a ++ aHY b
 | .cond _ a b => aHY a ++ aHY b
 | .block _ c => aHY c
 | .loop c => aHY c
 | _ => []

def aSN : FV → Bool
 | .junk => false
 | _ => true

def aXD (ow : List (Nat × Blk)) : FV → Bool
 | .own i => ow.any fun x => x.1 == i
 | .relt i _ _ _ => ow.any fun x => x.1 == i
 | _ => false

def gB (c : Code) (st : St) (ch : List (Nat × FV)) (ow : List (Nat × Blk)) : List Nat :=
 ((List.range st.nt).filter fun t => !(aHY c).contains t && (ch.all fun x => !(x.1 == t)) && aSN (st.get t) && !aXD ow (st.get t)) ++ ch.map (·.1)

def aT2 (ch : List (Nat × FV)) (t : Nat) (x : FV) : FV :=
 match ch with
 | [] => x
 | (k, y) :: r => if t = k then y else aT2 r t x

def aT3 (ow : List (Nat × Blk)) (n : Nat) (b : Blk) : Blk :=
 match ow with
 | [] => b
 | (k, y) :: r => if n = k then y else aT3 r n b

def aO8 (ow : List (Nat × Blk)) : Nat → List Blk → List Blk
 | _, [] => []
 | n, b :: r => aT3 ow n b :: aO8 ow (n + 1) r

def St.patch (st : St) (ch : List (Nat × FV)) (ow : List (Nat × Blk)) : St :=
 { st with slots := st.slots.map fun x => (x.1, aT2 ch x.1 x.2), own := aO8 ow 0 st.own }

def St.jH (st : St) (keep : List Nat) (k : Nat) : St := (st.norm keep k).getD st

theorem aO9 {A : AR} (hA : A = AR.std) {c : Code} {body : (Ex → St → Prop) → St → Prop} {Q : Ex → St → Prop} {st : St} (ls : List qP) {ι : Type} (ch : ι → List (Nat × FV)) (ow : ι → List (Nat × Blk)) (μ : ι → Nat) (Inv : ι → Prop) (i0 : ι)
  (h0 : (((st.bJ ls).norm (gB c (st.bJ ls) (ch i0) (ow i0)) (st.bJ ls).own.length).isSome) = true)
  (h1 : ((st.bJ ls).jH (gB c (st.bJ ls) (ch i0) (ow i0)) (st.bJ ls).own.length).patch (ch i0) (ow i0) = (st.bJ ls).jH (gB c (st.bJ ls) (ch i0) (ow i0)) (st.bJ ls).own.length)
  (hL : st.qD ls) (hi : Inv i0)
  (h : ∀ i, Inv i → body (fun e s => match e with
    | .normal => ∃ j : { i : ι // Inv i }, s.norm (gB c (st.bJ ls) (ch i0) (ow i0)) (st.bJ ls).own.length = some (((st.bJ ls).jH (gB c (st.bJ ls) (ch i0) (ow i0)) (st.bJ ls).own.length).patch (ch j.1) (ow j.1)) ∧ μ j.1 < μ i
    | e => Q e s) (((st.bJ ls).jH (gB c (st.bJ ls) (ch i0) (ow i0)) (st.bJ ls).own.length).patch (ch i) (ow i))) : A.loop c body Q st := by
 subst hA
 refine ⟨ls, gB c (st.bJ ls) (ch i0) (ow i0), (st.bJ ls).own.length, { i : ι // Inv i }, fun i => ((st.bJ ls).jH (gB c (st.bJ ls) (ch i0) (ow i0)) (st.bJ ls).own.length).patch (ch i.1) (ow i.1), fun i => μ i.1, ⟨i0, hi⟩, [], hL, ?_, ?_⟩
 ·show _ = some (St.patch _ (ch i0) (ow i0))
  rw [h1]
  unfold St.jH
  cases hn : (st.bJ ls).norm (gB c (st.bJ ls) (ch i0) (ow i0)) (st.bJ ls).own.length with
  | none => rw [hn] at h0; cases h0
  | some s => rfl
 ·rintro ⟨i, hi⟩
  exact h i hi

def yS : List qP → Bool
 | [] => true
 | .tree _ _ :: _ => false
 | _ :: r => yS r

theorem uT : ∀ (ls : List qP) (st : St), yS ls = true → st.qD ls
 | [], _, _ => trivial
 | l :: r, st, h => by
  cases l with
  | tree i et => cases h
  | _ => exact ⟨trivial, uT r _ h⟩

theorem aZ {A : AR} (hA : A = AR.std) {c : Code} {body : (Ex → St → Prop) → St → Prop} {Q : Ex → St → Prop} {st : St} (ls : List qP) {ι : Type} (ch : ι → List (Nat × FV)) (ow : ι → List (Nat × Blk)) (μ : ι → Nat) (Inv : ι → Prop) (i0 : ι)
  (h0 : (((st.bJ ls).norm (gB c (st.bJ ls) (ch i0) (ow i0)) (st.bJ ls).own.length).isSome) = true)
  (h1 : ((st.bJ ls).jH (gB c (st.bJ ls) (ch i0) (ow i0)) (st.bJ ls).own.length).patch (ch i0) (ow i0) = (st.bJ ls).jH (gB c (st.bJ ls) (ch i0) (ow i0)) (st.bJ ls).own.length)
  (hi : Inv i0)
  (h : ∀ i, Inv i → body (fun e s => match e with
    | .normal => ∃ j : { i : ι // Inv i }, s.norm (gB c (st.bJ ls) (ch i0) (ow i0)) (st.bJ ls).own.length = some (((st.bJ ls).jH (gB c (st.bJ ls) (ch i0) (ow i0)) (st.bJ ls).own.length).patch (ch j.1) (ow j.1)) ∧ μ j.1 < μ i
    | e => Q e s) (((st.bJ ls).jH (gB c (st.bJ ls) (ch i0) (ow i0)) (st.bJ ls).own.length).patch (ch i) (ow i))) (hT : yS ls = true := by rfl) : A.loop c body Q st := by
 exact aO9 hA ls ch ow μ Inv i0 h0 h1 (uT ls st hT) hi h

theorem aD {A : AR} (hA : A = AR.std) {P : Program} {gl : List (Nat × Obj)} {st : St} {fid : FuncId} {args : List FV} {as : List PV} {R : PV → Prop} {K : FV → St → Prop}
  (hs : fK st.own (tX st.own args) args = some as) (h : FS P gl fid as R) (hk : ∀ r, R r → K (.pv r) (st.fW (tX st.own args))) : A.call P gl st fid args K := by
 subst hA; exact .inl ⟨as, R, hs, h, hk⟩

theorem lD {A : AR} (hA : A = AR.std) {P : Program} {gl : List (Nat × Obj)} {st : St} {fid : FuncId} {args : List FV} {as : List PV} {R : PV → Prop} {K : FV → St → Prop}
  (hs : fK st.own (tX st.own args) args = some as) (h : FS P gl fid as R) (hk : ∀ r, R r → (∃ v, r = .val v) ∧ K (.pv r) st) : A.call P gl st fid args K := by
 subst hA; exact .inr (.inl ⟨as, R, hs, h, hk⟩)

theorem dE {A : AR} (hA : A = AR.std) {P : Program} {gl : List (Nat × Obj)} {st : St} {fid : FuncId} {args : List FV} {as : List PV} {R : List Blk → FV → Prop} {K : FV → St → Prop}
  (hs : fK st.own (tX st.own args) args = some as) (h : FN P gl fid as R)
  (hk : ∀ own' r, R own' r → (own'.all fN) = true ∧ K (aBI [] st.own.length r) { st with own := st.own ++ own' }) : A.call P gl st fid args K := by
 subst hA; exact .inr (.inr (.inl ⟨as, R, hs, h, hk⟩))

theorem gO {A : AR} (hA : A = AR.std) {P : Program} {gl : List (Nat × Obj)} {st : St} {fid : FuncId} {args : List FV} (ds : List Nat) {bs : List Blk} {as : List FV} {R : List Blk → FV → Prop} {K : FV → St → Prop}
  (hd : ds.Nodup) (hb : fQ (fun i => st.own[i]?) ds = some bs) (hl : (bs.all fun b => b.live && fN b) = true) (ha : fQ (aCV ds) args = some as) (h : FX P gl fid bs as R)
  (hk : ∀ own' r, R own' r → (own'.all fN) = true ∧ K (aBI ds st.own.length r) { st with own := eE ds own' st.own ++ own'.drop ds.length }) : A.call P gl st fid args K := by
 subst hA; exact .inr (.inr (.inr (.inr ⟨ds, bs, as, R, hd, hb, hl, ha, h, hk⟩)))

theorem aXE {A : AR} (hA : A = AR.std) {P : Program} {gl : List (Nat × Obj)} {st : St} {fid : FuncId} {args : List FV} {i s k j : Nat} {e et : TypeId} {els els' l l' : List PV} {v : Value} {as : List FV} {K : FV → St → Prop}
  (hf : aCX args = some (i, s, k, j)) (hi : st.own[i]? = some (.tree e s et els)) (hj : j < s) (ha : fQ (xN i s k j) args = some as)
  (hk : k < els.length) (hc : cellAt (els.getD k (.val (.bool false))) j = .lst l) (hne : l ≠ []) (hv : qT l') (he : els' = els.set k (setCells (els.getD k (.val (.bool false))) j [.lst l']))
  (h : FX P gl fid [.row et 1 l] as (fun own r => own = [.row et 1 l'] ∧ r = .pv (.val v)))
  (hK : K (.pv (.val v)) (st.aR i (.tree e s et els'))) : A.call P gl st fid args K := by
 subst hA; subst he
 refine .inr (.inr (.inr (.inl ⟨i, s, k, j, e, et, els, l, as, _, hf, hi, hk, hj, hc, hne, ha, h, ?_⟩)))
 rintro own' r ⟨rfl, rfl⟩
 exact ⟨l', v, rfl, rfl, hv, hK⟩

section
variable {A : AR} (hA : A = AR.std)
include hA
theorem aU0 {a b : Int} (h : a ≤ b) : A.lei a b := by subst hA; exact h
theorem aU1 {a b : Int} (h : a < b) : A.lti a b := by subst hA; exact h
theorem aU2 {a b : Nat} (h : a < b) : A.ltn a b := by subst hA; exact h
theorem aU3 {a : Int} (h : a ≠ 0) : A.nez a := by subst hA; exact h
theorem kP {l : List PV} {s : Nat} (h : ∀ p ∈ l, kY s p) : A.okA l s := by subst hA; exact h
theorem aSO {l : List PV} {s : Nat} (h : ∀ p ∈ l, p.cells.length = s) : A.allC l s := by subst hA; exact h
theorem lU {l r : List PV} (h : l.length + r.length ≤ 1000000000) : A.cap l r := by subst hA; exact h
theorem aLR {n : Nat} {p : PV} (h : n ≤ p.cells.length) : A.len_le n p := by subst hA; exact h
theorem aLS {n : Nat} {p : PV} (h : p.cells.length = n) : A.len_eq p n := by subst hA; exact h
theorem aNP {ag : Bool} {o s : Nat} {p q : PV} (h : gT ag o s p.cells = q) : A.peq ag o s p q := by subst hA; exact h
end
theorem aDG {A : AR} (hA : A = AR.std) {p : PV} {o n : Nat} (h : gZ p o n) : A.valc p o n := by subst hA; exact h
theorem aJ4 {A : AR} (hA : A = AR.std) {l : List PV} (h : qT l) : A.aHD l := by subst hA; exact h
theorem aZF {A : AR} (hA : A = AR.std) {p q : PV} {j : Nat} (h : cellAt p j = q) : A.cel p j q := by subst hA; exact h
theorem aU4 {A : AR} (hA : A = AR.std) {p : PV} {j : Nat} (h : ∃ l, cellAt p j = .lst l) : A.isl p j := by subst hA; exact h
theorem aU5 {A : AR} (hA : A = AR.std) {l : List PV} (h : ∀ p ∈ l, (p.cells.all mD) = true) : A.lfA l := by subst hA; exact h

def lV : List qP → List qP
 | [] => []
 | .tree _ _ :: r => lV r
 | .slot t e s :: r => .slot t e s :: lV r
 | .cell i j e s :: r => .cell i j e s :: lV r
 | .move i :: r => .move i :: lV r
 | .nilc i j :: r => .nilc i j :: lV r
 | .nils t :: r => .nils t :: lV r

theorem aB2 : ∀ ls : List qP, yS (lV ls) = true
 | [] => rfl
 | l :: r => by cases l <;> simp only [lV, yS] <;> exact aB2 r

theorem qW {A : AR} (hA : A = AR.std) {c : Code} {body : (Ex → St → Prop) → St → Prop} {Q : Ex → St → Prop} {st : St}
  (h : ∃ (ls : List qP) (keep : List Nat) (k : Nat) (ι : Type) (f : ι → St) (μ : ι → Nat) (i0 : ι), (st.bJ (lV ls)).norm keep k = some (f i0) ∧
   ∀ i, body (fun e s => match e with
    | .normal => ∃ j, s.norm keep k = some (f j) ∧ μ j < μ i
    | e => Q e s) (f i)) : A.loop c body Q st := by
 subst hA
 obtain ⟨ls, keep, k, ι, f, μ, i0, h1, h2⟩ := h
 exact ⟨lV ls, keep, k, ι, f, μ, i0, [], uT _ st (aB2 ls), h1, h2⟩

end Go.Pe

/- Steps of loops over digits: plain laws. -/
namespace Go.Dg

theorem cN (l : List Int) (k : Nat) : val (l.take (k + 1)) = val (l.take k) + 65536 ^ k * l.getD k 0 := by
 by_cases h : k < l.length
 ·exact dS h
 ·rw [List.take_of_length_le (by omega), List.take_of_length_le (by omega), List.getD, List.getElem?_eq_none (by omega)]
  simp

theorem Valid.snoc {o : List Int} {x : Int} (h : Valid o) (h0 : 0 ≤ x) (h1 : x < 65536) : Valid (o ++ [x]) := h.append (Valid.one h0 h1)

theorem dU {l : List Int} {k : Nat} (h : l.length ≤ k) : l.getD k 0 = 0 := by
 rw [List.getD, List.getElem?_eq_none h]; rfl

theorem aB3 {o : List Int} {i : Nat} {c s x : Int} (h : val o + c * 65536 ^ i = s) (hl : o.length = i) :
  val (o ++ [(c + x) % 65536]) + (c + x) / 65536 * 65536 ^ (i + 1) = s + 65536 ^ i * x := by
 rw [jD, hl]
 have := Int.emod_add_mul_ediv (c + x) 65536
 have e : (65536 : Int) ^ (i + 1) = 65536 ^ i * 65536 := Int.pow_succ _ _
 grind

theorem aHZ {o : List Int} {i : Nat} {w s x d w' : Int} (h : val o - w * 65536 ^ i = s) (hl : o.length = i) (hd : d - 65536 * w' = x - w) :
  val (o ++ [d]) - w' * 65536 ^ (i + 1) = s + 65536 ^ i * x := by
 rw [jD, hl]
 have e : (65536 : Int) ^ (i + 1) = 65536 ^ i * 65536 := Int.pow_succ _ _
 grind

def aFD (a b : List Int) (i c : Int) (o : List Int) : Prop :=
 0 ≤ i ∧ i ≤ a.length + b.length ∧ o.length = i.toNat ∧ Valid o ∧ 0 ≤ c ∧ c ≤ 1 ∧ val o + c * 65536 ^ i.toNat = val (a.take i.toNat) + val (b.take i.toNat)

theorem aH0 (a b : List Int) : aFD a b 0 0 [] := ⟨Int.le_refl _, by omega, rfl, Valid.nil, Int.le_refl _, by decide, by simp [val]⟩

theorem aH1 {a b o : List Int} {i c : Int} (ha : Valid a) (hb : Valid b) (h : aFD a b i c o) {s : Int} (hs : s = c + a.getD i.toNat 0 + b.getD i.toNat 0) (hi : i < a.length + b.length) :
  aFD a b (i + 1) (s / 65536) (o ++ [s % 65536]) := by
 obtain ⟨hi0, hi1, hol, hov, hc0, hc1, cB⟩ := h
 have hx := ha.get i.toNat
 have hy := hb.get i.toNat
 have h1 := aB3 (x := a.getD i.toNat 0 + b.getD i.toNat 0) cB hol
 rw [← Int.add_assoc, ← hs] at h1
 have e2 : (i + 1).toNat = i.toNat + 1 := by omega
 refine ⟨by omega, by omega, by rw [e2]; simp [hol], hov.snoc (by omega) (by omega), by omega, by omega, ?_⟩
 rw [e2, cN, cN]
 grind

theorem aH2 {a b o : List Int} {i c : Int} {n : Nat} (h : aFD a b i c o) (h1 : a.length ≤ i) (h2 : b.length ≤ i) (hv : val a + val b = n) : bG (o ++ [c]) = dg n := by
 obtain ⟨hi0, hi1, hol, hov, hc0, hc1, cB⟩ := h
 rw [dO (hov.snoc hc0 (by omega)), jD]
 congr 1
 rw [List.take_of_length_le (by omega), List.take_of_length_le (by omega)] at cB
 rw [hol, Int.mul_comm, cB, hv]
 rfl

def uU (a b : List Int) (i w : Int) (o : List Int) : Prop :=
 0 ≤ i ∧ i ≤ a.length ∧ o.length = i.toNat ∧ Valid o ∧ 0 ≤ w ∧ w ≤ 1 ∧ val o - w * 65536 ^ i.toNat = val (a.take i.toNat) - val (b.take i.toNat)

theorem vY (a b : List Int) : uU a b 0 0 [] := ⟨Int.le_refl _, by omega, rfl, Valid.nil, Int.le_refl _, by decide, by simp [val]⟩

theorem vZ {a b o : List Int} {i w : Int} (ha : Valid a) (hb : Valid b) (h : uU a b i w o) {x d w' : Int} (hx : x = a.getD i.toNat 0 - w - b.getD i.toNat 0) (hi : i < a.length)
  (hd : (0 ≤ x ∧ d = x ∧ w' = 0) ∨ (x < 0 ∧ d = x + 65536 ∧ w' = 1)) :
  uU a b (i + 1) w' (o ++ [d]) := by
 obtain ⟨hi0, hi1, hol, hov, hc0, hc1, cB⟩ := h
 have h1 := ha.get i.toNat
 have h2 := hb.get i.toNat
 have h3 := aHZ (x := a.getD i.toNat 0 - b.getD i.toNat 0) (d := d) (w' := w') cB hol (by omega)
 have e2 : (i + 1).toNat = i.toNat + 1 := by omega
 refine ⟨by omega, by omega, by rw [e2]; simp [hol], hov.snoc (by omega) (by omega), by omega, by omega, ?_⟩
 rw [e2, cN, cN]
 grind

theorem wA {a b o : List Int} {i w : Int} {n : Nat} (h : uU a b i w o) (h1 : a.length ≤ i) (h2 : b.length ≤ i) (hv : val a - val b = n) : bG o = dg n := by
 obtain ⟨hi0, hi1, hol, hov, hc0, hc1, cB⟩ := h
 rw [dO hov]
 congr 1
 rw [List.take_of_length_le (by omega), List.take_of_length_le (by omega)] at cB
 have hlt := bW hov
 have h0 := bD hov
 have hp := pow_pos i.toNat
 have : w = 0 := by
  refine Classical.byContradiction fun hw => ?_
  have : w = 1 := by omega
  subst this
  rw [hol] at hlt
  omega
 subst this
 omega

end Go.Dg

/- Digits: shifts, bits, quotients by a digit: plain laws. -/
namespace Go.Dg

theorem pX : ∀ (j n : Nat), (dg n).getD j 0 = ((n / 65536 ^ j % 65536 : Nat) : Int)
 | 0, n => by
  by_cases h : n = 0
  ·subst h; simp [aO]
  ·rw [fC h]; simp
 | j + 1, n => by
  by_cases h : n = 0
  ·subst h; simp [aO]
  ·rw [fC h, List.getD_cons_succ, pX j (n / 65536), Nat.div_div_eq_div_mul, Nat.pow_succ, Nat.mul_comm 65536]

theorem aFE {l : List Int} {i : Nat} (h : i < l.length) : val (l.drop i) = l.getD i 0 + 65536 * val (l.drop (i + 1)) := by
 rw [List.drop_eq_getElem_cons h]
 simp only [val, List.getD, List.getElem?_eq_getElem h, Option.getD_some]

theorem fD {l : List Int} {i : Nat} (h : l.length ≤ i) : val (l.drop i) = 0 := by
 rw [List.drop_of_length_le h]; rfl

theorem dF (l : List Int) (i : Nat) : val (l.drop i) = l.getD i 0 + 65536 * val (l.drop (i + 1)) := by
 by_cases h : i < l.length
 ·exact aFE h
 ·rw [fD (by omega), fD (by omega), dU (by omega)]; rfl

theorem drop_set {l : List Int} {i : Nat} {x : Int} (h : i < l.length) : (l.set i x).drop i = x :: l.drop (i + 1) := by
 rw [List.drop_eq_getElem_cons (by simpa using h)]
 simp [List.drop_set]

def dsI (a : List Int) (d i rest : Int) (o : List Int) : Prop :=
 -1 ≤ i ∧ i < a.length ∧ o.length = a.length ∧ Valid o ∧ rest = val (a.drop (i + 1).toNat) % d ∧ val (o.drop (i + 1).toNat) = val (a.drop (i + 1).toNat) / d

theorem aFF (a : List Int) {d : Int} (hd : 0 < d) : dsI a d (a.length - 1) 0 (List.replicate a.length 0) := by
 have e : ((a.length : Int) - 1 + 1).toNat = a.length := by omega
 refine ⟨by omega, by omega, by simp, Valid.rep _, ?_, ?_⟩
 ·rw [e, List.drop_length]; simp [val]
 ·rw [e, List.drop_length]; simp [val]

theorem aFG {a o : List Int} {d i rest x : Int} (ha : Valid a) (hd0 : 0 < d) (hd1 : d < 65536) (h : dsI a d i rest o) (hi : 0 ≤ i) (hx : x = rest * 65536 + a.getD i.toNat 0) :
  dsI a d (i - 1) (x % d) (o.set i.toNat (x / d)) ∧ 0 ≤ x ∧ x < 4294967296 := by
 obtain ⟨h0, h1, h2, h3, h4, h5⟩ := h
 have hg := ha.get i.toNat
 have hr0 : 0 ≤ rest := by rw [h4]; exact Int.emod_nonneg _ (by omega)
 have hr1 : rest < d := by rw [h4]; exact Int.emod_lt_of_pos _ hd0
 have e1 : (i + 1).toNat = i.toNat + 1 := by omega
 have e2 : (i - 1 + 1).toNat = i.toNat := by omega
 rw [e1] at h4 h5
 have hx0 : 0 ≤ x := by omega
 have hq : x / d < 65536 := by
  apply Int.ediv_lt_of_lt_mul hd0
  have : rest * 65536 + 65536 ≤ d * 65536 := by omega
  omega
 have hda := aFE (l := a) (i := i.toNat) (by omega)
 have key : val (a.drop i.toNat) = x + d * (65536 * (val (a.drop (i.toNat + 1)) / d)) := by
  have := Int.emod_add_mul_ediv (val (a.drop (i.toNat + 1))) d
  rw [hda, hx, h4]
  grind
 refine ⟨⟨by omega, by omega, by simp [h2], h3.set (Int.ediv_nonneg hx0 (by omega)) hq, ?_, ?_⟩, hx0, by omega⟩
 ·rw [e2, key, Int.add_mul_emod_self_left]
 ·rw [e2, drop_set (by omega), key, Int.add_mul_ediv_left _ _ (by omega)]
  simp only [val]
  rw [h5]

theorem aFH {a o : List Int} {d i rest : Int} {n e : Nat} (h : dsI a d i rest o) (hi : i < 0) (hv : val a = n) (he : d = e) : bG o = dg (n / e) ∧ rest = ((n % e : Nat) : Int) := by
 obtain ⟨h0, h1, h2, h3, h4, h5⟩ := h
 have e0 : (i + 1).toNat = 0 := by omega
 rw [e0, List.drop_zero] at h4 h5
 rw [List.drop_zero] at h5
 rw [dO h3, h5, h4, hv, he]
 constructor
 ·congr 1
 ·rfl

theorem aLT {s : Nat} (hs : s < 16) {d0 d1 W : Int} (h0 : 0 ≤ d0) (h1 : d0 < 65536) (h2 : 0 ≤ d1) (h3 : d1 < 65536) :
  (d0 + 65536 * (d1 + 65536 * W)) / 2 ^ s = (d0 + d1 * 65536) / 2 ^ s % 65536 + 65536 * ((d1 + 65536 * W) / 2 ^ s) := by
 have : s = 0 ∨ s = 1 ∨ s = 2 ∨ s = 3 ∨ s = 4 ∨ s = 5 ∨ s = 6 ∨ s = 7 ∨ s = 8 ∨ s = 9 ∨ s = 10 ∨ s = 11 ∨ s = 12 ∨ s = 13 ∨ s = 14 ∨ s = 15 := by omega
 rcases this with rfl | rfl | rfl | rfl | rfl | rfl | rfl | rfl | rfl | rfl | rfl | rfl | rfl | rfl | rfl | rfl <;> simp only [Int.reducePow] <;> omega

def aFI (b : List Int) (s : Nat) (i : Int) (o : List Int) : Prop :=
 0 ≤ i ∧ i ≤ b.length ∧ o.length = i.toNat ∧ Valid o ∧ val o + 65536 ^ i.toNat * (val (b.drop i.toNat) / 2 ^ s) = val b / 2 ^ s

theorem aH3 (b : List Int) (s : Nat) : aFI b s 0 [] := ⟨Int.le_refl _, by omega, rfl, Valid.nil, by simp [val]⟩

theorem aH4 {b o : List Int} {s : Nat} {i : Int} (hb : Valid b) (hs : s < 16) (h : aFI b s i o) (hi : i < b.length) :
  aFI b s (i + 1) (o ++ [(b.getD i.toNat 0 + b.getD (i + 1).toNat 0 * 65536) / 2 ^ s % 65536]) := by
 obtain ⟨h0, h1, h2, h3, h4⟩ := h
 have e2 : (i + 1).toNat = i.toNat + 1 := by omega
 have g0 := hb.get i.toNat
 have g1 := hb.get (i.toNat + 1)
 refine ⟨by omega, by omega, by rw [e2]; simp [h2], h3.snoc (Int.emod_nonneg _ (by decide)) (Int.emod_lt_of_pos _ (by decide)), ?_⟩
 have d0 := dF b i.toNat
 have d1 := dF b (i.toNat + 1)
 rw [d0, d1, aLT hs g0.1 g0.2 g1.1 g1.2, ← d1] at h4
 rw [e2, jD, h2, ← h4, Int.pow_succ]
 grind

theorem aH5 {b o : List Int} {s : Nat} {i : Int} {n : Nat} (h : aFI b s i o) (hi : b.length ≤ i) (hv : val b = n) : bG o = dg (n / 2 ^ s) := by
 obtain ⟨h0, h1, h2, h3, h4⟩ := h
 rw [fD (by omega)] at h4
 rw [dO h3]
 congr 1
 have e : (n : Int) / 2 ^ s = ((n / 2 ^ s : Nat) : Int) := by
  rw [Int.natCast_ediv, Int.natCast_pow]; rfl
 rw [hv, e] at h4
 simp only [Int.zero_ediv, Int.mul_zero, Int.add_zero] at h4
 rw [h4, Int.toNat_natCast]

theorem jO {a : List Int} (ha : Valid a) (q : Nat) : val (a.drop q) = val a / 65536 ^ q := by
 have h := iL (a.take q) (a.drop q)
 rw [List.take_append_drop] at h
 have hp := pow_pos q
 by_cases hq : q ≤ a.length
 ·have hl : (a.take q).length = q := by simp; omega
  rw [hl] at h
  have h1 := bD (ha.take q)
  have h2 := bW (ha.take q)
  rw [hl] at h2
  rw [h, Int.add_mul_ediv_left _ _ (by omega), Int.ediv_eq_zero_of_lt h1 h2]
  omega
 ·rw [fD (by omega)]
  have h1 := bD ha
  have h2 := bW ha
  have h3 : ((65536 ^ a.length : Nat) : Int) ≤ ((65536 ^ q : Nat) : Int) := Int.ofNat_le.2 (Nat.pow_le_pow_right (by decide) (by omega))
  rw [Int.natCast_pow, Int.natCast_pow] at h3
  have h4 : ((65536 : Nat) : Int) = 65536 := rfl
  rw [h4] at h3
  rw [Int.ediv_eq_zero_of_lt h1 (by omega)]

theorem aPA (k : Nat) : 65536 ^ (k / 16) * 2 ^ (k % 16) = 2 ^ k := by
 have : (65536 : Nat) = 2 ^ 16 := rfl
 rw [this, ← Nat.pow_mul, ← Nat.pow_add]
 congr 1
 omega

theorem pD (n k : Nat) : n / 65536 ^ (k / 16) / 2 ^ (k % 16) = n / 2 ^ k := by
 rw [Nat.div_div_eq_div_mul, aPA]

theorem aJ5 (n i : Nat) : n / 65536 ^ (i / 16) % 65536 / 2 ^ (i % 16) % 2 = n / 2 ^ i % 2 := by
 rw [← pD n i]
 generalize n / 65536 ^ (i / 16) = y
 have hs : i % 16 < 16 := Nat.mod_lt _ (by decide)
 generalize i % 16 = s at hs
 have : s = 0 ∨ s = 1 ∨ s = 2 ∨ s = 3 ∨ s = 4 ∨ s = 5 ∨ s = 6 ∨ s = 7 ∨ s = 8 ∨ s = 9 ∨ s = 10 ∨ s = 11 ∨ s = 12 ∨ s = 13 ∨ s = 14 ∨ s = 15 := by omega
 rcases this with rfl | rfl | rfl | rfl | rfl | rfl | rfl | rfl | rfl | rfl | rfl | rfl | rfl | rfl | rfl | rfl <;> simp only [Nat.reducePow] <;> omega

end Go.Dg

/- Sums, orders, trailing zeros of numbers in digits: plain laws. -/
namespace Go.Dg

def aFJ (a b : List Int) (i c : Int) (o : List Int) : Prop :=
 0 ≤ i ∧ i ≤ a.length + b.length + 1 ∧ (a.length < i → b.length < i → c = 0) ∧ o.length = i.toNat ∧ Valid o ∧ 0 ≤ c ∧ c ≤ 1 ∧ val o + c * 65536 ^ i.toNat = val (a.take i.toNat) + val (b.take i.toNat)

theorem aH6 (a b : List Int) : aFJ a b 0 0 [] := ⟨Int.le_refl _, by omega, fun _ _ => rfl, rfl, Valid.nil, Int.le_refl _, by decide, by simp [val]⟩

theorem aH7 {a b o : List Int} {i c : Int} (ha : Valid a) (hb : Valid b) (h : aFJ a b i c o) {s : Int} (hs : s = c + a.getD i.toNat 0 + b.getD i.toNat 0) (hi : i < a.length ∨ i < b.length ∨ 0 < c) :
  aFJ a b (i + 1) (s / 65536) (o ++ [s % 65536]) := by
 obtain ⟨hi0, hi1, hiz, hol, hov, hc0, hc1, cB⟩ := h
 have hx := ha.get i.toNat
 have hy := hb.get i.toNat
 have h1 := aB3 (x := a.getD i.toNat 0 + b.getD i.toNat 0) cB hol
 rw [← Int.add_assoc, ← hs] at h1
 have e2 : (i + 1).toNat = i.toNat + 1 := by omega
 refine ⟨by omega, by omega, fun h3 h4 => ?_, by rw [e2]; simp [hol], hov.snoc (by omega) (by omega), by omega, by omega, ?_⟩
 ·rw [dU (l := a) (by omega), dU (l := b) (by omega)] at hs
  omega
 rw [e2, cN, cN]
 grind

theorem aH8 {a b o : List Int} {i c : Int} {n : Nat} (h : aFJ a b i c o) (h1 : a.length ≤ i) (h2 : b.length ≤ i) (h3 : c ≤ 0) (hv : val a + val b = n) : bG o = dg n := by
 obtain ⟨hi0, hi1, hiz, hol, hov, hc0, hc1, cB⟩ := h
 have hc : c = 0 := by omega
 rw [dO hov]
 congr 1
 rw [List.take_of_length_le (by omega), List.take_of_length_le (by omega), hc, Int.zero_mul, Int.add_zero, hv] at cB
 rw [cB]; rfl

def aH9 (a b : List Int) (i : Int) : Prop := -1 ≤ i ∧ i < a.length ∧ a.drop (i + 1).toNat = b.drop (i + 1).toNat

theorem aLU {a b : List Int} (h : a.length = b.length) : aH9 a b (a.length - 1) := by
 refine ⟨by omega, by omega, ?_⟩
 have e : ((a.length : Int) - 1 + 1).toNat = a.length := by omega
 rw [e, List.drop_length, h, List.drop_length]

theorem aLV {a b : List Int} {i : Int} (h : aH9 a b i) (hl : a.length = b.length) (hi : 0 ≤ i) (he : a.getD i.toNat 0 = b.getD i.toNat 0) : aH9 a b (i - 1) := by
 obtain ⟨h0, h1, h2⟩ := h
 have e1 : (i + 1).toNat = i.toNat + 1 := by omega
 have e2 : (i - 1 + 1).toNat = i.toNat := by omega
 rw [e1] at h2
 exact ⟨by omega, by omega, by rw [e2]; exact sY hl (by omega) h2 he⟩

theorem aLW {a b : List Int} {i : Int} (h : aH9 a b i) (hi : i < 0) : a = b := by
 obtain ⟨h0, h1, h2⟩ := h
 have e : (i + 1).toNat = 0 := by omega
 rw [e, List.drop_zero, List.drop_zero] at h2
 exact h2

theorem aSP {a b : List Int} {i : Int} (ha : Valid a) (hb : Valid b) (h : aH9 a b i) (hl : a.length = b.length) (hi : 0 ≤ i) (hlt : a.getD i.toNat 0 < b.getD i.toNat 0) : val a < val b := by
 obtain ⟨h0, h1, h2⟩ := h
 have e1 : (i + 1).toNat = i.toNat + 1 := by omega
 rw [e1] at h2
 exact qK ha hb hl (by omega) h2 hlt

theorem aSQ {a b : List Int} {i : Int} (ha : Valid a) (hb : Valid b) (h : aH9 a b i) (hl : a.length = b.length) (hi : 0 ≤ i) (hlt : b.getD i.toNat 0 < a.getD i.toNat 0) : val b < val a := by
 obtain ⟨h0, h1, h2⟩ := h
 have e1 : (i + 1).toNat = i.toNat + 1 := by omega
 rw [e1] at h2
 exact qK hb ha hl.symm (by omega) h2.symm hlt

theorem gP {x y : Nat} (h : x < y) : dJ x y = -1 := by unfold dJ; rw [if_pos h]
theorem gQ {x y : Nat} (h : y < x) : dJ x y = 1 := by unfold dJ; rw [if_neg (by omega), if_pos h]
theorem lC {x y : Nat} (h : x = y) : dJ x y = 0 := by unfold dJ; rw [if_neg (by omega), if_neg (by omega)]

theorem yT {x y : Nat} (h : dg x = dg y) : x = y := by
 have := congrArg val h
 rw [aQ, aQ] at this
 omega

def trI (a : List Int) (i : Int) : Prop := 0 ≤ i ∧ i ≤ a.length ∧ val a = 65536 ^ i.toNat * val (a.drop i.toNat)

theorem aPB (a : List Int) : trI a 0 := ⟨Int.le_refl _, by omega, by simp⟩
theorem aPC {a : List Int} {i : Int} (h : trI a i) (hi : i < a.length) (hz : a.getD i.toNat 0 = 0) : trI a (i + 1) := by
 obtain ⟨h0, h1, h2⟩ := h
 have e : (i + 1).toNat = i.toNat + 1 := by omega
 refine ⟨by omega, by omega, ?_⟩
 rw [h2, dF, hz, e, Int.pow_succ]
 grind

theorem aPD {a : List Int} {i : Int} (h : trI a i) (hi : a.length ≤ i) : val a = 0 := by
 obtain ⟨h0, h1, h2⟩ := h
 rw [h2, fD (by omega), Int.mul_zero]

theorem wV {x : Nat} (h : x ≠ 0) : ∃ k m, x = 2 ^ k * (2 * m + 1) := by
 induction x using Nat.strongRecOn with
 | _ x ih =>
  by_cases h2 : x % 2 = 1
  ·exact ⟨0, x / 2, by simp; omega⟩
  ·obtain ⟨k, m, hk⟩ := ih (x / 2) (by omega) (by omega)
   refine ⟨k + 1, m, ?_⟩
   have : x = 2 * (x / 2) := by omega
   rw [this, hk, Nat.pow_succ]
   simp only [Nat.mul_assoc, Nat.mul_comm, Nat.mul_left_comm]

theorem aFK {a b m n : Nat} (h : 2 ^ a * (2 * m + 1) = 2 ^ b * (2 * n + 1)) : a = b := by
 rcases Nat.lt_trichotomy a b with hlt | heq | hgt
 ·obtain ⟨d, rfl⟩ : ∃ d, b = a + (d + 1) := ⟨b - a - 1, by omega⟩
  rw [Nat.pow_add, Nat.mul_assoc] at h
  have := Nat.eq_of_mul_eq_mul_left (Nat.two_pow_pos a) h
  rw [Nat.pow_succ, Nat.mul_comm (2 ^ d), Nat.mul_assoc] at this
  omega
 ·exact heq
 ·obtain ⟨d, rfl⟩ : ∃ d, a = b + (d + 1) := ⟨a - b - 1, by omega⟩
  rw [Nat.pow_add, Nat.mul_assoc] at h
  have := Nat.eq_of_mul_eq_mul_left (Nat.two_pow_pos b) h
  rw [Nat.pow_succ, Nat.mul_comm (2 ^ d), Nat.mul_assoc] at this
  omega

theorem aLX {a : List Int} {i : Int} {n k m : Nat} (ha : Valid a) (h : trI a i) (hv : val a = n) (hn : n = 2 ^ k * (2 * m + 1)) (hz : a.getD i.toNat 0 ≠ 0) :
  ∃ t s : Nat, (a.getD i.toNat 0).toNat = 2 ^ t * (2 * s + 1) ∧ (k : Int) = 16 * i + (t : Int) ∧ t < 16 := by
 obtain ⟨h0, h1, h2⟩ := h
 have hg := ha.get i.toNat
 obtain ⟨t, s, hts⟩ := wV (x := (a.getD i.toNat 0).toNat) (by omega)
 have ht : t < 16 := by
  refine Classical.byContradiction fun hc => ?_
  have h3 : 2 ^ 16 ≤ 2 ^ t := Nat.pow_le_pow_right (by decide) (by omega)
  have h4 : 2 ^ t ≤ 2 ^ t * (2 * s + 1) := Nat.le_mul_of_pos_right _ (by omega)
  omega
 refine ⟨t, s, hts, ?_, ht⟩
 have hd := bD (ha.drop (i.toNat + 1))
 obtain ⟨W, hW⟩ : ∃ W : Nat, val (a.drop (i.toNat + 1)) = W := ⟨_, (Int.toNat_of_nonneg hd).symm⟩
 have e : n = 65536 ^ i.toNat * ((a.getD i.toNat 0).toNat + 65536 * W) := by
  have : (n : Int) = ((65536 ^ i.toNat * ((a.getD i.toNat 0).toNat + 65536 * W) : Nat) : Int) := by
   rw [← hv, h2, dF, hW, Int.natCast_mul, Int.natCast_pow, Int.natCast_add, Int.natCast_mul, Int.toNat_of_nonneg hg.1]
   rfl
  exact Int.ofNat.inj this
 have e2 : n = 2 ^ (16 * i.toNat + t) * (2 * (s + 2 ^ (15 - t) * W) + 1) := by
  rw [e, hts]
  have e3 : 65536 ^ i.toNat = 2 ^ (16 * i.toNat) := by rw [show (65536 : Nat) = 2 ^ 16 from rfl, ← Nat.pow_mul]
  have e4 : 65536 = 2 ^ t * (2 * 2 ^ (15 - t)) := by
   rw [← Nat.pow_succ', ← Nat.pow_add]
   rw [show t + (15 - t).succ = 16 by omega]
  rw [e3, Nat.pow_add, Nat.mul_assoc]
  congr 1
  conv => lhs; rw [e4]
  generalize 2 ^ t = A
  generalize 2 ^ (15 - t) = Bq
  grind
 have := aFK (hn.symm.trans e2)
 omega

theorem aLY (k : Nat) (l : List Int) : val (List.replicate k 0 ++ l) = 65536 ^ k * val l := by
 rw [iL, jM, List.length_replicate]; omega

theorem aSR (n k : Nat) : 65536 ^ (k / 16) * n * 2 ^ (k % 16) = n * 2 ^ k := by
 rw [← aPA k]
 simp only [Nat.mul_assoc, Nat.mul_comm, Nat.mul_left_comm]

end Go.Dg

/- The rules for the side goals of a walk, bound together. -/
namespace Go.Pe
open Go Go.Dg

theorem sA : (∀ {s : Int}, s ≤ 64 → Min.min s.toNat IntKind.i64.bits = s.toNat) ∧ (∀ (a : Int) (n : Nat), Int.fdiv a (2 ^ n) = a / 2 ^ n) ∧
  (∀ (l : List Int) (k : Nat), aCR ((aA l).getD k D0) 0 = l.getD k 0) ∧ (∀ (l : List Int) (k : Nat), ((aA l).getD k D0).cells.length = 1) ∧
  (∀ l : List Int, (aA l).length = l.length) ∧ (∀ (l : List Int) (k : Nat), (aA l).take k = aA (l.take k)) ∧ (∀ (l : List Int) (k : Nat), (aA l).drop k = aA (l.drop k)) ∧
  (∀ (l : List Int) (n : Int), aA l ++ [.val (.int .i64 n)] = aA (l ++ [n])) ∧ (∀ l r : List Int, aA l ++ aA r = aA (l ++ r)) ∧ aA [] = [] ∧
  (∀ l : List PV, [] ++ l = l) ∧ (∀ n : Int, [PV.val (.int .i64 n)] = aA [n]) ∧ (∀ (l : List Int) (k : Nat) (n : Int), (aA l).set k (.val (.int .i64 n)) = aA (l.set k n)) ∧
  (∀ (k : Nat) (n : Int), List.replicate k (PV.val (.int .i64 n)) = aA (List.replicate k n)) ∧ (∀ {n : Int}, -9223372036854775808 ≤ n → n ≤ 9223372036854775807 → IntKind.i64.wrap n = n) :=
 ⟨aJ3, aFC, jS, uN, bC, uP, uQ, uO, xD, aFB, sW, aO6, ints_set, oJ, aX⟩

theorem sB : (∀ {α : Type} [BEq α] [LawfulBEq α] {a b : α}, (a == b) = true ↔ a = b) ∧ (∀ {p : Prop} [Decidable p], (decide p = true) = p) ∧ (∀ c t : Bool, (bif c then t else false) = (c && t)) ∧
  (∀ a b : Bool, ((a && b) = true) = (a = true ∧ b = true)) ∧ (∀ {x y : Bool}, (x && y) = false ↔ x = false ∨ y = false) ∧
  (∀ {α : Type} [BEq α] [LawfulBEq α] {a b : α}, (a == b) = false ↔ a ≠ b) ∧ (∀ {p : Prop} {x : Decidable p}, decide p = false ↔ ¬p) ∧ (∀ n : Nat, (n : Int).toNat = n) ∧
  (∀ c f : Bool, (bif c then true else f) = (c || f)) ∧ (∀ a b : Bool, ((a || b) = true) = (a = true ∨ b = true)) ∧ (∀ {x y : Bool}, (x || y) = false ↔ x = false ∧ y = false) ∧
  (∀ {α : Type} [BEq α] [LawfulBEq α] {a b : α}, (a != b) = true ↔ a ≠ b) ∧ (∀ {α : Type} [BEq α] [LawfulBEq α] {a b : α}, (a != b) = false ↔ a = b) ∧
  (∀ b : Bool, ((!b) = true) = (b = false)) ∧ (∀ b : Bool, ((!b) = false) = (b = true)) ∧ (∀ {a b : Int}, 0 ≤ a → Int.tdiv a b = a / b) ∧ (∀ {a b : Int}, 0 ≤ a → Int.tmod a b = a % b) :=
 ⟨beq_iff_eq, decide_eq_true_eq, Bool.cond_false_right, Bool.and_eq_true, Bool.and_eq_false_iff, beq_eq_false_iff_ne, decide_eq_false_iff_not, Int.toNat_natCast, Bool.cond_true_left, Bool.or_eq_true, Bool.or_eq_false_iff, bne_iff_ne, bne_eq_false_iff_eq, Bool.not_eq_true', Bool.not_eq_false', Int.tdiv_eq_ediv_of_nonneg, Int.tmod_eq_emod_of_nonneg⟩

theorem sC : (∀ {α : Type} {a : α} {l : List α}, (a :: l).length = l.length + 1) ∧ (∀ {α : Type}, ([] : List α).length = 0) ∧ (∀ {α : Type} {l r : List α}, (l ++ r).length = l.length + r.length) ∧
  (∀ {α : Type} {l : List α} {i : Nat} {a : α}, (l.set i a).length = l.length) ∧ (∀ {α : Type} {n : Nat} {a : α}, (List.replicate n a).length = n) ∧ (∀ {α : Type} {i : Nat} {l : List α}, (l.take i).length = Min.min i l.length) ∧
  (∀ {α : Type} {i : Nat} {l : List α}, (l.drop i).length = l.length - i) ∧ (∀ {α : Type} {l : List α}, l.drop 0 = l) ∧ Int.toNat 0 = 0 ∧ (∀ {α : Type} (a b : α), (a ≠ b) = ¬a = b) ∧
  (∀ n : Nat, NatCast.natCast n = (n : Int)) ∧ (!true) = false ∧ (!false) = true :=
 ⟨List.length_cons, List.length_nil, List.length_append, List.length_set, List.length_replicate, List.length_take, List.length_drop, List.drop_zero, Int.toNat_zero, ne_eq, bBG, Bool.not_true, Bool.not_false⟩

theorem sD : (∀ {α : Type} (a : α), (a = a) = True) ∧ (¬True) = False ∧ (¬False) = True ∧ (∀ p : Prop, (p ∨ p) = p) ∧ (∀ p : Prop, (p ∨ False) = p) ∧ (∀ p : Prop, (False ∨ p) = p) ∧ (∀ p : Prop, (p ∨ True) = True) ∧ (∀ p : Prop, (True ∨ p) = True) ∧
  (∀ p : Prop, (p ∧ p) = p) ∧ (∀ p : Prop, (p ∧ True) = p) ∧ (∀ p : Prop, (True ∧ p) = p) ∧ (∀ p : Prop, (p ∧ False) = False) ∧ (∀ p : Prop, (False ∧ p) = False) ∧
  (∀ {α : Type} [BEq α] [LawfulBEq α] (a : α), (a != a) = false) ∧ (∀ {α : Type} [BEq α] [ReflBEq α] (a : α), (a == a) = true) ∧ (true = false) = False ∧ (false = true) = False :=
 ⟨eq_self, not_true_eq_false, not_false_eq_true, or_self, or_false, false_or, or_true, true_or, and_self, and_true, true_and, and_false, false_and, bne_self_eq_false, beq_self_eq_true, Bool.true_eq_false, Bool.false_eq_true⟩

section
variable {A : AR} (hA : A = AR.std)
include hA
theorem q1 {a b : Int} (h : a ≤ b) : A.lei a b := aU0 hA h
theorem q2 {a b : Int} (h : a < b) : A.lti a b := aU1 hA h
theorem q3 {a b : Nat} (h : a < b) : A.ltn a b := aU2 hA h
theorem q4 {a : Int} (h : a ≠ 0) : A.nez a := aU3 hA h
theorem q5 {l : List PV} {s : Nat} (h : ∀ p ∈ l, kY s p) : A.okA l s := kP hA h
theorem q6 {l : List PV} {s : Nat} (h : ∀ p ∈ l, p.cells.length = s) : A.allC l s := aSO hA h
theorem q7 {l r : List PV} (h : l.length + r.length ≤ 1000000000) : A.cap l r := lU hA h
theorem q8 {n : Nat} {p : PV} (h : n ≤ p.cells.length) : A.len_le n p := aLR hA h
theorem q9 {n : Nat} {p : PV} (h : p.cells.length = n) : A.len_eq p n := aLS hA h
theorem q0 {ag : Bool} {o s : Nat} {p q : PV} (h : gT ag o s p.cells = q) : A.peq ag o s p q := aNP hA h
end

class QN (A : AR) (g : Prop) (h : outParam Prop) : Prop where
 q : A = AR.std → h → g

section
variable {A : AR}
instance {a b : Int} : QN A (A.lei a b) (a ≤ b) := ⟨fun hA h => q1 hA h⟩
instance {a b : Int} : QN A (A.lti a b) (a < b) := ⟨fun hA h => q2 hA h⟩
instance {a b : Nat} : QN A (A.ltn a b) (a < b) := ⟨fun hA h => q3 hA h⟩
instance {a : Int} : QN A (A.nez a) (a ≠ 0) := ⟨fun hA h => q4 hA h⟩
instance {l : List PV} {s : Nat} : QN A (A.okA l s) (∀ p ∈ l, kY s p) := ⟨fun hA h => q5 hA h⟩
instance {l : List PV} {s : Nat} : QN A (A.allC l s) (∀ p ∈ l, p.cells.length = s) := ⟨fun hA h => q6 hA h⟩
instance {l r : List PV} : QN A (A.cap l r) (l.length + r.length ≤ 1000000000) := ⟨fun hA h => q7 hA h⟩
instance {n : Nat} {p : PV} : QN A (A.len_le n p) (n ≤ p.cells.length) := ⟨fun hA h => q8 hA h⟩
instance {n : Nat} {p : PV} : QN A (A.len_eq p n) (p.cells.length = n) := ⟨fun hA h => q9 hA h⟩
instance {ag : Bool} {o s : Nat} {p q : PV} : QN A (A.peq ag o s p q) (gT ag o s p.cells = q) := ⟨fun hA h => q0 hA h⟩
instance {b : Bool} : QN A (b = true) (b = true) := ⟨fun _ h => h⟩
end

theorem qn {A : AR} {g h : Prop} [i : QN A g h] (hA : A = AR.std) (x : h) : g := i.q hA x

set_option linter.defProp false in
def sH := And.intro sA (And.intro sB (And.intro sC sD))

theorem eH {g : Prop} (h : g := by (subst hA; subst_vars; simp only [AR.std, bBG, sH, reduceCtorEq] at *; try simp (disch := omega) only [AR.std, bBG, sH, reduceCtorEq] at *); omega) : g := h

theorem oH {g : Prop} (h : g := by ((first | (with_reducible refine qn hA ?_) | exfalso); subst hA; subst_vars; simp only [AR.std, bBG, sH, reduceCtorEq] at *; (try simp (disch := omega) only [AR.std, bBG, sH, reduceCtorEq] at *); first | done | rfl | omega | exact nE _ | exact kN _ | (apply jR <;> first | omega | rfl))) : g := h

theorem pH {g : Prop} (h : g := by ((with_reducible refine qn hA ?_); subst hA; subst_vars; simp only [AR.std, bBG, sH, reduceCtorEq] at *; (try simp (disch := omega) only [AR.std, bBG, sH, reduceCtorEq] at *); first | done | rfl | omega | exact nE _ | exact kN _ | (apply jR <;> first | omega | rfl))) : g := h

theorem nH {g : Prop} (h : g := by (subst hA; subst_vars; simp only [AR.std, bBG, sH, reduceCtorEq] at *; (try simp (disch := omega) only [AR.std, bBG, sH, reduceCtorEq] at *); first | done | rfl)) : g := h

theorem tH {g : Prop} (h : g := by (subst hA; subst_vars; first | rfl | (simp (disch := omega) only [AR.std, bBG, sH, reduceCtorEq]; rfl))) : g := h

end Go.Pe

/- Dyadic numbers as the reference makes, aligns and compares them. -/
namespace Go.Dg
open Go

theorem kQ {z e : Int} {k m : Nat} (h : z.natAbs = 2 ^ k * (2 * m + 1)) : (cZ (mk z e)).natAbs = 2 * m + 1 ∧ cE (mk z e) = e + k ∧ decide (cZ (mk z e) < 0) = decide (z < 0) := by
 have hk : (0 : Int) < 2 ^ k := Int.pow_pos (by decide)
 have hz : (z.natAbs : Int) = 2 ^ k * (2 * m + 1) := by rw [h, Int.natCast_mul, Int.natCast_pow]; rfl
 rcases Int.lt_or_le z 0 with hz0 | hz0
 ·have e1 : z = (-(2 * (m : Int) + 1)) * 2 ^ k := by
   have : z = -(z.natAbs : Int) := by omega
   rw [this, hz]; grind
  obtain ⟨c1, c2⟩ := yR (e := e) (o := -(2 * (m : Int) + 1)) (by omega) e1
  refine ⟨by rw [c1]; omega, c2, ?_⟩
  rw [c1, decide_eq_true (by omega), decide_eq_true (by omega)]
 ·have e1 : z = (2 * (m : Int) + 1) * 2 ^ k := by
   have : z = (z.natAbs : Int) := by omega
   rw [this, hz]; grind
  obtain ⟨c1, c2⟩ := yR (e := e) (o := 2 * (m : Int) + 1) (by omega) e1
  refine ⟨by rw [c1]; omega, c2, ?_⟩
  rw [c1, decide_eq_false (by omega), decide_eq_false (by omega)]

def nK (z1 e1 z2 e2 x y e : Int) : Prop :=
 (z1 = 0 → x = z1 ∧ y = z2 ∧ e = e2) ∧ (z1 ≠ 0 → z2 = 0 → x = z1 ∧ y = z2 ∧ e = e1) ∧
 (z1 ≠ 0 → z2 ≠ 0 → e1 ≤ e2 → x = z1 ∧ y = z2 * 2 ^ (e2 - e1).toNat ∧ e = e1) ∧
 (z1 ≠ 0 → z2 ≠ 0 → e2 < e1 → x = z1 * 2 ^ (e1 - e2).toNat ∧ y = z2 ∧ e = e2)

theorem sZ (z1 e1 z2 e2 : Int) : ∃ x y e, nK z1 e1 z2 e2 x y e := by
 unfold nK
 by_cases h1 : z1 = 0
 ·exact ⟨_, _, _, fun _ => ⟨rfl, rfl, rfl⟩, fun h => absurd h1 h, fun h => absurd h1 h, fun h => absurd h1 h⟩
 by_cases h2 : z2 = 0
 ·exact ⟨_, _, _, fun h => absurd h h1, fun _ _ => ⟨rfl, rfl, rfl⟩, fun _ h => absurd h2 h, fun _ h => absurd h2 h⟩
 by_cases h3 : e1 ≤ e2
 ·exact ⟨_, _, _, fun h => absurd h h1, fun _ h => absurd h h2, fun _ _ _ => ⟨rfl, rfl, rfl⟩, fun _ _ h => absurd h3 (by omega)⟩
 ·exact ⟨_, _, _, fun h => absurd h h1, fun _ h => absurd h h2, fun _ _ h => absurd h h3, fun _ _ _ => ⟨rfl, rfl, rfl⟩⟩

theorem tA {z1 e1 z2 e2 x y e : Int} (h : nK z1 e1 z2 e2 x y e) : mk x e = mk z1 e1 ∧ mk y e = mk z2 e2 := by
 obtain ⟨a1, a2, a3, a4⟩ := h
 by_cases h1 : z1 = 0
 ·obtain ⟨rfl, rfl, rfl⟩ := a1 h1; rw [h1]; exact ⟨rfl, rfl⟩
 by_cases h2 : z2 = 0
 ·obtain ⟨rfl, rfl, rfl⟩ := a2 h1 h2; rw [h2]; exact ⟨rfl, rfl⟩
 by_cases h3 : e1 ≤ e2
 ·obtain ⟨rfl, rfl, rfl⟩ := a3 h1 h2 h3
  refine ⟨rfl, ?_⟩
  have := pC z2 e2 (e2 - e).toNat
  rw [show e2 - ((e2 - e).toNat : Int) = e by omega] at this
  exact this
 ·obtain ⟨rfl, rfl, rfl⟩ := a4 h1 h2 (by omega)
  refine ⟨?_, rfl⟩
  have := pC z1 e1 (e1 - e).toNat
  rw [show e1 - ((e1 - e).toNat : Int) = e by omega] at this
  exact this

theorem dZ (x : Nat) : x < 65536 ^ (dg x).length := by
 have h1 := bW (aI x)
 rw [aQ] at h1
 have e : (65536 : Int) ^ (dg x).length = ((65536 ^ (dg x).length : Nat) : Int) := by rw [Int.natCast_pow]; rfl
 rw [e] at h1
 exact Int.ofNat_lt.1 h1

theorem nL (n k : Nat) : (dg (n * 2 ^ k)).length ≤ (dg n).length + k / 16 + 1 := by
 refine aT _ _ ?_
 have h1 := dZ n
 have h2 : 2 ^ k < 65536 ^ (k / 16 + 1) := by
  rw [show (65536 : Nat) = 2 ^ 16 from rfl, ← Nat.pow_mul]
  exact Nat.pow_lt_pow_right (by decide) (by omega)
 rw [Nat.add_assoc, Nat.pow_add]
 exact Nat.mul_lt_mul'' h1 h2

theorem iM {z1 e1 z2 e2 x y e : Int} {L E : Nat} (h : nK z1 e1 z2 e2 x y e) (h1 : (dg z1.natAbs).length ≤ L) (h2 : (dg z2.natAbs).length ≤ L) (b1 : e1.natAbs ≤ E) (b2 : e2.natAbs ≤ E) :
  (dg x.natAbs).length ≤ L + E + 1 ∧ (dg y.natAbs).length ≤ L + E + 1 ∧ e.natAbs ≤ E := by
 obtain ⟨a1, a2, a3, a4⟩ := h
 by_cases c1 : z1 = 0
 ·obtain ⟨rfl, rfl, rfl⟩ := a1 c1; exact ⟨by omega, by omega, b2⟩
 by_cases c2 : z2 = 0
 ·obtain ⟨rfl, rfl, rfl⟩ := a2 c1 c2; exact ⟨by omega, by omega, b1⟩
 have hn : ∀ (z : Int) (k : Nat), (z * 2 ^ k).natAbs = z.natAbs * 2 ^ k := by
  intro z k; rw [Int.natAbs_mul, Int.natAbs_pow]; rfl
 by_cases c3 : e1 ≤ e2
 ·obtain ⟨rfl, rfl, rfl⟩ := a3 c1 c2 c3
  rw [hn]
  have := nL z2.natAbs (e2 - e).toNat
  exact ⟨by omega, by omega, b1⟩
 ·obtain ⟨rfl, rfl, rfl⟩ := a4 c1 c2 (by omega)
  rw [hn]
  have := nL z1.natAbs (e1 - e).toNat
  exact ⟨by omega, by omega, b2⟩

def tB (x y : Int) : Int := if x < y then -1 else if y < x then 1 else 0

open Classical in
noncomputable def gC (a b : Dyadic) : Int := if a < b then -1 else if b < a then 1 else 0

theorem aJ6 (x y e : Int) : gC (mk x e) (mk y e) = tB x y := by
 unfold gC tB
 simp only [aJ2]

theorem wW {a b : Dyadic} : gC a b ≤ 0 ↔ a ≤ b := by
 unfold gC
 split
 ·rename_i h
  exact ⟨fun _ => by grind, fun _ => by decide⟩
 ·split
  ·rename_i h
   exact ⟨fun h' => absurd h' (by decide), fun h' => by grind⟩
  ·rename_i h1 h2
   exact ⟨fun _ => by grind, fun _ => by decide⟩

theorem aPE {z1 e1 z2 e2 x y e : Int} (h : nK z2 e2 z1 e1 y x e) : z1.natAbs * 2 ^ (max (e1 - e) 0).toNat = x.natAbs ∧ z2.natAbs * 2 ^ (max (e2 - e) 0).toNat = y.natAbs ∧
  (z2 = 0 → e = e1) ∧ (z2 ≠ 0 → z1 = 0 → e = e2) ∧ (z2 ≠ 0 → z1 ≠ 0 → e = min e1 e2) := by
 obtain ⟨a1, a2, a3, a4⟩ := h
 have hn : ∀ (z : Int) (k : Nat), (z * 2 ^ k).natAbs = z.natAbs * 2 ^ k := by
  intro z k; rw [Int.natAbs_mul, Int.natAbs_pow]; rfl
 have h0 : ∀ k : Int, k ≤ 0 → (max k 0).toNat = 0 := by intro k hk; omega
 by_cases c2 : z2 = 0
 ·obtain ⟨rfl, rfl, rfl⟩ := a1 c2
  refine ⟨by rw [h0 _ (by omega)]; simp, by rw [c2]; simp, fun _ => rfl, fun h => absurd c2 h, fun h => absurd c2 h⟩
 by_cases c1 : z1 = 0
 ·obtain ⟨rfl, rfl, rfl⟩ := a2 c2 c1
  refine ⟨by rw [c1]; simp, by rw [h0 _ (by omega)]; simp, fun h => absurd h c2, fun _ _ => rfl, fun _ h => absurd c1 h⟩
 by_cases c3 : e2 ≤ e1
 ·obtain ⟨rfl, rfl, rfl⟩ := a3 c2 c1 c3
  refine ⟨by rw [hn, show max (e1 - e) 0 = e1 - e by omega], by rw [h0 _ (by omega)]; simp, fun h => absurd h c2, fun _ h => absurd h c1, fun _ _ => by omega⟩
 ·obtain ⟨rfl, rfl, rfl⟩ := a4 c2 c1 (by omega)
  refine ⟨by rw [h0 _ (by omega)]; simp, by rw [hn, show max (e2 - e) 0 = e2 - e by omega], fun h => absurd h c2, fun _ h => absurd h c1, fun _ _ => by omega⟩

theorem cO {n : Nat} : (dg n).length = 0 ↔ n = 0 := by
 constructor
 ·intro h
  rcases Nat.eq_zero_or_pos n with h0 | h0
  ·exact h0
  ·have := dV h0; omega
 ·rintro rfl; rw [aO]; rfl

def aU6 (x y : Int) (s t u : Bool) : Prop :=
 (t = s → val (dg x.natAbs) + val (dg y.natAbs) = ((x + y).natAbs : Nat) ∧ u = s) ∧
 (t = (!s) → y.natAbs ≤ x.natAbs → val (dg x.natAbs) - val (dg y.natAbs) = ((x + y).natAbs : Nat) ∧ u = s) ∧
 (t = (!s) → x.natAbs < y.natAbs → val (dg y.natAbs) - val (dg x.natAbs) = ((x + y).natAbs : Nat) ∧ u = t)

def sgn (z : Int) (s : Bool) : Prop := (s = true → z ≤ 0) ∧ (s = false → 0 ≤ z)

theorem aU7 {x y : Int} {s t : Bool} (hs : sgn x s) (ht : sgn y t) : ∃ u, aU6 x y s t u ∧ (u && decide ((dg (x + y).natAbs).length ≠ 0)) = decide (x + y < 0) := by
 have hd : decide ((dg (x + y).natAbs).length ≠ 0) = decide (x + y ≠ 0) := by rw [decide_eq_decide, ne_eq, cO]; omega
 rw [hd]
 unfold aU6
 rw [aQ, aQ]
 obtain ⟨s1, s2⟩ := hs
 obtain ⟨t1, t2⟩ := ht
 have fin : ∀ u : Bool, (u = true → x + y ≤ 0) → (u = false → 0 ≤ x + y) → (u && decide (x + y ≠ 0)) = decide (x + y < 0) := by
  intro u h1 h2
  rw [Bool.eq_iff_iff, Bool.and_eq_true, decide_eq_true_eq, decide_eq_true_eq]
  cases u
  ·have := h2 rfl; simp; omega
  ·have := h1 rfl; simp; omega
 cases s <;> cases t <;> simp at s1 s2 t1 t2
 ·exact ⟨false, ⟨fun _ => ⟨by omega, rfl⟩, fun h => (by cases h), fun h => (by cases h)⟩, fin _ (fun h => (by cases h)) (fun _ => by omega)⟩
 ·by_cases h : y.natAbs ≤ x.natAbs
  ·exact ⟨false, ⟨fun h => (by cases h), fun _ _ => ⟨by omega, rfl⟩, fun _ h' => absurd h (by omega)⟩, fin _ (fun h => (by cases h)) (fun _ => by omega)⟩
  ·exact ⟨true, ⟨fun h => (by cases h), fun _ h' => absurd h' h, fun _ _ => ⟨by omega, rfl⟩⟩, fin _ (fun _ => by omega) (fun h => (by cases h))⟩
 ·by_cases h : y.natAbs ≤ x.natAbs
  ·exact ⟨true, ⟨fun h => (by cases h), fun _ _ => ⟨by omega, rfl⟩, fun _ h' => absurd h (by omega)⟩, fin _ (fun _ => by omega) (fun h => (by cases h))⟩
  ·exact ⟨false, ⟨fun h => (by cases h), fun _ h' => absurd h' h, fun _ _ => ⟨by omega, rfl⟩⟩, fin _ (fun h => (by cases h)) (fun _ => by omega)⟩
 ·exact ⟨true, ⟨fun _ => ⟨by omega, rfl⟩, fun h => (by cases h), fun h => (by cases h)⟩, fin _ (fun _ => by omega) (fun h => (by cases h))⟩

end Go.Dg

/- Which lists, wholes and dyadic numbers are in form. -/
namespace Go.Dg
open Go

theorem tC : ∀ (l : List Int), (bG l).length ≤ l.length
 | [] => Nat.le_refl _
 | x :: r => by
  have := tC r
  unfold bG
  cases h : bG r with
  | nil => by_cases hx : x = 0 <;> simp [hx]
  | cons y q => rw [h] at this; simp at this ⊢; omega

theorem aSS {n : Nat} (h : 0 < (dg n).length) : 0 < (dg n).getD ((dg n).length - 1) 0 := by
 rcases Int.lt_or_le 0 ((dg n).getD ((dg n).length - 1) 0) with h1 | h1
 ·exact h1
 ·exfalso
  have h2 := ((aI n).get ((dg n).length - 1)).1
  have h3 := jY h (by omega)
  rw [dO (aI n), aQ, Int.toNat_natCast] at h3
  have h4 := tC ((dg n).take ((dg n).length - 1))
  rw [h3, List.length_take] at h4
  omega

def yU (l : List Int) : Prop := l.length ≤ 100 ∧ Valid l ∧ (l.length = 0 ∨ 0 < l.getD (l.length - 1) 0)

theorem tD {l : List Int} : yU l ↔ l.length ≤ 100 ∧ ∃ n, l = dg n := by
 constructor
 ·rintro ⟨h1, h2, h3⟩
  refine ⟨h1, (val l).toNat, ?_⟩
  rw [← dO h2]
  rcases h3 with h | h
  ·exact (eV h).symm
  ·rcases Nat.eq_zero_or_pos l.length with h0 | h0
   ·exact (eV h0).symm
   ·exact (jZ h0 (by omega)).symm
 ·rintro ⟨h1, n, rfl⟩
  refine ⟨h1, aI n, ?_⟩
  rcases Nat.eq_zero_or_pos (dg n).length with h0 | h0
  ·exact .inl h0
  ·exact .inr (aSS h0)

def aLZ (l : List Int) (i : Int) : Prop := 0 ≤ i ∧ i ≤ l.length ∧ Valid (l.take i.toNat)

theorem aB4 (l : List Int) : aLZ l 0 := ⟨Int.le_refl _, by omega, by simpa using Valid.nil⟩

theorem aB5 {l : List Int} {i : Int} (h : aLZ l i) (hi : i < l.length) (h0 : 0 ≤ l.getD i.toNat 0) (h1 : l.getD i.toNat 0 < 65536) : aLZ l (i + 1) := by
 obtain ⟨a, b, c⟩ := h
 refine ⟨by omega, by omega, ?_⟩
 rw [show (i + 1).toNat = i.toNat + 1 by omega, List.take_add_one]
 rw [List.getD, List.getElem?_eq_getElem (by omega)] at h0 h1
 rw [List.getElem?_eq_getElem (by omega)]
 exact c.append (Valid.one h0 h1)

theorem aB6 {l : List Int} {i : Int} (h : aLZ l i) (hi : l.length ≤ i) : Valid l := by
 obtain ⟨a, b, c⟩ := h
 rwa [List.take_of_length_le (by omega)] at c

def nM (s : Bool) (l : List Int) : Prop := yU l ∧ (s = true → l.length ≠ 0)

def wP (s : Bool) (l : List Int) (e : Int) : Prop := nM s l ∧ -3000 ≤ e ∧ e ≤ 3000 ∧ (l.length = 0 → e = 0) ∧ (l.length ≠ 0 → val l % 2 = 1)

def fits (d : Dyadic) : Prop := (dg (cZ d).natAbs).length ≤ 100 ∧ -3000 ≤ cE d ∧ cE d ≤ 3000

def uV (d : Dyadic) (s : Bool) (l : List Int) (e : Int) : Prop := s = decide (cZ d < 0) ∧ l = dg (cZ d).natAbs ∧ e = cE d

theorem aFL {s : Bool} {l : List Int} {e : Int} : wP s l e ↔ ∃ d, uV d s l e ∧ fits d := by
 constructor
 ·rintro ⟨⟨h1, h2⟩, h3, h4, h5, h6⟩
  obtain ⟨hl, n, rfl⟩ := tD.1 h1
  rw [ne_eq, cO] at h2 h6
  rw [cO] at h5
  rw [aQ] at h6
  by_cases hn : n = 0
  ·subst hn
   have hs : s = false := by cases s <;> first | rfl | exact absurd rfl (h2 rfl)
   refine ⟨0, ⟨?_, ?_, ?_⟩, ?_, ?_, ?_⟩
   ·rw [hs, dT]; rfl
   ·rw [dT]; rfl
   ·rw [nJ]; exact h5 rfl
   ·rw [dT]; exact hl
   ·rw [nJ]; decide
   ·rw [nJ]; decide
  ·have ho := h6 hn
   cases s with
   | false =>
    obtain ⟨c1, c2⟩ := uS (z := (n : Int)) (e := e) ho
    refine ⟨mk n e, ⟨?_, ?_, ?_⟩, ?_, ?_, ?_⟩
    ·rw [c1]; exact (decide_eq_false (by omega)).symm
    ·rw [c1, Int.natAbs_natCast]
    ·rw [c2]
    ·rw [c1, Int.natAbs_natCast]; exact hl
    ·rw [c2]; exact h3
    ·rw [c2]; exact h4
   | true =>
    obtain ⟨c1, c2⟩ := uS (z := -(n : Int)) (e := e) (by omega)
    refine ⟨mk (-n) e, ⟨?_, ?_, ?_⟩, ?_, ?_, ?_⟩
    ·rw [c1]; exact (decide_eq_true (by omega)).symm
    ·rw [c1, Int.natAbs_neg, Int.natAbs_natCast]
    ·rw [c2]
    ·rw [c1, Int.natAbs_neg, Int.natAbs_natCast]; exact hl
    ·rw [c2]; exact h3
    ·rw [c2]; exact h4
 ·rintro ⟨d, ⟨rfl, rfl, rfl⟩, h1, h2, h3⟩
  refine ⟨⟨tD.2 ⟨h1, _, rfl⟩, ?_⟩, h2, h3, ?_, ?_⟩
  ·intro h; rw [ne_eq, cO]; have := of_decide_eq_true h; omega
  ·intro h; rw [cO] at h
   have : d = 0 := eI.1 (by omega)
   rw [this]; rfl
  ·intro h; rw [ne_eq, cO] at h
   have hd : d ≠ 0 := by intro h'; rw [h', dT] at h; exact h rfl
   have := aHX hd
   rw [aQ]; omega

def aAX (s : Bool) (l : List Int) (e : Int) : Dyadic := mk (if s then -val l else val l) e

theorem yV {d : Dyadic} {s : Bool} {l : List Int} {e : Int} (h : uV d s l e) : d = aAX s l e := by
 obtain ⟨rfl, rfl, rfl⟩ := h
 unfold aAX
 have : (if decide (cZ d < 0) = true then -val (dg (cZ d).natAbs) else val (dg (cZ d).natAbs)) = cZ d := by
  rw [aQ]; split
  ·rename_i h; have := of_decide_eq_true h; omega
  ·rename_i h; rw [decide_eq_true_eq] at h; omega
 rw [this, cH]

theorem yW {s : Bool} {l : List Int} {e : Int} (h : wP s l e) : uV (aAX s l e) s l e ∧ fits (aAX s l e) := by
 obtain ⟨d, h1, h2⟩ := aFL.1 h
 rw [← yV h1]
 exact ⟨h1, h2⟩

theorem nN {d : Dyadic} {s : Bool} {l : List Int} {e : Int} (h : uV d s l e) : wP s l e ↔ fits d := by
 constructor
 ·intro h'
  have := (yW h').2
  rwa [← yV h] at this
 ·intro h'
  exact aFL.2 ⟨d, h, h'⟩

theorem aPF (z e : Int) : (cZ (mk z e)).natAbs ≤ z.natAbs := by
 by_cases h : z = 0
 ·rw [h, mk_zero, dT]; exact Nat.le_refl _
 ·obtain ⟨k, m, hk⟩ := wV (x := z.natAbs) (by omega)
  obtain ⟨h1, _⟩ := kQ (e := e) hk
  rw [h1, hk]
  exact Nat.le_mul_of_pos_left _ (Nat.two_pow_pos k)

theorem aJ7 (x : Int) : sgn x (decide (x < 0)) := by
 constructor
 ·intro h; have := of_decide_eq_true h; omega
 ·intro h; have := of_decide_eq_false h; omega

theorem qL {z1 e1 z2 e2 x y e : Int} (h : nK z1 e1 z2 e2 x y e) : (x < 0 ↔ z1 < 0) ∧ (y < 0 ↔ z2 < 0) := by
 have hm : ∀ (z : Int) (k : Nat), z * 2 ^ k < 0 ↔ z < 0 := by
  intro z k
  have hk : (0 : Int) < 2 ^ k := Int.pow_pos (by decide)
  constructor
  ·intro h
   rcases Int.lt_or_le z 0 with h' | h'
   ·exact h'
   ·exact absurd h (Int.not_lt.2 (Int.mul_nonneg h' (Int.le_of_lt hk)))
  ·intro h; exact Int.mul_neg_of_neg_of_pos h hk
 obtain ⟨a1, a2, a3, a4⟩ := h
 by_cases c1 : z1 = 0
 ·obtain ⟨rfl, rfl, rfl⟩ := a1 c1; exact ⟨Iff.rfl, Iff.rfl⟩
 by_cases c2 : z2 = 0
 ·obtain ⟨rfl, rfl, rfl⟩ := a2 c1 c2; exact ⟨Iff.rfl, Iff.rfl⟩
 by_cases c3 : e1 ≤ e2
 ·obtain ⟨rfl, rfl, rfl⟩ := a3 c1 c2 c3; exact ⟨Iff.rfl, hm _ _⟩
 ·obtain ⟨rfl, rfl, rfl⟩ := a4 c1 c2 (by omega); exact ⟨hm _ _, Iff.rfl⟩

def aST (z1 e1 z2 e2 w f : Int) : Prop := ∃ x y, nK z2 e2 z1 e1 y x f ∧ w = x + y

theorem aJ8 (z1 e1 z2 e2 : Int) : ∃ w f, aST z1 e1 z2 e2 w f := by
 obtain ⟨y, x, e, h⟩ := sZ z2 e2 z1 e1
 exact ⟨_, _, x, y, h, rfl⟩

theorem aJ9 {z1 e1 z2 e2 w f : Int} (h : aST z1 e1 z2 e2 w f) : mk w f = mk z1 e1 + mk z2 e2 := by
 obtain ⟨x, y, h, rfl⟩ := h
 obtain ⟨h1, h2⟩ := tA h
 rw [← h1, ← h2, aHV]

end Go.Dg

/- Lists of dyadic numbers' cells. -/
namespace Go.Dg
open Go Go.Pe

abbrev aC := Bool × List Int × Int

def okY (y : aC) : Prop := wP y.1 y.2.1 y.2.2

def aW (y : aC) : PV := .agg [.val (.bool y.1), .lst (aA y.2.1), .val (.int .i64 y.2.2)]

def aB (ys : List aC) : List PV := ys.map aW

def noY : aC := (false, [], 0)

theorem aV (ys : List aC) : (aB ys).length = ys.length := by simp [aB]

theorem yX {ys : List aC} {k : Nat} (h : k < ys.length) : (aB ys).getD k (.val (.bool false)) = aW (ys.getD k noY) := by
 simp [aB, List.getD, h]

def nO (ys : List aC) : Prop := ∀ y ∈ ys, okY y

def yY (ys : List aC) (i : Int) : Prop := 0 ≤ i ∧ i ≤ ys.length ∧ nO (ys.take i.toNat)

theorem yZ (ys : List aC) : yY ys 0 := ⟨Int.le_refl _, by omega, by intro y hy; simp at hy⟩

theorem zA {ys : List aC} {i : Int} (h : yY ys i) (hi : i < ys.length) (h0 : okY (ys.getD i.toNat noY)) : yY ys (i + 1) := by
 obtain ⟨a, b, c⟩ := h
 refine ⟨by omega, by omega, ?_⟩
 rw [show (i + 1).toNat = i.toNat + 1 by omega, List.take_add_one]
 rw [List.getD, List.getElem?_eq_getElem (by omega)] at h0
 rw [List.getElem?_eq_getElem (by omega)]
 intro y hy
 rcases List.mem_append.1 hy with hy | hy
 ·exact c y hy
 ·simp at hy; rw [hy]; exact h0

theorem zB {ys : List aC} {i : Int} (h : yY ys i) (hi : ys.length ≤ i) : nO ys := by
 obtain ⟨a, b, c⟩ := h
 rwa [List.take_of_length_le (by omega)] at c

theorem aFM {ys : List aC} {k : Nat} (hk : k < ys.length) (h : ¬okY (ys.getD k noY)) : ¬nO ys := by
 intro ha
 apply h
 rw [List.getD, List.getElem?_eq_getElem hk]
 exact ha _ (List.getElem_mem hk)

end Go.Dg

namespace Go.Pe
open Go

theorem gI {p : List PV} {l : List Int} (hp : p = aA l) (t s : Nat) : fU (.row t s p) := by
 intro q hq c hc
 rw [hp] at hq
 obtain ⟨n, _, rfl⟩ := List.mem_map.1 hq
 simp only [PV.cells, List.mem_singleton] at hc
 rw [hc]; rfl

theorem aPG {P : Program} {gl : List (Nat × Obj)} {f : FuncId} {args : List PV} {r : PV} (h : FS P gl f args (· = r)) (hc : nI (.pv r) = true) : FN P gl f args (fun own rr => own = [] ∧ rr = .pv r) := by
 refine ⟨h.1, fun w vs hgl kF => (h.2 w _ vs hgl (fun _ hb => hb) kF).mono ?_⟩
 rintro e w' ⟨v, r', rfl, rfl, hb, hr⟩
 have hno : ∀ i, ¬ aK ([] : List Blk) i := by
  rintro i ⟨_, hb, _⟩
  simp at hb
 exact ⟨v, _, [], fun _ => none, rfl, ⟨rfl, rfl⟩, hb, tY.mk (fun i v hv => by cases hv) (fun i b hi => by simp at hi) (fun i j b _ hi => (hno i hi).elim) (fun i b hi => (hno i hi).elim) (fun i b hi => (hno i hi).elim),
  fun i b hi => (hno i hi).elim, vW hc (.pv _ _ hr)⟩

theorem wX {P : Program} {gl : List (Nat × Obj)} {f : FuncId} {args : List PV} {R : List Blk → FV → Prop} {p : PV} (h : FN P gl f args R) (hR : ∀ own r, R own r → fJ own (List.range own.length) 8 r = some p) : FS P gl f args (· = p) := by
 refine ⟨h.1, fun w S vs hgl hS kF => (h.2 w vs hgl (fun j hj => (kF j hj).mono (fun _ _ => rfl) hS)).mono ?_⟩
 rintro e w' ⟨v, r, own', m', rfl, hr, hb, hos, hbn, hrr⟩
 refine ⟨v, p, rfl, rfl, hb, ?_⟩
 refine dN (own := own') (ds := List.range own'.length) (S := fun _ => False) (m := m') (fun i bl u hi hl hu => ?_) (fun b hf => hf.elim) (fun i b hi hl hm => .inr ⟨hbn i b hl hm, hos.lt i b hl hm⟩) 8 _ _ _ hrr (hR own' r hr)
 obtain ⟨u', hu', hok⟩ := hos.ok i bl hi hl
 rw [hu] at hu'
 rw [Option.some.inj hu']
 exact hok

end Go.Pe

/- Arguments that can be read as data are read by value; and they read again behind a call that turned nothing old. -/
namespace Go.Pe
open Go Go.ChangeShapes Go.WideShapes Go.Deep Go.RowKit

def uW (P : Program) (t : TypeId) : Bool :=
 match P.underlying t with
 | some (.struct _) => true
 | _ => false

def kZ (P : Program) (t : TypeId) (c : List PV) : PV := match uW P t with
 | true => .agg c
 | false => c.headD (.val (.bool false))

def aIA (R : TypeId → List PV → Prop) : List Field → List PV → Prop
 | [], ps => ps = []
 | f :: fs, ps => ∃ p q, R f.type p ∧ aIA R fs q ∧ ps = p ++ q

def Typed (P : Program) : Nat → TypeId → List PV → Prop
 | 0, _, _ => False
 | n + 1, t, ps =>
  match P.underlying t with
  | some .bool => ∃ b, ps = [.val (.bool b)]
  | some (.int k) => ∃ m, ps = [.val (.int k m)] ∧ (Lit.int k m).wf = true
  | some (.slice e) => ∃ cl : List (List PV), ps = [.lst (cl.map (kZ P e))] ∧ cl.length ≤ maxLen ∧ ∀ c ∈ cl, Typed P n e c
  | some (.struct fs) => aIA (Typed P n) fs.toList ps
  | _ => False

def iW (P : Program) : Nat → TypeId → Bool
 | 0, _ => false
 | n + 1, t =>
  match P.underlying t with
  | some .bool => true
  | some (.int _) => true
  | some (.slice e) => decide (0 < P.cellsOf e) && iW P n e
  | some (.struct fs) => fs.toList.all fun f => iW P n f.type
  | _ => false

inductive rM (w : World) (S : Nat → Prop) : List Value → List PV → Prop
 | nil : rM w S [] []
 | cons {v p vs ps} : Rep w S v p → v.oneCell' = true → rM w S vs ps → rM w S (v :: vs) (p :: ps)

theorem rM.len {w : World} {S : Nat → Prop} {vs : List Value} {ps : List PV} (h : rM w S vs ps) : vs.length = ps.length := by
 induction h with
 | nil => rfl
 | cons _ _ _ ih => simp [ih]

theorem rM.get {w : World} {S : Nat → Prop} {vs : List Value} {ps : List PV} (h : rM w S vs ps) (d : Value) : ∀ j (hj : j < ps.length), Rep w S (vs.getD j d) ps[j] ∧ (vs.getD j d).oneCell' = true := by
 induction h with
 | nil => intro j hj; simp at hj
 | cons h1 h2 _ ih =>
  intro j hj
  cases j with
  | zero => exact ⟨h1, h2⟩
  | succ j => simpa using ih j (by simpa using hj)

theorem rM.append {w : World} {S : Nat → Prop} {vs us : List Value} {ps qs : List PV} (h : rM w S vs ps) (h' : rM w S us qs) : rM w S (vs ++ us) (ps ++ qs) := by
 induction h with
 | nil => exact h'
 | cons h1 h2 _ ih => exact .cons h1 h2 ih

theorem wB {P : Program} {n : Nat} {t : TypeId} {c : List PV} (h : Typed P n t c) : (kZ P t c).cells = c := by
 cases n with
 | zero => exact h.elim
 | succ n =>
  unfold Typed at h
  unfold kZ uW
  cases hu : P.underlying t with
  | none => rw [hu] at h; exact h.elim
  | some u =>
   rw [hu] at h
   cases u <;> first | exact h.elim | skip
   ·obtain ⟨b, rfl⟩ := h; rfl
   ·obtain ⟨b, rfl, _⟩ := h; rfl
   ·obtain ⟨b, rfl, _⟩ := h; rfl
   ·rfl

theorem zC {α : Type} {f : Nat → Option α} {n : Nat} {l : List α} (h : (List.range n).mapM f = some l) : l.length = n ∧ ∀ j, j < n → f j = l[j]? := by
 have h1 := mapM_some_length h
 rw [List.length_range] at h1
 exact ⟨h1, fun j hj => mapM_some_get h j j (by simp [hj])⟩

section
variable {H : Type} {enc : TypeId × Value → H} {P : Program} {w : World} {base : Nat} {spare : Nat → Bool} {held : Bool} {T : TypeId → Prop}

theorem pE {a : Addr} {n : Nat} {cs : List Value} (h : w.cells? base a n = some cs) : cs.length = n ∧ ∀ j, j < n → w.cell? (a.add j) = some (cs.getD j (.bool false)) := by
 unfold World.cells? at h
 split at h
 ·obtain ⟨h1, h2⟩ := zC h
  refine ⟨h1, fun j hj => ?_⟩
  rw [h2 j hj, List.getD, List.getElem?_eq_getElem (by omega)]
  rfl
 ·cases h

theorem aL0 {a : Addr} {v : Value} (h : w.cell? a = some v) : a.spot = none ∧ a.block < w.heap.size := by
 unfold World.cell? at h
 split at h
 ·rename_i hb
  split at h
  ·cases h
  ·rename_i hs
   refine ⟨by cases hq : a.spot <;> simp_all, ?_⟩
   rcases Nat.lt_or_ge a.block w.heap.size with h1 | h1
   ·exact h1
   ·rw [Array.getElem?_eq_none h1] at hb; cases hb
 ·cases h

theorem aIB {m n : Nat} (ih : ∀ (t : TypeId) (cs : List Value) (x : DataW H × List MemPlace), T t → iW P m t = true → DataW.trod enc P w base spare held n t cs = some x →
   ∃ ps, Typed P m t ps ∧ rM w (fun b => b < w.heap.size) cs ps) :
  ∀ (fs : List Field) (cs : List Value) (off : Nat), (∀ j f, fs[j]? = some f → f.offset = off + ((fs.take j).map fun f => P.cellsOf f.type).sum) → cs.length = off + (fs.map fun f => P.cellsOf f.type).sum →
   (∀ f ∈ fs, T f.type ∧ iW P m f.type = true ∧ ∃ y, DataW.trod enc P w base spare held n f.type ((cs.drop f.offset).take (P.cellsOf f.type)) = some y) →
   ∃ ps, aIA (Typed P m) fs ps ∧ rM w (fun b => b < w.heap.size) (cs.drop off) ps := by
 intro fs
 induction fs with
 | nil =>
  intro cs off _ hl _
  refine ⟨[], rfl, ?_⟩
  rw [List.drop_of_length_le (by simp at hl; omega)]
  exact .nil
 | cons f fs ihf =>
  intro cs off jL hl cU
  obtain ⟨hT, hp, y, hy⟩ := cU f (by simp)
  have h0 : f.offset = off := by simpa using jL 0 f rfl
  rw [h0] at hy
  obtain ⟨p, hp1, hp2⟩ := ih _ _ _ hT hp hy
  obtain ⟨q, hq1, hq2⟩ := ihf cs (off + P.cellsOf f.type) (fun j g hg => by
   have := jL (j + 1) g (by simpa using hg)
   rw [this]
   simp only [List.take_succ_cons, List.map_cons, List.sum_cons]
   omega) (by simp only [List.map_cons, List.sum_cons] at hl; omega) (fun g hg => cU g (List.mem_cons_of_mem _ hg))
  refine ⟨p ++ q, ⟨p, q, hp1, hq1, rfl⟩, ?_⟩
  have := hp2.append hq2
  rwa [← List.drop_drop, List.take_append_drop] at this

theorem aFN (K : Kids P T) : ∀ (m n : Nat) (t : TypeId) (cs : List Value) (x : DataW H × List MemPlace), T t → iW P m t = true → DataW.trod enc P w base spare held n t cs = some x →
  ∃ ps, Typed P m t ps ∧ rM w (fun b => b < w.heap.size) cs ps := by
 intro m
 induction m with
 | zero => intro n t cs x _ hp; simp [iW] at hp
 | succ m ih =>
  intro n t cs x hT hp h
  unfold iW at hp
  cases hu : P.underlying t with
  | none => rw [hu] at hp; cases hp
  | some u =>
   rw [hu] at hp
   cases u <;> first | cases hp; done | skip
   case bool =>
    obtain ⟨b, rfl, _⟩ := DataW.trod_bool hu h
    exact ⟨[.val (.bool b)], by unfold Typed; rw [hu]; exact ⟨b, rfl⟩, .cons (.val _ rfl) rfl .nil⟩
   case int k =>
    obtain ⟨z, rfl, _, hw⟩ := DataW.trod_int hu h
    exact ⟨[.val (.int k z)], by unfold Typed; rw [hu]; exact ⟨z, rfl, hw⟩, .cons (.val _ rfl) rfl .nil⟩
   case slice e =>
    rw [Bool.and_eq_true, decide_eq_true_eq] at hp
    have hTe : T e := K.slice hT hu
    rcases open_slice hu h with ⟨rfl, _⟩ | ⟨a, len, cap, m', n', D, Pl, rfl, _, hlc, hcm, hm', _, hel⟩
    ·exact ⟨[.lst []], by unfold Typed; rw [hu]; exact ⟨[], rfl, Nat.zero_le _, by simp⟩, .cons (.nil _ _) rfl .nil⟩
    ·rcases Nat.eq_zero_or_pos len with rfl | aU8
     ·exact ⟨[.lst []], by unfold Typed; rw [hu]; exact ⟨[], rfl, Nat.zero_le _, by simp⟩, .cons (.nil _ _) rfl .nil⟩
     have hlm : len ≤ m' := by rw [hm']; split <;> omega
     have hex : ∀ i, i < len → ∃ z : List Value × List PV, w.cells? base (a.add (i * P.cellsOf e)) (P.cellsOf e) = some z.1 ∧ Typed P m e z.2 ∧ rM w (fun b => b < w.heap.size) z.1 z.2 := by
      intro i hi
      obtain ⟨cs', h1, h2⟩ := hel i (by omega)
      obtain ⟨ps, h3, h4⟩ := ih _ _ _ _ hTe hp.2 h2
      exact ⟨(cs', ps), h1, h3, h4⟩
     obtain ⟨Z, hZ⟩ := choose_lt hex
     have hs0 : a.spot = none ∧ a.block < w.heap.size := by
      have h1 := (pE (hZ 0 aU8).1).2 0 hp.1
      simp only [Nat.zero_mul, Addr.add, if_true] at h1
      exact aL0 h1
     obtain ⟨b, o, sp⟩ := a
     simp only at hs0
     obtain ⟨rfl, hb⟩ := hs0
     have aAY : ∀ i, (⟨b, o, none⟩ : Addr).add i = ⟨b, o + i, none⟩ := by
      intro i
      unfold Addr.add
      by_cases hi : i = 0 <;> simp [hi]
     have hcl : ((List.range len).map fun i => (Z i).2).length = len := by simp
     have hge : ∀ i, i < len → (((List.range len).map fun i => (Z i).2).map (kZ P e)).getD i (.lst []) = kZ P e (Z i).2 := by
      intro i hi; simp [List.getD, hi]
     have hgg : ∀ i (hi : i < (((List.range len).map fun i => (Z i).2).map (kZ P e)).length), (((List.range len).map fun i => (Z i).2).map (kZ P e))[i] = kZ P e (Z i).2 := by
      intro i hi; simp
     have hL : (((List.range len).map fun i => (Z i).2).map (kZ P e)).length = len := by simp
     refine ⟨[.lst (((List.range len).map fun i => (Z i).2).map (kZ P e))], ?_, .cons ?_ rfl .nil⟩
     ·unfold Typed; rw [hu]
      refine ⟨_, rfl, by omega, ?_⟩
      intro c hc
      obtain ⟨i, hi, rfl⟩ := List.mem_map.1 hc
      exact (hZ i (List.mem_range.1 hi)).2.1
     ·have hin : ∀ k j, k < len → j < (Z k).2.length → Rep w (fun b => b < w.heap.size) ((Z k).1.getD j (.bool false)) ((Z k).2.getD j (.lst [])) := by
       intro k j hk hj
       have := ((hZ k hk).2.2.get (.bool false) j hj).1
       simpa [List.getD, hj] using this
      have hR := Rep.lst (w := w) (S := fun b => b < w.heap.size) b o cap (P.cellsOf e) (((List.range len).map fun i => (Z i).2).map (kZ P e)) (fun k j => if k < len ∧ j < P.cellsOf e then (Z k).1.getD j (.bool false) else .bool false) hb (by omega)
       (fun k hk => by
        rw [hgg, wB (hZ k (by omega)).2.1, ← (hZ k (by omega)).2.2.len]
        exact (pE (hZ k (by omega)).1).1)
       (fun k j hk hj => by
        have h1 := (pE (hZ k (by omega)).1).2 j hj
        rw [aAY] at h1
        rw [show (⟨b, o + k * P.cellsOf e, none⟩ : Addr).add j = ⟨b, o + k * P.cellsOf e + j, none⟩ by unfold Addr.add; by_cases hi : j = 0 <;> simp [hi]] at h1
        rw [h1, if_pos ⟨by omega, hj⟩])
       (fun k j => by
        split
        ·rename_i hkj
         have h0 := (pE (hZ k hkj.1).1).1
         have h1 := (hZ k hkj.1).2.2
         exact (h1.get (.bool false) j (by rw [← h1.len]; omega)).2
        ·rfl)
       (fun k hk j hj => by
        have hk' : k < len := by omega
        simp only [hgg, wB (hZ k hk').2.1] at hj ⊢
        have h0 := (pE (hZ k hk').1).1
        have h1 := (hZ k hk').2.2
        rw [if_pos ⟨hk', by have := h1.len; omega⟩]
        exact (h1.get (.bool false) j hj).1)
      rwa [hL] at hR
   case struct fs =>
    obtain ⟨xs, n', rfl, _, hlen, hxl, hf⟩ := DataW.trod_struct hu h
    obtain ⟨hk1, hk2, hk3⟩ := K.struct hT hu
    obtain ⟨ps, hp1, hp2⟩ := aIB (ih n') fs.toList cs 0 (fun j f hj => by rw [Nat.zero_add]; exact hk3 j f hj) (by rw [hlen, hk2, Nat.zero_add]) (fun f hfm => by
     refine ⟨hk1 f hfm, List.all_eq_true.1 hp f hfm, ?_⟩
     obtain ⟨i, hi, he⟩ := List.getElem_of_mem hfm
     have h1 := hf i f (by rw [← he]; simp [Array.getElem?_eq_getElem (by simpa using hi)])
     rw [h1, List.getElem?_eq_getElem (by simp at hi; omega)]
     exact ⟨_, rfl⟩)
    rw [List.drop_zero] at hp2
    exact ⟨ps, by unfold Typed; rw [hu]; exact hp1, hp2⟩

theorem aKA (K : Kids P T) {m : Nat} {t : TypeId} {v : Value} {d : DataW H} {pl : List MemPlace} {r : Reach} {b0 : Nat} (hT : T t) (hp : iW P m t = true) (cB : Value.okWide P w r b0 t v)
  (h : DataW.Trod enc P w base spare held t v d pl) : ∃ c, Typed P m t c ∧ Rep w (fun b => b < w.heap.size) v (kZ P t c) := by
 obtain ⟨fuel, h⟩ := h
 obtain ⟨ps, h1, h2⟩ := aFN K m _ t _ _ hT hp h
 refine ⟨ps, h1, ?_⟩
 cases m with
 | zero => simp [iW] at hp
 | succ m =>
 unfold iW at hp
 unfold Value.okWide at cB
 cases hu : P.underlying t with
 | none => rw [hu] at hp; cases hp
 | some u =>
  rw [hu] at hp cB
  have one : ∀ {u : Value} {p : PV}, v.cells.toList = [u] → v = u → ps = [p] → Rep w (fun b => b < w.heap.size) v p := by
   intro u p e1 e2 e3
   rw [e1, e3] at h2
   cases h2 with | cons a _ _ => rw [e2]; exact a
  cases u <;> first | cases hp; done | skip
  case bool =>
   obtain ⟨b, e, _⟩ := DataW.trod_bool hu h
   unfold Typed at h1; rw [hu] at h1
   obtain ⟨b', rfl⟩ := h1
   simp only [Cell.okWide, Cell.ok, hu] at cB
   unfold kZ uW; rw [hu]
   cases v <;> first | exact cB.elim | skip
   exact one rfl rfl rfl
  case int k =>
   obtain ⟨b, e, _⟩ := DataW.trod_int hu h
   unfold Typed at h1; rw [hu] at h1
   obtain ⟨b', rfl, _⟩ := h1
   simp only [Cell.okWide, Cell.ok, hu] at cB
   unfold kZ uW; rw [hu]
   cases v <;> first | exact cB.elim | skip
   exact one rfl rfl rfl
  case slice el =>
   unfold Typed at h1; rw [hu] at h1
   obtain ⟨b', rfl, _⟩ := h1
   simp only [Cell.okWide, Cell.ok, hu] at cB
   unfold kZ uW; rw [hu]
   cases v <;> first | exact cB.elim | skip
   exact one rfl rfl rfl
  case struct fs =>
   obtain ⟨cs, rfl, _⟩ := cB
   unfold kZ uW; rw [hu]
   have hl := h2.len
   have e : (Value.agg cs) = .agg (aE ps.length fun j => cs.toList.getD j (.bool false)).toArray := by
    congr 1
    apply Array.ext'
    simp only [aE]
    apply List.ext_getElem?
    intro i
    have hl' : cs.toList.length = ps.length := hl
    by_cases hi : i < ps.length
    ·have hi2 : i < cs.toList.length := by omega
     simp [hi, List.getD]
     simp at hi2
     rw [Array.getElem?_eq_getElem hi2]
     simp
    ·simp [hi]
     simp at hl'
     omega
   rw [e]
   exact .agg ps _ (fun j => by
    rcases Nat.lt_or_ge j ps.length with hj | hj
    ·exact (h2.get (.bool false) j hj).2
    ·have hl' : cs.toList.length = ps.length := hl
     rw [List.getD, List.getElem?_eq_none (by omega)]; rfl) (fun j hj => (h2.get (.bool false) j hj).1)

theorem qX {w' : World} : ∀ {ts : List TypeId} {vs : List Value} {ds : List (DataW H)} {ps : List MemPlace}, DataW.TrodAll enc P w base spare held ts vs ds ps → (∀ p ∈ ps, w.sameAt w' p) → DataW.TrodAll enc P w' base spare held ts vs ds ps
 | [], [], [], _, h, _ => h
 | _ :: _, _ :: _, _ :: _, _, ⟨p, q, ⟨n, h1⟩, h2, e⟩, hs => ⟨p, q, ⟨n, DataW.trod_carry n _ _ _ h1 (fun x hx => hs x (by rw [e]; exact List.mem_append_left _ hx))⟩, qX h2 (fun x hx => hs x (by rw [e]; exact List.mem_append_right _ hx)), e⟩

theorem aIC {w w' : World} (hb : Below w.heap.size w w') {p : MemPlace} (hp : p.block < w.heap.size) : w.sameAt w' p := by
 have := hb.block _ hp
 cases p with
 | cell b o =>
  show _ = _
  unfold World.cell?
  simp only [MemPlace.block] at this
  simp only [this]
 | map b => exact this

theorem aID (K : Kids P T) (hz : ∀ t e, T t → P.underlying t = some (.slice e) → 0 < P.cellsOf e) {w' : World} {ts : List TypeId} {vs : List Value} {ds : List (DataW H)} {ps : List MemPlace} (hts : ∀ t ∈ ts, T t)
  (h : DataW.TrodAll enc P w base (fun _ => true) true ts vs ds ps) (hb : Below w.heap.size w w') : DataW.TrodAll enc P w' base (fun b => decide (b < w.heap.size)) true ts vs ds ps :=
 qX (DataW.TrodAll.respare K hz hts h (fun p hp => by simpa using h.lt p hp)) (fun p hp => aIC hb (h.lt p hp))

end

theorem aFO (l : List Value) (d : Value) : aE l.length (fun j => l.getD j d) = l := by
 apply List.ext_getElem?
 intro i
 by_cases hi : i < l.length <;> simp [aE, hi, List.getD]

theorem aL1 {P : Program} {gl : List (Nat × Obj)} {f : FuncId} {args : List PV} {vs : Array Value} (h : FS P gl f args (· = .val (.bool true))) (w : World) (hgl : aCP gl w) (hl : vs.size = args.length)
  (ha : ∀ j (hj : j < args.length), Rep w (fun b => b < w.heap.size) (vs.toList.getD j (.bool false)) args[j]) :
  Calls P f vs w fun e w' => e = .returned (.bool true) ∧ Below w.heap.size w w' := by
 have h1 := h.2 w (fun b => b < w.heap.size) (fun j => vs.toList.getD j (.bool false)) hgl (fun _ hb => hb) ha
 rw [← hl, show vs.size = vs.toList.length from rfl, aFO, Array.toArray_toList] at h1
 refine Calls.mono h1 ?_
 rintro e w' ⟨v, r, rfl, rfl, hb, hr⟩
 refine ⟨?_, hb⟩
 cases hr
 rfl

/-! the shapes that data have, type by type -/

theorem aIE {P : Program} {n : Nat} {t : TypeId} {c : List PV} (hu : P.underlying t = some .bool) (h : Typed P (n + 1) t c) : ∃ b, c = [.val (.bool b)] := by
 unfold Typed at h; rw [hu] at h; exact h

theorem qM {P : Program} {n : Nat} {t : TypeId} {c : List PV} {k : IntKind} (hu : P.underlying t = some (.int k)) (h : Typed P (n + 1) t c) : ∃ m, c = [.val (.int k m)] ∧ (Lit.int k m).wf = true := by
 unfold Typed at h; rw [hu] at h; exact h

theorem aIF {P : Program} {n : Nat} {t e : TypeId} {c : List PV} (hu : P.underlying t = some (.slice e)) (he : P.underlying e = some (.int .i64)) (h : Typed P (n + 2) t c) :
  ∃ l : List Int, c = [.lst (aA l)] ∧ l.length ≤ maxLen := by
 unfold Typed at h; rw [hu] at h
 obtain ⟨cl, rfl, hl, hc⟩ := h
 have : ∃ l : List Int, cl.map (kZ P e) = aA l ∧ l.length = cl.length := by
  clear hl
  induction cl with
  | nil => exact ⟨[], rfl, rfl⟩
  | cons x r ih =>
   obtain ⟨l, h1, h2⟩ := ih (fun c hc' => hc c (List.mem_cons_of_mem _ hc'))
   obtain ⟨m, hm, _⟩ := qM he (hc x (by simp))
   refine ⟨m :: l, ?_, by simp [h2]⟩
   rw [List.map_cons, h1, hm]
   unfold kZ uW
   rw [he]
   rfl
 obtain ⟨l, h1, h2⟩ := this
 exact ⟨l, by rw [h1], by omega⟩

theorem aL2 {P : Program} {n : Nat} {t : TypeId} {c : List PV} {f : Field} (hu : P.underlying t = some (.struct #[f])) (h : Typed P (n + 1) t c) : Typed P n f.type c := by
 unfold Typed at h; rw [hu] at h
 obtain ⟨p, q, h1, h2, rfl⟩ := h
 have h2 : q = [] := h2
 rw [h2, List.append_nil]; exact h1

theorem uX {P : Program} {n : Nat} {t : TypeId} {c : List PV} {f g : Field} (hu : P.underlying t = some (.struct #[f, g])) (h : Typed P (n + 1) t c) : ∃ p q, Typed P n f.type p ∧ Typed P n g.type q ∧ c = p ++ q := by
 unfold Typed at h; rw [hu] at h
 obtain ⟨p, q, h1, ⟨q1, q2, h2, h3, rfl⟩, rfl⟩ := h
 have h3 : q2 = [] := h3
 exact ⟨p, q1, h1, h2, by rw [h3, List.append_nil]⟩

end Go.Pe

/- Long division: plain laws. -/
namespace Go.Dg
open Go

theorem rN (l : List Int) (k : Nat) : val l = val (l.take k) + 65536 ^ k * val (l.drop k) := by
 rcases Nat.lt_or_ge l.length k with h | h
 ·rw [List.take_of_length_le (by omega), List.drop_of_length_le (by omega)]
  simp [val]
 ·have := iL (l.take k) (l.drop k)
  rw [List.take_append_drop, List.length_take, Nat.min_eq_left h] at this
  exact this

theorem zD (b : Nat) (hb : 0 < b) {m k : Nat} (h : m ≤ k) : (b : Int) ^ m ≤ (b : Int) ^ k := by
 rw [← Int.natCast_pow, ← Int.natCast_pow]
 exact Int.ofNat_le.2 (Nat.pow_le_pow_right hb h)

theorem aDH {l : List Int} (h : Valid l) (k : Nat) : val (l.take k) < 65536 ^ k := by
 refine Int.lt_of_lt_of_le (bW (h.take k)) ?_
 rw [List.length_take]
 exact zD 65536 (by decide) (Nat.min_le_left _ _)

def aRT (t v1 : Int) (R V q r : Int) : Prop := q * v1 + r = t ∧ 0 ≤ r ∧ r < 65536 ∧ 0 ≤ q ∧ R < (q + 1) * V

theorem aSU {W R V t u2 v1 v2 lr q r : Int} (hW : 0 < W) (hR : R = (t * 65536 + u2) * W + lr) (hlr : lr < W) (hV : (v1 * 65536 + v2) * W ≤ V) (hq : 0 ≤ q) (ht : q * v1 + r = t) (hc : r * 65536 + u2 < q * v2) : R < q * V := by
 have h1 : q * ((v1 * 65536 + v2) * W) ≤ q * V := Int.mul_le_mul_of_nonneg_left hV hq
 have h2 : t * 65536 + u2 + 1 ≤ q * (v1 * 65536 + v2) := by
  have : q * (v1 * 65536 + v2) = (q * v1) * 65536 + q * v2 := by grind
  rw [this]; omega
 have h3 : (t * 65536 + u2 + 1) * W ≤ q * (v1 * 65536 + v2) * W := Int.mul_le_mul_of_nonneg_right h2 (by omega)
 have h4 : (t * 65536 + u2 + 1) * W = (t * 65536 + u2) * W + W := by grind
 have h5 : q * (v1 * 65536 + v2) * W = q * ((v1 * 65536 + v2) * W) := by grind
 omega

theorem aFP {W R V t u2 v1 v2 lr q r : Int} (hW : 0 < W) (hR : R = (t * 65536 + u2) * W + lr) (hlr : 0 ≤ lr) (hV : V < (v1 * 65536 + v2 + 1) * W) (hV0 : 0 ≤ V) (hv1 : 1 ≤ v1) (hv2 : 0 ≤ v2) (hu2 : 0 ≤ u2) (ht0 : 0 ≤ t)
  (hq : 0 ≤ q) (hq1 : q ≤ 65536) (ht : q * v1 + r = t) (hc : q * v2 ≤ r * 65536 + u2) : (q - 1) * V ≤ R := by
 rcases Int.lt_or_le 0 q with h | h
 ·have h1 : (q - 1) * V ≤ (q - 1) * ((v1 * 65536 + v2 + 1) * W) := Int.mul_le_mul_of_nonneg_left (by omega) (by omega)
  have h2 : (q - 1) * (v1 * 65536 + v2 + 1) ≤ t * 65536 + u2 := by
   have : (q - 1) * (v1 * 65536 + v2 + 1) = (q * v1) * 65536 + q * v2 + q - v1 * 65536 - v2 - 1 := by grind
   rw [this]; omega
  have h3 : (q - 1) * (v1 * 65536 + v2 + 1) * W ≤ (t * 65536 + u2) * W := Int.mul_le_mul_of_nonneg_right h2 (by omega)
  have h5 : (q - 1) * ((v1 * 65536 + v2 + 1) * W) = (q - 1) * (v1 * 65536 + v2 + 1) * W := by grind
  omega
 ·have : q = 0 := by omega
  subst this
  have h0 : 0 ≤ (t * 65536 + u2) * W := Int.mul_nonneg (by omega) (by omega)
  omega

theorem aSV {W R V t u2 v1 v2 lr : Int} (hW : 0 < W) (hR : R = (t * 65536 + u2) * W + lr) (hlr : 0 ≤ lr) (hu2 : 0 ≤ u2) (hV : V < (v1 * 65536 + v2 + 1) * W) (hv2 : v2 < 65536) (hRV : R < 65536 * V) : t < 65536 * (v1 + 1) := by
 apply Int.lt_of_not_ge
 intro h
 have h1 : (65536 * (v1 + 1)) * 65536 ≤ t * 65536 + u2 := by omega
 have h2 : (65536 * (v1 + 1)) * 65536 * W ≤ (t * 65536 + u2) * W := Int.mul_le_mul_of_nonneg_right h1 (by omega)
 have h3 : (v1 * 65536 + v2 + 1) * W ≤ ((v1 + 1) * 65536) * W := Int.mul_le_mul_of_nonneg_right (by omega) (by omega)
 have h4 : (65536 * (v1 + 1)) * 65536 * W = 65536 * (((v1 + 1) * 65536) * W) := by grind
 omega

structure aIG (R V t u2 v1 v2 : Int) : Prop where
 ex : ∃ W lr, 0 < W ∧ R = (t * 65536 + u2) * W + lr ∧ 0 ≤ lr ∧ lr < W ∧ (v1 * 65536 + v2) * W ≤ V ∧ V < (v1 * 65536 + v2 + 1) * W
 t0 : 0 ≤ t
 u20 : 0 ≤ u2
 u21 : u2 < 65536
 v10 : 32768 ≤ v1
 v20 : 0 ≤ v2
 v21 : v2 < 65536
 lt : R < 65536 * V

theorem aIG.V0 {R V t u2 v1 v2 : Int} (h : aIG R V t u2 v1 v2) : 0 < V := by
 obtain ⟨W, lr, hW, _, _, _, h1, _⟩ := h.ex
 have h2 : 0 < (v1 * 65536 + v2) * W := Int.mul_pos (by have := h.v10; have := h.v20; omega) hW
 omega

theorem aKR {R V t u2 v1 v2 : Int} (h : aIG R V t u2 v1 v2) (hv : v1 < 65536) : aRT t v1 R V (t / v1) (t % v1) := by
 have hv1 := h.v10
 have h1 := Int.emod_nonneg t (b := v1) (by omega)
 have h2 := Int.emod_lt_of_pos t (b := v1) (by omega)
 have h3 : t / v1 * v1 + t % v1 = t := by have := Int.mul_ediv_add_emod t v1; grind
 refine ⟨h3, h1, by omega, Int.ediv_nonneg h.t0 (by omega), ?_⟩
 obtain ⟨W, lr, hW, hR, aL3, hlr, hV, hV'⟩ := h.ex
 have h4 : t + 1 ≤ (t / v1 + 1) * v1 := by
  have : (t / v1 + 1) * v1 = t / v1 * v1 + v1 := by grind
  omega
 have hq : 0 ≤ t / v1 := Int.ediv_nonneg h.t0 (by omega)
 have hV2 : v1 * 65536 * W ≤ V := by
  have : v1 * 65536 * W ≤ (v1 * 65536 + v2) * W := Int.mul_le_mul_of_nonneg_right (by have := h.v20; omega) (by omega)
  omega
 have h5 : (t / v1 + 1) * (v1 * 65536 * W) ≤ (t / v1 + 1) * V := Int.mul_le_mul_of_nonneg_left hV2 (by omega)
 have h6 : (t + 1) * (65536 * W) ≤ (t / v1 + 1) * v1 * (65536 * W) := Int.mul_le_mul_of_nonneg_right h4 (by omega)
 have h7 : (t / v1 + 1) * v1 * (65536 * W) = (t / v1 + 1) * (v1 * 65536 * W) := by grind
 have h8 : (t * 65536 + u2 + 1) * W ≤ (t + 1) * 65536 * W := Int.mul_le_mul_of_nonneg_right (by have := h.u21; omega) (by omega)
 have h9 : (t * 65536 + u2 + 1) * W = (t * 65536 + u2) * W + W := by grind
 have h10 : (t + 1) * 65536 * W = (t + 1) * (65536 * W) := by grind
 omega

theorem aKS {R V t u2 v1 v2 q r : Int} (h : aIG R V t u2 v1 v2) (hi : aRT t v1 R V q r) (hc : 65536 ≤ q ∨ r * 65536 + u2 < q * v2) : (q - 1) * v1 + (r + v1) = t ∧ 0 ≤ q - 1 ∧ R < (q - 1 + 1) * V := by
 obtain ⟨h1, h2, h3, h4, h5⟩ := hi
 obtain ⟨W, lr, hW, hR, aL3, hlr, hV, hV'⟩ := h.ex
 have pF : R < q * V := by
  rcases hc with hc | hc
  ·have := h.lt
   have h6 : 65536 * V ≤ q * V := Int.mul_le_mul_of_nonneg_right hc (by have := h.V0; omega)
   omega
  ·exact aSU hW hR hlr hV h4 h1 hc
 have hq1 : 1 ≤ q := by
  rcases hc with hc | hc
  ·omega
  ·by_cases hq : q = 0
   ·subst hq
    have := h.u20
    omega
   ·omega
 refine ⟨by grind, by omega, ?_⟩
 rw [show q - 1 + 1 = q by omega]; exact pF

theorem aKT {R V t u2 v1 v2 q r : Int} (h : aIG R V t u2 v1 v2) (hi : aRT t v1 R V q r) (h1 : q < 65536) (h2 : q * v2 ≤ r * 65536 + u2) : (q - 1) * V ≤ R ∧ R < (q + 1) * V ∧ 0 ≤ q ∧ q < 65536 := by
 obtain ⟨a1, a2, a3, a4, a5⟩ := hi
 obtain ⟨W, lr, hW, hR, aL3, hlr, hV, hV'⟩ := h.ex
 exact ⟨aFP hW hR aL3 hV' (by have := h.V0; omega) (by have := h.v10; omega) h.v20 h.u20 h.t0 a4 (by omega) a1 h2, a5, a4, h1⟩

theorem aGV {R V t u2 v1 v2 q r : Int} (h : aIG R V t u2 v1 v2) (ht : q * v1 + r = t) (hq : 0 ≤ q) (hR' : R < (q + 1) * V) (hr : 65536 ≤ r) : (q - 1) * V ≤ R ∧ R < (q + 1) * V ∧ 0 ≤ q ∧ q < 65536 := by
 obtain ⟨W, lr, hW, hR, aL3, hlr, hV, hV'⟩ := h.ex
 have aR8 := aSV hW hR aL3 h.u20 hV' h.v21 h.lt
 have hv1 := h.v10
 have hq1 : q < 65536 := by
  apply Int.lt_of_not_ge
  intro hge
  have : 65536 * v1 ≤ q * v1 := Int.mul_le_mul_of_nonneg_right hge (by omega)
  omega
 have hc : q * v2 ≤ r * 65536 + u2 := by
  have h1 : q * v2 ≤ 65536 * 65536 := by
   have h3 : q * v2 ≤ 65536 * v2 := Int.mul_le_mul_of_nonneg_right (by omega) h.v20
   have := h.v21
   omega
  have := h.u20
  omega
 exact ⟨aFP hW hR aL3 hV' (by have := h.V0; omega) (by omega) h.v20 h.u20 h.t0 hq (by omega) ht hc, hR', hq, hq1⟩

theorem aRS {u v : List Int} {j : Nat} (hu : Valid u) (hv : Valid v) (hn : 2 ≤ v.length) (hv1 : 32768 ≤ v.getD (v.length - 1) 0) (hlt : val (u.drop j) < 65536 * val v) :
  aIG (val (u.drop j)) (val v) (u.getD (j + v.length) 0 * 65536 + u.getD (j + v.length - 1) 0) (u.getD (j + v.length - 2) 0) (v.getD (v.length - 1) 0) (v.getD (v.length - 2) 0) := by
 have g0 := hu.get (j + v.length)
 have g1 := hu.get (j + v.length - 1)
 have g2 := hu.get (j + v.length - 2)
 have k1 := hv.get (v.length - 1)
 have k2 := hv.get (v.length - 2)
 refine ⟨⟨65536 ^ (v.length - 2), val ((u.drop j).take (v.length - 2)), pow_pos _, ?_, bD ((hu.drop j).take _), aDH (hu.drop j) _, ?_, ?_⟩, by omega, by omega, by omega, hv1, by omega, by omega, hlt⟩
 ·rw [rN (u.drop j) (v.length - 2), List.drop_drop]
  rw [dF u (j + (v.length - 2)), dF u (j + (v.length - 2) + 1), dF u (j + (v.length - 2) + 1 + 1)]
  have hz : val (u.drop (j + (v.length - 2) + 1 + 1 + 1)) = 0 := by
   have h0 : 0 ≤ val (u.drop (j + (v.length - 2) + 1 + 1 + 1)) := bD (hu.drop _)
   apply Int.le_antisymm _ h0
   apply Int.le_of_lt_add_one
   apply Int.lt_of_not_ge
   intro hge
   have e1 := rN (u.drop j) (v.length + 1)
   rw [List.drop_drop] at e1
   have e2 : j + (v.length + 1) = j + (v.length - 2) + 1 + 1 + 1 := by omega
   rw [e2] at e1
   have h1 := bD ((hu.drop j).take (v.length + 1))
   have h2 : 65536 ^ (v.length + 1) * 1 ≤ 65536 ^ (v.length + 1) * val (u.drop (j + (v.length - 2) + 1 + 1 + 1)) := Int.mul_le_mul_of_nonneg_left (by omega) (by have := pow_pos (v.length + 1); omega)
   have h3 := bW hv
   have h4 : (65536 : Int) ^ (v.length + 1) = 65536 * 65536 ^ v.length := by rw [Int.pow_succ]; exact Int.mul_comm _ _
   omega
  rw [hz]
  have e1 : j + (v.length - 2) = j + v.length - 2 := by omega
  have e2 : j + (v.length - 2) + 1 = j + v.length - 1 := by omega
  have e3 : j + (v.length - 2) + 1 + 1 = j + v.length := by omega
  rw [e3, e2, e1]
  generalize val ((u.drop j).take (v.length - 2)) = X
  generalize (65536 : Int) ^ (v.length - 2) = W
  grind
 ·have e := rN v (v.length - 2)
  have e1 := dF v (v.length - 2)
  have e2 := dF v (v.length - 2 + 1)
  rw [List.drop_of_length_le (show v.length ≤ v.length - 2 + 1 + 1 by omega)] at e2
  have e3 : v.length - 2 + 1 = v.length - 1 := by omega
  rw [e3] at e1 e2
  have h0 := bD (hv.take (v.length - 2))
  have : 65536 ^ (v.length - 2) * val (v.drop (v.length - 2)) = (v.getD (v.length - 1) 0 * 65536 + v.getD (v.length - 2) 0) * 65536 ^ (v.length - 2) := by
   rw [e1, e2, show val [] = 0 from rfl]; grind
  omega
 ·have e := rN v (v.length - 2)
  have e1 := dF v (v.length - 2)
  have e2 := dF v (v.length - 2 + 1)
  rw [List.drop_of_length_le (show v.length ≤ v.length - 2 + 1 + 1 by omega)] at e2
  have e3 : v.length - 2 + 1 = v.length - 1 := by omega
  rw [e3] at e1 e2
  have h0 := aDH hv (v.length - 2)
  have : 65536 ^ (v.length - 2) * val (v.drop (v.length - 2)) = (v.getD (v.length - 1) 0 * 65536 + v.getD (v.length - 2) 0) * 65536 ^ (v.length - 2) := by
   rw [e1, e2, show val [] = 0 from rfl]; grind
  have h5 : (v.getD (v.length - 1) 0 * 65536 + v.getD (v.length - 2) 0 + 1) * 65536 ^ (v.length - 2) = (v.getD (v.length - 1) 0 * 65536 + v.getD (v.length - 2) 0) * 65536 ^ (v.length - 2) + 65536 ^ (v.length - 2) := by grind
  omega

def tkI (u v : List Int) (j : Nat) (q i b : Int) (o : List Int) : Prop :=
 0 ≤ i ∧ i ≤ v.length ∧ o.length = u.length ∧ 0 ≤ b ∧ b ≤ 65535 ∧ Valid o ∧ (∀ k : Nat, j + i.toNat ≤ k → o.getD k 0 = u.getD k 0) ∧ val o - b * 65536 ^ (j + i.toNat) = val u - q * val (v.take i.toNat) * 65536 ^ j

theorem aNM {u v : List Int} {j : Nat} {q : Int} (hu : Valid u) : tkI u v j q 0 0 u := ⟨Int.le_refl _, by omega, rfl, Int.le_refl _, by decide, hu, fun _ _ => rfl, by simp [val]⟩

theorem aNN {u v o : List Int} {j : Nat} {q i b d b' d' : Int} (hv : Valid v) (h : tkI u v j q i b o) (hi : i < v.length) (hj : j + v.length ≤ u.length) (hq0 : 0 ≤ q) (hq1 : q < 65536)
  (hd : d = o.getD (j + i.toNat) 0 - q * v.getD i.toNat 0 - b) (hb' : 0 ≤ b' ∧ b' ≤ 65535) (hd' : d' = d + b' * 65536) (h0 : 0 ≤ d') (h1 : d' < 65536) : tkI u v j q (i + 1) b' (o.set (j + i.toNat) d') := by
 obtain ⟨a1, a2, a3, a4, a5, a6, a7, a8⟩ := h
 have e : (i + 1).toNat = i.toNat + 1 := by omega
 refine ⟨by omega, by omega, by rw [List.length_set]; exact a3, hb'.1, hb'.2, a6.set h0 h1, fun k hk => ?_, ?_⟩
 ·rw [getD_set_ne (by omega)]; exact a7 k (by omega)
 ·rw [jN _ _ _ (by omega), e, cN, hd', hd, ← Nat.add_assoc, Int.pow_succ (65536) (j + i.toNat), Int.pow_add]
  rw [Int.pow_add] at a8
  generalize val o = X at *
  generalize val u = Y at *
  generalize val (v.take i.toNat) = Z at *
  generalize (65536 : Int) ^ j = P at *
  generalize (65536 : Int) ^ i.toNat = W at *
  generalize o.getD (j + i.toNat) 0 = s at *
  generalize v.getD i.toNat 0 = t at *
  grind

theorem aGW {x q y b d : Int} (hx : 0 ≤ x ∧ x < 65536) (hq : 0 ≤ q ∧ q < 65536) (hy : 0 ≤ y ∧ y < 65536) (hb : 0 ≤ b ∧ b ≤ 65535) (hd : d = x - q * y - b) (hn : d < 0) :
  0 ≤ (-d + 65535) / 65536 ∧ (-d + 65535) / 65536 ≤ 65535 ∧ 0 ≤ d + (-d + 65535) / 65536 * 65536 ∧ d + (-d + 65535) / 65536 * 65536 < 65536 ∧ -4294967296 ≤ d := by
 have h := lY hq hy
 omega

def tkR (u v : List Int) (j : Nat) (q : Int) (o : List Int) (b : Bool) : Prop :=
 o.length = u.length ∧ val o = val u - q * val v * 65536 ^ j ∧ (∀ k : Nat, k ≠ j + v.length → 0 ≤ o.getD k 0 ∧ o.getD k 0 < 65536) ∧ b = decide (o.getD (j + v.length) 0 < 0) ∧
  -65535 ≤ o.getD (j + v.length) 0 ∧ o.getD (j + v.length) 0 < 65536 ∧ (∀ k : Nat, j + v.length < k → o.getD k 0 = u.getD k 0)

theorem aNO {u v o : List Int} {j : Nat} {q i b t : Int} (h : tkI u v j q i b o) (hi : v.length ≤ i) (hj : j + v.length < u.length) (ht : t = o.getD (j + v.length) 0 - b) : tkR u v j q (o.set (j + v.length) t) (decide (t < 0)) := by
 obtain ⟨a1, a2, a3, a4, a5, a6, a7, a8⟩ := h
 have e : i.toNat = v.length := by omega
 rw [e, List.take_of_length_le (Nat.le_refl _)] at a8
 rw [e] at a7
 have g := a6.get (j + v.length)
 have hs : (o.set (j + v.length) t).getD (j + v.length) 0 = t := gE (by omega)
 refine ⟨by rw [List.length_set]; exact a3, ?_, fun k hk => ?_, by rw [hs], by rw [hs]; omega, by rw [hs]; omega, fun k hk => ?_⟩
 ·rw [jN _ _ _ (by omega), ht]
  generalize val o = X at *
  generalize val u = Y at *
  generalize (65536 : Int) ^ (j + v.length) = W at *
  grind
 ·rw [getD_set_ne (fun h => hk h.symm)]; exact a6.get k
 ·rw [getD_set_ne (by omega)]; exact a7 k (by omega)

def adI (u v : List Int) (j : Nat) (i c : Int) (o : List Int) : Prop :=
 0 ≤ i ∧ i ≤ v.length ∧ o.length = u.length ∧ 0 ≤ c ∧ c ≤ 1 ∧ (∀ k : Nat, k ≠ j + v.length → 0 ≤ o.getD k 0 ∧ o.getD k 0 < 65536) ∧ (∀ k : Nat, j + i.toNat ≤ k → o.getD k 0 = u.getD k 0) ∧
  val o + c * 65536 ^ (j + i.toNat) = val u + val (v.take i.toNat) * 65536 ^ j

theorem aNQ {u v : List Int} {j : Nat} (hu : ∀ k : Nat, k ≠ j + v.length → 0 ≤ u.getD k 0 ∧ u.getD k 0 < 65536) : adI u v j 0 0 u := ⟨Int.le_refl _, by omega, rfl, Int.le_refl _, by decide, hu, fun _ _ => rfl, by simp [val]⟩

theorem aNR {u v o : List Int} {j : Nat} {i c s : Int} (hv : Valid v) (h : adI u v j i c o) (hi : i < v.length) (hj : j + v.length ≤ u.length) (hs : s = c + (o.getD (j + i.toNat) 0 + v.getD i.toNat 0)) :
  adI u v j (i + 1) (s / 65536) (o.set (j + i.toNat) (s % 65536)) ∧ 0 ≤ s ∧ s ≤ 131071 := by
 obtain ⟨a1, a2, a3, a4, a5, a6, a7, a8⟩ := h
 have e : (i + 1).toNat = i.toNat + 1 := by omega
 have g1 := a6 (j + i.toNat) (by omega)
 have g2 := hv.get i.toNat
 have hb : 0 ≤ s ∧ s ≤ 131071 := by omega
 refine ⟨⟨by omega, by omega, by rw [List.length_set]; exact a3, by omega, by omega, fun k hk => ?_, fun k hk => ?_, ?_⟩, hb⟩
 ·by_cases hk2 : k = j + i.toNat
  ·rw [hk2, gE (by omega)]; omega
  ·rw [getD_set_ne (fun h => hk2 h.symm)]; exact a6 k hk
 ·rw [getD_set_ne (by omega)]; exact a7 k (by omega)
 ·have hm : s % 65536 = s - 65536 * (s / 65536) := by omega
  rw [jN _ _ _ (by omega), e, cN, hm, ← Nat.add_assoc, Int.pow_succ (65536) (j + i.toNat), Int.pow_add]
  rw [Int.pow_add] at a8
  generalize s / 65536 = C at *
  generalize val o = X at *
  generalize val u = Y at *
  generalize val (v.take i.toNat) = Z at *
  generalize (65536 : Int) ^ j = P at *
  generalize (65536 : Int) ^ i.toNat = W at *
  generalize o.getD (j + i.toNat) 0 = x at *
  generalize v.getD i.toNat 0 = y at *
  grind

def adR (u v : List Int) (j : Nat) (o : List Int) : Prop :=
 o.length = u.length ∧ val o = val u + val v * 65536 ^ j ∧ (∀ k : Nat, k ≠ j + v.length → 0 ≤ o.getD k 0 ∧ o.getD k 0 < 65536) ∧ (∀ k : Nat, j + v.length < k → o.getD k 0 = u.getD k 0)

theorem aNS {u v o : List Int} {j : Nat} {i c : Int} (h : adI u v j i c o) (hi : v.length ≤ i) (hj : j + v.length < u.length) : adR u v j (o.set (j + v.length) (o.getD (j + v.length) 0 + c)) := by
 obtain ⟨a1, a2, a3, a4, a5, a6, a7, a8⟩ := h
 have e : i.toNat = v.length := by omega
 rw [e, List.take_of_length_le (Nat.le_refl _)] at a8
 rw [e] at a7
 refine ⟨by rw [List.length_set]; exact a3, ?_, fun k hk => ?_, fun k hk => ?_⟩
 ·rw [jN _ _ _ (by omega)]
  generalize val o = X at *
  generalize val u = Y at *
  generalize (65536 : Int) ^ (j + v.length) = W at *
  grind
 ·rw [getD_set_ne (fun h => hk h.symm)]; exact a6 k hk
 ·rw [getD_set_ne (by omega)]; exact a7 k (by omega)

theorem aKB {o : List Int} {k : Nat} (h : ∀ i, i < k → 0 ≤ o.getD i 0 ∧ o.getD i 0 < 65536) (hz : ∀ i, k < i → o.getD i 0 = 0) : ∃ low, 0 ≤ low ∧ low < 65536 ^ k ∧ val o = low + 65536 ^ k * o.getD k 0 := by
 have hv : Valid (o.take k) := by
  intro x hx
  obtain ⟨i, hi, rfl⟩ := List.getElem_of_mem hx
  rw [List.length_take] at hi
  have := h i (by omega)
  rw [List.getD, List.getElem?_eq_getElem (by omega)] at this
  simpa using this
 refine ⟨val (o.take k), bD hv, ?_, ?_⟩
 ·have := bW hv
  rw [List.length_take] at this
  exact Int.lt_of_lt_of_le this (zD 65536 (by decide) (Nat.min_le_left _ _))
 ·have e := rN o k
  have e1 := dF o k
  have e2 : val (o.drop (k + 1)) = 0 := by
   have : o.drop (k + 1) = List.replicate (o.drop (k + 1)).length 0 := by
    apply yQ (by simp)
    intro j hj
    have h1 := hz (k + 1 + j) (by omega)
    have h2 : (o.drop (k + 1)).getD j 0 = o.getD (k + 1 + j) 0 := by simp [List.getD, List.getElem?_drop]
    rw [h2, h1, List.getD, List.getElem?_replicate]
    split <;> rfl
   rw [this, jM]
  rw [e, e1, e2]
  simp

def dvI (N V : Int) (L M : Nat) (j : Int) (u out : List Int) : Prop :=
 -1 ≤ j ∧ j < M ∧ u.length = L ∧ out.length = M ∧ Valid u ∧ Valid out ∧ (∀ k : Nat, (k : Int) ≤ j → out.getD k 0 = 0) ∧ val out * V + val u = N ∧ val u < V * 65536 ^ (j + 1).toNat

theorem rS {N V : Int} {L M : Nat} {j : Int} {u out : List Int} (h : dvI N V L M j u out) (hj : 0 ≤ j) : val (u.drop j.toNat) < 65536 * V ∧ 0 ≤ val (u.drop j.toNat) ∧
  ∀ Q : Int, (val (u.drop j.toNat) < Q * V ↔ val u < Q * V * 65536 ^ j.toNat) := by
 obtain ⟨a1, a2, a3, a4, a5, a6, a7, a8, a9⟩ := h
 have e := rN u j.toNat
 have h0 := bD (a5.take j.toNat)
 have h1 := aDH a5 j.toNat
 have hW := pow_pos j.toNat
 have key : ∀ Q : Int, (val (u.drop j.toNat) < Q * V ↔ val u < Q * V * 65536 ^ j.toNat) := by
  intro Q
  rw [e]
  generalize val (u.drop j.toNat) = R at *
  generalize val (u.take j.toNat) = low at *
  generalize (65536 : Int) ^ j.toNat = W at *
  generalize Q * V = X at *
  constructor
  ·intro h
   have h2 : W * (R + 1) ≤ W * X := Int.mul_le_mul_of_nonneg_left (by omega) (by omega)
   have h3 : W * (R + 1) = W * R + W := by grind
   have h4 : X * W = W * X := Int.mul_comm _ _
   omega
  ·intro h
   apply Int.lt_of_not_ge
   intro hge
   have h2 : W * X ≤ W * R := Int.mul_le_mul_of_nonneg_left hge (by omega)
   have h4 : X * W = W * X := Int.mul_comm _ _
   omega
 refine ⟨(key 65536).2 ?_, bD (a5.drop _), key⟩
 have e2 : (j + 1).toNat = j.toNat + 1 := by omega
 rw [e2, Int.pow_succ] at a9
 have : 65536 * V * 65536 ^ j.toNat = V * (65536 ^ j.toNat * 65536) := by grind
 omega

theorem aL4 {N V : Int} {L M : Nat} {j : Int} {u out : List Int} (h : dvI N V L M j u out) (hj : 0 ≤ j) {n : Nat} (hV : V < 65536 ^ n) : ∀ k : Nat, j.toNat + n < k → u.getD k 0 = 0 := by
 obtain ⟨hR, hR0, _⟩ := rS h hj
 have a5 := h.2.2.2.2.1
 intro k hk
 have h1 : val (u.drop k) = 0 := by
  have e := rN (u.drop j.toNat) (k - j.toNat)
  rw [List.drop_drop, show j.toNat + (k - j.toNat) = k by omega] at e
  have h0 := bD ((a5.drop j.toNat).take (k - j.toNat))
  have h2 := bD (a5.drop k)
  apply Int.le_antisymm _ h2
  apply Int.le_of_lt_add_one
  apply Int.lt_of_not_ge
  intro hge
  have h3 : 65536 ^ (k - j.toNat) * 1 ≤ 65536 ^ (k - j.toNat) * val (u.drop k) := Int.mul_le_mul_of_nonneg_left (by omega) (by have := pow_pos (k - j.toNat); omega)
  have h4 : (65536 : Int) ^ (n + 1) ≤ 65536 ^ (k - j.toNat) := zD 65536 (by decide) (by omega)
  rw [Int.pow_succ] at h4
  omega
 have e := dF u k
 have h2 := bD (a5.drop (k + 1))
 have := (a5.get k).1
 omega

theorem Valid.aPH {o : List Int} (h : ∀ k : Nat, 0 ≤ o.getD k 0 ∧ o.getD k 0 < 65536) : Valid o := by
 intro x hx
 obtain ⟨i, hi, rfl⟩ := List.getElem_of_mem hx
 have := h i
 rw [List.getD, List.getElem?_eq_getElem hi] at this
 exact this

theorem aFQ {N V q : Int} {L M : Nat} {j : Int} {u u' out : List Int} (h : dvI N V L M j u out) (hj : 0 ≤ j) (hq0 : 0 ≤ q) (hq1 : q < 65536) (hl : u'.length = u.length) (hu : Valid u') (hv : val u' = val u - q * V * 65536 ^ j.toNat) (hlt : val u' < V * 65536 ^ j.toNat) :
  dvI N V L M (j - 1) u' (out.set j.toNat q) := by
 obtain ⟨a1, a2, a3, a4, a5, a6, a7, a8, a9⟩ := h
 refine ⟨by omega, by omega, by omega, by rw [List.length_set]; exact a4, hu, a6.set hq0 hq1, fun k hk => ?_, ?_, ?_⟩
 ·rw [getD_set_ne (by omega)]; exact a7 k (by omega)
 ·rw [jN _ _ _ (by omega), a7 j.toNat (by omega), hv]
  generalize val out = X at *
  generalize val u = Y at *
  generalize (65536 : Int) ^ j.toNat = W at *
  grind
 ·rw [show j - 1 + 1 = j by omega]; exact hlt

theorem aKW {N q : Int} {v : List Int} {L M : Nat} {j : Int} {u u' out : List Int} {b : Bool} (h : dvI N (val v) L M j u out) (hj : 0 ≤ j) (hv : Valid v) (hV0 : 0 < val v) (hq0 : 0 ≤ q) (hq1 : q < 65536)
  (hhi : val (u.drop j.toNat) < (q + 1) * val v) (ht : tkR u v j.toNat q u' b) (hb : b = false) : dvI N (val v) L M (j - 1) u' (out.set j.toNat q) := by
 obtain ⟨t1, t2, t3, t4, t5, t6, t7⟩ := ht
 have ht0 : 0 ≤ u'.getD (j.toNat + v.length) 0 := by
  rw [hb] at t4
  have := of_decide_eq_false t4.symm
  omega
 have cB : Valid u' := Valid.aPH fun k => by
  by_cases hk : k = j.toNat + v.length
  ·rw [hk]; exact ⟨ht0, t6⟩
  ·exact t3 k hk
 refine aFQ h hj hq0 hq1 t1 cB t2 ?_
 have := ((rS h hj).2.2 (q + 1)).1 hhi
 rw [t2]
 have e : (q + 1) * val v * 65536 ^ j.toNat = q * val v * 65536 ^ j.toNat + val v * 65536 ^ j.toNat := by grind
 omega

theorem aKV {N q : Int} {v : List Int} {L M : Nat} {j : Int} {u u1 u' out : List Int} {b : Bool} (h : dvI N (val v) L M j u out) (hj : 0 ≤ j) (hv : Valid v) (hV0 : 0 < val v) (hq0 : 0 ≤ q) (hq1 : q < 65536)
  (hlo : (q - 1) * val v ≤ val (u.drop j.toNat)) (ht : tkR u v j.toNat q u1 b) (hb : b = true) (ha : adR u1 v j.toNat u') : dvI N (val v) L M (j - 1) u' (out.set j.toNat (q - 1)) := by
 obtain ⟨t1, t2, t3, t4, t5, t6, t7⟩ := ht
 obtain ⟨b1, b2, b3, b4⟩ := ha
 have hab := aL4 h hj (bW hv)
 obtain ⟨hR, hR0, key⟩ := rS h hj
 have htn : u1.getD (j.toNat + v.length) 0 < 0 := by
  rw [hb] at t4
  exact of_decide_eq_true t4.symm
 have aSW : val u1 < 0 := by
  obtain ⟨low, h0, h1, h2⟩ := aKB (o := u1) (k := j.toNat + v.length) (fun i hi => t3 i (by omega)) (fun i hi => by rw [t7 i hi]; exact hab i hi)
  have h3 : 65536 ^ (j.toNat + v.length) * u1.getD (j.toNat + v.length) 0 ≤ 65536 ^ (j.toNat + v.length) * (-1) := Int.mul_le_mul_of_nonneg_left (by omega) (by have := pow_pos (j.toNat + v.length); omega)
  omega
 have hlt : val u < q * val v * 65536 ^ j.toNat := by omega
 have hq2 : 1 ≤ q := by
  by_cases hq : q = 0
  ·subst hq
   have := bD h.2.2.2.2.1
   simp at hlt
   omega
  ·omega
 have e1 : val u' = val u - (q - 1) * val v * 65536 ^ j.toNat := by
  rw [b2, t2]; grind
 have hge : 0 ≤ val u' := by
  have : ¬val u < (q - 1) * val v * 65536 ^ j.toNat := fun hc => by
   have := (key (q - 1)).2 hc
   omega
  omega
 have aZG : val u' < val v * 65536 ^ j.toNat := by
  rw [e1]
  have e : (q - 1) * val v * 65536 ^ j.toNat = q * val v * 65536 ^ j.toNat - val v * 65536 ^ j.toNat := by grind
  omega
 have hz : ∀ k : Nat, j.toNat + v.length < k → u'.getD k 0 = 0 := fun k hk => by rw [b4 k hk, t7 k hk]; exact hab k hk
 have aR8 : u'.getD (j.toNat + v.length) 0 = 0 := by
  obtain ⟨low, h0, h1, h2⟩ := aKB (o := u') (k := j.toNat + v.length) (fun i hi => b3 i (by omega)) hz
  have hW := pow_pos (j.toNat + v.length)
  have hb1 : val v * 65536 ^ j.toNat < 65536 ^ (j.toNat + v.length) := by
   have h3 : val v * 65536 ^ j.toNat < 65536 ^ v.length * 65536 ^ j.toNat := Int.mul_lt_mul_of_pos_right (bW hv) (pow_pos _)
   rw [Int.pow_add]
   have h4 : (65536 : Int) ^ v.length * 65536 ^ j.toNat = 65536 ^ j.toNat * 65536 ^ v.length := Int.mul_comm _ _
   omega
  generalize u'.getD (j.toNat + v.length) 0 = t at *
  generalize (65536 : Int) ^ (j.toNat + v.length) = W at *
  rcases Int.lt_trichotomy t 0 with hc | hc | hc
  ·have : W * t ≤ W * (-1) := Int.mul_le_mul_of_nonneg_left (by omega) (by omega)
   omega
  ·exact hc
  ·have : W * 1 ≤ W * t := Int.mul_le_mul_of_nonneg_left (by omega) (by omega)
   omega
 have cB : Valid u' := Valid.aPH fun k => by
  by_cases hk : k = j.toNat + v.length
  ·rw [hk, aR8]; omega
  ·exact b3 k hk
 exact aFQ h hj (by omega) (by omega) (by omega) cB e1 aZG

theorem aNZ {N V : Int} {L M : Nat} {j : Int} {u out : List Int} {A B s : Nat} (h : dvI N V L M j u out) (hj : j < 0) (hN : N = ((A * 2 ^ s : Nat) : Int)) (hV : V = ((B * 2 ^ s : Nat) : Int)) (hB : 0 < B) :
  bG out = dg (A / B) ∧ val u = ((A % B * 2 ^ s : Nat) : Int) := by
 obtain ⟨a1, a2, a3, a4, a5, a6, a7, a8, a9⟩ := h
 rw [show (j + 1).toNat = 0 by omega, Int.pow_zero, Int.mul_one] at a9
 have h0 := bD a5
 have h1 := bD a6
 have hq : val out = ((A / B : Nat) : Int) := by
  have h2 : N / V = val out := by
   rw [← a8, Int.add_comm, Int.add_mul_ediv_right _ _ (by omega), Int.ediv_eq_zero_of_lt h0 a9]; omega
  rw [← h2, hN, hV, ← Int.natCast_ediv, Nat.mul_div_mul_right _ _ (Nat.pow_pos (by decide))]
 have hr : val u = ((A % B * 2 ^ s : Nat) : Int) := by
  have h2 : N % V = val u := by
   rw [← a8, Int.add_comm, Int.add_mul_emod_self_right, Int.emod_eq_of_lt h0 a9]
  rw [← h2, hN, hV, ← Int.natCast_emod, Nat.mul_mod_mul_right]
 exact ⟨by rw [dO a6, hq, Int.toNat_natCast], hr⟩

def upI (a : List Int) (k i c : Int) (o : List Int) : Prop :=
 0 ≤ i ∧ i ≤ a.length ∧ 0 ≤ c ∧ c < 65536 ∧ o.length = k.toNat / 16 + i.toNat ∧ Valid o ∧ val o + c * 65536 ^ (k.toNat / 16 + i.toNat) = val (a.take i.toNat) * 2 ^ (k.toNat % 16) * 65536 ^ (k.toNat / 16)

theorem aNT {a : List Int} {k : Int} (h : 0 ≤ k) : upI a k 0 0 (List.replicate (k / 16).toNat 0) := by
 have e1 : (k / 16).toNat = k.toNat / 16 := by omega
 exact ⟨Int.le_refl _, by omega, Int.le_refl _, by decide, by simp [e1], Valid.rep _, by simp [jM, val]⟩

theorem aNU {a o : List Int} {k i c x s : Int} (ha : Valid a) (h : upI a k i c o) (hi : i < a.length) (hx : x = a.getD i.toNat 0) (hs : s = c + x * 2 ^ (k.toNat % 16)) :
  upI a k (i + 1) (s / 65536) (o ++ [s % 65536]) := by
 obtain ⟨hi0, hi1, hc0', hc1', hol, hov, cB⟩ := h
 have hx' := ha.get i.toNat
 have hp := lB (b := k.toNat % 16) (by omega)
 have hxp := oI hx' hp
 rw [← hx] at hxp
 have e2 : (i + 1).toNat = i.toNat + 1 := by omega
 refine ⟨by omega, by omega, by omega, by omega, ?_, ?_, ?_⟩
 ·simp only [List.length_append, List.length_cons, List.length_nil]; omega
 ·exact hov.append (Valid.one (by omega) (by omega))
 ·simp only [e2]
  rw [dS (by omega), hs, hx]
  exact aJ1 cB hol rfl

theorem aNV {a o : List Int} {k i c : Int} {n : Nat} (h : upI a k i c o) (hi : ¬ i < a.length) (hv : val a * 2 ^ k.toNat = n) : bG (o ++ [c]) = dg n := by
 obtain ⟨hi0, hi1, hc0', hc1', hol, hov, cB⟩ := h
 rw [dO (hov.append (Valid.one hc0' hc1')), jD, hol]
 have h1 : i.toNat = a.length := by omega
 rw [h1, List.take_length] at cB
 rw [h1, Int.mul_comm (65536 ^ _) c, cB, Int.mul_assoc, aB1, hv]
 rfl

theorem aNW {Y s : Nat} (h0 : 0 < Y) (hs : s + bl ((dg Y).getD ((dg Y).length - 1) 0).toNat = 16) :
  (dg (Y * 2 ^ s)).length = (dg Y).length ∧ 32768 ≤ (dg (Y * 2 ^ s)).getD ((dg Y).length - 1) 0 := by
 have hp : 0 < 2 ^ s := Nat.pow_pos (by decide)
 have hY2 : 2 ^ s ≤ Y * 2 ^ s := Nat.le_mul_of_pos_left _ h0
 have e1 := aGY Y (by omega)
 have e2 := aDF s (Y * 2 ^ s) hY2
 rw [Nat.mul_div_cancel _ hp] at e2
 have e3 := aGY (Y * 2 ^ s) (by omega)
 have n0 := dV h0
 have n1 : 0 < (dg (Y * 2 ^ s)).length := dV (by omega)
 have hb : bl (Y * 2 ^ s) ≤ 16 * (dg Y).length := by omega
 have hlt := (aD3 _ _).1 hb
 rw [Nat.pow_mul] at hlt
 have hle := aT _ _ hlt
 have ht : bl ((dg (Y * 2 ^ s)).getD ((dg (Y * 2 ^ s)).length - 1) 0).toNat ≤ 16 := by
  rw [aD3]
  have := (aI (Y * 2 ^ s)).get ((dg (Y * 2 ^ s)).length - 1)
  omega
 have hlen : (dg (Y * 2 ^ s)).length = (dg Y).length := by omega
 refine ⟨hlen, ?_⟩
 rw [← hlen]
 have h15 : ¬ bl ((dg (Y * 2 ^ s)).getD ((dg (Y * 2 ^ s)).length - 1) 0).toNat ≤ 15 := by omega
 rw [aD3] at h15
 omega

theorem rU (n : Nat) : ((65536 ^ n : Nat) : Int) = 65536 ^ n := by rw [Int.natCast_pow]; rfl
theorem bH {X la : Nat} (hla : la = (dg X).length) : X < 65536 ^ la := by
 have h := bW (aI X)
 rw [aQ, ← hla, ← rU] at h
 exact Int.ofNat_lt.1 h

theorem aNX {X s la : Nat} (hla : la = (dg X).length) (hs : s ≤ 16) : (dg (X * 2 ^ s)).length ≤ la + 1 := by
 refine aT _ _ ?_
 have h1 : X < 65536 ^ la := bH hla
 rw [Nat.pow_succ]
 have h2 : 2 ^ s ≤ 65536 := by
  have := Nat.pow_le_pow_right (n := 2) (by decide) hs
  simpa using this
 calc X * 2 ^ s ≤ X * 65536 := Nat.mul_le_mul_left _ h2
  _ < 65536 ^ la * 65536 := Nat.mul_lt_mul_of_pos_right h1 (by decide)

theorem aNY {X Y s la lb z : Nat} (hla : la = (dg X).length) (hlb : lb = (dg Y).length) (hY : 0 < Y) (h : lb ≤ la) (hz : (dg (X * 2 ^ s)).length + z = la + 1) :
  dvI ((X * 2 ^ s : Nat) : Int) ((Y * 2 ^ s : Nat) : Int) (la + 1) (la - lb + 1) ((la : Int) - lb) (dg (X * 2 ^ s) ++ List.replicate z 0) (List.replicate (la - lb + 1) 0) := by
 have e1 : val (dg (X * 2 ^ s) ++ List.replicate z 0) = ((X * 2 ^ s : Nat) : Int) := by
  rw [iL, jM, Int.mul_zero, Int.add_zero, aQ]
 refine ⟨by omega, by omega, by rw [List.length_append, List.length_replicate]; exact hz, List.length_replicate, (aI _).append (Valid.rep _), Valid.rep _, fun k _ => ?_, ?_, ?_⟩
 ·simp [List.getD, List.getElem?_replicate]
  split <;> rfl
 ·rw [jM, e1]; omega
 ·rw [e1]
  have h1 : X < 65536 ^ la := bH hla
  have n0 := dV hY
  have h2 : 65536 ^ (lb - 1) ≤ Y := by
   apply Nat.le_of_not_lt
   intro hlt
   have := aT _ _ hlt
   omega
  have e2 : ((la : Int) - lb + 1).toNat = la - lb + 1 := by omega
  rw [e2]
  have e3 : (65536 : Nat) ^ la = 65536 ^ (lb - 1) * 65536 ^ (la - lb + 1) := by rw [← Nat.pow_add]; congr 1; omega
  have h3 : X < Y * 65536 ^ (la - lb + 1) := by
   refine Nat.lt_of_lt_of_le h1 ?_
   rw [e3]
   exact Nat.mul_le_mul_right _ h2
  have h4 : X * 2 ^ s < Y * 2 ^ s * 65536 ^ (la - lb + 1) := by
   have := Nat.mul_lt_mul_of_pos_right h3 (Nat.pow_pos (n := s) (show 0 < 2 by decide))
   rw [Nat.mul_assoc, Nat.mul_comm (2 ^ s), ← Nat.mul_assoc]
   exact this
  rw [← rU, ← Int.natCast_mul]
  exact Int.ofNat_lt.2 h4

end Go.Dg

/- Plain laws: rounding. -/
namespace Go.Dg
open Go Go.Pe

def rup (s o : Bool) (h m : Int) : Bool :=
 if m = 2 then !s else if m = 3 then s else if m = 0 then decide (0 < h) || (decide (h = 0) && o) else if m = 4 then decide (0 ≤ h) else false

def rq (s : Bool) (x y : Nat) (m : Int) : Nat :=
 if x % y = 0 then x / y else if rup s (decide (x / y % 2 = 1)) (dJ (x % y * 2) y) m = true then x / y + 1 else x / y

theorem lZ {s : Bool} {x y : Nat} {m : Int} (h : x % y = 0) : rq s x y m = x / y := by unfold rq; rw [if_pos h]
theorem aTQ {s : Bool} {x y : Nat} {m : Int} (h : x % y ≠ 0) (hr : rup s (decide (x / y % 2 = 1)) (dJ (x % y * 2) y) m = true) : rq s x y m = x / y + 1 := by unfold rq; rw [if_neg h, if_pos hr]
theorem aJK {s : Bool} {x y : Nat} {m : Int} (h : x % y ≠ 0) (hr : rup s (decide (x / y % 2 = 1)) (dJ (x % y * 2) y) m = false) : rq s x y m = x / y := by unfold rq; rw [if_neg h, if_neg (by rw [hr]; decide)]
theorem aT4 (s : Bool) (x y : Nat) (m : Int) : rq s x y m ≤ x / y + 1 := by unfold rq; split <;> (try split) <;> omega

theorem aPI (c x y : Nat) (hc : 0 < c) : dJ (x * c) (y * c) = dJ x y := by
 rcases Nat.lt_trichotomy x y with h | h | h
 ·rw [gP h, gP (Nat.mul_lt_mul_of_pos_right h hc)]
 ·rw [lC h, lC (by rw [h])]
 ·rw [gQ h, gQ (Nat.mul_lt_mul_of_pos_right h hc)]

theorem aIH (s : Bool) (x y c : Nat) (m : Int) (hc : 0 < c) : rq s (x * c) (y * c) m = rq s x y m := by
 have e1 : x * c / (y * c) = x / y := Nat.mul_div_mul_right x y hc
 have e2 : x * c % (y * c) = x % y * c := Nat.mul_mod_mul_right c x y
 have e3 : x % y * c = 0 ↔ x % y = 0 := by
  constructor
  ·intro h; rcases Nat.mul_eq_zero.1 h with h | h <;> omega
  ·intro h; rw [h, Nat.zero_mul]
 have e4 : dJ (x % y * c * 2) (y * c) = dJ (x % y * 2) y := by
  rw [show x % y * c * 2 = x % y * 2 * c by rw [Nat.mul_right_comm]]; exact aPI c _ _ hc
 unfold rq
 rw [e1, e2, e4]
 by_cases h : x % y = 0
 ·rw [if_pos h, if_pos (e3.2 h)]
 ·rw [if_neg h, if_neg (fun g => h (e3.1 g))]

theorem aL5 (s : Bool) (x y : Nat) (m : Int) (hy : 0 < y) : rq s (2 * (4 * x / y) + (if 4 * x % y = 0 then 0 else 1)) 8 m = rq s x y m := by
 obtain ⟨q, hq⟩ : ∃ q, q = x / y := ⟨_, rfl⟩
 obtain ⟨r, hr⟩ : ∃ r, r = x % y := ⟨_, rfl⟩
 have hx : x = y * q + r := by rw [hq, hr]; exact (Nat.div_add_mod x y).symm
 have hry : r < y := by rw [hr]; exact Nat.mod_lt _ hy
 obtain ⟨t, ht⟩ : ∃ t, t = 4 * r / y := ⟨_, rfl⟩
 obtain ⟨w, hw⟩ : ∃ w, w = 4 * r % y := ⟨_, rfl⟩
 have hrt : 4 * r = y * t + w := by rw [ht, hw]; exact (Nat.div_add_mod _ y).symm
 have hwy : w < y := by rw [hw]; exact Nat.mod_lt _ hy
 have e0 : 4 * x = 4 * r + y * (4 * q) := by rw [hx]; grind
 have e1 : 4 * x / y = 4 * q + t := by rw [e0, Nat.add_mul_div_left _ _ hy, ← ht, Nat.add_comm]
 have e2 : 4 * x % y = w := by rw [e0, Nat.add_mul_mod_self_left, ← hw]
 have ht4 : t < 4 := by
  apply Nat.lt_of_not_le; intro h
  have : y * 4 ≤ y * t := Nat.mul_le_mul_left _ h
  omega
 rw [e1, e2]
 obtain ⟨z, hz⟩ : ∃ z, z = (if w = 0 then 0 else 1) := ⟨_, rfl⟩
 rw [← hz]
 have hz1 : z ≤ 1 := by rw [hz]; split <;> omega
 have hz0 : z = 0 ↔ w = 0 := by rw [hz]; split <;> omega
 have f1 : (2 * (4 * q + t) + z) / 8 = q := by omega
 have f2 : (2 * (4 * q + t) + z) % 8 = 2 * t + z := by omega
 have g0 : 2 * t + z = 0 ↔ r = 0 := by
  constructor
  ·intro h
   have : w = 0 := hz0.1 (by omega)
   have : t = 0 := by omega
   subst this; omega
  ·intro h
   rw [h] at hrt
   have : t = 0 := by
    rcases Nat.eq_zero_or_pos t with h' | h'
    ·exact h'
    ·have : y * 1 ≤ y * t := Nat.mul_le_mul_left _ h'
     omega
   have hw0 : w = 0 := by omega
   have := hz0.2 hw0
   omega
 have g1 : dJ ((2 * t + z) * 2) 8 = dJ (r * 2) y := by
  have jA : t = 0 ∨ t = 1 ∨ t = 2 ∨ t = 3 := by omega
  rcases jA with h | h | h | h <;> subst h
  ·rw [gP (by omega), gP (by omega)]
  ·rw [gP (by omega), gP (by omega)]
  ·rcases Nat.eq_zero_or_pos w with hw0 | hw0
   ·have := hz0.2 hw0
    rw [lC (by omega), lC (by omega)]
   ·have : z ≠ 0 := fun h => by have := hz0.1 h; omega
    rw [gQ (by omega), gQ (by omega)]
  ·rw [gQ (by omega), gQ (by omega)]
 unfold rq
 rw [f1, f2, g1, ← hq, ← hr]
 by_cases h : r = 0
 ·rw [if_pos h, if_pos (g0.2 h)]
 ·rw [if_neg h, if_neg (fun g => h (g0.1 g))]

def eW (a b k m : Int) : Int :=
 if (decide (a < 0) != decide (b < 0)) = true then -((rq true (a.natAbs * 2 ^ k.toNat) (b.natAbs * 2 ^ (-k).toNat) m : Nat) : Int) else ((rq false (a.natAbs * 2 ^ k.toNat) (b.natAbs * 2 ^ (-k).toNat) m : Nat) : Int)

theorem tV {a b k m : Int} {s : Bool} (hs : s = (decide (a < 0) != decide (b < 0))) : (eW a b k m).natAbs = rq s (a.natAbs * 2 ^ k.toNat) (b.natAbs * 2 ^ (-k).toNat) m := by
 unfold eW
 cases hs' : (decide (a < 0) != decide (b < 0)) <;> rw [hs'] at hs <;> subst hs <;> simp

theorem aBB {a b k m : Int} : decide (eW a b k m < 0) = ((decide (a < 0) != decide (b < 0)) && decide (0 < (eW a b k m).natAbs)) := by
 unfold eW
 cases hs' : (decide (a < 0) != decide (b < 0)) <;> simp <;> omega

theorem rC (x k : Nat) : (dg (x * 2 ^ k)).length ≤ (dg x).length + k / 16 + 1 := by
 refine aT _ _ ?_
 have h1 : x < 65536 ^ (dg x).length := bH rfl
 have h2 : 2 ^ k ≤ 65536 ^ (k / 16 + 1) := by
  rw [show (65536 : Nat) = 2 ^ 16 from rfl, ← Nat.pow_mul]
  exact Nat.pow_le_pow_right (by decide) (by omega)
 rw [Nat.add_assoc, Nat.pow_add]
 calc x * 2 ^ k ≤ x * 65536 ^ (k / 16 + 1) := Nat.mul_le_mul_left _ h2
  _ < 65536 ^ (dg x).length * 65536 ^ (k / 16 + 1) := Nat.mul_lt_mul_of_pos_right h1 (Nat.pow_pos (by decide))

theorem aB7 (a b k m : Int) : (dg (eW a b k m).natAbs).length ≤ (dg a.natAbs).length + k.toNat / 16 + 2 := by
 rw [tV (s := (decide (a < 0) != decide (b < 0))) rfl]
 refine aT _ _ ?_
 have h1 := aT4 (decide (a < 0) != decide (b < 0)) (a.natAbs * 2 ^ k.toNat) (b.natAbs * 2 ^ (-k).toNat) m
 have h2 := Nat.div_le_self (a.natAbs * 2 ^ k.toNat) (b.natAbs * 2 ^ (-k).toNat)
 have h3 : a.natAbs * 2 ^ k.toNat < 65536 ^ ((dg a.natAbs).length + k.toNat / 16 + 1) := by
  refine Nat.lt_of_lt_of_le (bH rfl) (Nat.pow_le_pow_right (by decide) (rC _ _))
 rw [Nat.pow_succ]
 omega

def uY (d1 d2 : Dyadic) (low m : Int) : Dyadic := mk (eW (cZ d1) (cZ d2) (cE d1 - cE d2 - low) m) low

def sdI (X Y L : Nat) (i : Int) (n : Nat) (o : List Int) : Prop :=
 -1 ≤ i ∧ i < L ∧ o.length = L ∧ Valid o ∧ n = X / 65536 ^ (i + 1).toNat % Y ∧ val o = ((X / 65536 ^ (i + 1).toNat / Y * 65536 ^ (i + 1).toNat : Nat) : Int) ∧ ∀ k : Nat, (k : Int) ≤ i → o.getD k 0 = 0

theorem aPJ {X Y L : Nat} (hL : L = (dg X).length) : sdI X Y L ((L : Int) - 1) 0 (List.replicate L 0) := by
 have h := bH hL
 have e : ((L : Int) - 1 + 1).toNat = L := by omega
 refine ⟨by omega, by omega, List.length_replicate, Valid.rep _, ?_, ?_, fun k _ => ?_⟩
 ·rw [e, Nat.div_eq_of_lt h, Nat.zero_mod]
 ·rw [e, Nat.div_eq_of_lt h, Nat.zero_div, Nat.zero_mul, jM]; rfl
 ·simp [List.getD, List.getElem?_replicate]
  split <;> rfl

theorem aPK {X Y L n R q : Nat} {i x : Int} {o : List Int} (hY : 0 < Y) (h : sdI X Y L i n o) (hi : 0 ≤ i) (hx : x = (dg X).getD i.toNat 0) (hR : (R : Int) = x + 65536 * n) (hq : q = R / Y) :
  R < 65536 * Y ∧ q < 65536 ∧ sdI X Y L (i - 1) (R % Y) (o.set i.toNat q) := by
 obtain ⟨h0, h1, h2, h3, h4, h5, h6⟩ := h
 have e1 : (i + 1).toNat = i.toNat + 1 := by omega
 have e2 : (i - 1 + 1).toNat = i.toNat := by omega
 rw [e1] at h4 h5
 obtain ⟨W, hW⟩ : ∃ W, W = 65536 ^ i.toNat := ⟨_, rfl⟩
 have hW0 : 0 < W := by rw [hW]; exact Nat.pow_pos (by decide)
 obtain ⟨B, hB⟩ : ∃ B, B = X / W := ⟨_, rfl⟩
 have e3 : X / 65536 ^ (i.toNat + 1) = B / 65536 := by rw [Nat.pow_succ, ← hW, ← Nat.div_div_eq_div_mul, ← hB]
 rw [e3] at h4 h5
 rw [pX, ← hW, ← hB] at hx
 have hnY : n < Y := by rw [h4]; exact Nat.mod_lt _ hY
 have hRn : R = B % 65536 + 65536 * n := by rw [hx] at hR; omega
 have hRlt : R < 65536 * Y := by
  have : 65536 * (n + 1) ≤ 65536 * Y := Nat.mul_le_mul_left _ hnY
  omega
 have hq1 : q < 65536 := by rw [hq]; exact Nat.div_lt_of_lt_mul (by rw [Nat.mul_comm]; exact hRlt)
 have hBe : B = R + Y * (65536 * (B / 65536 / Y)) := by
  have d1 := Nat.div_add_mod (B / 65536) Y
  have d2 := Nat.div_add_mod B 65536
  rw [← h4] at d1
  generalize B / 65536 / Y = Q at *
  generalize B / 65536 = B1 at *
  rw [hRn, ← Nat.mul_assoc, Nat.mul_comm Y, Nat.mul_assoc]
  omega
 have f1 : B % Y = R % Y := by rw [hBe, Nat.add_mul_mod_self_left]
 have f2 : B / Y = q + 65536 * (B / 65536 / Y) := by
  have : (R + Y * (65536 * (B / 65536 / Y))) / Y = R / Y + 65536 * (B / 65536 / Y) := Nat.add_mul_div_left _ _ hY
  rw [← hBe, ← hq] at this
  exact this
 refine ⟨hRlt, hq1, by omega, by omega, by rw [List.length_set]; exact h2, h3.set (by omega) (by omega), ?_, ?_, fun k hk => ?_⟩
 ·rw [e2, ← hW, ← hB, f1]
 ·rw [e2, ← hW, ← hB, f2, jN _ _ _ (by omega), h6 i.toNat (by omega), h5]
  rw [show (65536 : Int) ^ i.toNat = ((W : Nat) : Int) by rw [hW, rU], Nat.pow_succ, ← hW]
  generalize B / 65536 / Y = Q
  rw [Int.natCast_mul Q, Int.natCast_mul W, Int.natCast_mul (q + 65536 * Q), Int.natCast_add, Int.natCast_mul 65536 Q, show ((65536 : Nat) : Int) = 65536 from rfl]
  grind
 ·rw [getD_set_ne (by omega)]; exact h6 k (by omega)

theorem aPL {X Y L n : Nat} {i : Int} {o : List Int} (h : sdI X Y L i n o) (hi : i < 0) : bG o = dg (X / Y) ∧ n = X % Y := by
 obtain ⟨h0, h1, h2, h3, h4, h5, h6⟩ := h
 have e : (i + 1).toNat = 0 := by omega
 rw [e, Nat.pow_zero, Nat.div_one] at h4 h5
 rw [Nat.mul_one] at h5
 exact ⟨by rw [dO h3, h5, Int.toNat_natCast], h4⟩

def bsI (Y R : Nat) (lo hi : Int) : Prop := 0 ≤ lo ∧ lo < hi ∧ hi ≤ 65536 ∧ lo.toNat * Y ≤ R ∧ R < hi.toNat * Y

theorem aPM {Y R : Nat} {lo hi : Int} (hY : 0 < Y) (h : bsI Y R lo hi) (h1 : hi - lo ≤ 1) : lo.toNat = R / Y := by
 obtain ⟨a, b, c, d, e⟩ := h
 have hh : hi.toNat = lo.toNat + 1 := by omega
 rw [hh] at e
 symm
 rw [Nat.div_eq_iff hY]
 constructor
 ·exact d
 ·rw [Nat.add_mul, Nat.one_mul] at e; omega

end Go.Dg

/- Plain laws: a number rounded; a quotient through two more bits. -/
namespace Go.Dg
open Go Go.Pe

theorem aPN (x : Nat) : (((x % 2 : Nat) : Int) == 1) = decide (x % 2 = 1) := by
 rcases Nat.mod_two_eq_zero_or_one x with h | h <;> rw [h] <;> rfl

theorem aPO {M t m j : Nat} (h : M = 2 ^ t * (2 * m + 1)) : M % 2 ^ j = 0 ↔ j ≤ t := by
 constructor
 ·intro h0
  apply Nat.le_of_not_lt
  intro hlt
  obtain ⟨c, hc⟩ := Nat.dvd_of_mod_eq_zero h0
  obtain ⟨d, rfl⟩ : ∃ d, j = t + 1 + d := ⟨j - (t + 1), by omega⟩
  have e : 2 ^ t * (2 * m + 1) = 2 ^ t * (2 * (2 ^ d * c)) := by rw [← h, hc, Nat.pow_add, Nat.pow_succ]; grind
  have := Nat.eq_of_mul_eq_mul_left (Nat.pow_pos (by decide)) e
  omega
 ·intro hle
  obtain ⟨d, rfl⟩ : ∃ d, t = j + d := ⟨t - j, by omega⟩
  rw [h, Nat.pow_add, Nat.mul_assoc]
  exact Nat.mul_mod_right _ _

theorem aSX {M t m k : Nat} (hk : 1 ≤ k) (h : M = 2 ^ t * (2 * m + 1)) :
  (M / 2 ^ (k - 1) % 2 = 1 ↔ 0 ≤ dJ (M % 2 ^ k * 2) (2 ^ k)) ∧ (M / 2 ^ (k - 1) % 2 = 1 ∧ t < k - 1 ↔ 0 < dJ (M % 2 ^ k * 2) (2 ^ k)) := by
 obtain ⟨j, rfl⟩ : ∃ j, k = j + 1 := ⟨k - 1, by omega⟩
 rw [Nat.add_sub_cancel]
 obtain ⟨H, hH⟩ : ∃ H, H = 2 ^ j := ⟨_, rfl⟩
 have hH0 : 0 < H := by rw [hH]; exact Nat.pow_pos (by decide)
 have h1 : M % 2 ^ (j + 1) = M % H + H * (M / H % 2) := by rw [Nat.pow_succ, hH, Nat.mod_mul]
 have h2 : M % H < H := Nat.mod_lt _ hH0
 have h3 := aPO (j := j) h
 rw [← hH] at h3
 have h4 : 2 ^ (j + 1) = H * 2 := by rw [Nat.pow_succ, hH]
 rw [h1, h4, ← hH]
 obtain ⟨r, hr⟩ : ∃ r, r = M % H := ⟨_, rfl⟩
 rw [← hr] at h2 h3 ⊢
 rcases Nat.mod_two_eq_zero_or_one (M / H) with hb | hb
 ·rw [hb]
  rw [gP (by omega)]
  omega
 ·rw [hb]
  rcases Nat.eq_zero_or_pos r with h0 | h0
  ·rw [h0, lC (by omega)]
   have := h3.1 h0
   omega
  ·rw [gQ (by omega)]
   have : ¬ j ≤ t := fun hh => by have := h3.2 hh; omega
   omega

theorem aSY {M t m k : Nat} {s : Bool} {mode : Int} (hk : 1 ≤ k) (h : M = 2 ^ t * (2 * m + 1)) (h0 : 0 ≤ mode) (h1 : mode ≤ 4) :
  rup s (decide (M / 2 ^ k % 2 = 1)) (dJ (M % 2 ^ k * 2) (2 ^ k)) mode =
   (if mode = 1 then false else if mode = 2 then !s else if mode = 3 then s else if mode = 4 then decide (M / 2 ^ (k - 1) % 2 = 1) else
    (decide (M / 2 ^ (k - 1) % 2 = 1) && (decide (t < k - 1) || decide (M / 2 ^ k % 2 = 1)))) := by
 obtain ⟨a1, a2⟩ := aSX hk h
 obtain ⟨c, hc⟩ : ∃ c, c = dJ (M % 2 ^ k * 2) (2 ^ k) := ⟨_, rfl⟩
 rw [← hc] at a1 a2 ⊢
 obtain ⟨b, hb⟩ : ∃ b, b = M / 2 ^ (k - 1) % 2 := ⟨_, rfl⟩
 rw [← hb] at a1 a2 ⊢
 obtain ⟨o, ho⟩ : ∃ o, o = decide (M / 2 ^ k % 2 = 1) := ⟨_, rfl⟩
 rw [← ho]
 have jA : mode = 0 ∨ mode = 1 ∨ mode = 2 ∨ mode = 3 ∨ mode = 4 := by omega
 unfold rup
 rcases jA with rfl | rfl | rfl | rfl | rfl
 ·simp only [show ¬ ((0 : Int) = 2) by decide, show ¬ ((0 : Int) = 3) by decide, show ¬ ((0 : Int) = 1) by decide, show ¬ ((0 : Int) = 4) by decide, if_false, if_true]
  by_cases hb1 : b = 1
  ·by_cases ht : t < k - 1
   ·have := a2.1 ⟨hb1, ht⟩
    rw [decide_eq_true this, decide_eq_true hb1, decide_eq_true ht]; rfl
   ·have c0 := a1.1 hb1
    have c1 : ¬ 0 < c := fun h => ht (a2.2 h).2
    rw [decide_eq_false c1, decide_eq_true hb1, decide_eq_false ht, decide_eq_true (show c = 0 by omega)]; rfl
  ·have c0 : ¬ 0 ≤ c := fun h => hb1 (a1.2 h)
   rw [decide_eq_false (show ¬ 0 < c by omega), decide_eq_false hb1, decide_eq_false (show ¬ c = 0 by omega)]; rfl
 ·rfl
 ·rfl
 ·rfl
 ·simp only [show ¬ ((4 : Int) = 2) by decide, show ¬ ((4 : Int) = 3) by decide, show ¬ ((4 : Int) = 1) by decide, show ¬ ((4 : Int) = 0) by decide, if_false, if_true]
  exact decide_eq_decide.2 a1.symm

theorem aFR {s : Bool} {x y x' y' : Nat} {m : Int} (hy : 0 < y) (hy' : 0 < y') (h : x * y' = x' * y) : rq s x y m = rq s x' y' m := by
 rw [← aIH s x y y' m hy', ← aIH s x' y' y m hy, h, Nat.mul_comm y y']

theorem uZ : ∀ n : Nat, n ≠ 0 → ∃ t m, n = 2 ^ t * (2 * m + 1) := by
 intro n
 induction n using Nat.strongRecOn with
 | _ n ih =>
  intro hn
  rcases Nat.mod_two_eq_zero_or_one n with h | h
  ·obtain ⟨t, m, e⟩ := ih (n / 2) (by omega) (by omega)
   exact ⟨t + 1, m, by rw [Nat.pow_succ, Nat.mul_right_comm, ← e]; omega⟩
  ·exact ⟨0, n / 2, by omega⟩

theorem mK (z k m : Int) : eW z 1 k m = if z < 0 then -((rq true (z.natAbs * 2 ^ k.toNat) (2 ^ (-k).toNat) m : Nat) : Int) else ((rq false (z.natAbs * 2 ^ k.toNat) (2 ^ (-k).toNat) m : Nat) : Int) := by
 unfold eW
 rw [show Int.natAbs 1 = 1 from rfl, Nat.one_mul, show decide ((1 : Int) < 0) = false from rfl, Bool.bne_false]
 simp only [decide_eq_true_eq]

noncomputable def pI (d : Dyadic) (low m : Int) : Dyadic := open Classical in if d = 0 ∨ low ≤ cE d then d else mk (eW (cZ d) 1 (cE d - low) m) low

theorem pJ {d : Dyadic} {low m : Int} (h : d = 0 ∨ low ≤ cE d) : pI d low m = d := by unfold pI; rw [if_pos h]
theorem wC {d : Dyadic} {low m : Int} (h : ¬ (d = 0 ∨ low ≤ cE d)) : pI d low m = mk (eW (cZ d) 1 (cE d - low) m) low := by unfold pI; rw [if_neg h]

theorem aB8 {z e low m : Int} (hz : z ≠ 0) (he : e ≤ low) : pI (mk z e) low m = mk (eW z 1 (e - low) m) low := by
 obtain ⟨t, n, ht⟩ := uZ z.natAbs (by omega)
 obtain ⟨o, ho, hzo⟩ : ∃ o : Int, o % 2 = 1 ∧ z = o * 2 ^ t := by
  have h2 : ((2 ^ t * (2 * n + 1) : Nat) : Int) = (2 * n + 1 : Int) * 2 ^ t := by
   rw [Int.natCast_mul, Int.natCast_pow, Int.mul_comm]; rfl
  rcases Int.natAbs_eq z with h | h
  ·exact ⟨2 * n + 1, by omega, by rw [h, ht, h2]⟩
  ·exact ⟨-(2 * n + 1), by omega, by rw [h, ht, h2, Int.neg_mul]⟩
 obtain ⟨c1, c2⟩ := yR (e := e) ho hzo
 have hne : mk z e ≠ 0 := fun h => hz (by rw [← mk_zero e, mk_inj] at h; exact h)
 have hoa : o.natAbs = 2 * n + 1 := by
  have h3 : z.natAbs = o.natAbs * 2 ^ t := by rw [hzo, Int.natAbs_mul, Int.natAbs_pow]; rfl
  rw [ht, Nat.mul_comm] at h3
  exact (Nat.eq_of_mul_eq_mul_right (Nat.pow_pos (by decide)) h3).symm
 have hsg : z < 0 ↔ o < 0 := by
  have hp : (0 : Int) < 2 ^ t := Int.pow_pos (by decide)
  rw [hzo]
  constructor
  ·intro h
   apply Int.lt_of_not_ge; intro h0
   have := Int.mul_nonneg h0 (Int.le_of_lt hp); omega
  ·intro h
   exact Int.mul_neg_of_neg_of_pos h hp
 obtain ⟨k, hk⟩ : ∃ k : Nat, low = e + k := ⟨(low - e).toNat, by omega⟩
 have e1 : (e - low).toNat = 0 := by omega
 have e2 : (-(e - low)).toNat = k := by omega
 by_cases hc : low ≤ cE (mk z e)
 ·rw [pJ (.inr hc), mK, e1, e2, Nat.pow_zero, Nat.mul_one]
  rw [c2] at hc
  obtain ⟨d, hd⟩ : ∃ d, t = k + d := ⟨t - k, by omega⟩
  have hdiv : z.natAbs = 2 ^ d * (2 * n + 1) * 2 ^ k := by rw [ht, hd, Nat.pow_add]; grind
  have hm0 : z.natAbs % 2 ^ k = 0 := by rw [hdiv]; exact Nat.mul_mod_left _ _
  have hq0 : z.natAbs / 2 ^ k = 2 ^ d * (2 * n + 1) := by rw [hdiv]; exact Nat.mul_div_cancel _ (Nat.pow_pos (by decide))
  rw [lZ hm0, lZ hm0, hq0]
  have sQ : (if z < 0 then -((2 ^ d * (2 * n + 1) : Nat) : Int) else ((2 ^ d * (2 * n + 1) : Nat) : Int)) * 2 ^ k = z := by
   have h2 : ((z.natAbs : Nat) : Int) = ((2 ^ d * (2 * n + 1) : Nat) : Int) * 2 ^ k := by rw [hdiv, Int.natCast_mul, Int.natCast_pow]; rfl
   split
   ·rw [Int.neg_mul, ← h2]; omega
   ·rw [← h2]; omega
  have hs := pC (if z < 0 then -((2 ^ d * (2 * n + 1) : Nat) : Int) else ((2 ^ d * (2 * n + 1) : Nat) : Int)) low k
  rw [sQ, show low - (k : Int) = e by omega] at hs
  exact hs
 ·rw [wC (by rintro (h | h); exact hne h; exact hc h), c1, c2]
  rw [c2] at hc
  congr 1
  rw [mK, mK]
  have f1 : (e + t - low).toNat = 0 := by omega
  have f2 : (-(e + t - low)).toNat + t = k := by omega
  have hrq : ∀ s, rq s (o.natAbs * 2 ^ (e + t - low).toNat) (2 ^ (-(e + t - low)).toNat) m = rq s (z.natAbs * 2 ^ (e - low).toNat) (2 ^ (-(e - low)).toNat) m := by
   intro s
   rw [f1, e1, e2, Nat.pow_zero, Nat.mul_one, Nat.mul_one, ← aIH s o.natAbs _ (2 ^ t) m (Nat.pow_pos (by decide)), ← Nat.pow_add, f2, hoa, ht, Nat.mul_comm]
  rw [hrq, hrq]
  by_cases h : z < 0
  ·rw [if_pos h, if_pos (hsg.1 h)]
  ·rw [if_neg h, if_neg (fun g => h (hsg.2 g))]

def aFS (a b k : Int) : Int :=
 if (decide (a < 0) != decide (b < 0)) = true then -((2 * (a.natAbs * 2 ^ (k + 2).toNat / (b.natAbs * 2 ^ (-(k + 2)).toNat)) + (if a.natAbs * 2 ^ (k + 2).toNat % (b.natAbs * 2 ^ (-(k + 2)).toNat) = 0 then 0 else 1) : Nat) : Int)
 else ((2 * (a.natAbs * 2 ^ (k + 2).toNat / (b.natAbs * 2 ^ (-(k + 2)).toNat)) + (if a.natAbs * 2 ^ (k + 2).toNat % (b.natAbs * 2 ^ (-(k + 2)).toNat) = 0 then 0 else 1) : Nat) : Int)

noncomputable def tE (d1 d2 : Dyadic) (low : Int) : Dyadic := open Classical in if d1 = 0 then 0 else mk (aFS (cZ d1) (cZ d2) (cE d1 - cE d2 - low)) (low - 3)

theorem aSZ {d1 d2 : Dyadic} (low m : Int) (h2 : d2 ≠ 0) : pI (tE d1 d2 low) low m = uY d1 d2 low m := by
 unfold tE uY
 by_cases h1 : d1 = 0
 ·rw [if_pos h1, pJ (.inl rfl), h1]
  have : eW (cZ 0) (cZ d2) (cE 0 - cE d2 - low) m = 0 := by
   unfold eW
   rw [dT, show Int.natAbs 0 = 0 from rfl, Nat.zero_mul, lZ (Nat.zero_mod _), lZ (Nat.zero_mod _), Nat.zero_div]
   split <;> rfl
  rw [this, mk_zero]
 ·rw [if_neg h1]
  have ha : (cZ d1).natAbs ≠ 0 := by intro h; exact h1 (eI.1 (Int.natAbs_eq_zero.1 h))
  have hb : (cZ d2).natAbs ≠ 0 := by intro h; exact h2 (eI.1 (Int.natAbs_eq_zero.1 h))
  obtain ⟨k, hk⟩ : ∃ k, k = cE d1 - cE d2 - low := ⟨_, rfl⟩
  rw [← hk]
  unfold aFS eW
  obtain ⟨a, hA⟩ : ∃ a, a = (cZ d1).natAbs := ⟨_, rfl⟩
  obtain ⟨b, hB⟩ : ∃ b, b = (cZ d2).natAbs := ⟨_, rfl⟩
  rw [← hA] at ha
  rw [← hB] at hb
  rw [← hA, ← hB]
  obtain ⟨n, hn⟩ : ∃ n, n = a * 2 ^ (k + 2).toNat := ⟨_, rfl⟩
  obtain ⟨d, hd⟩ : ∃ d, d = b * 2 ^ (-(k + 2)).toNat := ⟨_, rfl⟩
  obtain ⟨x, hx⟩ : ∃ x, x = a * 2 ^ k.toNat := ⟨_, rfl⟩
  obtain ⟨y, hy⟩ : ∃ y, y = b * 2 ^ (-k).toNat := ⟨_, rfl⟩
  rw [← hn, ← hd, ← hx, ← hy]
  have n0 : 0 < n := by rw [hn]; exact Nat.mul_pos (by omega) (Nat.pow_pos (by decide))
  have d0 : 0 < d := by rw [hd]; exact Nat.mul_pos (by omega) (Nat.pow_pos (by decide))
  have y0 : 0 < y := by rw [hy]; exact Nat.mul_pos (by omega) (Nat.pow_pos (by decide))
  have aU9 : n * y = x * (4 * d) := by
   rw [hn, hd, hx, hy]
   have hp : 2 ^ (k + 2).toNat * 2 ^ (-k).toNat = 2 ^ k.toNat * (2 ^ 2 * 2 ^ (-(k + 2)).toNat) := by
    rw [← Nat.pow_add, ← Nat.pow_add, ← Nat.pow_add]; congr 1; omega
   calc a * 2 ^ (k + 2).toNat * (b * 2 ^ (-k).toNat) = a * b * (2 ^ (k + 2).toNat * 2 ^ (-k).toNat) := by grind
    _ = a * b * (2 ^ k.toNat * (2 ^ 2 * 2 ^ (-(k + 2)).toNat)) := by rw [hp]
    _ = a * 2 ^ k.toNat * (4 * (b * 2 ^ (-(k + 2)).toNat)) := by grind
  obtain ⟨W, hW⟩ : ∃ W, W = 2 * (n / d) + (if n % d = 0 then 0 else 1) := ⟨_, rfl⟩
  rw [← hW]
  have hst : ∀ s, rq s W 8 m = rq s x y m := by
   intro s
   have e1 : 4 * n / (4 * d) = n / d := Nat.mul_div_mul_left n d (by decide)
   have e2 : 4 * n % (4 * d) = 4 * (n % d) := Nat.mul_mod_mul_left 4 n d
   have e3 := aL5 s n (4 * d) m (by omega)
   rw [e1, e2] at e3
   have e4 : (if 4 * (n % d) = 0 then 0 else 1) = (if n % d = 0 then 0 else 1) := by
    by_cases h : n % d = 0
    ·rw [if_pos h, if_pos (by omega)]
    ·rw [if_neg h, if_neg (by omega)]
   rw [e4, ← hW] at e3
   rw [e3]
   exact aFR (by omega) y0 aU9
  have hW0 : 0 < W := by
   rw [hW]
   by_cases h : n % d = 0
   ·have := Nat.div_add_mod n d
    have : n / d ≠ 0 := by intro h'; rw [h', h] at this; omega
    omega
   ·rw [if_neg h]; omega
  have e5 : (low - 3 - low).toNat = 0 := by omega
  have e6 : (-(low - 3 - low)).toNat = 3 := by omega
  cases hs : (decide (cZ d1 < 0) != decide (cZ d2 < 0))
  ·rw [if_neg (by decide), if_neg (by decide), aB8 (by omega) (by omega), mK, if_neg (by omega), e5, e6, Nat.pow_zero, Nat.mul_one, Int.natAbs_natCast]
   rw [show 2 ^ 3 = 8 from rfl, hst]
  ·rw [if_pos rfl, if_pos rfl, aB8 (by omega) (by omega), mK, if_pos (by omega), e5, e6, Nat.pow_zero, Nat.mul_one, Int.natAbs_neg, Int.natAbs_natCast]
   rw [show 2 ^ 3 = 8 from rfl, hst]

theorem aFT {z e : Int} (hz : z ≠ 0) : e ≤ cE (mk z e) ∧ cE (mk z e) ≤ e + 16 * (dg z.natAbs).length := by
 obtain ⟨t, n, ht⟩ := uZ z.natAbs (by omega)
 obtain ⟨_, h2, _⟩ := kQ (e := e) ht
 have h3 : 2 ^ t < 2 ^ (16 * (dg z.natAbs).length) := by
  have h4 := bH (X := z.natAbs) rfl
  rw [Nat.pow_mul]
  refine Nat.lt_of_le_of_lt ?_ h4
  have : 2 ^ t ≤ 2 ^ t * (2 * n + 1) := Nat.le_mul_of_pos_right _ (by omega)
  rw [← ht] at this; exact this
 have h5 : t < 16 * (dg z.natAbs).length := (Nat.pow_lt_pow_iff_right (by decide)).1 h3
 rw [h2]; omega

theorem aVA (z e : Int) : (dg (cZ (mk z e)).natAbs).length ≤ (dg z.natAbs).length :=
 aT _ _ (Nat.lt_of_le_of_lt (aPF z e) (bH rfl))

theorem aPP (a b k : Int) : (dg (aFS a b k).natAbs).length ≤ (dg a.natAbs).length + (k + 2).toNat / 16 + 2 := by
 have h : (aFS a b k).natAbs = 2 * (a.natAbs * 2 ^ (k + 2).toNat / (b.natAbs * 2 ^ (-(k + 2)).toNat)) + (if a.natAbs * 2 ^ (k + 2).toNat % (b.natAbs * 2 ^ (-(k + 2)).toNat) = 0 then 0 else 1) := by
  unfold aFS
  split <;> simp only [Int.natAbs_neg, Int.natAbs_natCast]
 rw [h]
 refine aT _ _ ?_
 have h2 := Nat.div_le_self (a.natAbs * 2 ^ (k + 2).toNat) (b.natAbs * 2 ^ (-(k + 2)).toNat)
 have h3 : a.natAbs * 2 ^ (k + 2).toNat < 65536 ^ ((dg a.natAbs).length + (k + 2).toNat / 16 + 1) :=
  Nat.lt_of_lt_of_le (bH rfl) (Nat.pow_le_pow_right (by decide) (rC _ _))
 rw [Nat.pow_succ]
 split <;> omega

end Go.Dg

/- Lists of dyadic numbers' cells: rules for a walk, sizes, marks. -/
namespace Go.Pe
open Go Go.Dg

theorem aKC (ys : List aC) : (aB ys).length = ys.length := aV ys
theorem oA (ys : List aC) (k : Nat) (y : aC) : (aB ys).set k (aW y) = aB (ys.set k y) := by simp [aB, List.map_set]
theorem tF (ys zs : List aC) : aB ys ++ aB zs = aB (ys ++ zs) := by simp [aB]
theorem aT5 (y : aC) : [aW y] = aB [y] := rfl
theorem aPQ (n : Nat) (y : aC) : List.replicate n (aW y) = aB (List.replicate n y) := by simp [aB]
theorem aXF : aB [] = [] := rfl
theorem aVB (y : aC) : aKY (aW y) 0 = y.1 := rfl
theorem aVC (y : aC) : aRX (aW y) 1 = aA y.2.1 := rfl
theorem aVD (y : aC) : aCR (aW y) 2 = y.2.2 := rfl
theorem aVE (y : aC) : (aW y).cells.length = 3 := rfl
theorem aYS (y : aC) : (aW y).cells = [.val (.bool y.1), .lst (aA y.2.1), .val (.int .i64 y.2.2)] := rfl
theorem aXG (y : aC) : cellAt (aW y) 0 = .val (.bool y.1) := rfl
theorem aXH (y : aC) : cellAt (aW y) 1 = .lst (aA y.2.1) := rfl
theorem aXI (y : aC) : cellAt (aW y) 2 = .val (.int .i64 y.2.2) := rfl
theorem c3p (y : aC) : gT true 0 3 (aW y).cells = .agg [.val (.bool y.1), .lst (aA y.2.1), .val (.int .i64 y.2.2)] := rfl
theorem aZH (y : aC) : gT false 0 1 (aW y).cells = .val (.bool y.1) := rfl
theorem aZI (y : aC) : gT false 1 1 (aW y).cells = .lst (aA y.2.1) := rfl
theorem aZJ (y : aC) : gT false 2 1 (aW y).cells = .val (.int .i64 y.2.2) := rfl
theorem aFU {ys : List aC} {k : Nat} (h : k < ys.length) : (aB ys).getD k D0 = aW (ys.getD k noY) := yX h
theorem bAG (y : aC) : PV.agg [.val (.bool y.1), .lst (aA y.2.1), .val (.int .i64 y.2.2)] = aW y := rfl
theorem aXJ (y : aC) (b : Bool) : setCells (aW y) 0 [.val (.bool b)] = aW (b, y.2) := rfl
theorem aXK (y : aC) (l : List Int) : setCells (aW y) 1 [.lst (aA l)] = aW (y.1, l, y.2.2) := rfl
theorem aXL (y : aC) (e : Int) : setCells (aW y) 2 [.val (.int .i64 e)] = aW (y.1, y.2.1, e) := rfl

theorem sE : (∀ ys : List aC, (aB ys).length = ys.length) ∧ (∀ y : aC, aKY (aW y) 0 = y.1) ∧ (∀ y : aC, aRX (aW y) 1 = aA y.2.1) ∧ (∀ y : aC, aCR (aW y) 2 = y.2.2) ∧ (∀ y : aC, (aW y).cells.length = 3) ∧
  (∀ {ys : List aC} {k : Nat}, k < ys.length → (aB ys).getD k D0 = aW (ys.getD k noY)) ∧
  (∀ y : aC, cellAt (aW y) 0 = .val (.bool y.1)) ∧ (∀ y : aC, cellAt (aW y) 1 = .lst (aA y.2.1)) ∧ (∀ y : aC, cellAt (aW y) 2 = .val (.int .i64 y.2.2)) ∧
  (∀ y : aC, gT true 0 3 (aW y).cells = .agg [.val (.bool y.1), .lst (aA y.2.1), .val (.int .i64 y.2.2)]) ∧ (∀ y : aC, gT false 0 1 (aW y).cells = .val (.bool y.1)) ∧
  (∀ y : aC, gT false 1 1 (aW y).cells = .lst (aA y.2.1)) ∧ (∀ y : aC, gT false 2 1 (aW y).cells = .val (.int .i64 y.2.2)) ∧
  (∀ (ys : List aC) (k : Nat) (y : aC), (aB ys).set k (aW y) = aB (ys.set k y)) ∧ (∀ y : aC, [aW y] = aB [y]) ∧ (∀ ys zs : List aC, aB ys ++ aB zs = aB (ys ++ zs)) ∧
  (∀ (n : Nat) (y : aC), List.replicate n (aW y) = aB (List.replicate n y)) ∧ aB [] = [] ∧
  (∀ (y : aC) (b : Bool), setCells (aW y) 0 [.val (.bool b)] = aW (b, y.2)) ∧ (∀ (y : aC) (l : List Int), setCells (aW y) 1 [.lst (aA l)] = aW (y.1, l, y.2.2)) ∧ (∀ (y : aC) (e : Int), setCells (aW y) 2 [.val (.int .i64 e)] = aW (y.1, y.2.1, e)) ∧
  (∀ (b : Bool) (l : List Int) (e : Int), PV.agg [.val (.bool b), .lst (aA l), .val (.int .i64 e)] = aW (b, l, e)) :=
 ⟨aKC, aVB, aVC, aVD, aVE, aFU, aXG, aXH, aXI, c3p, aZH, aZI, aZJ, oA, aT5, tF, aPQ, aXF, aXJ, aXK, aXL, fun _ _ _ => rfl⟩

theorem sF : (∀ {s : Int}, s ≤ 64 → Min.min s.toNat IntKind.i64.bits = s.toNat) ∧ (∀ (a : Int) (n : Nat), Int.fdiv a (2 ^ n) = a / 2 ^ n) ∧
  (∀ (l : List Int) (k : Nat), aCR ((aA l).getD k D0) 0 = l.getD k 0) ∧ (∀ (l : List Int) (k : Nat), ((aA l).getD k D0).cells.length = 1) ∧
  (∀ l : List Int, (aA l).length = l.length) ∧ (∀ (l : List Int) (k : Nat), (aA l).take k = aA (l.take k)) ∧ (∀ (l : List Int) (k : Nat), (aA l).drop k = aA (l.drop k)) ∧
  (∀ (l : List Int) (n : Int), aA l ++ [.val (.int .i64 n)] = aA (l ++ [n])) ∧ (∀ l r : List Int, aA l ++ aA r = aA (l ++ r)) ∧ aA [] = [] ∧
  (∀ l : List PV, [] ++ l = l) ∧ (∀ (l : List Int) (k : Nat) (n : Int), (aA l).set k (.val (.int .i64 n)) = aA (l.set k n)) ∧
  (∀ (k : Nat) (n : Int), List.replicate k (PV.val (.int .i64 n)) = aA (List.replicate k n)) ∧ (∀ {n : Int}, -9223372036854775808 ≤ n → n ≤ 9223372036854775807 → IntKind.i64.wrap n = n) :=
 ⟨aJ3, aFC, jS, uN, bC, uP, uQ, uO, xD, aFB, sW, ints_set, oJ, aX⟩

set_option linter.defProp false in
def sG := And.intro sF (And.intro sB (And.intro sC (And.intro sD sE)))

theorem eG {g : Prop} (h : g := by (subst hA; subst_vars; simp only [AR.std, bBG, sG, reduceCtorEq] at *; try simp (disch := omega) only [AR.std, bBG, sG, reduceCtorEq] at *); omega) : g := h

theorem oG {g : Prop} (h : g := by ((first | (with_reducible refine qn hA ?_) | exfalso); subst hA; subst_vars; simp only [AR.std, bBG, sG, reduceCtorEq] at *; (try simp (disch := omega) only [AR.std, bBG, sG, reduceCtorEq] at *); first | done | rfl | omega | exact nE _ | exact kN _ | (apply jR <;> first | omega | rfl))) : g := h

theorem pG {g : Prop} (h : g := by ((with_reducible refine qn hA ?_); subst hA; subst_vars; simp only [AR.std, bBG, sG, reduceCtorEq] at *; (try simp (disch := omega) only [AR.std, bBG, sG, reduceCtorEq] at *); first | done | rfl | omega | exact nE _ | exact kN _ | (apply jR <;> first | omega | rfl))) : g := h

theorem nG {g : Prop} (h : g := by (subst hA; subst_vars; simp only [AR.std, bBG, sG, reduceCtorEq] at *; (try simp (disch := omega) only [AR.std, bBG, sG, reduceCtorEq] at *); first | done | rfl)) : g := h

theorem tG {g : Prop} (h : g := by (subst hA; subst_vars; first | rfl | (simp (disch := omega) only [AR.std, bBG, sG, reduceCtorEq]; rfl))) : g := h

theorem vA {l : List Int} : qT (aA l) := by
 intro p hp
 obtain ⟨n, _, rfl⟩ := List.mem_map.1 hp
 exact ⟨_, rfl⟩

theorem mL {ys : List aC} {k : Nat} (h : k < ys.length) : ys.getD k noY ∈ ys := by
 rw [List.getD, List.getElem?_eq_getElem h]
 exact List.getElem_mem h

theorem aPR {t : List PV} {zs : List aC} {i : Nat} {y : aC} (b : Bool) (ht : t = aB zs) (hi : i < zs.length) (hy : zs.getD i noY = y) : t.set i (setCells (t.getD i D0) 0 [.val (.bool b)]) = aB (zs.set i (b, y.2)) := by
 rw [ht, aFU hi, hy, aXJ, oA]

theorem aVF {t : List PV} {zs : List aC} {i : Nat} {y : aC} (l : List Int) (ht : t = aB zs) (hi : i < zs.length) (hy : zs.getD i noY = y) : t.set i (setCells (t.getD i D0) 1 [.lst (aA l)]) = aB (zs.set i (y.1, l, y.2.2)) := by
 rw [ht, aFU hi, hy, aXK, oA]

theorem aVG {t : List PV} {zs : List aC} {i : Nat} {y : aC} (e : Int) (ht : t = aB zs) (hi : i < zs.length) (hy : zs.getD i noY = y) : t.set i (setCells (t.getD i D0) 2 [.val (.int .i64 e)]) = aB (zs.set i (y.1, y.2.1, e)) := by
 rw [ht, aFU hi, hy, aXL, oA]

theorem lW {zs : List aC} {i : Nat} (y : aC) (hi : i < zs.length) : (zs.set i y).getD i noY = y := by
 rw [List.getD, List.getElem?_set_self hi]; rfl

theorem aVH {t : List PV} {zs : List aC} {i : Nat} (ht : t = aB zs) (hi : i < zs.length) : gZ (t.getD i D0) 0 1 := by
 intro j hj
 obtain rfl : j = 0 := by omega
 rw [ht, aFU hi]; exact ⟨_, rfl⟩

theorem aVI {t : List PV} {zs : List aC} {i : Nat} (ht : t = aB zs) (hi : i < zs.length) : gZ (t.getD i D0) 2 1 := by
 intro j hj
 obtain rfl : j = 0 := by omega
 rw [ht, aFU hi]; exact ⟨_, rfl⟩

theorem aPS {ys : List aC} {k : Nat} (h : k < ys.length) : aB (ys.take k) ++ [aW (ys.getD k noY)] = aB (ys.take (k + 1)) := by
 rw [aT5, tF, List.take_add_one, List.getElem?_eq_getElem h, List.getD, List.getElem?_eq_getElem h]
 rfl

def jP (y : Nat → Nat → aC) (i j : Nat) : List aC := (List.range j).map (y i)
def bY (y : Nat → Nat → aC) (n i : Nat) : List aC := (List.range i).flatMap fun a => jP y a n

theorem pK (y : Nat → Nat → aC) (i j : Nat) : (jP y i j).length = j := by simp [jP]
theorem qN (y : Nat → Nat → aC) (i j : Nat) : jP y i (j + 1) = jP y i j ++ [y i j] := by simp [jP, List.range_succ]
theorem iN (y : Nat → Nat → aC) (n i : Nat) : bY y n (i + 1) = bY y n i ++ jP y i n := by simp [bY, List.range_succ]
theorem cP (y : Nat → Nat → aC) (n : Nat) : ∀ i, (bY y n i).length = i * n
 | 0 => by simp [bY]
 | i + 1 => by rw [iN, List.length_append, cP y n i, pK, Nat.add_mul, Nat.one_mul]

theorem aB9 (y : Nat → Nat → aC) (n : Nat) : ∀ (m i j : Nat), i < m → j < n → (bY y n m).getD (i * n + j) noY = y i j
 | 0, i, j, hi, _ => by omega
 | m + 1, i, j, hi, hj => by
  rw [iN, List.getD]
  by_cases h : i < m
  ·have hlt : i * n + j < (bY y n m).length := by
    rw [cP]
    have := Nat.mul_le_mul_right n (show i + 1 ≤ m from h)
    rw [Nat.add_mul, Nat.one_mul] at this
    omega
   rw [List.getElem?_append_left hlt, ← List.getD]
   exact aB9 y n m i j h hj
  ·obtain rfl : i = m := by omega
   rw [List.getElem?_append_right (by rw [cP]; omega), cP, Nat.add_sub_cancel_left, jP, List.getElem?_map, List.getElem?_range hj]
   rfl

theorem aFV {u : List PV} {k : Nat} (hu : u = aB (List.replicate k noY)) (t s : Nat) : fU (.row t s u) := by
 intro q hq c hc
 rw [hu] at hq
 obtain ⟨y, hy, rfl⟩ := List.mem_map.1 hq
 rw [(List.mem_replicate.1 hy).2] at hc
 simp only [aW, noY, PV.cells, List.mem_cons, List.not_mem_nil, or_false] at hc
 rcases hc with rfl | rfl | rfl <;> rfl

def tot : List aC → Nat
 | [] => 0
 | y :: r => y.2.1.length + tot r

theorem aDI : ∀ (a b : List aC), tot (a ++ b) = tot a + tot b
 | [], b => by simp [tot]
 | y :: r, b => by simp [tot, aDI r b]; omega

theorem lX {ys : List aC} {i : Nat} (h : i < ys.length) : tot (ys.take (i + 1)) = tot (ys.take i) + (ys.getD i noY).2.1.length := by
 rw [List.take_add_one, aDI, List.getElem?_eq_getElem h, List.getD, List.getElem?_eq_getElem h]
 simp [tot]

theorem wD (ys : List aC) (i : Nat) : tot (ys.take i) ≤ tot ys := by
 have := aDI (ys.take i) (ys.drop i)
 rw [List.take_append_drop] at this
 omega

theorem wY {ys : List aC} {i : Nat} (h : i < ys.length) : tot (ys.take i) + (ys.getD i noY).2.1.length ≤ tot ys := by
 rw [← lX h]; exact wD _ _

theorem wZ {ys : List aC} {y : aC} (h : y ∈ ys) : y.2.1.length ≤ tot ys := by
 obtain ⟨i, hi, rfl⟩ := List.getElem_of_mem h
 have := wY hi
 rw [List.getD, List.getElem?_eq_getElem hi] at this
 simp only [Option.getD_some] at this
 omega

theorem aCA {o : List aC} (h : ∀ y ∈ o, y.2.1.length ≤ 100) (hl : o.length ≤ 100) : tot o ≤ 10000 := by
 have : ∀ o : List aC, (∀ y ∈ o, y.2.1.length ≤ 100) → tot o ≤ 100 * o.length := by
  intro o
  induction o with
  | nil => intro _; exact Nat.zero_le _
  | cons y r ih =>
   intro h
   have h1 := h y (by simp)
   have h2 := ih (fun z hz => h z (by simp [hz]))
   simp only [tot, List.length_cons]
   omega
 have := this o h
 omega

def aS0 (ys : List aC) (i : Int) (q : List PV) : Prop := 0 ≤ i ∧ i ≤ ys.length ∧ q = aB (ys.take i.toNat ++ List.replicate (ys.length - i.toNat) noY)

theorem aL6 {ys : List aC} {i : Int} {q : List PV} (h : aS0 ys i q) (hi : i < ys.length) : aS0 ys (i + 1) (q.set i.toNat (aW (ys.getD i.toNat noY))) := by
 obtain ⟨a, b, rfl⟩ := h
 refine ⟨by omega, by omega, ?_⟩
 rw [oA]
 congr 1
 apply List.ext_getElem?
 intro j
 rw [show (i + 1).toNat = i.toNat + 1 by omega]
 have hl : (ys.take i.toNat).length = i.toNat := by rw [List.length_take]; omega
 by_cases hj : j = i.toNat
 ·subst hj
  rw [List.getElem?_set_self (by simp; omega), List.getElem?_append_left (by rw [List.length_take]; omega), List.getElem?_take, if_pos (by omega), List.getD, List.getElem?_eq_getElem (by omega)]
  rfl
 ·rw [List.getElem?_set_ne (fun e => hj e.symm), List.getElem?_append, List.getElem?_append, hl, List.length_take, Nat.min_eq_left (by omega)]
  by_cases h1 : j < i.toNat
  ·rw [if_pos h1, if_pos (by omega), List.getElem?_take, List.getElem?_take, if_pos h1, if_pos (by omega)]
  ·rw [if_neg h1, if_neg (by omega), List.getElem?_replicate, List.getElem?_replicate]
   by_cases h2 : j < ys.length
   ·rw [if_pos (by omega), if_pos (by omega)]
   ·rw [if_neg (by omega), if_neg (by omega)]

theorem aL7 {ys : List aC} {i : Int} {q : List PV} (h : aS0 ys i q) (hi : ys.length ≤ i) : q = aB ys := by
 obtain ⟨a, b, rfl⟩ := h
 rw [List.take_of_length_le (by omega), show ys.length - i.toNat = 0 by omega]
 simp

def aPT (ys : List aC) (k i r : Int) : Prop := 0 ≤ i ∧ i ≤ ys.length ∧ r = k - ys.length - tot (ys.take i.toNat) ∧ 0 ≤ r

def qQ (ys : List aC) (k : Int) (j : Nat) : Int := k + 2 * j + tot (ys.take j)

def qY (k : Int) (n : Nat) : aC := (decide (k % 3 = 0), up1 (k + 1) n, k + 1 + n)

def oE (ys : List aC) (k : Int) : List aC := (List.range ys.length).map fun j => qY (qQ ys k j) (ys.getD j noY).2.1.length

theorem fE (ys : List aC) (k : Int) : (oE ys k).length = ys.length := by simp [oE]

theorem aFW {ys : List aC} {k : Int} {j : Nat} (h : j < ys.length) : (oE ys k).getD j noY = qY (qQ ys k j) (ys.getD j noY).2.1.length := by
 simp [oE, List.getD, h]

theorem aCB {ys : List aC} {k : Int} {j : Nat} (h : j < ys.length) : qQ ys k (j + 1) = qQ ys k j + 2 + (ys.getD j noY).2.1.length := by
 unfold qQ
 rw [lX h]
 omega

theorem aCC (ys : List aC) (k : Int) : qQ ys k 0 = k := by simp [qQ, tot]

theorem aFX (ys : List aC) (k : Int) : qQ ys k ys.length = k + 2 * ys.length + tot ys := by simp [qQ]

theorem aKD {ys : List aC} {k : Int} {j : Nat} (h : j ≤ ys.length) : k ≤ qQ ys k j ∧ qQ ys k j ≤ k + 2 * ys.length + tot ys := by
 unfold qQ
 have := wD ys j
 omega

def aL8 (ys : List aC) (k i q : Int) (p : List PV) : Prop := 0 ≤ i ∧ i ≤ ys.length ∧ q = qQ ys k i.toNat ∧ p = aB ((oE ys k).take i.toNat ++ ys.drop i.toNat)

theorem aPU {ys : List aC} {k i q : Int} {p : List PV} (h : aL8 ys k i q p) (hi : i < ys.length) : ∃ zs : List aC, p = aB zs ∧ zs.length = ys.length ∧ zs.getD i.toNat noY = ys.getD i.toNat noY := by
 obtain ⟨a, b, _, rfl⟩ := h
 refine ⟨_, rfl, by simp [fE]; omega, ?_⟩
 have hl : ((oE ys k).take i.toNat).length = i.toNat := by rw [List.length_take, fE]; omega
 rw [List.getD, List.getD, List.getElem?_append_right (by omega), hl, Nat.sub_self, List.getElem?_drop, Nat.add_zero]

theorem aL9 {ys : List aC} {k i q : Int} {p : List PV} (h : aL8 ys k i q p) (hi : i < ys.length) :
  aL8 ys k (i + 1) (q + 2 + (ys.getD i.toNat noY).2.1.length) (p.set i.toNat (aW (qY q (ys.getD i.toNat noY).2.1.length))) := by
 obtain ⟨a, b, rfl, rfl⟩ := h
 refine ⟨by omega, by omega, ?_, ?_⟩
 ·rw [show (i + 1).toNat = i.toNat + 1 by omega, aCB (by omega)]
 ·rw [oA]
  congr 1
  rw [show (i + 1).toNat = i.toNat + 1 by omega]
  have hl : ((oE ys k).take i.toNat).length = i.toNat := by rw [List.length_take, fE]; omega
  apply List.ext_getElem?
  intro j
  by_cases hj : j = i.toNat
  ·subst hj
   rw [List.getElem?_set_self (by simp [fE]; omega), List.getElem?_append_left (by rw [List.length_take, fE]; omega), List.getElem?_take, if_pos (by omega)]
   have := aFW (k := k) (show i.toNat < ys.length by omega)
   rw [List.getD, List.getElem?_eq_getElem (by rw [fE]; omega)] at this
   rw [List.getElem?_eq_getElem (by rw [fE]; omega)]
   rw [← this]; rfl
  ·rw [List.getElem?_set_ne (fun e => hj e.symm), List.getElem?_append, List.getElem?_append, hl, List.length_take, fE, Nat.min_eq_left (by omega)]
   by_cases h1 : j < i.toNat
   ·rw [if_pos h1, if_pos (by omega), List.getElem?_take, List.getElem?_take, if_pos h1, if_pos (by omega)]
   ·rw [if_neg h1, if_neg (by omega), List.getElem?_drop, List.getElem?_drop]
    congr 1
    omega

theorem aMA (ys : List aC) (k : Int) : aL8 ys k 0 k (aB ys) := ⟨Int.le_refl _, by omega, by rw [show (0 : Int).toNat = 0 from rfl, aCC], by simp⟩

theorem aMB {ys : List aC} {k i q : Int} {p : List PV} (h : aL8 ys k i q p) (hi : ys.length ≤ i) : p = aB (oE ys k) ∧ q = k + 2 * ys.length + tot ys := by
 obtain ⟨a, b, rfl, rfl⟩ := h
 have e : i.toNat = ys.length := by omega
 rw [e]
 refine ⟨?_, aFX _ _⟩
 rw [List.take_of_length_le (by rw [fE]; omega), List.drop_length, List.append_nil]

end Go.Pe

/- Numbers in a form that is not canonical: what they stand for, bounds of their cells. -/
namespace Go.Pe
open Go Go.Dg

def X (d : Dyadic) (L E : Nat) (y : aC) : Prop := ∃ z : Int, y.1 = decide (z < 0) ∧ y.2.1 = dg z.natAbs ∧ d = mk z y.2.2 ∧ (dg z.natAbs).length ≤ L ∧ y.2.2.natAbs ≤ E

noncomputable def aG (d : Dyadic) : aC := (decide (cZ d < 0), dg (cZ d).natAbs, cE d)

theorem nP (d : Dyadic) : uV d (aG d).1 (aG d).2.1 (aG d).2.2 := ⟨rfl, rfl, rfl⟩

theorem gJ : aG 0 = noY := by
 unfold aG
 rw [dT, show Int.natAbs 0 = 0 from rfl, aO]
 rfl

theorem X.mono {d : Dyadic} {L E L' E' : Nat} {y : aC} (h : X d L E y) (hL : L ≤ L') (hE : E ≤ E') : X d L' E' y := by
 obtain ⟨z, h1, h2, h3, h4, h5⟩ := h
 exact ⟨z, h1, h2, h3, by omega, by omega⟩

theorem aZK {y : aC} (h : okY y) : X (aAX y.1 y.2.1 y.2.2) 100 3000 y := by
 obtain ⟨⟨h1, h2, h3⟩, h4, h5, h6⟩ := yW h
 refine ⟨cZ (aAX y.1 y.2.1 y.2.2), h1, h2, ?_, by rw [← h2] at h4 ⊢; exact h4, by omega⟩
 have := (cH (aAX y.1 y.2.1 y.2.2)).symm
 rw [← h3] at this
 exact this

theorem zE {L E : Nat} : X 0 L E noY := ⟨0, rfl, by rw [show Int.natAbs 0 = 0 from rfl, aO]; rfl, (mk_zero 0).symm, by rw [show Int.natAbs 0 = 0 from rfl, aO]; exact Nat.zero_le _, Nat.zero_le _⟩

theorem kR {x y : Int} {K : Nat} (h1 : (dg x.natAbs).length ≤ K) (h2 : (dg y.natAbs).length ≤ K) : (dg (x + y).natAbs).length ≤ K + 1 := by
 refine aT _ _ ?_
 have a1 : x.natAbs < 65536 ^ K := Nat.lt_of_lt_of_le (dZ _) (Nat.pow_le_pow_right (by decide) h1)
 have a2 : y.natAbs < 65536 ^ K := Nat.lt_of_lt_of_le (dZ _) (Nat.pow_le_pow_right (by decide) h2)
 have a3 : (x + y).natAbs ≤ x.natAbs + y.natAbs := Int.natAbs_add_le _ _
 rw [Nat.pow_succ]
 omega

theorem rO {x y : Nat} {K J : Nat} (h1 : (dg x).length ≤ K) (h2 : (dg y).length ≤ J) : (dg (x * y)).length ≤ K + J := by
 refine aT _ _ ?_
 have a1 : x < 65536 ^ K := Nat.lt_of_lt_of_le (dZ _) (Nat.pow_le_pow_right (by decide) h1)
 have a2 : y < 65536 ^ J := Nat.lt_of_lt_of_le (dZ _) (Nat.pow_le_pow_right (by decide) h2)
 rw [Nat.pow_add]
 exact Nat.mul_lt_mul'' a1 a2

def XL (dd : Nat → Dyadic) (L E : Nat) (ys : List aC) : Prop := ∀ k, k < ys.length → X (dd k) L E (ys.getD k noY)

theorem XL.mono {dd : Nat → Dyadic} {L E L' E' : Nat} {ys : List aC} (h : XL dd L E ys) (hL : L ≤ L') (hE : E ≤ E') : XL dd L' E' ys := fun k hk => (h k hk).mono hL hE

theorem places {n : Nat} {Q : Nat → Nat → aC → Prop} (h : ∀ i j, i < n → j < n → ∃ c, Q i j c) : ∃ Y : Nat → Nat → aC, ∀ i j, i < n → j < n → Q i j (Y i j) := by
 classical
 refine ⟨fun i j => if hc : i < n ∧ j < n then Classical.choose (h i j hc.1 hc.2) else noY, fun i j hi hj => ?_⟩
 simp only [dif_pos (And.intro hi hj)]
 exact Classical.choose_spec (h i j hi hj)

theorem pL {n : Nat} {Y : Nat → Nat → aC} {dd : Nat → Dyadic} {L E : Nat} (h : ∀ i j, i < n → j < n → X (dd (i * n + j)) L E (Y i j)) : XL dd L E (bY Y n n) := by
 intro k hk
 rw [cP] at hk
 have hn : 0 < n := by
  rcases Nat.eq_zero_or_pos n with h0 | h0
  ·subst h0; simp at hk
  ·exact h0
 have h1 : k / n < n := (Nat.div_lt_iff_lt_mul hn).2 hk
 have h2 : k % n < n := Nat.mod_lt _ hn
 have e : k = k / n * n + k % n := by rw [Nat.mul_comm]; exact (Nat.div_add_mod k n).symm
 have h3 := h _ _ h1 h2
 rw [← aB9 Y n n _ _ h1 h2, ← e] at h3
 exact h3

def XW (L : Nat) (ys : List aC) : Prop := ∀ k, k < ys.length → ∃ z : Int, (ys.getD k noY).1 = decide (z < 0) ∧ (ys.getD k noY).2.1 = dg z.natAbs ∧ (dg z.natAbs).length ≤ L

def dvY (ys : List aC) (k : Nat) : Dyadic := aAX (ys.getD k noY).1 (ys.getD k noY).2.1 (ys.getD k noY).2.2

theorem qO {ys : List aC} (h : nO ys) : XL (dvY ys) 100 3000 ys := fun k hk => aZK (h _ (mL hk))

noncomputable def cW (dd : Nat → Dyadic) (n : Nat) : List aC := (List.range n).map fun k => aG (dd k)

theorem bU (dd : Nat → Dyadic) (n : Nat) : (cW dd n).length = n := by simp [cW]
theorem vB (dd : Nat → Dyadic) (n : Nat) : cW dd (n + 1) = cW dd n ++ [aG (dd n)] := by simp [cW, List.range_succ]
theorem tI {dd : Nat → Dyadic} {n k : Nat} (h : k < n) : (cW dd n).getD k noY = aG (dd k) := by simp [cW, List.getD, h]

theorem aS1 {dd : Nat → Dyadic} {n : Nat} : nO (cW dd n) ↔ ∀ k, k < n → fits (dd k) := by
 constructor
 ·intro h k hk
  have := h _ (mL (k := k) (by rw [bU]; exact hk))
  rw [tI hk] at this
  exact (nN (nP (dd k))).1 this
 ·intro h y hy
  obtain ⟨k, hk, rfl⟩ := List.mem_map.1 hy
  exact (nN (nP (dd k))).2 (h k (List.mem_range.1 hk))

theorem aVJ {dd : Nat → Dyadic} {L : Nat} {n : Nat} (h : ∀ k, k < n → (dg (cZ (dd k)).natAbs).length ≤ L) : XW L (cW dd n) := by
 intro k hk
 rw [bU] at hk
 rw [tI hk]
 exact ⟨cZ (dd k), rfl, rfl, h k hk⟩

theorem chain {S : Nat → Dyadic} {Lf : Nat → Nat} {E : Nat} {Q : Nat → aC → aC → aC → Prop} {y0 : aC} (h0 : X (S 0) (Lf 0) E y0) : ∀ {n : Nat}, (∀ k y, k < n → X (S k) (Lf k) E y → ∃ t y', Q k y t y' ∧ X (S (k + 1)) (Lf (k + 1)) E y') →
  ∃ c t : Nat → aC, c 0 = y0 ∧ (∀ k, k < n → Q k (c k) (t k) (c (k + 1))) ∧ ∀ k, k ≤ n → X (S k) (Lf k) E (c k)
 | 0, _ => ⟨fun _ => y0, fun _ => y0, rfl, fun k hk => by omega, fun k hk => by
  obtain rfl : k = 0 := by omega
  exact h0⟩
 | n + 1, hs => by
  obtain ⟨c, t, h1, h2, h3⟩ := chain (n := n) h0 (fun k y hk hx => hs k y (by omega) hx)
  obtain ⟨t', y', h4, h5⟩ := hs n (c n) (by omega) (h3 n (Nat.le_refl _))
  refine ⟨fun k => if k ≤ n then c k else y', fun k => if k < n then t k else t', by simp [h1], fun k hk => ?_, fun k hk => ?_⟩
  ·by_cases hkn : k < n
   ·simp only [show k ≤ n by omega, show k + 1 ≤ n by omega, hkn, if_true]
    exact h2 k hkn
   ·obtain rfl : k = n := by omega
    simp only [Nat.le_refl, if_true, Nat.lt_irrefl, if_false, show ¬ k + 1 ≤ k by omega]
    exact h4
  ·by_cases hkn : k ≤ n
   ·simp only [hkn, if_true]; exact h3 k hkn
   ·obtain rfl : k = n + 1 := by omega
    simp only [show ¬ n + 1 ≤ n by omega, if_false]
    exact h5

def bF (f : Nat → Dyadic) : Nat → Dyadic
 | 0 => 0
 | k + 1 => bF f k + f k

def nQ (n : Int) (f g : Nat → Dyadic) (k : Nat) : Dyadic := bF (fun a => f (k / n.toNat * n.toNat + a) * g (a * n.toNat + k % n.toNat)) n.toNat

theorem FX.mono {P : Program} {gl : List (Nat × Obj)} {f : FuncId} {own : List Blk} {args : List FV} {R R' : List Blk → FV → Prop} (h : FX P gl f own args R) (hR : ∀ o r, R o r → R' o r) : FX P gl f own args R' :=
 ⟨h.1, fun w S m vs h1 h2 h3 h4 h5 => (h.2 w S m vs h1 h2 h3 h4 h5).mono (by
  rintro e w' ⟨v, r, own', m', g1, g2, g3⟩
  exact ⟨v, r, own', m', g1, hR _ _ g2, g3⟩)⟩

end Go.Pe

/- Lists of dyadic numbers among a row's arguments. -/
namespace Go.Pe
open Go Go.Dg Go.RowKit

theorem aMC {P : Program} {n : Nat} {t e : TypeId} {c : List PV} (hu : P.underlying t = some (.slice e)) (hst : uW P e = true)
  (hE : ∀ c, Typed P n e c → ∃ (s : Bool) (l : List Int) (x : Int), c = [.val (.bool s), .lst (aA l), .val (.int .i64 x)] ∧ l.length ≤ maxLen) (h : Typed P (n + 1) t c) :
  ∃ ys : List aC, c = [.lst (aB ys)] ∧ ys.length ≤ maxLen ∧ ∀ y ∈ ys, y.2.1.length ≤ maxLen := by
 unfold Typed at h; rw [hu] at h
 obtain ⟨cl, rfl, hl, hc⟩ := h
 have : ∃ ys : List aC, cl.map (kZ P e) = aB ys ∧ ys.length = cl.length ∧ ∀ y ∈ ys, y.2.1.length ≤ maxLen := by
  clear hl
  induction cl with
  | nil => exact ⟨[], rfl, rfl, fun y hy => by cases hy⟩
  | cons x r ih =>
   obtain ⟨l, h1, h2, h3⟩ := ih (fun c hc' => hc c (List.mem_cons_of_mem _ hc'))
   obtain ⟨s, d, m, hm, hd⟩ := hE x (hc x (by simp))
   refine ⟨(s, d, m) :: l, ?_, by simp [h2], fun y hy => ?_⟩
   ·rw [List.map_cons, h1, hm]
    simp only [aB, List.map_cons, aW, kZ, hst]
   ·rcases List.mem_cons.1 hy with rfl | hy
    ·exact hd
    ·exact h3 y hy
 obtain ⟨ys, h1, h2, h3⟩ := this
 exact ⟨ys, by rw [h1], by omega, h3⟩

end Go.Pe

/- Sharper bounds of sums, sums of products. -/
namespace Go.Pe
open Go Go.Dg

theorem aKE {n : Int} {f g : Nat → Dyadic} {i j : Nat} (hj : j < n.toNat) : nQ n f g (i * n.toNat + j) = bF (fun a => f (i * n.toNat + a) * g (a * n.toNat + j)) n.toNat := by
 unfold nQ
 have h0 : 0 < n.toNat := by omega
 have h1 : (i * n.toNat + j) / n.toNat = i := by
  rw [Nat.mul_comm, Nat.mul_add_div h0, Nat.div_eq_of_lt hj, Nat.add_zero]
 have h2 : (i * n.toNat + j) % n.toNat = j := by
  rw [Nat.mul_comm, Nat.mul_add_mod, Nat.mod_eq_of_lt hj]
 rw [h1, h2]

theorem place {n k : Nat} (h : k < n * n) : k / n < n ∧ k % n < n ∧ k = k / n * n + k % n := by
 have hn : 0 < n := by
  rcases Nat.eq_zero_or_pos n with h0 | h0
  ·subst h0; simp at h
  ·exact h0
 exact ⟨(Nat.div_lt_iff_lt_mul hn).2 h, Nat.mod_lt _ hn, by rw [Nat.mul_comm]; exact (Nat.div_add_mod k n).symm⟩

theorem bQ {n i j : Nat} (hi : i < n) (hj : j < n) : i * n + j < n * n := by
 have := Nat.mul_le_mul_right n (show i + 1 ≤ n from hi)
 rw [Nat.add_mul, Nat.one_mul] at this
 omega

noncomputable def lM (dd : Nat → Dyadic) (N m : Nat) : List aC := cW dd m ++ List.replicate (N - m) noY

theorem aCD {dd : Nat → Dyadic} {N m : Nat} (h : m ≤ N) : (lM dd N m).length = N := by
 rw [lM, List.length_append, bU, List.length_replicate]; omega
theorem zF (dd : Nat → Dyadic) (N : Nat) : lM dd N 0 = List.replicate N noY := by simp [lM, cW]
theorem aCE (dd : Nat → Dyadic) (N : Nat) : lM dd N N = cW dd N := by simp [lM]
theorem aCF {dd : Nat → Dyadic} {N m : Nat} (h : m < N) : (lM dd N m).set m (aG (dd m)) = lM dd N (m + 1) := by
 rw [lM, lM, vB, List.append_assoc, List.set_append_right _ _ (by rw [bU]; exact Nat.le_refl _), bU, Nat.sub_self, show N - m = (N - (m + 1)) + 1 by omega, List.replicate_succ]
 rfl

end Go.Pe

/- Sizes of numbers, the greatest of some numbers. -/
namespace Go.Pe
open Go Go.Dg

open Classical in
noncomputable def fO (d : Dyadic) : Dyadic := if d < 0 then -d else d

theorem aKF (z e : Int) : fO (mk z e) = mk (z.natAbs : Int) e := by
 unfold fO
 have h : mk z e < 0 ↔ z < 0 := by rw [← mk_zero e, aJ2]
 by_cases hz : z < 0
 ·rw [if_pos (h.2 hz), uR]; congr 1; omega
 ·rw [if_neg (fun g => hz (h.1 g))]; congr 1; omega

theorem aXM {d : Dyadic} {L E : Nat} {y : aC} (h : X d L E y) : X (fO d) L E (false, y.2.1, y.2.2) := by
 obtain ⟨z, h1, h2, h3, h4, h5⟩ := h
 refine ⟨(z.natAbs : Int), (decide_eq_false (by omega)).symm, ?_, by rw [h3, aKF], ?_, h5⟩
 ·rw [Int.natAbs_natCast]; exact h2
 ·rw [Int.natAbs_natCast]; exact h4

noncomputable def maxD (a b : Dyadic) : Dyadic := if gC a b < 0 then b else a

theorem gK (a b : Dyadic) : 0 < gC b a ↔ gC a b < 0 := by
 unfold gC
 have h := @Dyadic.toRat_lt_toRat_iff
 by_cases h1 : a < b <;> by_cases h2 : b < a
 ·exfalso
  have g1 := h.2 h1
  have g2 := h.2 h2
  exact Rat.not_lt.2 (Rat.le_of_lt g1) g2
 all_goals simp [h1, h2]

theorem aXN {a b : Dyadic} {L E : Nat} {y z : aC} (h1 : X a L E y) (h2 : X b L E z) : X (maxD a b) L E (if gC a b < 0 then z else y) := by
 unfold maxD
 by_cases h : gC a b < 0
 ·rw [if_pos h, if_pos h]; exact h2
 ·rw [if_neg h, if_neg h]; exact h1

theorem aPV (a b : Dyadic) : aG (maxD a b) = if gC a b < 0 then aG b else aG a := by
 unfold maxD
 by_cases h : gC a b < 0
 ·rw [if_pos h, if_pos h]
 ·rw [if_neg h, if_neg h]

noncomputable def eT (f : Nat → Dyadic) : Nat → Dyadic
 | 0 => 0
 | k + 1 => maxD (eT f k) (f k)

noncomputable def jQ (m : Nat) (d : Nat → Dyadic) (j : Nat) : Dyadic := bF (fun i => fO (d (i * m + j))) m

noncomputable def jH (m : Nat) (d : Nat → Dyadic) : Dyadic := eT (jQ m d) m

end Go.Pe

/- The sum of a diagonal. -/
namespace Go.Pe
open Go Go.Dg

end Go.Pe

/- How great a number is and how fine: bounds that sums and products keep sharp. -/
namespace Go.Pe
open Go Go.Dg

def Mg (a b : Nat) (d : Dyadic) : Prop := ∃ z : Int, d = mk z (-(a : Int)) ∧ z.natAbs < 2 ^ (a + b)

theorem aDJ {a b : Nat} : Mg a b 0 := ⟨0, (mk_zero _).symm, Nat.two_pow_pos _⟩

theorem aII (z e : Int) (k : Nat) : mk z e = mk (z * 2 ^ k) (e - k) := (pC z e k).symm

theorem Mg.mono {a b a' b' : Nat} {d : Dyadic} (h : Mg a b d) (ha : a ≤ a') (hb : b ≤ b') : Mg a' b' d := by
 obtain ⟨z, h1, h2⟩ := h
 refine ⟨z * 2 ^ (a' - a), ?_, ?_⟩
 ·rw [h1, aII z _ (a' - a)]; congr 1; omega
 ·rw [Int.natAbs_mul, Int.natAbs_pow]
  show z.natAbs * 2 ^ (a' - a) < _
  have : 2 ^ (a + b) * 2 ^ (a' - a) ≤ 2 ^ (a' + b') := by rw [← Nat.pow_add]; exact Nat.pow_le_pow_right (by decide) (by omega)
  exact Nat.lt_of_lt_of_le (Nat.mul_lt_mul_of_pos_right h2 (Nat.two_pow_pos _)) this

theorem Mg.add {a b : Nat} {d e : Dyadic} (h : Mg a b d) (g : Mg a b e) : Mg a (b + 1) (d + e) := by
 obtain ⟨z, h1, h2⟩ := h
 obtain ⟨y, g1, g2⟩ := g
 refine ⟨z + y, by rw [h1, g1, aHV], ?_⟩
 have := Int.natAbs_add_le z y
 rw [← Nat.add_assoc, Nat.pow_succ]
 omega

theorem Mg.mul {a b a' b' : Nat} {d e : Dyadic} (h : Mg a b d) (g : Mg a' b' e) : Mg (a + a') (b + b') (d * e) := by
 obtain ⟨z, h1, h2⟩ := h
 obtain ⟨y, g1, g2⟩ := g
 refine ⟨z * y, by rw [h1, g1, aHW]; congr 1; omega, ?_⟩
 rw [Int.natAbs_mul, show a + a' + (b + b') = a + b + (a' + b') by omega, Nat.pow_add]
 exact Nat.mul_lt_mul'' h2 g2

theorem Mg.neg {a b : Nat} {d : Dyadic} (h : Mg a b d) : Mg a b (-d) := by
 obtain ⟨z, h1, h2⟩ := h
 exact ⟨-z, by rw [h1, uR], by rw [Int.natAbs_neg]; exact h2⟩

theorem Mg.bF {f : Nat → Dyadic} {a b n : Nat} (h : ∀ k, k < n → Mg a b (f k)) : ∀ k, k ≤ n → Mg a (b + k) (bF f k)
 | 0, _ => aDJ
 | k + 1, hk => ((Mg.bF h k (by omega)).add ((h k (by omega)).mono (Nat.le_refl _) (by omega))).mono (Nat.le_refl _) (by omega)

theorem eJ {a b : Nat} {d : Dyadic} (h : Mg a b d) : (dg (cZ d).natAbs).length ≤ (a + b) / 16 + 1 := by
 obtain ⟨z, h1, h2⟩ := h
 refine aT _ _ ?_
 have h3 : (cZ d).natAbs ≤ z.natAbs := by rw [h1]; exact aPF z _
 have h4 : 2 ^ (a + b) ≤ 65536 ^ ((a + b) / 16 + 1) := by
  rw [show (65536 : Nat) = 2 ^ 16 from rfl, ← Nat.pow_mul]
  exact Nat.pow_le_pow_right (by decide) (by omega)
 omega

theorem iC {a b : Nat} {d : Dyadic} (h : Mg a b d) : -(a : Int) ≤ cE d ∨ cE d = 0 := by
 obtain ⟨z, h1, h2⟩ := h
 by_cases hz : z = 0
 ·right; rw [h1, hz, mk_zero]; rfl
 ·left
  have := (aFT (e := -(a : Int)) hz).1
  rw [← h1] at this
  exact this

theorem eO {a b : Nat} {d : Dyadic} (h : Mg a b d) : cE d ≤ b := by
 obtain ⟨z, h1, h2⟩ := h
 by_cases hz : z = 0
 ·rw [h1, hz, mk_zero]; exact Int.natCast_nonneg _
 ·obtain ⟨t, n, ht⟩ := uZ z.natAbs (by omega)
  obtain ⟨_, g2, _⟩ := kQ (e := -(a : Int)) ht
  have h4 : 2 ^ t < 2 ^ (a + b) := by
   refine Nat.lt_of_le_of_lt ?_ h2
   have : 2 ^ t ≤ 2 ^ t * (2 * n + 1) := Nat.le_mul_of_pos_right _ (by omega)
   rw [← ht] at this; exact this
  have h5 : t < a + b := (Nat.pow_lt_pow_iff_right (by decide)).1 h4
  rw [h1, g2]
  omega

set_option exponentiation.threshold 10000 in
theorem aS2 {d : Dyadic} (h : fits d) : Mg 3000 4600 d := by
 obtain ⟨h1, h2, h3⟩ := h
 refine ⟨cZ d * 2 ^ (cE d + 3000).toNat, ?_, ?_⟩
 ·have := aII (cZ d) (cE d) (cE d + 3000).toNat
  rw [cH] at this
  rw [show cE d - ((cE d + 3000).toNat : Int) = -((3000 : Nat) : Int) by omega] at this
  exact this
 ·rw [Int.natAbs_mul, Int.natAbs_pow]
  show (cZ d).natAbs * 2 ^ (cE d + 3000).toNat < _
  have a1 : (cZ d).natAbs < 2 ^ 1600 := by
   refine Nat.lt_of_lt_of_le (dZ _) ?_
   rw [show (2 : Nat) ^ 1600 = 65536 ^ 100 by rw [show (65536 : Nat) = 2 ^ 16 from rfl, ← Nat.pow_mul]]
   exact Nat.pow_le_pow_right (by decide) h1
  have a2 : 2 ^ (cE d + 3000).toNat ≤ 2 ^ 6000 := Nat.pow_le_pow_right (by decide) (by omega)
  have a3 : (cZ d).natAbs * 2 ^ (cE d + 3000).toNat < 2 ^ 1600 * 2 ^ 6000 := Nat.mul_lt_mul_of_lt_of_le a1 a2 (Nat.two_pow_pos _)
  rw [← Nat.pow_add] at a3
  exact a3

def CL (a b : Nat) (dd : Nat → Dyadic) (ys : List aC) : Prop := ∀ k, k < ys.length → ys.getD k noY = aG (dd k) ∧ Mg a b (dd k)

theorem xA {a b n : Nat} {dd : Nat → Dyadic} (h : ∀ k, k < n → Mg a b (dd k)) : CL a b dd (cW dd n) := by
 intro k hk
 rw [bU] at hk
 exact ⟨tI hk, h k hk⟩

theorem nR {ys : List aC} (h : nO ys) : CL 3000 4600 (dvY ys) ys := by
 intro k hk
 have hy := h _ (mL hk)
 obtain ⟨⟨h1, h2, h3⟩, h4, h5, h6⟩ := yW hy
 refine ⟨?_, aS2 ⟨h4, h5, h6⟩⟩
 exact Prod.ext h1 (Prod.ext h2 h3)

theorem Mg.abs {a b : Nat} {d : Dyadic} (h : Mg a b d) : Mg a b (fO d) := by
 unfold fO
 by_cases hd : d < 0
 ·rw [if_pos hd]; exact h.neg
 ·rw [if_neg hd]; exact h

theorem Mg.max {a b : Nat} {d e : Dyadic} (h : Mg a b d) (g : Mg a b e) : Mg a b (maxD d e) := by
 unfold maxD
 by_cases hc : gC d e < 0
 ·rw [if_pos hc]; exact g
 ·rw [if_neg hc]; exact h

theorem Mg.eT {f : Nat → Dyadic} {a b n : Nat} (h : ∀ k, k < n → Mg a b (f k)) : ∀ k, k ≤ n → Mg a b (eT f k)
 | 0, _ => aDJ
 | k + 1, hk => (Mg.eT h k (by omega)).max (h k (by omega))

theorem Mg.nQ {n : Int} {f g : Nat → Dyadic} {a b a' b' k : Nat} (h4 : n.toNat ≤ 4) (hf : ∀ k, k < n.toNat * n.toNat → Mg a b (f k)) (hg : ∀ k, k < n.toNat * n.toNat → Mg a' b' (g k)) (hk : k < n.toNat * n.toNat) : Mg (a + a') (b + b' + 4) (nQ n f g k) := by
 obtain ⟨h1, h2, h3⟩ := place hk
 have := Mg.bF (f := fun c => f (k / n.toNat * n.toNat + c) * g (c * n.toNat + k % n.toNat)) (a := a + a') (b := b + b') (n := n.toNat) (fun c hc => (hf _ (bQ h1 hc)).mul (hg _ (bQ hc h2))) n.toNat (Nat.le_refl _)
 exact this.mono (Nat.le_refl _) (by omega)

theorem Mg.jQ {m : Nat} {d : Nat → Dyadic} {a b j : Nat} (h4 : m ≤ 4) (hd : ∀ k, k < m * m → Mg a b (d k)) (hj : j < m) : Mg a (b + 4) (jQ m d j) :=
 (Mg.bF (f := fun i => fO (d (i * m + j))) (n := m) (fun i hi => (hd _ (bQ hi hj)).abs) m (Nat.le_refl _)).mono (Nat.le_refl _) (by omega)

end Go.Pe

/- Plain laws: matrices without a row and a column, determinants. -/
namespace Go.Pe
open Go Go.Dg

def aAZ (n r c : Nat) : List Nat := (List.range (n * n)).filter fun k => k / n != r && k % n != c

theorem aS3 {n r c k : Nat} (h : k ∈ aAZ n r c) : k < n * n := List.mem_range.1 (List.mem_filter.1 h).1

theorem kS {n r c : Nat} (h4 : n ≤ 4) (hr : r < n) (hc : c < n) : (aAZ n r c).length = (n - 1) * (n - 1) := by
 have h : ∀ n : Fin 5, ∀ r : Fin 4, ∀ c : Fin 4, r.1 < n.1 → c.1 < n.1 → (aAZ n.1 r.1 c.1).length = (n.1 - 1) * (n.1 - 1) := by decide +kernel
 exact h ⟨n, by omega⟩ ⟨r, by omega⟩ ⟨c, by omega⟩ hr hc

theorem pM {n r c k : Nat} (h : k < (aAZ n r c).length) : (aAZ n r c).getD k 0 < n * n := by
 rw [List.getD, List.getElem?_eq_getElem h]
 exact aS3 (List.getElem_mem h)

def dL (n r c : Nat) (d : Nat → Dyadic) (k : Nat) : Dyadic := d ((aAZ n r c).getD k 0)

def cT (n r c m : Nat) (ys : List aC) : List aC := ((List.range m).filter fun k => k / n != r && k % n != c).map fun k => ys.getD k noY

def eP (n r c : Nat) (ys : List aC) : List aC := (aAZ n r c).map fun k => ys.getD k noY

theorem wE (n r c : Nat) (ys : List aC) : cT n r c 0 ys = [] := rfl
theorem zG (n r c : Nat) (ys : List aC) : cT n r c (n * n) ys = eP n r c ys := rfl
theorem zH (n r c m : Nat) (ys : List aC) : (cT n r c m ys).length ≤ m := by
 rw [cT, List.length_map]
 exact Nat.le_trans (List.length_filter_le _ _) (by simp)

theorem lN {n r c i j : Nat} {ys : List aC} (hj : j < n) : cT n r c (i * n + j + 1) ys = cT n r c (i * n + j) ys ++ if i ≠ r ∧ j ≠ c then [ys.getD (i * n + j) noY] else [] := by
 have h1 : (i * n + j) / n = i := by rw [Nat.mul_comm, Nat.mul_add_div (by omega), Nat.div_eq_of_lt hj, Nat.add_zero]
 have h2 : (i * n + j) % n = j := by rw [Nat.mul_comm, Nat.mul_add_mod, Nat.mod_eq_of_lt hj]
 unfold cT
 rw [List.range_succ, List.filter_append, List.map_append]
 congr 1
 by_cases h : i ≠ r ∧ j ≠ c
 ·rw [if_pos h, List.filter_cons_of_pos (by rw [h1, h2]; simp [h.1, h.2])]; rfl
 ·rw [if_neg h, List.filter_cons_of_neg (by rw [h1, h2, Bool.and_eq_true, bne_iff_ne, bne_iff_ne]; exact h)]; rfl

theorem iO {n r c : Nat} {ys : List aC} : (eP n r c ys).length = (aAZ n r c).length := by simp [eP]

theorem zI {n r c k : Nat} {ys : List aC} (h : k < (aAZ n r c).length) : (eP n r c ys).getD k noY = ys.getD ((aAZ n r c).getD k 0) noY := by
 simp [eP, List.getD, h]

theorem aFY {n r c L E : Nat} {d : Nat → Dyadic} {ys : List aC} (h : XL d L E ys) (hy : ys.length = n * n) : XL (dL n r c d) L E (eP n r c ys) := by
 intro k hk
 rw [iO] at hk
 rw [zI hk]
 exact h _ (by rw [hy]; exact pM hk)

theorem aFZ {n r c a b : Nat} {d : Nat → Dyadic} {ys : List aC} (h : CL a b d ys) (hy : ys.length = n * n) : CL a b (dL n r c d) (eP n r c ys) := by
 intro k hk
 rw [iO] at hk
 rw [zI hk]
 exact h _ (by rw [hy]; exact pM hk)

def mM (k : Nat) (d : Dyadic) : Dyadic := if k % 2 = 1 then -d else d

def cF : Nat → (Nat → Dyadic) → Dyadic
 | 0, _ => 1
 | n + 1, d => bF (fun j => mM j (d j * cF n (dL (n + 1) 0 j d))) (n + 1)

theorem aPW (d : Nat → Dyadic) : cF 1 d = d 0 := by
 show (0 : Dyadic) + mM 0 (d 0 * 1) = d 0
 show (0 : Dyadic) + d 0 * 1 = d 0
 grind

theorem Mg.sgn {a b k : Nat} {d : Dyadic} (h : Mg a b d) : Mg a b (mM k d) := by
 unfold mM; split
 ·exact h.neg
 ·exact h

theorem aPX : Mg 0 1 1 := ⟨1, by show (1 : Dyadic) = mk 1 0; rfl, by decide⟩

theorem Mg.det {a b : Nat} : ∀ {n : Nat} {d : Nat → Dyadic}, n ≤ 4 → (∀ k, k < n * n → Mg a b (d k)) → Mg (n * a) (n * (b + 4) + 1) (cF n d)
 | 0, d, _, _ => by
  rw [Nat.zero_mul, Nat.zero_mul]; exact aPX
 | n + 1, d, h4, h => by
  have ht : ∀ j, j < n + 1 → Mg (a + n * a) (b + (n * (b + 4) + 1)) (mM j (d j * cF n (dL (n + 1) 0 j d))) := by
   intro j hj
   refine Mg.sgn (Mg.mul (h j ?_) (Mg.det (by omega) fun k hk => ?_))
   ·exact Nat.lt_of_lt_of_le hj (Nat.le_mul_of_pos_right _ (by omega))
   ·refine h _ (pM ?_)
    rw [kS h4 (by omega) hj]; exact hk
  refine (Mg.bF (f := fun j => mM j (d j * cF n (dL (n + 1) 0 j d))) (n := n + 1) ht (n + 1) (Nat.le_refl _)).mono ?_ ?_
  ·rw [Nat.add_mul, Nat.one_mul]; omega
  ·rw [Nat.add_mul n 1 (b + 4), Nat.one_mul]; omega

theorem aVK (d : Dyadic) : cZ (-d) = -cZ d := by
 cases d <;> rfl

theorem aVL (d : Dyadic) : cE (-d) = cE d := by
 cases d <;> rfl

theorem aPY (d : Dyadic) : aG (-d) = (decide (0 < cZ d), dg (cZ d).natAbs, cE d) := by
 unfold aG
 rw [aVK, aVL, Int.natAbs_neg]
 congr 1
 rw [decide_eq_decide]; omega

end Go.Pe

