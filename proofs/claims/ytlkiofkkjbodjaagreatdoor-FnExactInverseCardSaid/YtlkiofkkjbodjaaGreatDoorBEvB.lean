/- The conditions of a body, frames that read as states, and that each operation carries a state on: no condition on the input. -/
import Derived.Test.YtlkiofkkjbodjaaGreatDoorBEvA
import Derived.Laws.Cover3
set_option linter.unusedSimpArgs false
set_option linter.unusedVariables false
/- The conditions of a body. -/
namespace Go.Pe
open Go Go.RowKit

def St.aR (st : St) (i : Nat) (b : Blk) : St := { st with own := st.own.set i b }
def St.bE (st : St) (b : Blk) : St := { st with own := st.own ++ [b] }

def qS (ops : List Oper) (st : St) (j : Nat) (want : Bool) : Option Bool :=
 match (ops[j]?).bind (·.dst) with
 | some t => match st.get t with
  | .pv (.val (.bool b)) => some (b == want)
  | .iff c (.pv (.val (.bool b))) => some (c && (b == want))
  | _ => none
 | none => none

def aN8 (p : PV) (off : Nat) (new : List PV) : Option PV :=
 match p with
 | .agg cs => if off + new.length ≤ cs.length then some (.agg (aS cs off new)) else none
 | _ => none

def idx (ds : List Nat) (i : Nat) : Nat := match ds with
 | [] => 0
 | d :: r => if d = i then 0 else idx r i + 1

def aK9 (ds : List Nat) : FV → Option FV
 | .pv p => some (.pv p)
 | .own i => if ds.contains i then some (.own (idx ds i)) else none
 | _ => none

def aCV (ds : List Nat) : FV → Option FV
 | .pv p => some (.pv p)
 | .agg cs => (fQ (aK9 ds) cs).map .agg
 | .own i => if ds.contains i then some (.own (idx ds i)) else none
 | .box i off => if ds.contains i then some (.box (idx ds i) off) else none
 | _ => none

def aLA (ds : List Nat) : FV → Option FV
 | .tup cs => (fQ (aCV ds) cs).map .tup
 | x => aCV ds x

def aBG (ds : List Nat) (n i : Nat) : Nat :=
 match ds[i]? with
 | some d => d
 | none => n + i - ds.length

def aEJ (ds : List Nat) (n : Nat) : FV → FV
 | .own i => .own (aBG ds n i)
 | .pv p => .pv p
 | _ => .junk

def aBH (ds : List Nat) (n : Nat) : FV → FV
 | .own i => .own (aBG ds n i)
 | .box i off => .box (aBG ds n i) off
 | .agg cs => .agg (cs.map (aEJ ds n))
 | .pv p => .pv p
 | _ => .junk

def aBI (ds : List Nat) (n : Nat) : FV → FV
 | .tup cs => .tup (cs.map (aBH ds n))
 | x => aBH ds n x

def aG4 : FV → Bool
 | .pv _ => true
 | _ => false

def fN : Blk → Bool
 | .gone => true
 | .row _ _ _ => true
 | .tree _ _ _ _ => true
 | .box cs => cs.all aG4

def eE (ds : List Nat) (new : List Blk) (own : List Blk) : List Blk :=
 match ds, new with
 | d :: ds, b :: new => eE ds new (own.set d b)
 | _, _ => own

def mD : PV → Bool
 | .val _ => true
 | .lst [] => true
 | _ => false

def kH (own : List Blk) (et : TypeId) : FV → Option (PV × List (Nat × List PV))
 | .pv (.val v) => some (kC (.val v), [])
 | .pv (.lst []) => some (.lst [], [])
 | .own j => match own[j]? with
  | some (.row e s l) => if e = et ∧ s = 1 then some (.lst l, [(j, l)]) else none
  | _ => none
 | _ => none

def jE (own : List Blk) (et : TypeId) : List FV → Option (List PV × List (Nat × List PV))
 | [] => some ([], [])
 | x :: r => match kH own et x, jE own et r with
  | some (p, js), some (ps, ks) => some (p :: ps, js ++ ks)
  | _, _ => none

def qT (l : List PV) : Prop := ∀ p ∈ l, ∃ v, p = .val v

def mT : List (Nat × List PV) → Prop
 | [] => True
 | x :: r => qT x.2 ∧ mT r

def St.cV (st : St) : List Nat → St
 | [] => st
 | j :: r => (st.cV r).drop j

def St.aAV (st : St) (i : Nat) (bl : Blk) (js : List Nat) : St := { st.cV js with own := iE js 0 ((st.cV js).own.set i bl) }

def St.aCW (st : St) (e : TypeId) (s : Nat) (et : TypeId) (p : PV) (js : List Nat) : St :=
 ((st.bE (.row e s [])).drop st.own.length).aAV st.own.length (.tree e s et [p]) js

def St.vT (st : St) (i : Nat) : Bool := (st.slots.all fun x => !x.2.oK i) && st.own.all fun b => match b with | .box cs => !rV i cs | _ => true

def setCells (p : PV) (off : Nat) (new : List PV) : PV := .agg (aS p.cells off new)

def gZ (p : PV) (off n : Nat) : Prop := ∀ j, j < n → ∃ v, cellAt p (off + j) = .val v

def rE : List Nat → Bool
 | [] => true
 | x :: r => !r.contains x && rE r

def xN (i s k j : Nat) : FV → Option FV
 | .pv p => some (.pv p)
 | .sub i' s' k' j' => if i' = i ∧ s' = s ∧ k' = k ∧ j' = j then some (.own 0) else none
 | _ => none

def aCX : List FV → Option (Nat × Nat × Nat × Nat)
 | [] => none
 | .sub i s k j :: _ => some (i, s, k, j)
 | _ :: r => aCX r

def aR4 (own : List Blk) : List FV → Option TypeId
 | [] => none
 | .own j :: r => match own[j]? with
  | some (.row e _ _) => some e
  | _ => aR4 own r
 | _ :: r => aR4 own r

def aG5 (P : Program) (gl : List (Nat × Obj)) (st : St) (fid : FuncId) (args : List FV) (K : FV → St → Prop) : Prop :=
 (∃ as R, fK st.own (tX st.own args) args = some as ∧ FS P gl fid as R ∧ ∀ r, R r → K (.pv r) (st.fW (tX st.own args)))
 ∨ (∃ as R, fK st.own (tX st.own args) args = some as ∧ FS P gl fid as R ∧ ∀ r, R r → (∃ v, r = .val v) ∧ K (.pv r) st)
 ∨ (∃ as R, fK st.own (tX st.own args) args = some as ∧ FN P gl fid as R ∧ ∀ own' r, R own' r → (own'.all fN) = true ∧ K (aBI [] st.own.length r) { st with own := st.own ++ own' })
 ∨ (∃ (i s k j : Nat) (e et : TypeId) (els l : List PV) (as : List FV) (R : List Blk → FV → Prop), aCX args = some (i, s, k, j) ∧ st.own[i]? = some (.tree e s et els) ∧ k < els.length ∧ j < s ∧ cellAt (els.getD k (.val (.bool false))) j = .lst l ∧ l ≠ [] ∧
   fQ (xN i s k j) args = some as ∧ FX P gl fid [.row et 1 l] as R ∧
   ∀ own' r, R own' r → ∃ l' x, own' = [.row et 1 l'] ∧ r = .pv (.val x) ∧ qT l' ∧ K (.pv (.val x)) (st.aR i (.tree e s et (els.set k (setCells (els.getD k (.val (.bool false))) j [.lst l'])))))
 ∨ (∃ (ds : List Nat) (bs : List Blk) (as : List FV) (R : List Blk → FV → Prop), ds.Nodup ∧ fQ (fun i => st.own[i]?) ds = some bs ∧ (bs.all fun b => b.live && fN b) = true ∧ fQ (aCV ds) args = some as ∧
   FX P gl fid bs as R ∧ ∀ own' r, R own' r → (own'.all fN) = true ∧ K (aBI ds st.own.length r) { st with own := eE ds own' st.own ++ own'.drop ds.length })

def aTR (i : Nat) : FV → Bool
 | .own j => i == j
 | _ => false

def xO (P : Program) (st : St) (e : TypeId) (s x : FV) (K : FV → St → Prop) : Prop :=
 match mR st.own x with
 | some new => (∀ p ∈ new, kY (P.cellsOf e) p) ∧
  match s with
  | .own i => match st.own[i]? with
   | some (.row e' s' els) => if e' = e ∧ s' = P.cellsOf e ∧ st.k0 ≤ i ∧ aTR i x = false ∧ P.bytesOf e ≤ 1000 ∧ dI P e = true then
     els.length + new.length ≤ 1000000000 ∧ K (.own i) ((st.drop i).aR i (.row e s' (els ++ new)))
    else False
   | _ => False
  | .pv (.val (.slice none 0 0)) => if P.bytesOf e ≤ 1000 ∧ dI P e = true then
    new.length ≤ 1000000000 ∧ K (.own st.own.length) (st.bE (.row e (P.cellsOf e) new))
   else False
  | _ => False
 | none => False

def aCY (P : Program) (st : St) (e t' : TypeId) (s x : FV) (K : FV → St → Prop) : Prop :=
 match P.underlying t' with
 | some (.int .i64) => match s, x with
  | .own i, .pv (.val (.int .i64 n)) => match st.own[i]?, rW P e with
   | some (.row e' s' els), some z => if e' = e ∧ s' = P.cellsOf e ∧ st.k0 ≤ i ∧ P.bytesOf e ≤ 1000 ∧ dI P e = true ∧ z.cells.length = P.cellsOf e then
     0 ≤ n ∧ els.length + (List.replicate n.toNat z).length ≤ 1000000000 ∧ K (.own i) ((st.drop i).aR i (.row e s' (els ++ List.replicate n.toNat z)))
    else False
   | _, _ => False
  | _, _ => False
 | _ => False

def aG6 (P : Program) (st : St) (t : TypeId) (i : Nat) (h : Int) (K : FV → St → Prop) : Prop :=
 match st.own[i]?, dW P t with
 | some (.row e s els), some e' => if e = e' then
   0 ≤ h ∧ h ≤ els.length ∧ if st.k0 ≤ i then K (.own i) ((st.drop i).aR i (.row e s ((els.take h.toNat).drop (0 : Int).toNat)))
    else K (.own st.own.length) { st with own := st.own.set i .gone ++ [.row e s ((els.take h.toNat).drop (0 : Int).toNat)] }
  else False
 | _, _ => False

def aWU : FV → Bool
 | .xl _ => true
 | _ => false

def rF (own : List Blk) : FV → Option (Nat × TypeId × Nat × TypeId × List PV)
 | .own i => match own[i]? with
  | some (.tree e s et els) => some (i, e, s, et, els)
  | _ => none
 | _ => none

def aEK (P : Program) (st : St) (t : TypeId) (i s k off : Nat) (e : TypeId) (s' : Nat) (et : TypeId) (els : List PV) (new : List FV) (K : St → Prop) : Prop :=
 if s' = s then
  k < els.length ∧ new.length = P.cellsOf t ∧ P.cellsOf t ≠ 0 ∧
  if P.cellsOf t = s ∧ off = 0 then
   match jE st.own et new with
   | some (ps, jl) => if rE (jl.map (·.1)) && !(jl.map (·.1)).contains i && st.vT i && decide (st.k0 ≤ i) then
     mT jl ∧ K (st.aAV i (.tree e s et (els.set k (.agg ps))) (jl.map (·.1)))
    else False
   | none => False
  else match fK [] [] new with
   | some pn => if decide (off + pn.length ≤ s) && pn.all mD then
     gZ (els.getD k (.val (.bool false))) off pn.length ∧ K (st.aR i (.tree e s et (els.set k (setCells (els.getD k (.val (.bool false))) off pn))))
    else False
   | none => False
 else False

def aJS (P : Program) (t : TypeId) (i s k off s' : Nat) (els : List PV) (K : FV → Prop) : Prop :=
 if s' = s ∧ off < s ∧ aAM P t = true ∧ eD P t = false then
  k < els.length ∧ match flat P 6 t with
   | [.int q] => cellAt (els.getD k (.val (.bool false))) off = .val (.int q (aCR (els.getD k (.val (.bool false))) off)) ∧ K (.pv (.val (.int q (aCR (els.getD k (.val (.bool false))) off))))
   | [.bool] => cellAt (els.getD k (.val (.bool false))) off = .val (.bool (aKY (els.getD k (.val (.bool false))) off)) ∧ K (.pv (.val (.bool (aKY (els.getD k (.val (.bool false))) off))))
   | [.sl] => (∃ l, cellAt (els.getD k (.val (.bool false))) off = .lst l) ∧ (cellAt (els.getD k (.val (.bool false))) off = .lst [] → K (.pv (.lst []))) ∧
     ((∃ l, l ≠ [] ∧ cellAt (els.getD k (.val (.bool false))) off = .lst l) → K (.sub i s k off))
   | _ => False
 else False

def aEL (P : Program) (st : St) (e : TypeId) (n : Nat) (parts : List (Nat × Operand)) (K : St → Prop) : Prop :=
 match parts with
 | [(0, x)] => match dQ (strip (st.ev x)) with
  | some cs => match aR4 st.own cs with
   | some et => match jE st.own et cs with
    | some (ps, jl) => if n == 1 && cs.length == P.cellsOf e && decide (P.cellsOf e < 65536) && dI P e && rE (jl.map (·.1)) then
      mT jl ∧ K (st.aCW e (P.cellsOf e) et (.agg ps) (jl.map (·.1)))
     else False
    | none => False
   | none => False
  | none => False
 | _ => False

def aBJ (P : Program) (st : St) (e : TypeId) (i : Nat) (e' : TypeId) (s' : Nat) (et : TypeId) (els : List PV) (x : FV) (K : FV → St → Prop) : Prop :=
 if e' = e ∧ s' = P.cellsOf e ∧ st.k0 ≤ i ∧ P.bytesOf e ≤ 1000 ∧ dI P e = true then
  match rF st.own x with
  | some (i2, e2, s2, et2, new) => if i2 ≠ i ∧ e2 = e' ∧ s2 = s' ∧ et2 = et then
    els.length + new.length ≤ 1000000000 ∧ K (.own i) ((st.drop i).aAV i (.tree e' s' et (els ++ new)) [i2])
   else False
  | none => match mR st.own x with
   | some new => (∀ p ∈ new, kY (P.cellsOf e) p) ∧ (∀ p ∈ new, (p.cells.all mD) = true) ∧ els.length + new.length ≤ 1000000000 ∧ K (.own i) ((st.drop i).aAV i (.tree e' s' et (els ++ new)) [])
   | none => False
 else False

def aN9 (P : Program) (gl : List (Nat × Obj)) (o : Oper) (st : St) (K : St → Prop) : Prop :=
 match o.op with
 | .alloc t => match aD6 P t with
  | some cs => K ((st.bE (.box cs)).put o.dst (.box st.own.length 0))
  | none => False
 | .box _ x => bB none (st.ev x) ∧ match dQ (strip (st.ev x)) with
  | some cs => K ((st.bE (.box cs)).put o.dst (.box st.own.length 0))
  | none => False
 | .store t p x => bB none (st.ev p) ∧ bB none (st.ev x) ∧ match strip (st.ev p), dQ (strip (st.ev x)) with
  | .box i off, some new => match st.own[i]? with
   | some (.box cs) => new.length = P.cellsOf t ∧ P.cellsOf t ≠ 0 ∧ off + new.length ≤ cs.length ∧ K ((st.aR i (.box (aS cs off new))).put o.dst .junk)
   | _ => False
  | .relt i s k off, some new => match st.own[i]? with
   | some (.row e s' els) => if s' = s then
     k < els.length ∧ new.length = P.cellsOf t ∧ P.cellsOf t ≠ 0 ∧
     if P.cellsOf t = s ∧ off = 0 then
      match fJ [] [] 8 (strip (st.ev x)) with
      | some p => kY s p ∧ K ((st.aR i (.row e s (els.set k p))).put o.dst .junk)
      | none => False
     else match fK [] [] new with
      | some pn => match aN8 (els.getD k (.val (.bool false))) off pn with
       | some p => K ((st.aR i (.row e s (els.set k p))).put o.dst .junk)
       | none => False
      | none => False
    else False
   | some (.tree e s' et els) => aEK P st t i s k off e s' et els new (fun st' => K (st'.put o.dst .junk))
   | _ => False
  | _, _ => False
 | .load t x => match strip (st.ev x) with
  | .relt i s k off => match st.own[i]? with
   | some (.tree _ s' _ els) => bB none (st.ev x) ∧ aJS P t i s k off s' els (fun v => K (st.put o.dst v))
   | _ => qop P gl st none o (fun x => K (st.put o.dst x))
  | _ => qop P gl st none o (fun x => K (st.put o.dst x))
 | .binOp .eql t x (.const (.slice none 0 0)) _ => bB none (st.ev x) ∧ match dW P t, strip (st.ev x) with
  | some _, .pv (.lst els) => ∀ b : Bool, (b = true → els = []) → K (st.put o.dst (.pv (.val (.bool b))))
  | _, _ => False
 | .makeSlice t l c => bB none (st.ev l) ∧ bB none (st.ev c) ∧ match dW P t with
  | some e => match rW P e, strip (st.ev l), strip (st.ev c) with
   | some z, .pv (.val (.int _ n)), .pv (.val (.int _ n')) =>
    if P.bytesOf e ≤ 1000 ∧ z.cells.length = P.cellsOf e then
     0 ≤ n ∧ n ≤ n' ∧ n' ≤ 1000000000 ∧ K ((st.bE (.row e (P.cellsOf e) (List.replicate n.toNat z))).put o.dst (.own st.own.length))
    else False
   | _, _, _ => False
  | none => False
 | .buildSlice t n parts => bN none st (parts.toList.map (·.2)) ∧
  match dW P t, fK [] [] (parts.toList.map fun x => strip (st.ev x.2)) with
  | some e, some els => if iQ 0 parts.toList && n == parts.size && n * P.cellsOf e < 65536 && dI P e then
    (∀ p ∈ els, kY (P.cellsOf e) p) ∧ K ((st.bE (.row e (P.cellsOf e) els)).put o.dst (.own st.own.length)) else False
  | some e, none => aEL P st e n parts.toList (fun st' => K (st'.put o.dst (.own st.own.length)))
  | _, _ => False
 | .call { callee := .builtin .append, args, argTypes } => match two args.toList, two argTypes.toList with
  | some (s, x), some (t, t') => match aWU (st.ev s) with
   | true => qop P gl st none o (fun x => K (st.put o.dst x))
   | false => bB none (st.ev s) ∧ bB none (st.ev x) ∧ match dW P t with
    | some e => match rF st.own (strip (st.ev s)) with
     | some (i, e', s', et, els) => if t' = t then aBJ P st e i e' s' et els (strip (st.ev x)) (fun v st' => K (st'.put o.dst v)) else False
     | none => if t' = t then xO P st e (strip (st.ev s)) (strip (st.ev x)) (fun v st' => K (st'.put o.dst v)) else aCY P st e t' (strip (st.ev s)) (strip (st.ev x)) (fun v st' => K (st'.put o.dst v))
    | none => False
  | _, _ => False
 | .slice t x none (some q) none => match strip (st.ev x), strip (st.ev q) with
  | .own i, .pv (.val (.int _ h)) => bB none (st.ev x) ∧ bB none (st.ev q) ∧ aG6 P st t i h (fun v st' => K (st'.put o.dst v))
  | _, _ => qop P gl st none o (fun x => K (st.put o.dst x))
 | .call { callee := .value f, args, .. } => bN none st (f :: args.toList) ∧
  match aAN (strip (st.ev f)) with
  | some (fid, caps) => aG5 P gl st fid ((args.toList.map fun x => strip (st.ev x)) ++ caps) (fun v st' => K (st'.put o.dst v))
  | none => False
 | _ => qop P gl st none o (fun x => K (st.put o.dst x))

def aEM (P : Program) (gl : List (Nat × Obj)) (ops : List Oper) (o : Oper) (st : St) (K : FV → Prop) : Prop :=
 match o.guard with
 | none => qop P gl st none o K
 | some (j, want) => match qS ops st j want with
  | some g => qop P gl st (some g) o (fun x => K (.iff g x))
  | none => False

def uE (P : Program) (gl : List (Nat × Obj)) (ops : List Oper) (o : Oper) (st : St) (K : St → Prop) : Prop :=
 match o.guard with
 | none => aN9 P gl o st K
 | some (j, want) => match qS ops st j want with
  | some g => qop P gl st (some g) o (fun x => K (st.put o.dst (.iff g x)))
  | none => False

def xP (P : Program) (gl : List (Nat × Obj)) (ops : List Oper) : List Oper → St → (St → Prop) → Prop
 | [], st, K => K st
 | o :: r, st, K => uE P gl ops o st (fun st' => xP P gl ops r st' K)

def cX (P : Program) (o : Oper) : Option (List FV) :=
 match o.guard, o.op with
 | none, .alloc t => aD6 P t
 | _, _ => none

def qB (P : Program) (gl : List (Nat × Obj)) (ops : List Oper) : Nat → List Oper → St → (St → Prop) → Prop
 | _, [], st, K => K st
 | c, o :: r, st, K => match cX P o with
  | some _ => qB P gl ops (c + 1) r (st.put o.dst (.box c 0)) K
  | none => aEM P gl ops o st (fun x => qB P gl ops c r (st.put o.dst x) K)

def bV (P : Program) : Nat → Nat → List Oper → List (Nat × Nat × List FV)
 | _, _, [] => []
 | i, c, o :: r => match cX P o with
  | some cs => (i, c, cs) :: bV P (i + 1) (c + 1) r
  | none => bV P (i + 1) c r

def ovl (D : Nat → Bool) : List (Nat × Nat × List FV) → List Blk → List Blk
 | [], own => own
 | (i, c, cs) :: r, own => ovl D r (if D i then own.set c (.box cs) else own)

def St.gG (st : St) (n : Nat) : St := { st with own := st.own ++ List.replicate n .gone }
def St.over (st : St) (D : Nat → Bool) (F : List (Nat × Nat × List FV)) : St := { st with own := ovl D F st.own }

def eF : List (List Nat) → List Oper → List (List Nat)
 | acc, [] => acc
 | acc, o :: r => eF (acc ++ [o.after.toList.flatMap fun e => if Region.binds .any e then e.on :: acc.getD e.on [] else []]) r

def aG7 (an : List (List Nat)) (k : Nat) : Bool := (List.range k).all fun j => (an.getD k []).contains j

def bM (an : List (List Nat)) : Nat → Nat
 | 0 => 0
 | k + 1 => if aG7 an k then bM an k else k + 1

def dK (ops : List Oper) (o : Oper) : List Tmp :=
 (o.op.operands.toList.filterMap fun | .tmp t => some t | _ => none) ++
 (match o.guard with
  | some (g, _) => ((ops[g]?).bind (·.dst)).toList
  | none => [])

def cD (ops : List Oper) (i : Nat) : Option Tmp := (ops[i]?).bind (·.dst)

def qC (ops : List Oper) (an : List (List Nat)) (p : Nat) : Bool :=
 ((List.range ops.length).all fun i => ((ops.getD i default).after.toList.all fun e => !Region.binds .any e || decide (e.on < i))) &&
 (List.range p).all fun i => (List.range p).all fun j =>
  (i == j || cD ops i == none || !(cD ops i == cD ops j)) &&
  ((dK ops (ops.getD i default)).all fun t => !(cD ops j == some t) || ((an.getD i []).contains j && decide (j < i)))

def aCZ (o : Oper) : Bool :=
 match o.op with
 | .store _ _ _ => true
 | _ => false

def uF (o : Oper) : Bool :=
 match o.guard, o.op with
 | none, .move _ => true
 | none, .extract _ _ => true
 | none, .load _ _ => true
 | none, .fieldAddr _ _ _ => true
 | _, _ => false

def aTS (ops : List Oper) (an : List (List Nat)) (p : Nat) : Bool :=
 (List.range ops.length).all fun k => decide (k < p) || ((List.range k).all fun j => (an.getD k []).contains j || (decide (j < p) && uF (ops.getD j default)))

def storeAt : List Oper → Nat
 | [] => 0
 | o :: r => if aCZ o then 0 else storeAt r + 1

def aG8 (ops : List Oper) (_an : List (List Nat)) : Nat := storeAt ops

def lF (ops : List Oper) (an : List (List Nat)) (p : Nat) : List Nat :=
 (List.range p).filter fun j => (List.range ops.length).any fun k => decide (p ≤ k) && !(an.getD k []).contains j

def noSelect (o : Oper) : Bool :=
 match o.op with
 | .select _ _ => false
 | _ => true

def sK (ops : List Oper) (an : List (List Nat)) (p : Nat) : Bool :=
 ops.all noSelect && qC ops an p && decide (p ≤ ops.length) && aTS ops an p && (List.range ops.length).all fun k => decide (k < p) || ((List.range p).all fun j => (an.getD k []).contains j || (dK ops (ops.getD k default)).all fun t => !(cD ops j == some t))

def oP (P : Program) (ops : List Oper) (st : St) (j : Nat) : Prop :=
 bN none st (ops.getD j default).op.operands.toList ∧
 match pop P st.own (fun x => strip (st.ev x)) (ops.getD j default).op with
 | some (ob, x) => ob ∧ match (ops.getD j default).dst with
  | some t => st.get t = x
  | none => True
 | none => False

def recheck (P : Program) (ops : List Oper) (st : St) : List Nat → Prop
 | [] => True
 | j :: r => oP P ops st j ∧ recheck P ops st r

def aG9 (P : Program) (gl : List (Nat × Obj)) (ops : List Oper) (an : List (List Nat)) (lt : List Nat) : Nat → List Oper → St → (St → Prop) → Prop
 | _, [], st, K => K st
 | k, o :: r, st, K => uE P gl ops o st (fun st' => recheck P ops st' (lt.filter fun j => !(an.getD k []).contains j) ∧ aG9 P gl ops an lt (k + 1) r st' K)

def aOA (P : Program) (gl : List (Nat × Obj)) (ops : List Oper) (an : List (List Nat)) (p : Nat) (st : St) (K : St → Prop) : Prop :=
 if sK ops an p then
  qB P gl ops st.own.length (ops.take p) (st.gG (bV P 0 st.own.length (ops.take p)).length)
   (fun st' => recheck P ops (st'.over (fun _ => true) (bV P 0 st.own.length (ops.take p))) (lF ops an p) ∧
    aG9 P gl ops an (lF ops an p) p (ops.drop p) (st'.over (fun _ => true) (bV P 0 st.own.length (ops.take p))) K)
 else False

def dX (P : Program) (gl : List (Nat × Obj)) (ops : List Oper) (draw : Bool) (st : St) (K : St → Prop) : Prop :=
 if draw then
  match (ops.take (bM (eF [] ops) ops.length)).all (fun o => !aCZ o) with
  | true =>
   if qC ops (eF [] ops) (bM (eF [] ops) ops.length) then
    qB P gl ops st.own.length (ops.take (bM (eF [] ops) ops.length)) (st.gG (bV P 0 st.own.length (ops.take (bM (eF [] ops) ops.length))).length)
     (fun st' => xP P gl ops (ops.drop (bM (eF [] ops) ops.length)) (st'.over (fun _ => true) (bV P 0 st.own.length (ops.take (bM (eF [] ops) ops.length)))) K)
   else False
  | false => aOA P gl ops (eF [] ops) (aG8 ops (eF [] ops)) st K
 else xP P gl ops ops st K

def dY (c : Nat) (o : Oper) : Oper :=
 { o with after := ((o.after.toList.filter fun e => decide (c ≤ e.on)).map fun e => { e with on := e.on - c }).toArray, guard := o.guard.map fun x => (x.1 - c, x.2) }

def wU (ops : List Oper) (an : List (List Nat)) (c : Nat) : Bool :=
 ((List.range ops.length).all fun i => ((ops.getD i default).after.toList.all fun e => !Region.binds .any e || decide (e.on < i)) &&
  (match (ops.getD i default).guard with
   | some (g, _) => if i < c then decide (g < c) else decide (c ≤ g)
   | none => true)) &&
 (List.range ops.length).all fun k => decide (k < c) || ((List.range c).all fun j => (an.getD k []).contains j)

def cutAt (ops : List Oper) : Option Nat := (List.range ops.length).find? fun c => decide (0 < c) && wU ops (eF [] ops) c

def sL (P : Program) (gl : List (Nat × Obj)) : Nat → List Oper → St → (St → Prop) → Prop
 | 0, ops, st, K => dX P gl ops true st K
 | n + 1, ops, st, K => match cutAt ops with
  | some c => dX P gl (ops.take c) true st (fun st' => sL P gl n ((ops.drop c).map (dY c)) st' K)
  | none => dX P gl ops true st K

inductive Ex where
 | normal
 | exit (id : Nat)
 | ret

inductive qP where
 | slot (t : Nat) (e : TypeId) (s : Nat)
 | cell (i j : Nat) (e : TypeId) (s : Nat)
 | move (i : Nat)
 | nilc (i j : Nat)
 | nils (t : Nat)
 | tree (i : Nat) (et : TypeId)

def aJT (i j : Nat) : FV → FV
 | .own k => if k = i then .own j else .own k
 | x => x

def isNil : FV → Bool
 | .pv (.val (.slice none 0 0)) => true
 | _ => false

def St.lift (st : St) : qP → St
 | .slot t e s => if isNil (st.get t) ∧ 0 < s then { (st.bE (.row e s [])) with slots := (t, .own st.own.length) :: st.slots } else st
 | .cell i j e s => match st.own[i]? with
  | some (.box cs) => if isNil (cs.getD j .junk) ∧ 0 < s then (st.aR i (.box (cs.set j (.own st.own.length)))).bE (.row e s []) else st
  | _ => st
 | .move i => match st.own[i]? with
  | some (.row e s els) => { st with own := st.own.set i .gone ++ [.row e s els], slots := st.slots.map fun x => (x.1, aJT i st.own.length x.2) }
  | _ => st
 | .nilc i j => match st.own[i]? with
  | some (.box cs) => if isNil (cs.getD j .junk) then st.aR i (.box (cs.set j (.pv (.lst [])))) else st
  | _ => st
 | .nils t => if isNil (st.get t) then { st with slots := (t, .pv (.lst [])) :: st.slots } else st
 | .tree i et => match st.own[i]? with
  | some (.row e s els) => st.aR i (.tree e s et els)
  | _ => st

def St.aHA (st : St) : qP → Prop
 | .tree i _ => match st.own[i]? with
  | some (.row _ _ els) => st.k0 ≤ i ∧ ∀ p ∈ els, (p.cells.all mD) = true
  | _ => True
 | _ => True

def St.bJ (st : St) : List qP → St
 | [] => st
 | l :: r => (st.lift l).bJ r

def St.qD (st : St) : List qP → Prop
 | [] => True
 | l :: r => st.aHA l ∧ (st.lift l).qD r

def oQ (k : Nat) (n : Nat) (x : FV) : Bool := (List.range n).all fun i => decide (i < k) || !x.cK i

def St.norm (st : St) (keep : List Nat) (k : Nat) : Option St :=
 if decide (st.k0 ≤ k) && (keep.all fun t => oQ k st.own.length (st.get t)) && ((st.own.take k).all fun b => match b with | .box cs => cs.all (oQ k st.own.length) | _ => true) then
  some { st with slots := keep.map fun t => (t, st.get t), own := st.own.take k }
 else none

def reO (i j : Nat) (x : FV) : FV := match x with
 | .own k => if k = j then .own i else if k = i then .junk else .own k
 | x => if x.cK i || x.cK j then .junk else x

def reB (i j : Nat) : Blk → Blk
 | .box cs => .box (cs.map (reO i j))
 | b => b

def St.aEN (st : St) (i j : Nat) : St :=
 if decide (i ≠ j) && decide (i < st.own.length) && decide (j < st.own.length) && decide (st.k0 ≤ i) && decide (st.k0 ≤ j) then
  { st with own := ((st.own.set i (st.own.getD j .gone)).set j .gone).map (reB i j), slots := st.slots.map fun x => (x.1, reO i j x.2) }
 else st

def St.rG (st : St) : List (Nat × Nat) → St
 | [] => st
 | x :: r => (st.aEN x.1 x.2).rG r

inductive Md where
 | any
 | cut
 | ret
 | rc

def xQ (st : St) : List FV → List Nat
 | [] => []
 | .own j :: r => match st.own[j]? with
  | some (.row _ _ _) => j :: xQ st r
  | some (.tree _ _ _ _) => j :: xQ st r
  | _ => xQ st r
 | _ :: r => xQ st r

def eY (st : St) : List Oper → List Nat
 | [] => []
 | o :: r => match o.op with
  | .load _ x => match st.ev x with
   | .box i _ => match st.own[i]? with
    | some (.box cs) => xQ st cs ++ eY st r
    | _ => eY st r
   | _ => eY st r
  | _ => eY st r

def gH (st : St) : List Oper → List Nat
 | [] => []
 | o :: r => match o.op with
  | .move x => match st.ev x with
   | .own i => match st.own[i]? with
    | some (.row _ _ _) => i :: gH st r
    | some (.tree _ _ _ _) => i :: gH st r
    | _ => gH st r
   | _ => gH st r
  | _ => gH st r

def fZ (P : Program) (gl : List (Nat × Obj)) (b : Md) : Code → (Ex → St → Prop) → St → Prop
 | .skip, Q, st => Q .normal st
 | .region _ ops draw, Q, st => match draw with
  | true => match b with
   | .any => dX P gl ops.toList true st (Q .normal)
   | .cut => sL P gl ops.toList.length ops.toList st (Q .normal)
   | .ret => dX P gl ops.toList true (st.fW (gH st ops.toList)) (Q .normal)
   | .rc => sL P gl ops.toList.length ops.toList (st.fW (eY st ops.toList)) (Q .normal)
  | false => dX P gl ops.toList false st (Q .normal)
 | .seq x y, Q, st => fZ P gl b x (fun e s => match e with
  | .normal => fZ P gl b y Q s
  | e => Q e s) st
 | .cond c x y, Q, st => match st.ev c with
  | .pv (.val (.bool t)) => (t = true → fZ P gl b x Q st) ∧ (t = false → fZ P gl b y Q st)
  | _ => False
 | .block id c, Q, st => fZ P gl b c (fun e s => match e with
  | .exit i => if i = id then Q .normal s else Q (.exit i) s
  | e => Q e s) st
 | .loop c, Q, st => ∃ (ls : List qP) (keep : List Nat) (k : Nat) (ι : Type) (f : ι → St) (μ : ι → Nat) (i0 : ι) (rl : List (Nat × Nat)), st.qD ls ∧ (st.bJ ls).norm keep k = some (f i0) ∧
   ∀ i, fZ P gl b c (fun e s => match e with
    | .normal => ∃ j, (s.rG rl).norm keep k = some (f j) ∧ μ j < μ i
    | e => Q e s) (f i)
 | .exit id, Q, st => Q (.exit id) st
 | .ret, Q, st => Q .ret st
 | .label _, Q, st => Q .normal st
 | _, _, _ => False

def aC0 (P : Program) (st : St) : ResultVar → Option (Prop × FV)
 | .tmp t => some (bB none (st.get t), strip (st.get t))
 | .cell a t => pop P st.own st.ev (.load t (.tmp a))

def mU (P : Program) (st : St) : List ResultVar → Option (Prop × List FV)
 | [] => some (True, [])
 | r :: rs => match aC0 P st r, mU P st rs with
  | some (o1, x), some (o2, xs) => some (o1 ∧ o2, x :: xs)
  | _, _ => none

def hC : List FV → FV
 | [x] => x
 | xs => .tup xs

def aR5 (P : Program) (fn : Func) (R : PV → Prop) (e : Ex) (st : St) : Prop :=
 match e with
 | .exit _ => False
 | _ => match mU P st fn.results.toList with
  | some (o, xs) => o ∧ match fJ st.own (List.range st.own.length) 8 (hC xs) with
   | some p => R p
   | none => False
  | none => False

def aR6 (P : Program) (fn : Func) (k0 : Nat) (R : List Blk → FV → Prop) (e : Ex) (st : St) : Prop :=
 match e with
 | .exit _ => False
 | _ => match mU P st fn.results.toList with
  | some (o, xs) => o ∧ st.k0 = k0 ∧ ∃ (es : List Nat) (bs : List Blk) (x : FV), es.Nodup ∧ k0 ≤ es.length ∧ es.take k0 = List.range k0 ∧ fQ (fun i => st.own[i]?) es = some bs ∧ (bs.all fN) = true ∧ aLA es (hC xs) = some x ∧ R bs x
  | none => False

def cS : Nat → List FV → List (Nat × FV)
 | _, [] => []
 | n, x :: r => (n, x) :: cS (n + 1) r

end Go.Pe

/- A frame reads as a state. -/
namespace Go.Pe
open Go Go.RowKit

structure Env (P : Program) (gl : List (Nat × Obj)) (S X : Nat → Prop) (w0 : World) : Prop where
 mix : P.follows .mixedOrders = true
 gl0 : aCP gl w0
 glX : ∀ b, X b → ∀ x ∈ gl, x.1 ≠ b
 Slt : ∀ b, S b → b < w0.heap.size
 SX : ∀ b, S b → ¬ X b
 Xlt : ∀ b, X b → b < w0.heap.size
 zf : ∀ t, dI P t = true → sI P t = true

structure Sim (S X : Nat → Prop) (w0 : World) (m0 : Nat → Option MV) (st : St) (a : Act) (w : World) (m : Nat → Option MV) : Prop where
 bel : aG0 X w0 w
 ows : tY w (aH S X w0.heap.size w m st.own) m st.own
 bnd : ∀ i b, aK st.own i → bA m i b → w0.heap.size ≤ b ∨ X b
 fix : ∀ i, i < st.k0 → m i = m0 i
 k0 : st.k0 ≤ st.own.length
 nt : a.tmps.size = st.nt
 df : a.defers = []
 slots : ∀ t, aF w (aH S X w0.heap.size w m st.own) m (a.tmps.getD t undef) (st.get t)

section
variable {P : Program} {gl : List (Nat × Obj)} {S X : Nat → Prop} {w0 w w' : World} {m0 m : Nat → Option MV} {st : St} {a : Act}

theorem Sim.aLB (E : Env P gl S X w0) (h : Sim S X w0 m0 st a w m) : aCP gl w := by
 intro x hx
 have h0 := E.gl0 x hx
 have hlt : x.1 < w0.heap.size := (Array.getElem?_eq_some_iff.1 h0).1
 rw [h.bel.block x.1 hlt (fun hX => E.glX _ hX x hx rfl)]
 exact h0

theorem bP (E : Env P gl S X w0) (h : Sim S X w0 m0 st a w m) {b : Nat} (hb : aH S X w0.heap.size w m st.own b) : b < w.heap.size := by
 rcases hb with hb | hb
 ·exact Nat.lt_of_lt_of_le (E.Slt b hb) h.bel.size
 ·exact hb.2.1

theorem Sim.eQ (h : Sim S X w0 m0 st a w m) : ∀ i b v, st.own[i]? = some b → b.live = true → m i = some v → cY w (aH S X w0.heap.size w m st.own) m v b := by
 intro i b v hb hl hv
 obtain ⟨v', hv', hok⟩ := h.ows.ok i b hb hl
 rw [hv] at hv'
 cases hv'
 exact hok

theorem mV {w w' : World} {e : TypeId} {s n : Nat} {v : Value} {xs : List Value} (h : w.ownsRow 0 e s v n xs) (hv : ∀ b, blk v = some b → w'.heap[b]? = w.heap[b]?) : w'.ownsRow 0 e s v n xs := by
 refine ⟨h.1, ?_⟩
 rcases h.2 with hn | ⟨g, cap, cur, rfl, h3, h4, h5⟩
 ·exact .inl hn
 ·exact .inr ⟨g, cap, cur, rfl, h3, by rw [hv g rfl]; exact h4, h5⟩

theorem fP.mono {w w' : World} {N N' : Nat → Prop} {v : Value} {e : TypeId} {s : Nat} {els : List PV} (h : fP w N v e s els)
  (hw : ∀ b, N b → w'.heap[b]? = w.heap[b]?) (hN : ∀ b, N b → N' b) (hv : ∀ b, blk v = some b → w'.heap[b]? = w.heap[b]?) : fP w' N' v e s els := by
 obtain ⟨xs, f, aM, hs, hx, h1, h2, hr⟩ := h
 exact ⟨xs, f, mV aM hv, hs, hx, h1, h2, fun k hk j hj => (hr k hk j hj).mono hw hN⟩

theorem aAL.mono {w w' : World} {et : TypeId} {u g : Value} {p : PV} (h : aAL w et u g p) (hv : ∀ b, blk g = some b → w'.heap[b]? = w.heap[b]?) : aAL w' et u g p := by
 rcases h with ⟨h0, h⟩ | ⟨l, rfl, rfl, h⟩
 ·exact .inl ⟨h0, h.mono (fun _ h => h.elim) (fun _ h => h)⟩
 ·exact .inr ⟨l, rfl, rfl, h.mono (fun _ h => h.elim) (fun _ h => h) hv⟩

theorem lR.mono {w w' : World} {v : MV} {e : TypeId} {s : Nat} {et : TypeId} {els : List PV} (h : lR w v e s et els) (hv : ∀ b, hasB v b → w'.heap[b]? = w.heap[b]?) : lR w' v e s et els := by
 obtain ⟨xs, f, h1, h2, h3, h4, h5, h6, h7, h8⟩ := h
 refine ⟨xs, f, mV h1 (fun b hb => hv b (.inl hb)), h2, h3, h4, h5, h6, fun k hk j hj => ?_, h8⟩
 obtain ⟨g, hg, hl⟩ := h7 k hk j hj
 exact ⟨g, hg, hl.mono (fun b hb => hv b (.inr ⟨g, List.mem_of_getElem? hg, hb⟩))⟩

theorem cY.mono {w w' : World} {N N' : Nat → Prop} {m m' : Nat → Option MV} {v : MV} {bl : Blk} (h : cY w N m v bl)
  (hw : ∀ b, N b → w'.heap[b]? = w.heap[b]?) (hN : ∀ b, N b → N' b) (hm : ∀ i v, m i = some v → m' i = some v)
  (hv : ∀ b, hasB v b → w'.heap[b]? = w.heap[b]?) : cY w' N' m' v bl := by
 cases bl with
 | gone => trivial
 | box cs =>
  obtain ⟨h0, b, T, f, h9, hh, h1, hr⟩ := h
  exact ⟨h0, b, T, f, h9, by rw [hv b (.inl (by rw [h9]; rfl))]; exact hh, h1, fun j hj => (hr j hj).mono hw hN hm⟩
 | row e s els => exact ⟨h.1, h.2.mono hw hN (fun b hb => hv b (.inl hb))⟩
 | tree e s et els => exact lR.mono h hv

theorem aP {m : Nat → Option MV} {i b : Nat} {v : MV} (h : m i = some v) (hb : hasB v b) : bA m i b := ⟨v, h, hb⟩

theorem qE {m : Nat → Option MV} {i b : Nat} {v : MV} (h : m i = some v) (hb : blk v.1 = some b) : jI m i = some b := by
 unfold jI; rw [h]; exact hb

theorem sM (l : List (Nat × FV)) (t q : Nat) (x : FV) : look ((t, x) :: l) q = if q = t then x else look l q := rfl

theorem aOB {tmps : Array Value} {t q : Nat} {v : Value} (ht : t < tmps.size) : (tmps.setIfInBounds t v).getD q undef = if q = t then v else tmps.getD q undef := by
 simp only [Array.getD_eq_getD_getElem?, Array.getElem?_setIfInBounds]
 by_cases h : q = t
 ·subst h; simp [ht]
 ·rw [if_neg (fun e => h e.symm), if_neg h]

theorem Sim.put (h : Sim S X w0 m0 st a w m) {dst : Option Nat} {v : Value} {x : FV} (hx : aF w (aH S X w0.heap.size w m st.own) m v x) :
  Sim S X w0 m0 (st.put dst x) (a.put dst v) w m := by
 cases dst with
 | none => exact h
 | some t =>
  unfold St.put
  simp only
  split
  ·rename_i ht
   refine ⟨h.bel, h.ows, h.bnd, h.fix, h.k0, by simpa [Act.put] using h.nt, h.df, fun q => ?_⟩
   simp only [Act.put, St.get, sM]
   rw [aOB (by rw [h.nt]; exact ht)]
   split
   ·exact hx
   ·exact h.slots q
  ·rename_i ht
   refine ⟨h.bel, h.ows, h.bnd, h.fix, h.k0, by simpa [Act.put] using h.nt, h.df, fun q => ?_⟩
   have : (a.put (some t) v).tmps = a.tmps := by
    simp only [Act.put]
    apply Array.ext
    ·simp
    ·intro j h1 h2
     rw [Array.getElem_setIfInBounds]
     rw [if_neg (by intro e; subst e; rw [h.nt] at h2; exact ht h2)]
   rw [this]
   exact h.slots q

theorem Sim.below (E : Env P gl S X w0) (h : Sim S X w0 m0 st a w m) (hb : Below w.heap.size w w') : Sim S X w0 m0 st a w' m := by
 have hN : ∀ b, aH S X w0.heap.size w m st.own b → aH S X w0.heap.size w' m st.own b := by
  rintro b (hb' | ⟨h1, h2, h3⟩)
  ·exact .inl hb'
  ·exact .inr ⟨h1, Nat.lt_of_lt_of_le h2 hb.size, h3⟩
 have hw : ∀ b, aH S X w0.heap.size w m st.own b → w'.heap[b]? = w.heap[b]? := fun b hb' => hb.block b (bP E h hb')
 refine ⟨⟨hb.os.trans h.bel.os, hb.tape.trans h.bel.tape, hb.output.trans h.bel.output, Nat.le_trans h.bel.size hb.size, fun k hk hX => (hb.block k (Nat.lt_of_lt_of_le hk h.bel.size)).trans (h.bel.block k hk hX)⟩, ?_, h.bnd, h.fix, h.k0, h.nt, h.df, fun t => (h.slots t).mono hw hN (fun _ _ => id)⟩
 refine ⟨h.ows.len, fun i bl hi hl => ?_, h.ows.sep, fun i b hl hm => Nat.lt_of_lt_of_le (h.ows.lt i b hl hm) hb.size, fun i b hl hm => ?_⟩
 ·obtain ⟨v, hv, hok⟩ := h.ows.ok i bl hi hl
  exact ⟨v, hv, hok.mono hw hN (fun _ _ => id) (fun b hbv => hb.block b (h.ows.lt i b ⟨bl, hi, hl⟩ (aP hv hbv)))⟩
 ·have := h.ows.out i b hl hm
  rintro (hS | ⟨_, _, h3⟩)
  ·exact this (.inl hS)
  ·exact h3 i hl hm

theorem gA (E : Env P gl S X w0) (h : Sim S X w0 m0 st a w m) {o : Oper} {x : FV} (hq : QOk P gl st.own st.ev o x)
  {next : Act → World → Prop} {Q : Exit → Act → World → Prop} (hev : ∀ q ∈ o.op.operands.toList, aF w (aH S X w0.heap.size w m st.own) m (a.eval q) (st.ev q))
  (hn : ∀ v w', Sim S X w0 m0 st a w' m → aF w' (aH S X w0.heap.size w' m st.own) m v x → next (a.put o.dst v) w') : o.wp P a w next Q := by
 refine hq w _ m a next Q (h.aLB E) (fun b => bP E h) h.eQ (fun i v hv => (h.ows.len i v hv).2.1) hev (fun v w' hb hr => hn v w' (h.below E hb) (hr.mono (fun _ _ => rfl) ?_ (fun _ _ => id)))
 rintro b (hb' | ⟨h1, h2⟩)
 ·rcases hb' with hb' | ⟨h1, h2, h3⟩
  ·exact .inl hb'
  ·exact .inr ⟨h1, Nat.lt_of_lt_of_le h2 hb.size, h3⟩
 ·refine .inr ⟨.inl (Nat.le_trans h.bel.size h1), h2, fun i hl hm => ?_⟩
  have := h.ows.lt i b hl hm
  omega

theorem aEO {N : Nat → Prop} (v : Value) : aF w N m v (aCO v) := by
 unfold aCO
 split
 ·rename_i cs
  split
  ·rename_i cU
   obtain ⟨f, hf, h1, hr⟩ := vS (w := w) (m := m) (N := N) cU
   have := aF.agg _ f h1 hr
   rw [← hf] at this
   exact this
  ·exact .junk _
 ·split
  ·rename_i hf
   exact fM hf
  ·exact .junk _

theorem Sim.evs (h : Sim S X w0 m0 st a w m) (q : Operand) : aF w (aH S X w0.heap.size w m st.own) m (a.eval q) (st.ev q) := by
 cases q with
 | tmp t => exact h.slots t
 | const v => exact aEO v
 | func f => exact .pv _ _ (.fn f [] (fun _ => .bool false) (fun j hj => by simp at hj))
 | global g => exact .junk _

theorem mW (h : Sim S X w0 m0 st a w m) {ops : Array Oper} {o : Oper} {j : Nat} {want g : Bool} (ho : o.guard = some (j, want)) (hg : qS ops.toList st j want = some g) :
  Region.wanted o (yielded ops a.tmps) = g := by
 unfold qS at hg
 have e : (ops.toList[j]?).bind (·.dst) = (ops[j]?).bind (·.dst) := by simp
 rw [e] at hg
 unfold Region.wanted yielded
 rw [ho]
 simp only
 cases hd : (ops[j]?).bind (·.dst) with
 | none => simp [hd] at hg
 | some t =>
  simp only [hd] at hg
  simp only [Option.bind_some]
  have hs := h.slots t
  have cM : ∀ b, a.tmps.getD t undef = .bool b → a.tmps[t]? = some (.bool b) := by
   intro b hb
   rw [Array.getD_eq_getD_getElem?] at hb
   cases hq : a.tmps[t]? with
   | none => simp [hq, undef] at hb
   | some v => simp [hq] at hb; rw [hb]
  split at hg
  ·rename_i b hb
   simp only [Option.some.injEq] at hg
   subst hg
   rw [hb] at hs
   rw [cM b hs.bS]
   simp [BEq.comm]
  ·rename_i c b hb
   simp only [Option.some.injEq] at hg
   subst hg
   rw [hb] at hs
   generalize hav : a.tmps.getD t undef = av at hs
   cases hs with | iff _ _ _ h1 h2 =>
   cases c with
   | true =>
    rw [cM b (hav.trans (h1 rfl).bS)]
    simp
   | false =>
    have := hav.trans (h2 rfl)
    rw [Array.getD_eq_getD_getElem?] at this
    cases hq : a.tmps[t]? with
    | none => simp
    | some v => simp [hq] at this; subst this; simp [undef]
  ·cases hg

theorem Sim.aR7 (E : Env P gl S X w0) (h : Sim S X w0 m0 st a w m) {v : MV} {bl : Blk} (hb : Below w.heap.size w w') (_hl : bl.live = true) (hv1 : v.1.oneCell' = true ∧ ∀ u, u ∈ v.2 → u.oneCell' = true)
  (sN : ∀ b, hasB v b → w.heap.size ≤ b ∧ b < w'.heap.size)
  (hok : ∀ (N' : Nat → Prop) (m' : Nat → Option MV), (∀ b, aH S X w0.heap.size w m st.own b → N' b) → (∀ i v, m i = some v → m' i = some v) → cY w' N' m' v bl) :
  ∃ m', Sim S X w0 m0 (st.bE bl) a w' m' ∧ m' st.own.length = some v ∧ (∀ i v, m i = some v → m' i = some v) ∧
   (∀ b, aH S X w0.heap.size w m st.own b → aH S X w0.heap.size w' m' (st.bE bl).own b) := by
 let m' : Nat → Option MV := fun i => if i = st.own.length then some v else m i
 have hm : ∀ i v, m i = some v → m' i = some v := by
  intro i u hu
  have := (h.ows.len i u hu).1
  simp only [m']
  rw [if_neg (by omega)]
  exact hu
 have hlv : ∀ i, aK (st.own ++ [bl]) i → aK st.own i ∨ i = st.own.length := by
  rintro i ⟨b, hb, hbl⟩
  rw [List.getElem?_append] at hb
  split at hb
  ·exact .inl ⟨b, hb, hbl⟩
  ·rename_i hge
   right
   by_cases he : i = st.own.length
   ·exact he
   ·rw [List.getElem?_eq_none (by simp; omega)] at hb; cases hb
 have hold : ∀ i b, i ≠ st.own.length → bA m' i b → bA m i b := by
  intro i b hi hb
  unfold bA at *
  simp only [m'] at hb
  rwa [if_neg hi] at hb
 have cR : ∀ b, bA m' st.own.length b → w.heap.size ≤ b ∧ b < w'.heap.size := by
  intro b hb
  obtain ⟨u, hu, hb⟩ := hb
  simp only [m', if_true, Option.some.injEq] at hu
  subst hu
  exact sN b hb
 have hN : ∀ b, aH S X w0.heap.size w m st.own b → aH S X w0.heap.size w' m' (st.own ++ [bl]) b := by
  intro b hNb
  have hlt := bP E h hNb
  rcases hNb with hb' | ⟨h1, h2, h3⟩
  ·exact .inl hb'
  ·refine .inr ⟨h1, Nat.lt_of_lt_of_le h2 hb.size, fun i hi hmb => ?_⟩
   by_cases he : i = st.own.length
   ·subst he; have := cR b hmb; omega
   ·exact h3 i ((hlv i hi).resolve_right he) (hold i b he hmb)
 have hw : ∀ b, aH S X w0.heap.size w m st.own b → w'.heap[b]? = w.heap[b]? := fun b hb' => hb.block b (bP E h hb')
 refine ⟨m', ⟨⟨hb.os.trans h.bel.os, hb.tape.trans h.bel.tape, hb.output.trans h.bel.output, Nat.le_trans h.bel.size hb.size, fun k hk hX => (hb.block k (Nat.lt_of_lt_of_le hk h.bel.size)).trans (h.bel.block k hk hX)⟩, ?_, ?_, ?_, ?_, h.nt, h.df, fun t => (h.slots t).mono hw hN hm⟩, by simp [m'], hm, hN⟩
 ·refine ⟨fun i u hu => ?_, fun i b hi hbl => ?_, fun i j b hne hi hj hbi hbj => ?_, fun i b hi hmb => ?_, fun i b hi hmb => ?_⟩
  ·simp only [m'] at hu
   simp only [St.bE, List.length_append, List.length_singleton]
   split at hu
   ·cases hu; exact ⟨by omega, hv1⟩
   ·have := h.ows.len i u hu; exact ⟨by omega, this.2⟩
  ·simp only [St.bE] at hi
   rw [List.getElem?_append] at hi
   split at hi
   ·obtain ⟨u, hu, hok'⟩ := h.ows.ok i b hi hbl
    exact ⟨u, hm i u hu, hok'.mono hw hN hm (fun b' hbv => hb.block b' (h.ows.lt i b' ⟨b, hi, hbl⟩ (aP hu hbv)))⟩
   ·rename_i hge
    by_cases he : i = st.own.length
    ·subst he
     simp at hi
     subst hi
     exact ⟨v, by simp [m'], hok _ _ hN hm⟩
    ·rw [List.getElem?_eq_none (by simp; omega)] at hi; cases hi
  ·by_cases hei : i = st.own.length
   ·by_cases hej : j = st.own.length
    ·omega
    ·subst hei
     have h1 := cR b hbi
     have h2 := h.ows.lt j b ((hlv j hj).resolve_right hej) (hold j b hej hbj)
     omega
   ·by_cases hej : j = st.own.length
    ·subst hej
     have h1 := cR b hbj
     have h2 := h.ows.lt i b ((hlv i hi).resolve_right hei) (hold i b hei hbi)
     omega
    ·exact h.ows.sep i j b hne ((hlv i hi).resolve_right hei) ((hlv j hj).resolve_right hej) (hold i b hei hbi) (hold j b hej hbj)
  ·by_cases he : i = st.own.length
   ·subst he; exact (cR b hmb).2
   ·exact Nat.lt_of_lt_of_le (h.ows.lt i b ((hlv i hi).resolve_right he) (hold i b he hmb)) hb.size
  ·rintro (hS | ⟨_, _, h3⟩)
   ·by_cases he : i = st.own.length
    ·subst he; have := (cR b hmb).1; have := E.Slt b hS; have := h.bel.size; omega
    ·exact h.ows.out i b ((hlv i hi).resolve_right he) (hold i b he hmb) (.inl hS)
   ·exact h3 i hi hmb
 ·intro i b hi hmb
  by_cases he : i = st.own.length
  ·subst he; have := (cR b hmb).1; have := h.bel.size; exact .inl (by omega)
  ·exact h.bnd i b ((hlv i hi).resolve_right he) (hold i b he hmb)
 ·intro i hi
  have : i < st.k0 := hi
  have := h.k0
  simp only [m']
  rw [if_neg (by omega)]
  exact h.fix i hi
 ·have := h.k0
  simp only [St.bE, List.length_append, List.length_singleton]
  omega

theorem Sim.bE (E : Env P gl S X w0) (h : Sim S X w0 m0 st a w m) {v : Value} {bl : Blk} (hb : Below w.heap.size w w') (hl : bl.live = true) (hv1 : v.oneCell' = true)
  (sN : ∀ b, blk v = some b → w.heap.size ≤ b ∧ b < w'.heap.size)
  (hok : ∀ (N' : Nat → Prop) (m' : Nat → Option MV), (∀ b, aH S X w0.heap.size w m st.own b → N' b) → (∀ i v, m i = some v → m' i = some v) → cY w' N' m' (v, []) bl) :
  ∃ m', Sim S X w0 m0 (st.bE bl) a w' m' ∧ m' st.own.length = some (v, []) ∧ (∀ i v, m i = some v → m' i = some v) ∧
   (∀ b, aH S X w0.heap.size w m st.own b → aH S X w0.heap.size w' m' (st.bE bl).own b) :=
 h.aR7 E hb hl ⟨hv1, fun _ h => by cases h⟩ (fun b h => sN b (kB.1 h)) hok

theorem Sim.aR (h : Sim S X w0 m0 st a w m) {i b : Nat} {v : MV} {bl bl' : Blk} (hi : st.own[i]? = some bl) (hl : bl.live = true) (hl' : bl'.live = true) (hv : m i = some v) (hbv : hasB v b)
  (hos : w'.os = w.os) (htp : w'.tape = w.tape) (hou : w'.output = w.output) (hsz : w'.heap.size = w.heap.size) (hw : ∀ k, k ≠ b → w'.heap[k]? = w.heap[k]?)
  (hok : ∀ N, (∀ q, aH S X w0.heap.size w m st.own q → N q) → cY w' N m v bl') : Sim S X w0 m0 (st.aR i bl') a w' m := by
 have hlt : i < st.own.length := (List.getElem?_eq_some_iff.1 hi).1
 have hlv : ∀ j, aK (st.own.set i bl') j ↔ aK st.own j := by
  intro j
  unfold aK
  by_cases hj : j = i
  ·subst hj
   simp only [List.getElem?_set_self hlt]
   exact ⟨fun _ => ⟨bl, hi, hl⟩, fun _ => ⟨bl', rfl, hl'⟩⟩
  ·rw [List.getElem?_set_ne (fun e => hj e.symm)]
 have hNN : ∀ q, aH S X w0.heap.size w' m (st.own.set i bl') q ↔ aH S X w0.heap.size w m st.own q := by
  intro q
  unfold aH
  rw [hsz]
  constructor
  ·rintro (hq | ⟨h1, h2, h3⟩)
   ·exact .inl hq
   ·exact .inr ⟨h1, h2, fun j hj => h3 j ((hlv j).2 hj)⟩
  ·rintro (hq | ⟨h1, h2, h3⟩)
   ·exact .inl hq
   ·exact .inr ⟨h1, h2, fun j hj => h3 j ((hlv j).1 hj)⟩
 have hNb : ∀ q, aH S X w0.heap.size w m st.own q → w'.heap[q]? = w.heap[q]? := by
  intro q hq
  refine hw q fun e => ?_
  subst e
  exact h.ows.out i q ⟨bl, hi, hl⟩ (aP hv hbv) hq
 have hN1 : ∀ q, aH S X w0.heap.size w m st.own q → aH S X w0.heap.size w' m (st.own.set i bl') q := fun q hq => (hNN q).2 hq
 refine ⟨⟨hos.trans h.bel.os, htp.trans h.bel.tape, hou.trans h.bel.output, by rw [hsz]; exact h.bel.size, fun k hk hX => (hw k fun e => ?_).trans (h.bel.block k hk hX)⟩, ?_, fun j q hj hm => h.bnd j q ((hlv j).1 hj) hm, h.fix, by simpa [St.aR] using h.k0, h.nt, h.df, fun t => (h.slots t).mono hNb hN1 (fun _ _ => id)⟩
 ·subst e
  rcases h.bnd i k ⟨bl, hi, hl⟩ (aP hv hbv) with h1 | h1
  ·omega
  ·exact hX h1
 ·refine ⟨fun j u hu => ?_, fun j b' hj hbl => ?_, fun j k q hne hj hk => h.ows.sep j k q hne ((hlv j).1 hj) ((hlv k).1 hk), fun j q hj hm => by rw [hsz]; exact h.ows.lt j q ((hlv j).1 hj) hm, fun j q hj hm hq => h.ows.out j q ((hlv j).1 hj) hm ((hNN q).1 hq)⟩
  ·have := h.ows.len j u hu
   simpa [St.aR] using this
  ·by_cases hji : j = i
   ·subst hji
    simp only [St.aR, List.getElem?_set_self hlt, Option.some.injEq] at hj
    subst hj
    exact ⟨v, hv, hok _ hN1⟩
   ·simp only [St.aR] at hj
    rw [List.getElem?_set_ne (fun e => hji e.symm)] at hj
    obtain ⟨u, hu, hok'⟩ := h.ows.ok j b' hj hbl
    refine ⟨u, hu, hok'.mono hNb hN1 (fun _ _ => id) (fun q hq => hw q fun e => ?_)⟩
    subst e
    exact h.ows.sep j i q hji ⟨b', hj, hbl⟩ ⟨bl, hi, hl⟩ (aP hu hq) (aP hv hbv)

end
end Go.Pe

/- Own blocks forgotten, moved, frozen. -/
namespace Go.Pe
open Go Go.RowKit

theorem kI (f : FV → FV) (hf : f .junk = .junk) : ∀ (l : List (Nat × FV)) (t : Nat), look (l.map fun x => (x.1, f x.2)) t = f (look l t)
 | [], t => by simp [look, hf]
 | (k, x) :: r, t => by
  simp only [List.map_cons, look]
  split
  ·rfl
  ·exact kI f hf r t

section
variable {P : Program} {gl : List (Nat × Obj)} {S X : Nat → Prop} {w0 w w' : World} {m0 m : Nat → Option MV} {st : St} {a : Act}

theorem Sim.weaken (h : Sim S X w0 m0 st a w m) {f : FV → FV} {own' : List Blk} (hlen : own'.length = st.own.length)
  (aM : ∀ (i : Nat) (b' : Blk), own'[i]? = some b' → b'.live = true → ∃ b : Blk, st.own[i]? = some b ∧ b.live = true ∧ (b' = b ∨ ∃ cs : List FV, b = Blk.box cs ∧ b' = Blk.box (cs.map f)))
  (hf : ∀ v x, aF w (aH S X w0.heap.size w m st.own) m v x → aF w (aH S X w0.heap.size w m own') m v (f x)) {slots' : List (Nat × FV)}
  (hs : ∀ t, look slots' t = f (st.get t)) : Sim S X w0 m0 { st with slots := slots', own := own' } a w m := by
 have hlv' : ∀ i, aK own' i → aK st.own i := by
  rintro i ⟨b, hb, hl⟩
  obtain ⟨b0, h0, hl0, _⟩ := aM i b hb hl
  exact ⟨b0, h0, hl0⟩
 have hN : ∀ q, aH S X w0.heap.size w m st.own q → aH S X w0.heap.size w m own' q := by
  rintro q (hq | ⟨h1, h2, h3⟩)
  ·exact .inl hq
  ·exact .inr ⟨h1, h2, fun i hi => h3 i (hlv' i hi)⟩
 refine ⟨h.bel, ?_, fun i b hi hm => h.bnd i b (hlv' i hi) hm, h.fix, by simpa [hlen] using h.k0, h.nt, h.df, fun t => ?_⟩
 ·refine ⟨fun i v hv => by rw [hlen]; exact h.ows.len i v hv, fun i b hi hl => ?_, fun i j b hne hi hj => h.ows.sep i j b hne (hlv' i hi) (hlv' j hj), fun i b hi => h.ows.lt i b (hlv' i hi), fun i b hi hm hq => ?_⟩
  ·obtain ⟨b0, h0, hl0, hc⟩ := aM i b hi hl
   obtain ⟨v, hv, hok⟩ := h.ows.ok i b0 h0 hl0
   refine ⟨v, hv, ?_⟩
   rcases hc with rfl | ⟨cs, rfl, rfl⟩
   ·exact hok.mono (fun _ _ => rfl) hN (fun _ _ => id) (fun _ _ => rfl)
   ·obtain ⟨h0, b, T, g, h9, hh, h1, hr⟩ := hok
    exact ⟨h0, b, T, g, h9, by simpa using hh, h1, fun j hj => by simp only [List.length_map] at hj; simpa using hf _ _ (hr j hj)⟩
  ·rcases hq with hq | ⟨_, _, h3⟩
   ·exact h.ows.out i b (hlv' i hi) hm (.inl hq)
   ·exact h3 i hi hm
 ·have : ({ st with slots := slots', own := own' } : St).get t = f (st.get t) := hs t
  rw [this]
  exact hf _ _ (h.slots t)

theorem aLC {N : Nat → Prop} {v : Value} {x : FV} {i : Nat} (h : aF w N m v x) : aF w N m v (fR i x) := by
 unfold fR
 split
 ·exact .junk _
 ·exact h

theorem eB {f : Blk → Blk} {i : Nat} {b : Blk} (h : (st.own.map f)[i]? = some b) : ∃ b0, st.own[i]? = some b0 ∧ b = f b0 := by
 rw [List.getElem?_map] at h
 cases hq : st.own[i]? with
 | none => simp [hq] at h
 | some b0 => simp [hq] at h; exact ⟨b0, rfl, h.symm⟩

theorem Sim.drop (h : Sim S X w0 m0 st a w m) (i : Nat) : Sim S X w0 m0 (st.drop i) a w m := by
 have hlv' : ∀ j, aK (st.own.map (oL i)) j → aK st.own j := by
  rintro j ⟨b, hb, hl⟩
  obtain ⟨b0, h0, rfl⟩ := eB hb
  exact ⟨b0, h0, by cases b0 <;> first | exact hl | rfl⟩
 refine h.weaken (f := fR i) (by simp) (fun j b' hb hl => ?_) (fun v x hr => ?_) (fun t => kI (fR i) (by simp [fR]) st.slots t)
 ·obtain ⟨b0, h0, rfl⟩ := eB hb
  refine ⟨b0, h0, by cases b0 <;> first | exact hl | rfl, ?_⟩
  cases b0 with
  | box cs => exact .inr ⟨cs, rfl, rfl⟩
  | _ => exact .inl rfl
 ·refine aLC (hr.mono (fun _ _ => rfl) ?_ (fun _ _ => id))
  rintro q (hq | ⟨h1, h2, h3⟩)
  ·exact .inl hq
  ·exact .inr ⟨h1, h2, fun j hj => h3 j (hlv' j hj)⟩

theorem Sim.aOC (E : Env P gl S X w0) (h : Sim S X w0 m0 st a w m) {i : Nat} {v v' : MV} {bl bl' : Blk} (hi : st.own[i]? = some bl) (hl : bl.live = true) (hl' : bl'.live = true) (hv : m i = some v) (hk : st.k0 ≤ i)
  (xR : ∀ t, (st.get t).cK i = false) (aEP : ∀ (j : Nat) (cs : List FV), st.own[j]? = some (Blk.box cs) → iY i cs = false)
  (hg : w.grownBy w' (blk v.1)) (sN : ∀ b, hasB v' b → (hasB v b ∨ w.heap.size ≤ b) ∧ b < w'.heap.size) (hv1 : v'.1.oneCell' = true ∧ ∀ u, u ∈ v'.2 → u.oneCell' = true)
  (hok : ∀ (N' : Nat → Prop) (m' : Nat → Option MV), (∀ b, aH S X w0.heap.size w m st.own b → N' b) → cY w' N' m' v' bl') :
  ∃ m', Sim S X w0 m0 (st.aR i bl') a w' m' ∧ m' i = some v' := by
 have hlt : i < st.own.length := (List.getElem?_eq_some_iff.1 hi).1
 let m' : Nat → Option MV := fun j => if j = i then some v' else m j
 have hlv : ∀ j, aK (st.own.set i bl') j ↔ aK st.own j := by
  intro j
  unfold aK
  by_cases hj : j = i
  ·subst hj
   simp only [List.getElem?_set_self hlt]
   exact ⟨fun _ => ⟨bl, hi, hl⟩, fun _ => ⟨bl', rfl, hl'⟩⟩
  ·rw [List.getElem?_set_ne (fun e => hj e.symm)]
 have eM : aK st.own i := ⟨bl, hi, hl⟩
 have hmo : ∀ j, j ≠ i → bA m' j = bA m j := by
  intro j hj
  unfold bA
  simp only [m']
  rw [if_neg hj]
 have hmi : ∀ b, bA m' i b → (hasB v b ∨ w.heap.size ≤ b) ∧ b < w'.heap.size := by
  intro b hb
  obtain ⟨u, hu, hb⟩ := hb
  simp only [m', if_true, Option.some.injEq] at hu
  subst hu
  exact sN b hb
 have iF : ∀ k, k < w.heap.size → blk v.1 ≠ some k → w'.heap[k]? = w.heap[k]? := fun k hk hne => hg.block k hk (fun e => hne e.symm)
 have hN : ∀ q, aH S X w0.heap.size w m st.own q → aH S X w0.heap.size w' m' (st.own.set i bl') q := by
  intro q hNq
  have hq := bP E h hNq
  rcases hNq with hS | ⟨h1, h2, h3⟩
  ·exact .inl hS
  ·refine .inr ⟨h1, Nat.lt_of_lt_of_le h2 hg.size, fun j hj hmj => ?_⟩
   by_cases hji : j = i
   ·subst hji
    rcases (hmi q hmj).1 with h4 | h4
    ·exact h3 j eM (aP hv h4)
    ·omega
   ·rw [hmo j hji] at hmj
    exact h3 j ((hlv j).1 hj) hmj
 have hNb : ∀ q, aH S X w0.heap.size w m st.own q → w'.heap[q]? = w.heap[q]? := by
  intro q hq
  exact iF q (bP E h hq) (fun e => h.ows.out i q eM (aP hv (.inl e)) hq)
 have eS : ∀ u x, x.cK i = false → aF w (aH S X w0.heap.size w m st.own) m u x → aF w' (aH S X w0.heap.size w' m' (st.own.set i bl')) m' u x := by
  intro u x hu hr
  have := hr.mono (m' := m) hNb hN (fun _ _ => id)
  refine this.aN0 fun j hj => ?_
  simp only [m']
  rw [if_neg (fun e => by subst e; rw [hu] at hj; cases hj)]
 refine ⟨m', ⟨⟨hg.os.trans h.bel.os, hg.tape.trans h.bel.tape, hg.output.trans h.bel.output, Nat.le_trans h.bel.size hg.size, fun k hk hX => (iF k (Nat.lt_of_lt_of_le hk h.bel.size) fun e => ?_).trans (h.bel.block k hk hX)⟩, ?_, fun j b hj hm => ?_, fun j hj => ?_, by simpa [St.aR] using h.k0, h.nt, h.df, fun t => eS _ _ (xR t) (h.slots t)⟩, by simp [m']⟩
 ·rcases h.bnd i k eM (aP hv (.inl e)) with h1 | h1
  ·omega
  ·exact hX h1
 ·refine ⟨fun j u hu => ?_, fun j b hj hbl => ?_, fun j k b hne hj hk' hbj hbk => ?_, fun j b hj hmb => ?_, fun j b hj hmb hq => ?_⟩
  ·simp only [St.aR, List.length_set]
   simp only [m'] at hu
   split at hu
   ·rename_i e; subst e; cases hu; exact ⟨hlt, hv1⟩
   ·exact h.ows.len j u hu
  ·by_cases hji : j = i
   ·subst hji
    simp only [St.aR, List.getElem?_set_self hlt, Option.some.injEq] at hj
    subst hj
    exact ⟨v', by simp [m'], hok _ _ hN⟩
   ·simp only [St.aR] at hj
    rw [List.getElem?_set_ne (fun e => hji e.symm)] at hj
    obtain ⟨u, hu, hok'⟩ := h.ows.ok j b hj hbl
    refine ⟨u, by simp only [m']; rw [if_neg hji]; exact hu, ?_⟩
    have hvj : ∀ q, hasB u q → w'.heap[q]? = w.heap[q]? := by
     intro q hq
     refine iF q (h.ows.lt j q ⟨b, hj, hbl⟩ (aP hu hq)) fun e => ?_
     exact h.ows.sep j i q hji ⟨b, hj, hbl⟩ eM (aP hu hq) (aP hv (.inl e))
    cases b with
    | gone => trivial
    | row e s els => exact ⟨hok'.1, hok'.2.mono hNb hN (fun q hq => hvj q (.inl hq))⟩
    | tree e s et els => exact lR.mono hok' hvj
    | box cs =>
     obtain ⟨h0, b, T, f, h9, hh, h1, hr⟩ := hok'
     exact ⟨h0, b, T, f, h9, by rw [hvj b (.inl (by rw [h9]; rfl))]; exact hh, h1, fun k hk => eS _ _ (pY (aEP j cs hj) k hk) (hr k hk)⟩
  ·by_cases hji : j = i
   ·subst hji
    rw [hmo k (fun e => hne e.symm)] at hbk
    have h2 := (hmi b hbj).1
    rcases h2 with h2 | h2
    ·exact h.ows.sep j k b hne eM ((hlv k).1 hk') (aP hv h2) hbk
    ·have := h.ows.lt k b ((hlv k).1 hk') hbk; omega
   ·rw [hmo j hji] at hbj
    by_cases hki : k = i
    ·subst hki
     rcases (hmi b hbk).1 with h2 | h2
     ·exact h.ows.sep j k b hji ((hlv j).1 hj) eM hbj (aP hv h2)
     ·have := h.ows.lt j b ((hlv j).1 hj) hbj; omega
    ·rw [hmo k hki] at hbk
     exact h.ows.sep j k b hne ((hlv j).1 hj) ((hlv k).1 hk') hbj hbk
  ·by_cases hji : j = i
   ·subst hji; exact (hmi b hmb).2
   ·rw [hmo j hji] at hmb
    exact Nat.lt_of_lt_of_le (h.ows.lt j b ((hlv j).1 hj) hmb) hg.size
  ·rcases hq with hS | ⟨_, _, h3⟩
   ·by_cases hji : j = i
    ·subst hji
     rcases (hmi b hmb).1 with h2 | h2
     ·exact h.ows.out j b eM (aP hv h2) (.inl hS)
     ·have := E.Slt b hS; have := h.bel.size; omega
    ·rw [hmo j hji] at hmb
     exact h.ows.out j b ((hlv j).1 hj) hmb (.inl hS)
   ·exact h3 j hj hmb
 ·by_cases hji : j = i
  ·subst hji
   rcases (hmi b hm).1 with h2 | h2
   ·exact h.bnd j b eM (aP hv h2)
   ·have := h.bel.size; exact .inl (by omega)
  ·rw [hmo j hji] at hm
   exact h.bnd j b ((hlv j).1 hj) hm
 ·have : j < st.k0 := hj
  simp only [m']
  rw [if_neg (by omega)]
  exact h.fix j hj

theorem Sim.aC1 (E : Env P gl S X w0) (h : Sim S X w0 m0 st a w m) {i : Nat} {v v' : Value} {bl bl' : Blk} (hi : st.own[i]? = some bl) (hl : bl.live = true) (hl' : bl'.live = true) (hv : m i = some (v, [])) (hk : st.k0 ≤ i)
  (xR : ∀ t, (st.get t).cK i = false) (aEP : ∀ (j : Nat) (cs : List FV), st.own[j]? = some (Blk.box cs) → iY i cs = false)
  (hg : w.grownBy w' (blk v)) (sN : ∀ b, blk v' = some b → (blk v = some b ∨ w.heap.size ≤ b) ∧ b < w'.heap.size) (hv1 : v'.oneCell' = true)
  (hok : ∀ (N' : Nat → Prop) (m' : Nat → Option MV), (∀ b, aH S X w0.heap.size w m st.own b → N' b) → cY w' N' m' (v', []) bl') :
  ∃ m', Sim S X w0 m0 (st.aR i bl') a w' m' ∧ m' i = some (v', []) :=
 h.aOC E hi hl hl' hv hk xR aEP hg (fun b hb => ⟨(sN b (kB.1 hb)).1.imp (fun e => .inl e) id, (sN b (kB.1 hb)).2⟩) ⟨hv1, fun _ h => by cases h⟩ hok

theorem iG (i : Nat) (x : FV) : (fR i x).cK i = false := by
 unfold fR
 split
 ·rfl
 ·rename_i h; simpa using h

theorem oR (i t : Nat) : ((st.drop i).get t).cK i = false := by
 have : (st.drop i).get t = fR i (st.get t) := kI (fR i) (by simp [fR]) st.slots t
 rw [this]
 exact iG i _

theorem aBK (i : Nat) : ∀ (cs : List FV), iY i (cs.map (fR i)) = false
 | [] => rfl
 | x :: r => by simp [iY, iG, aBK i r]

theorem uG (i j : Nat) (cs : List FV) (h : (st.drop i).own[j]? = some (.box cs)) : iY i cs = false := by
 simp only [St.drop] at h
 obtain ⟨b0, h0, hb⟩ := eB h
 cases b0 <;> simp only [oL] at hb <;> try (cases hb; done)
 cases hb
 exact aBK i _

end
end Go.Pe

/- Own blocks frozen; memory made and written. -/
namespace Go.Pe
open Go Go.RowKit

theorem mY (ds : List Nat) : ∀ (l : List Blk) (n i : Nat), (iE ds n l)[i]? = if ds.contains (n + i) then (l[i]?).map (fun _ => Blk.gone) else l[i]?
 | [], n, i => by simp [iE]
 | b :: r, n, 0 => by simp only [iE, Nat.add_zero, List.getElem?_cons_zero]; split <;> simp
 | b :: r, n, i + 1 => by
  simp only [iE, List.getElem?_cons_succ, mY ds r (n + 1) i]
  rw [show n + 1 + i = n + (i + 1) by omega]

theorem iR (ds : List Nat) : ∀ (l : List Blk) (n : Nat), (iE ds n l).length = l.length
 | [], n => rfl
 | b :: r, n => by simp [iE, iR ds r (n + 1)]

section
variable {P : Program} {gl : List (Nat × Obj)} {S X : Nat → Prop} {w0 w w' : World} {m0 m : Nat → Option MV} {st : St} {a : Act}

theorem Sim.fW (h : Sim S X w0 m0 st a w m) (ds : List Nat) :
  Sim S X w0 m0 (st.fW ds) a w m ∧ ∀ n x v p, aF w (aH S X w0.heap.size w m st.own) m v x → fJ st.own ds n x = some p → Rep w (aH S X w0.heap.size w m (st.fW ds).own) v p := by
 let own' := iE ds 0 (st.own.map (aN1 st.own ds))
 have cM : ∀ (i : Nat) (b : Blk), own'[i]? = some b → b.live = true → ds.contains i = false ∧ ∃ b0, st.own[i]? = some b0 ∧ b = aN1 st.own ds b0 := by
  intro i b hb hl
  simp only [own'] at hb
  rw [mY, Nat.zero_add] at hb
  split at hb
  ·cases hq : (st.own.map (aN1 st.own ds))[i]? with
   | none => simp [hq] at hb
   | some b1 => simp [hq] at hb; subst hb; cases hl
  ·rename_i hc
   exact ⟨by simpa using hc, eB hb⟩
 have hlv' : ∀ i, aK own' i → aK st.own i ∧ ds.contains i = false := by
  rintro i ⟨b, hb, hl⟩
  obtain ⟨hc, b0, h0, rfl⟩ := cM i b hb hl
  exact ⟨⟨b0, h0, by cases b0 <;> first | exact hl | rfl⟩, hc⟩
 have hN : ∀ q, aH S X w0.heap.size w m st.own q → aH S X w0.heap.size w m own' q := by
  rintro q (hq | ⟨h1, h2, h3⟩)
  ·exact .inl hq
  ·exact .inr ⟨h1, h2, fun i hi => h3 i (hlv' i hi).1⟩
 have hds : ∀ i b, i ∈ ds → aK st.own i → bA m i b → aH S X w0.heap.size w m own' b := by
  intro i b hi hl hb
  refine .inr ⟨h.bnd i b hl hb, h.ows.lt i b hl hb, fun j hj hmj => ?_⟩
  obtain ⟨hjl, hjc⟩ := hlv' j hj
  refine h.ows.sep i j b (fun e => ?_) hl hjl hb hmj
  subst e
  simp at hjc
  exact hjc hi
 have aEQ : ∀ n x v p, aF w (aH S X w0.heap.size w m st.own) m v x → fJ st.own ds n x = some p → Rep w (aH S X w0.heap.size w m own') v p :=
  fun n x v p hr hp => dN h.eQ hN hds n x v p hr hp
 cases ds with
 | nil =>
  refine ⟨h, fun n x v p hr hp => ?_⟩
  have := aEQ n x v p hr hp
  refine this.mono (fun _ _ => rfl) ?_
  rintro q (hq | ⟨h1, h2, h3⟩)
  ·exact .inl hq
  ·refine .inr ⟨h1, h2, fun i hi => h3 i ?_⟩
   obtain ⟨b, hb, hl⟩ := hi
   have hb : st.own[i]? = some b := hb
   refine ⟨aN1 st.own [] b, ?_, by cases b <;> first | exact hl | rfl⟩
   simp only [own']
   rw [mY]
   simp [List.getElem?_map, hb]
 | cons d ds =>
  refine ⟨?_, fun n x v p hr hp => aEQ n x v p hr hp⟩
  refine h.weaken (f := aKX st.own (d :: ds)) (own' := own') (by simp [own', iR]) (fun i b hb hl => ?_) (fun v x hr => ?_) (fun t => ?_)
  ·obtain ⟨_, b0, h0, rfl⟩ := cM i b hb hl
   refine ⟨b0, h0, by cases b0 <;> first | exact hl | rfl, ?_⟩
   cases b0 with
   | box cs => exact .inr ⟨cs, rfl, rfl⟩
   | _ => exact .inl rfl
  ·unfold aKX
   split
   ·split
    ·rename_i p hp
     exact .pv _ _ (aEQ 8 x v p hr hp)
    ·exact .junk _
   ·exact hr.mono (fun _ _ => rfl) hN (fun _ _ => id)
  ·exact kI (aKX st.own (d :: ds)) (by simp [aKX, aJL, FV.cK]) st.slots t

theorem mZ {P : Program} (t : TypeId) (v : Value) (w : World) : (newVar t v).run P w = .ok ⟨w.heap.size, 0, none⟩ (w.alloc (.cells v.cells t)) := by
 simp [newVar, newRow]

theorem Sim.aOD (E : Env P gl S X w0) (h : Sim S X w0 m0 st a w m) {cs : List FV} {f : Nat → Value} {t : TypeId} (h1 : ∀ j, (f j).oneCell' = true)
  (hr : ∀ j (hj : j < cs.length), aF w (aH S X w0.heap.size w m st.own) m (f j) cs[j]) (dst : Option Nat) :
  ∃ m', Sim S X w0 m0 ((st.bE (.box cs)).put dst (.box st.own.length 0)) (a.put dst (.pointer (some ⟨w.heap.size, 0, none⟩))) (w.alloc (.cells (aE cs.length f).toArray t)) m' := by
 obtain ⟨m', hs, hm, hmm, hN⟩ := h.bE E (v := .pointer (some ⟨w.heap.size, 0, none⟩)) (bl := .box cs) (gF w (.cells (aE cs.length f).toArray t)) rfl rfl
  (fun b hb => by simp [blk] at hb; subst hb; simp) (fun N' m' hN hm => ⟨rfl, w.heap.size, t, f, rfl, Go.heap_alloc_new w _, h1, fun j hj => (hr j hj).mono (fun b hb => heap_alloc_old w _ (bP E h hb)) hN hm⟩)
 refine ⟨m', hs.put ?_⟩
 exact .box st.own.length 0 w.heap.size (qE hm rfl)

theorem wp_skip {o : Oper} {next : Act → World → Prop} {Q : Exit → Act → World → Prop}
  (h : (execOp a.eval o).run P w = .ok .skip w') (hn : next (a.put o.dst undef) w') : o.wp P a w next Q := by
 unfold Oper.wp
 rw [h]
 exact hn

theorem jJ {t : TypeId} {v : Value} {g : Nat → Value} {n : Nat} (hc : v.cells = (aE n g).toArray) (hn : n = P.cellsOf t) (hn0 : P.cellsOf t ≠ 0) (g1 : ∀ j, (g j).oneCell' = true)
  {b off : Nat} {cur : Array Value} {T : TypeId} (hg : w.heap[b]? = some (.cells cur T (0, 0))) (hle : off + n ≤ cur.size) :
  (storeVar t ⟨b, off, none⟩ v).run P w = .ok () (w.setRow b (aS cur.toList off (aE n g)).toArray) := by
 obtain ⟨i, hi, hsz⟩ := gU hn0
 have hst := run_storeCells_at P b off T (aE n g) 0 cur w hg (by simpa using hle) (fun v hv => by
  simp only [aE, List.mem_map] at hv
  obtain ⟨j, _, rfl⟩ := hv
  exact g1 j)
 simp only [Nat.add_zero] at hst
 have hsz' : v.cells.size = i.size := by rw [hc]; simp; omega
 have e : (storeVar t ⟨b, off, none⟩ v).run P w = (storeCells ⟨b, off, none⟩ v.cells.toList).run P w := by
  simp [storeVar, run_sizeOf hi, hsz']
 rw [e, hc]
 simpa [aS] using hst

theorem Sim.aOE (h : Sim S X w0 m0 st a w m) {i off b : Nat} {cs new : List FV} {t : TypeId} {v : Value} (hi : st.own[i]? = some (.box cs)) (hb : jI m i = some b)
  (hfc : ∃ g : Nat → Value, v.cells = (aE new.length g).toArray ∧ (∀ j, (g j).oneCell' = true) ∧ ∀ j (hj : j < new.length), aF w (aH S X w0.heap.size w m st.own) m (g j) new[j])
  (hn : new.length = P.cellsOf t) (hn0 : P.cellsOf t ≠ 0) (hle : off + new.length ≤ cs.length) :
  ∃ w', (storeVar t ⟨b, off, none⟩ v).run P w = .ok () w' ∧ Sim S X w0 m0 (st.aR i (.box (aS cs off new))) a w' m := by
 obtain ⟨⟨u, ug⟩, hu, hbu⟩ := cJ hb
 have hok := h.eQ i _ _ hi rfl hu
 obtain ⟨h0, b', T, f, h9, hh, h1, hr⟩ := hok
 simp only at h0 h9 hbu
 subst h0 h9
 simp [blk] at hbu
 subst hbu
 obtain ⟨g, hg, g1, gr⟩ := hfc
 have cA := jJ (P := P) (w := w) hg hn hn0 g1 hh (off := off) (by simpa using hle)
 refine ⟨_, cA, h.aR (w' := w.setRow b' _) hi rfl rfl hu (.inl rfl) rfl rfl rfl (by simp) (fun k hk => setRow_other w b' k _ hk) (fun N hN => ?_)⟩
 obtain ⟨hl, hs⟩ := xJ (off := off) hr gr hle
 refine ⟨rfl, b', T, fun j => if off ≤ j ∧ j < off + new.length then g (j - off) else f j, rfl, ?_, fun j => by dsimp only; split <;> simp [g1, h1], fun j hj => (hs j hj).mono (fun q hq => setRow_other w b' q _ (fun e => ?_)) hN (fun _ _ => id)⟩
 ·rw [setRow_heap w b' _ _ T (0, 0) hh]
  congr 2
  apply Array.ext'
  apply List.ext_getElem?
  intro q
  rw [show (aE cs.length f).toArray.toList = aE cs.length f from rfl, bK (by simpa using hle)]
  simp only [hl, bX, List.length_map, List.length_range]
  by_cases hq : off ≤ q ∧ q < off + new.length
  ·rw [if_pos hq, if_pos (by omega), if_pos (by omega), if_pos hq]
  ·rw [if_neg hq]
   by_cases h2 : q < cs.length
   ·rw [if_pos h2, if_pos h2, if_neg hq]
   ·rw [if_neg h2, if_neg h2]
 ·subst e
  exact h.ows.out i q ⟨_, hi, rfl⟩ (aP hu (.inl rfl)) hq

end
end Go.Pe

/- Rows written, made, grown. -/
namespace Go.Pe
open Go Go.RowKit

section
variable {P : Program} {gl : List (Nat × Obj)} {S X : Nat → Prop} {w0 w w' : World} {m0 m : Nat → Option MV} {st : St} {a : Act}

theorem xS {k k' s j j' : Nat} (hj : j < s) (hj' : j' < s) (hk : k ≠ k') : k * s + j ≠ k' * s + j' := by
 intro e
 rcases Nat.lt_or_gt_of_ne hk with h | h
 ·have : (k + 1) * s ≤ k' * s := Nat.mul_le_mul_right _ h
  rw [Nat.add_mul, Nat.one_mul] at this
  omega
 ·have : (k' + 1) * s ≤ k * s := Nat.mul_le_mul_right _ h
  rw [Nat.add_mul, Nat.one_mul] at this
  omega

theorem Sim.aER (h : Sim S X w0 m0 st a w m) {i k off b s nn : Nat} {e t : TypeId} {els : List PV} {v : Value} {p : PV} (hi : st.own[i]? = some (.row e s els)) (hb : jI m i = some b)
  {g : Nat → Value} (hg : v.cells = (aE nn g).toArray) (g1 : ∀ j, (g j).oneCell' = true)
  (hn : nn = P.cellsOf t) (hn0 : P.cellsOf t ≠ 0) (hk : k < els.length) (hle : off + nn ≤ s) (hp : p.cells.length = s)
  (cR : ∀ j (hj : j < p.cells.length), off ≤ j → j < off + nn → Rep w (aH S X w0.heap.size w m st.own) (g (j - off)) p.cells[j])
  (hold : ∀ j (hj : j < p.cells.length) (hj' : j < (els[k]).cells.length), ¬ (off ≤ j ∧ j < off + nn) → p.cells[j] = (els[k]).cells[j]) :
  ∃ w', (storeVar t ⟨b, k * s + off, none⟩ v).run P w = .ok () w' ∧ Sim S X w0 m0 (st.aR i (.row e s (els.set k p))) a w' m := by
 obtain ⟨⟨u, ug⟩, hu, hbu⟩ := cJ hb
 have hok := h.eQ i _ _ hi rfl hu
 obtain ⟨h0, xs, f, aM, hs, hx, h2, h1, hr⟩ := hok
 simp only at h0 aM hbu
 subst h0
 obtain ⟨hxl, hsh⟩ := aM
 rcases hsh with ⟨rfl, _⟩ | ⟨b', cap, cur, rfl, hb0, hh, oB, hcm, hcs, lE⟩
 ·simp [blk] at hbu
 simp [blk] at hbu
 subst hbu
 have hin : k * s + off + nn ≤ els.length * s := by
  have := Nat.mul_le_mul_right s (show k + 1 ≤ els.length from hk)
  rw [Nat.add_mul, Nat.one_mul] at this
  omega
 have hcap' : els.length * s ≤ cap * s := Nat.mul_le_mul_right s oB
 have cA := jJ (P := P) (w := w) hg hn hn0 g1 hh (off := k * s + off) (by omega)
 have aOF : (aS cur.toList (k * s + off) (aE nn g)).length = cur.size := by simp [aS]; omega
 refine ⟨_, cA, h.aR (w' := w.setRow b' _) hi rfl rfl hu (.inl rfl) rfl rfl rfl (by simp) (fun q hq => setRow_other w b' q _ hq) (fun N hN => ?_)⟩
 have hNb : ∀ q, aH S X w0.heap.size w m st.own q → (w.setRow b' (aS cur.toList (k * s + off) (aE nn g)).toArray).heap[q]? = w.heap[q]? := by
  intro q hq
  refine setRow_other w b' q _ (fun e => ?_)
  subst e
  exact h.ows.out i q ⟨_, hi, rfl⟩ (aP hu (.inl rfl)) hq
 have aWV : ∀ q, q < els.length * s → cur.toList[q]? = xs[q]? := by
  intro q hq
  rw [← lE, List.getElem?_take, if_pos hq]
 refine ⟨rfl, aS xs (k * s + off) (aE nn g), fun k' j => if k' = k ∧ off ≤ j ∧ j < off + nn then g (j - off) else f k' j, ⟨?_, .inr ⟨b', cap, _, by simp, hb0, setRow_heap w b' _ _ e (0, 0) hh, by simpa using oB, hcm, by simp [aS] at aOF ⊢; omega, ?_⟩⟩, hs, fun k' j hk' hj => ?_, fun k' hk' => ?_, fun k' j => by dsimp only; split <;> simp [g1, h1], fun k' hk' j hj => ?_⟩
 ·simp [aS, hxl]; omega
 ·apply List.ext_getElem?
  intro q
  have e1 : (aS cur.toList (k * s + off) (aE nn g)).toArray.toList = aS cur.toList (k * s + off) (aE nn g) := rfl
  rw [e1, List.length_set, List.getElem?_take, bK (by simp; omega), bK (by simp [hxl]; omega)]
  simp only [List.length_map, List.length_range]
  by_cases hq : k * s + off ≤ q ∧ q < k * s + off + nn
  ·rw [if_pos hq, if_pos hq, if_pos (by omega)]
  ·rw [if_neg hq, if_neg hq]
   by_cases h3 : q < els.length * s
   ·rw [if_pos h3]; exact aWV q h3
   ·rw [if_neg h3, List.getElem?_eq_none (by omega)]
 ·simp only [List.length_set] at hk'
  rw [bK (by simp [hxl]; omega)]
  simp only [List.length_map, List.length_range]
  by_cases hc : k' = k ∧ off ≤ j ∧ j < off + nn
  ·rw [if_pos hc]
   obtain ⟨hkk, h3, h4⟩ := hc
   subst hkk
   rw [if_pos (by omega), bX, if_pos (by omega)]
   congr 2
   omega
  ·rw [if_neg hc, if_neg (fun hq => ?_)]
   ·exact hx k' j hk' hj
   ·apply hc
    by_cases hkk : k' = k
    ·subst hkk; exact ⟨rfl, by omega, by omega⟩
    ·exfalso
     have := xS (s := s) (j := j) (j' := k' * s + j - k * s) hj (by omega) hkk
     omega
 ·simp only [List.length_set] at hk'
  rw [List.getElem_set]
  split
  ·exact hp
  ·exact h2 k' hk'
 ·simp only [List.length_set] at hk'
  by_cases hkk : k = k'
  ·subst hkk
   simp only [List.getElem_set_self] at hj ⊢
   by_cases hc : off ≤ j ∧ j < off + nn
   ·have e : (if True ∧ off ≤ j ∧ j < off + nn then g (j - off) else f k j) = g (j - off) := if_pos ⟨trivial, hc⟩
    simp only [e]
    exact (cR j hj hc.1 hc.2).mono hNb hN
   ·have e : (if True ∧ off ≤ j ∧ j < off + nn then g (j - off) else f k j) = f k j := if_neg (fun hq => hc hq.2)
    simp only [e]
    have hj' : j < (els[k]).cells.length := by rw [h2 k hk]; omega
    rw [hold j hj hj' hc]
    exact (hr k hk j hj').mono hNb hN
  ·have e : (if k' = k ∧ off ≤ j ∧ j < off + nn then g (j - off) else f k' j) = f k' j := if_neg (fun hq => hkk hq.1.symm)
   simp only [e]
   simp only [List.getElem_set_ne hkk] at hj ⊢
   exact (hr k' hk' j hj).mono hNb hN

end
end Go.Pe

/- Rows made and grown. -/
namespace Go.Pe
open Go Go.RowKit

section
variable {P : Program} {gl : List (Nat × Obj)} {S X : Nat → Prop} {w0 w w' : World} {m0 m : Nat → Option MV} {st : St} {a : Act}

theorem jF (w : World) (t ty e : TypeId) (i : TypeInfo) (z : Value) (size bytes : Nat) (ht : P.underlying t = some (.slice e)) (hi : P.info? e = some i) (hz : i.zero = some z)
  (aOG : i.size = size) (hby : i.bytes = bytes) (hzs : z.cells.size = size) (hsz : 0 < size)
  (v : Value) (n : Nat) (xs : List Value) (aM : w.ownsRow 0 e size v n xs)
  (a : Addr) (m c : Nat) (news : List Value) (hl : news.length = m * size) (aOH : ∀ j u, news[j]? = some u → w.cell? (a.add j) = some u) (h1 : ∀ u ∈ news, u.oneCell' = true)
  (h63 : n + m ≤ maxLen) (uC : (n + m) * bytes ≤ 140737488355328) :
  ∃ v' w', (Builtin.append_ #[t, t] ty #[v, .slice (some a) m c]).run P w = .ok v' w' ∧ w'.ownsRow 0 e size v' (n + m) (xs ++ news) ∧ w.grownBy w' (blk v) ∧
   (∀ b, blk v' = some b → (blk v = some b ∨ w.heap.size ≤ b) ∧ b < w'.heap.size) ∧ v'.oneCell' = true := by
 have aY0 : n + m ≤ 9223372036854775807 := by simp only [maxLen] at h63; omega
 by_cases jA : (v = .slice none 0 0 ∧ m ≠ 0) ∨ ∃ g cap, v = .slice (some ⟨g, 0, none⟩) n cap ∧ ¬ n + m ≤ cap
 ·-- a new array
  have rB : ∃ v' w', (Builtin.append_ #[t, t] ty #[v, .slice (some a) m c]).run P w = .ok v' w' ∧ w'.ownsRow w.heap.size e size v' (n + m) (xs ++ news) ∧ w.grownBy w' v.ownBlock := by
   rcases jA with ⟨rfl, hm⟩ | ⟨g, cap, rfl, qU⟩
   ·have hn : n = 0 := by
     rcases aM.2 with ⟨_, h0⟩ | ⟨g, cap, cur, h', _⟩
     ·exact h0
     ·cases h'
    subst hn
    have hx : xs = [] := List.eq_nil_of_length_eq_zero (by simpa using aM.1)
    subst hx
    obtain ⟨v', w', h1', h2', h3', _⟩ := run_append_own (P := P) w w.heap.size t ty e i z size bytes ht hi hz aOG hby hzs hsz (.slice none 0 0) 0 [] (World.ownsRow_nil w _ e size) a m c news hl aOH h1 h63 uC (Nat.le_refl _)
    exact ⟨v', w', h1', h2', h3'⟩
   ·subst aOG; subst hby
    rcases aM.2 with ⟨h', _⟩ | ⟨g', cap', cur, h', _, hg, hnc, hcm, hcs, lE⟩
    ·cases h'
    ·cases h'
     have holds : ∀ j u, xs[j]? = some u → w.cell? ((⟨g, 0, none⟩ : Addr).add j) = some u := aM.cells (g := g) rfl
     have hr := run_append_grow (P := P) w t ty e i z ht hi hz ⟨g, 0, none⟩ n cap xs aM.1 holds a m c news hl aOH (by omega) (by omega) (growslice_fits (by omega) uC)
     refine ⟨_, _, hr, ?_, ⟨rfl, rfl, rfl, by simp, fun k hk _ => Go.heap_alloc_old w.drew _ hk⟩⟩
     have hge := grownCap_ge w (n + m) cap e
     have hcm' : grownCap w (n + m) cap e ≤ maxLen := grownCap_le_maxLen w (n + m) cap e h63
     have hlen : (xs ++ news).length = (n + m) * i.size := by rw [List.length_append, aM.1, hl, Nat.add_mul]
     refine ⟨hlen, .inr ⟨w.heap.size, _, _, rfl, Nat.le_refl _, Go.heap_alloc_new w.drew _, hge, hcm', ?_, ?_⟩⟩
     ·simp only [Array.size_append, List.size_toArray, size_zeroCells, hzs, aM.1, hl, ← Nat.add_mul]
      congr 1
      omega
     ·simp only [Array.toList_append, List.append_assoc]
      rw [← List.append_assoc, ← hlen]
      exact List.take_left
  obtain ⟨v', w', hr, ho, hg⟩ := rB
  have hvb : blk v = v.ownBlock := by
   rcases jA with ⟨rfl, _⟩ | ⟨g, cap, rfl, _⟩ <;> rfl
  rcases ho.2 with ⟨rfl, h0⟩ | ⟨g, cap, cur, rfl, hbg, hgg, aWW⟩
  ·exact ⟨_, w', hr, ⟨ho.1, .inl ⟨rfl, h0⟩⟩, by rw [hvb]; exact hg, fun b hb => by simp [blk] at hb, rfl⟩
  ·have aOI := (Array.getElem?_eq_some_iff.1 hgg).1
   refine ⟨_, w', hr, ⟨ho.1, .inr ⟨g, cap, cur, rfl, Nat.zero_le _, hgg, aWW⟩⟩, by rw [hvb]; exact hg, fun b hb => ?_, rfl⟩
   simp [blk] at hb
   subst hb
   exact ⟨.inr hbg, aOI⟩
 ·-- in place
  rcases aM.2 with ⟨rfl, hn⟩ | ⟨g, cap, cur, rfl, hb0, hg, hnc, hcm, hcs, lE⟩
  ·have hm : m = 0 := Classical.byContradiction fun h => jA (.inl ⟨rfl, h⟩)
   subst hm; subst hn
   have hn0 : news = [] := List.eq_nil_of_length_eq_zero (by simpa using hl)
   have hx : xs = [] := List.eq_nil_of_length_eq_zero (by simpa using aM.1)
   subst hn0; subst hx
   refine ⟨.slice none 0 0, w, ?_, World.ownsRow_nil w 0 e size, ⟨rfl, rfl, rfl, Nat.le_refl _, fun _ _ _ => rfl⟩, fun b hb => by simp [blk] at hb, rfl⟩
   simp [Builtin.append_, run_underlying ht, sizeOf, typeInfo, hi, Builtin.lenOf, Builtin.firstCells, loadCells, loadCellsFrom]
  ·have qU : n + m ≤ cap := Classical.byContradiction fun h => jA (.inr ⟨g, cap, rfl, h⟩)
   subst aOG; subst hby
   have hlen : (xs ++ news).length = (n + m) * i.size := by rw [List.length_append, aM.1, hl, Nat.add_mul]
   have nA : n * i.size + news.length ≤ cur.size := by rw [hl, hcs, ← Nat.add_mul]; exact Nat.mul_le_mul_right _ qU
   have hr := run_append_room (P := P) w t ty e i ht hi g n cap cur hg a m c news hl aOH h1 qU nA
   refine ⟨_, _, hr, ⟨hlen, .inr ⟨g, cap, _, rfl, hb0, setRow_heap w g cur _ e _ hg, qU, hcm, ?_, ?_⟩⟩, ⟨rfl, rfl, rfl, by simp, fun k _ hk => setRow_other w g k _ (fun e => hk (by simp [blk, e]))⟩, fun b hb => ?_, rfl⟩
   ·simp only [List.size_toArray, List.length_append, List.length_take, List.length_drop, Array.length_toList]
    omega
   ·rw [lE, ← hlen]
    exact List.take_left
   ·simp only [blk, Option.some.injEq] at hb
    subst hb
    exact ⟨.inl rfl, by simpa using (Array.getElem?_eq_some_iff.1 hg).1⟩

theorem oS (w : World) (t ty e : TypeId) (i : TypeInfo) (size c : Nat) (ht : P.underlying t = some (.slice e)) (hi : P.info? e = some i)
  (v : Value) (n : Nat) (xs : List Value) (aM : w.ownsRow 0 e size v n xs) : (Builtin.append_ #[t, t] ty #[v, .slice none 0 c]).run P w = .ok v w := by
 rcases aM.2 with ⟨rfl, rfl⟩ | ⟨g, cap, cur, rfl, _, _, hnc, _⟩
 ·simp [Builtin.append_, run_underlying ht, sizeOf, typeInfo, hi, Builtin.lenOf, Builtin.firstCells]
 ·simp [Builtin.append_, run_underlying ht, sizeOf, typeInfo, hi, Builtin.lenOf, Builtin.firstCells, hnc, storeCells]

end
end Go.Pe

/- Appending zeros to a row of one's own. -/
namespace Go.Pe
open Go Go.RowKit

section
variable {P : Program}

theorem uH (w : World) (t t' ty e : TypeId) (i : TypeInfo) (z : Value) (bytes : Nat) (ht : P.underlying t = some (.slice e)) (ht' : P.underlying t' = some (.int .i64)) (hi : P.info? e = some i) (hz : i.zero = some z)
  (hby : i.bytes = bytes) (hzs : z.cells.size = i.size) (hsz : 0 < i.size) (k : Nat) (hz1 : ∀ u ∈ (Builtin.zeroCells z.cells k).toList, u.oneCell' = true)
  (v : Value) (n : Nat) (xs : List Value) (aM : w.ownsRow 0 e i.size v n xs) (h63 : n + k ≤ 1000000000) (uC : bytes ≤ 1000) :
  ∃ v' w', (Builtin.append_ #[t, t'] ty #[v, .int .i64 k]).run P w = .ok v' w' ∧ w'.ownsRow 0 e i.size v' (n + k) (xs ++ (Builtin.zeroCells z.cells k).toList) ∧ w.grownBy w' (blk v) ∧
   (∀ b, blk v' = some b → (blk v = some b ∨ w.heap.size ≤ b) ∧ b < w'.heap.size) ∧ v'.oneCell' = true := by
 have aES : IntKind.i64.wrap (k : Int) = k := by rw [IntKind.wrap_i64]; omega
 have h48 : ¬ (281474976710656 < (k : Int) * (i.bytes : Int)) := by
  have : k * i.bytes ≤ 1000000000 * 1000 := Nat.mul_le_mul (by omega) (by omega)
  omega
 have hk0 : ¬ ((k : Int) < 0) := by omega
 have hlz : (Builtin.zeroCells z.cells k).toList.length = k * i.size := by rw [Array.length_toList, size_zeroCells, hzs]
 rcases aM.2 with ⟨rfl, hn⟩ | ⟨g, cap, cur, rfl, hb0, hg, hnc, hcm, hcs, lE⟩
 ·subst hn
  have hx : xs = [] := List.eq_nil_of_length_eq_zero (by simpa using aM.1)
  subst hx
  by_cases hk : k = 0
  ·subst hk
   refine ⟨.slice none 0 0, w, ?_, ?_, ⟨rfl, rfl, rfl, Nat.le_refl _, fun _ _ _ => rfl⟩, fun b hb => by simp [blk] at hb, rfl⟩
   ·simp [Builtin.append_, run_underlying ht, run_underlying ht', sizeOf, typeInfo, hi, asInt, asIntOf, aES, h48, show IntKind.i64.wrap 0 = 0 from rfl]
   ·have := World.ownsRow_nil w 0 e i.size
    have e0 : (Builtin.zeroCells z.cells 0).toList = [] := List.eq_nil_of_length_eq_zero (by rw [hlz]; simp)
    rw [e0]; exact this
  ·have hks : ¬ (k * i.size = 0) := by
    intro h
    rcases Nat.mul_eq_zero.1 h with h | h <;> omega
   have oB := grownCap_ge w k 0 e
   have hcm := grownCap_le_maxLen w k 0 e (by simp only [maxLen]; omega)
   have nA : ¬ (281474976710656 < Builtin.nextslicecap k 0 * i.bytes) := by
    have := growslice_fits (need := k) (old := 0) (bytes := i.bytes) (by omega) (by
     have : k * i.bytes ≤ 1000000000 * 1000 := Nat.mul_le_mul (by omega) (by omega)
     omega)
    omega
   refine ⟨.slice (some ⟨w.heap.size, 0, none⟩) (0 + k) (grownCap w k 0 e), w.drew.alloc (.cells (Builtin.zeroCells z.cells k ++ Builtin.zeroCells z.cells (grownCap w k 0 e - k)) e), ?_, ?_, ⟨rfl, rfl, rfl, by simp, fun q hq _ => Go.heap_alloc_old w.drew _ hq⟩, fun b hb => ?_, rfl⟩
   ·have h63' : ¬ (9223372036854775807 < (k : Int)) := by omega
    simp [Builtin.append_, run_underlying ht, run_underlying ht', sizeOf, typeInfo, hi, asInt, asIntOf, aES, h48, hk0, hk, hks, h63', nA, Question.forced, run_firstCells_none, newRow, grownCap, zeroValue, hz]
   ·refine ⟨by rw [List.nil_append, hlz]; simp, .inr ⟨w.heap.size, _, _, rfl, Nat.zero_le _, Go.heap_alloc_new w.drew _, by omega, hcm, ?_, ?_⟩⟩
    ·simp only [Array.size_append, size_zeroCells, hzs, ← Nat.add_mul]
     congr 1
     omega
    ·simp only [Array.toList_append, List.nil_append]
     rw [show (0 + k) * i.size = (Builtin.zeroCells z.cells k).toList.length by rw [hlz]; simp]
     exact List.take_left
   ·simp only [blk, Option.some.injEq] at hb
    subst hb
    exact ⟨.inr (Nat.le_refl _), by simp⟩
 ·have hst := fun (h : n * i.size + (Builtin.zeroCells z.cells k).toList.length ≤ cur.size) (h1 : ∀ u ∈ (Builtin.zeroCells z.cells k).toList, u.oneCell' = true) => run_storeCells_at P g (n * i.size) e (Builtin.zeroCells z.cells k).toList 0 cur w hg (by simpa using h) h1
  by_cases qU : n + k ≤ cap
  ·have nA : n * i.size + (Builtin.zeroCells z.cells k).toList.length ≤ cur.size := by rw [hlz, hcs, ← Nat.add_mul]; exact Nat.mul_le_mul_right _ qU
   have hst' := hst nA hz1
   simp only [Nat.add_zero] at hst'
   refine ⟨.slice (some ⟨g, 0, none⟩) (n + k) cap, w.setRow g (cur.toList.take (n * i.size) ++ (Builtin.zeroCells z.cells k).toList ++ cur.toList.drop (n * i.size + (Builtin.zeroCells z.cells k).toList.length)).toArray, ?_, ?_, ⟨rfl, rfl, rfl, by simp, fun q _ hq => setRow_other w g q _ (fun e => hq (by simp [blk, e]))⟩, fun b hb => ?_, rfl⟩
   ·by_cases hks : k * i.size = 0
    ·have e0 : (Builtin.zeroCells z.cells k).toList = [] := List.eq_nil_of_length_eq_zero (by rw [hlz]; exact hks)
     rw [e0] at hst' ⊢
     simp [Builtin.append_, run_underlying ht, run_underlying ht', sizeOf, typeInfo, hi, asInt, asIntOf, aES, h48, hk0, qU, hks, Addr.add_lit, hst']
    ·simp [Builtin.append_, run_underlying ht, run_underlying ht', sizeOf, typeInfo, hi, asInt, asIntOf, aES, h48, hk0, qU, hks, Addr.add_lit, hst', zeroValue, hz]
   ·refine ⟨by rw [List.length_append, aM.1, hlz, Nat.add_mul], .inr ⟨g, cap, _, rfl, hb0, setRow_heap w g cur _ e _ hg, qU, hcm, ?_, ?_⟩⟩
    ·simp only [List.size_toArray, List.length_append, List.length_take, List.length_drop, Array.length_toList]
     simp only [Array.length_toList] at nA
     omega
    ·rw [lE, show (n + k) * i.size = (xs ++ (Builtin.zeroCells z.cells k).toList).length by rw [List.length_append, aM.1, hlz, Nat.add_mul]]
     exact List.take_left
   ·simp only [blk, Option.some.injEq] at hb
    subst hb
    exact ⟨.inl rfl, by simpa using (Array.getElem?_eq_some_iff.1 hg).1⟩
  ·have holds : ∀ j u, xs[j]? = some u → w.cell? ((⟨g, 0, none⟩ : Addr).add j) = some u := aM.cells (g := g) rfl
   have hfo := run_firstCells_some (P := P) w.drew i.size n ⟨g, 0, none⟩ n cap xs aM.1 (by simpa using holds)
   have hkp : k ≠ 0 := by omega
   have hks : ¬ (k * i.size = 0) := by
    intro h
    rcases Nat.mul_eq_zero.1 h with h | h <;> omega
   have oB := grownCap_ge w (n + k) cap e
   have hcm' := grownCap_le_maxLen w (n + k) cap e (by simp only [maxLen]; omega)
   have nA : ¬ (281474976710656 < Builtin.nextslicecap (n + k) cap * i.bytes) := by
    have := growslice_fits (need := n + k) (old := cap) (bytes := i.bytes) (by omega) (by
     have : (n + k) * i.bytes ≤ 1000000000 * 1000 := Nat.mul_le_mul h63 (by omega)
     omega)
    omega
   refine ⟨.slice (some ⟨w.heap.size, 0, none⟩) (n + k) (grownCap w (n + k) cap e), w.drew.alloc (.cells (xs.toArray ++ Builtin.zeroCells z.cells k ++ Builtin.zeroCells z.cells (grownCap w (n + k) cap e - (n + k))) e), ?_, ?_, ⟨rfl, rfl, rfl, by simp, fun q hq _ => Go.heap_alloc_old w.drew _ hq⟩, fun b hb => ?_, rfl⟩
   ·have h63' : ¬ (9223372036854775807 < ((n : Int) + (k : Int))) := by omega
    simp [Builtin.append_, run_underlying ht, run_underlying ht', sizeOf, typeInfo, hi, asInt, asIntOf, aES, h48, hk0, qU, hks, h63', nA, Question.forced, hfo, newRow, grownCap, zeroValue, hz]
   ·refine ⟨by rw [List.length_append, aM.1, hlz, Nat.add_mul], .inr ⟨w.heap.size, _, _, rfl, Nat.zero_le _, Go.heap_alloc_new w.drew _, oB, hcm', ?_, ?_⟩⟩
    ·simp only [Array.size_append, List.size_toArray, size_zeroCells, hzs, aM.1, ← Nat.add_mul]
     congr 1
     omega
    ·simp only [Array.toList_append, List.append_assoc]
     rw [← List.append_assoc, show (n + k) * i.size = (xs ++ (Builtin.zeroCells z.cells k).toList).length by rw [List.length_append, aM.1, hlz, Nat.add_mul]]
     exact List.take_left
   ·simp only [blk, Option.some.injEq] at hb
    subst hb
    exact ⟨.inr (Nat.le_refl _), by simp⟩

end
end Go.Pe

/- Operations that make and write memory are met by the machine. -/
namespace Go.Pe
open Go Go.RowKit

section
variable {P : Program} {gl : List (Nat × Obj)} {S X : Nat → Prop} {w0 w w' : World} {m0 m : Nat → Option MV} {st : St} {a : Act}

theorem rH {w' : World} {N : Nat → Prop} {e : TypeId} {s : Nat} {els new : List PV} {v' : Value} {xs news : List Value} {f g : Nat → Nat → Value} (hs : 0 < s)
  (aM : w'.ownsRow 0 e s v' (els.length + new.length) (xs ++ news)) (hxl : xs.length = els.length * s)
  (hx : ∀ k j, k < els.length → j < s → xs[k * s + j]? = some (f k j)) (h2 : ∀ k (hk : k < els.length), (els[k]).cells.length = s) (h1 : ∀ k j, (f k j).oneCell' = true)
  (hr : ∀ k (hk : k < els.length) j (hj : j < (els[k]).cells.length), Rep w' N (f k j) ((els[k]).cells[j]))
  (hn : ∀ k j, k < new.length → j < s → news[k * s + j]? = some (g k j)) (hok : ∀ p ∈ new, kY s p) (g1 : ∀ k j, (g k j).oneCell' = true)
  (gr : ∀ k (hk : k < new.length) j (hj : j < (new[k]).cells.length), Rep w' N (g k j) ((new[k]).cells[j])) : fP w' N v' e s (els ++ new) := by
 refine ⟨xs ++ news, fun k j => if k < els.length then f k j else g (k - els.length) j, by simpa using aM, hs, fun k j hk hj => ?_, fun k hk => ?_, fun k j => by dsimp only; split <;> simp [h1, g1], fun k hk j hj => ?_⟩
 ·simp only [List.length_append] at hk
  rw [List.getElem?_append, hxl]
  by_cases hkk : k < els.length
  ·rw [if_pos (gW hkk hj)]
   simp only [hkk, if_true]
   exact hx k j hkk hj
  ·have hle : els.length * s ≤ k * s := Nat.mul_le_mul_right _ (by omega)
   rw [if_neg (by omega)]
   simp only [hkk, if_false]
   have := hn (k - els.length) j (by omega) hj
   rw [← this]
   congr 1
   rw [Nat.sub_mul]
   omega
 ·simp only [List.length_append] at hk
  rw [List.getElem_append]
  split
  ·exact h2 k _
  ·exact (hok _ (List.getElem_mem _)).1
 ·simp only [List.length_append] at hk
  by_cases hkk : k < els.length
  ·simp only [hkk, if_true]
   simp only [List.getElem_append_left hkk] at hj ⊢
   exact hr k hkk j hj
  ·simp only [hkk, if_false]
   have hkk' : els.length ≤ k := by omega
   simp only [List.getElem_append_right hkk'] at hj ⊢
   exact gr (k - els.length) (by omega) j hj

theorem aLD (E : Env P gl S X w0) (h : Sim S X w0 m0 st a w m) {t e : TypeId} {o : Oper} {s x : Operand}
  (ho : o.op = .call { callee := .builtin .append, args := #[s, x], argTypes := #[t, t] }) (he : dW P t = some e) {K : FV → St → Prop}
  (hcs : bB none (st.ev s)) (hcx : bB none (st.ev x))
  (hv : xO P st e (strip (st.ev s)) (strip (st.ev x)) K) {next : Act → World → Prop} {Q : Exit → Act → World → Prop}
  (hn : ∀ v fv st' w' m', Sim S X w0 m0 st' a w' m' → aF w' (aH S X w0.heap.size w' m' st'.own) m' v fv → K fv st' → next (a.put o.dst v) w') : o.wp P a w next Q := by
 obtain ⟨hu, hne⟩ := bR he
 have hs0 : 0 < P.cellsOf e := Nat.pos_of_ne_zero hne
 have nY := aU (h.evs s) hcs
 have aJU := aU (h.evs x) hcx
 unfold xO at hv
 split at hv
 ·rename_i new aUM
  obtain ⟨hok, hv⟩ := hv
  have hS := sJ hs0 h.eQ aJU aUM hok
  split at hv
  ·-- onto a row of one's own
   rename_i i hsi
   split at hv
   ·rename_i e' s' els hi
    split at hv
    ·rename_i hc
     obtain ⟨rfl, rfl, hk0, bAE, hby, hz⟩ := hc
     obtain ⟨hlen, hK⟩ := hv
     obtain ⟨ti, z, hti, hzz⟩ := pZ hz
     have hzf := E.zf e' hz
     have hzs : z.cells.size = P.cellsOf e' := by
      unfold sI at hzf
      simp [hti, hzz] at hzf
      rw [hzf]; simp [Program.cellsOf, hti]
     have oC : ti.size = P.cellsOf e' := by simp [Program.cellsOf, hti]
     rw [hsi] at nY
     generalize hav : a.eval s = av at nY
     cases nY with | own _ vp hvi =>
     obtain ⟨av, ag⟩ := vp
     have hd := h.drop i
     have hdi : (st.drop i).own[i]? = some (.row e' (P.cellsOf e') els) := by simp [St.drop, List.getElem?_map, hi, oL]
     have hNsame : ∀ q, aH S X w0.heap.size w m st.own q → aH S X w0.heap.size w m (st.drop i).own q := by
      rintro q (hq | ⟨q1, q2, q3⟩)
      ·exact .inl hq
      ·refine .inr ⟨q1, q2, fun j hj => q3 j ?_⟩
       obtain ⟨b, hb, hl⟩ := hj
       obtain ⟨b0, h0, rfl⟩ := eB hb
       exact ⟨b0, h0, by cases b0 <;> first | exact hl | rfl⟩
     obtain ⟨h00, xs, f, aM, hsp, hx, h2, h1, hr⟩ := h.eQ i _ _ hi rfl hvi
     simp only at h00 aM hav
     subst h00
     have finish : ∀ v' w1, (Builtin.append_ #[t, t] o.type #[av, a.eval x]).run P w = .ok v' w1 → w.grownBy w1 (blk av) →
       (∀ b, blk v' = some b → (blk av = some b ∨ w.heap.size ≤ b) ∧ b < w1.heap.size) → v'.oneCell' = true →
       (∀ (N' : Nat → Prop) (m' : Nat → Option MV), (∀ b, aH S X w0.heap.size w m st.own b → N' b) → fP w1 N' v' e' (P.cellsOf e') (els ++ new)) → o.wp P a w next Q := by
      intro v' w1 cA hg hb hv1 aUN
      obtain ⟨m', hs', hmi⟩ := hd.aC1 E (v' := v') (bl' := .row e' (P.cellsOf e') (els ++ new)) hdi rfl rfl hvi hk0 (oR i) (uG i) hg hb hv1 (fun N' m' hN' => ⟨rfl, aUN N' m' (fun b hb' => hN' b (hNsame b hb'))⟩)
      refine bL (v := v') (w' := w1) (by simp [execOp, ho, resolve, invoke, builtin, hav, cA]) (hn v' _ _ w1 m' hs' ?_ hK)
      exact .own i (v', []) hmi
     have hNb : ∀ w1, w.grownBy w1 (blk av) → ∀ q, aH S X w0.heap.size w m st.own q → w1.heap[q]? = w.heap[q]? := by
      intro w1 hg q hq
      refine hg.block q (bP E h hq) fun e => ?_
      exact h.ows.out i q ⟨_, hi, rfl⟩ (aP hvi (.inl e.symm)) hq
     rcases hS with ⟨c, hxv, rfl⟩ | ⟨ad, c, news, g, hxv, hnl, hnc, hn1, hng, g1, gr⟩
     ·refine finish av w (by rw [hxv]; exact oS w t o.type e' ti _ c hu hti av els.length xs aM) ⟨rfl, rfl, rfl, Nat.le_refl _, fun _ _ _ => rfl⟩ (fun b hb => ⟨.inl hb, h.ows.lt i b ⟨_, hi, rfl⟩ (aP hvi (.inl hb))⟩) (h.ows.len i _ hvi).2.1 (fun N' m' hN' => ?_)
      simp only [List.append_nil]
      exact fP.mono (h.eQ i _ _ hi rfl hvi).2 (fun _ _ => rfl) hN' (fun _ _ => rfl)
     ·obtain ⟨v', w1, cA, how, hg, hb, hv1⟩ := jF (P := P) w t o.type e' ti z (P.cellsOf e') (P.bytesOf e') hu hti hzz oC (fY hti) hzs hs0 av els.length xs aM ad new.length c news hnl hnc hn1
       (by simp only [maxLen]; omega) (by
        have : (els.length + new.length) * P.bytesOf e' ≤ 1000000000 * 1000 := Nat.mul_le_mul hlen hby
        omega)
      refine finish v' w1 (by rw [hxv]; exact cA) hg hb hv1 (fun N' m' hN' => ?_)
      exact rH hs0 how aM.1 hx h2 h1 (fun k hk j hj => (hr k hk j hj).mono (hNb w1 hg) hN') hng hok g1 (fun k hk j hj => (gr k hk j hj).mono (hNb w1 hg) hN')
    ·exact hv.elim
   ·exact hv.elim
  ·-- onto nil
   rename_i hsi
   split at hv
   ·rename_i hc
    obtain ⟨hby, hz⟩ := hc
    obtain ⟨hlen, hK⟩ := hv
    obtain ⟨ti, z, hti, hzz⟩ := pZ hz
    have hzf := E.zf e hz
    have hzs : z.cells.size = P.cellsOf e := by
     unfold sI at hzf
     simp [hti, hzz] at hzf
     rw [hzf]; simp [Program.cellsOf, hti]
    have oC : ti.size = P.cellsOf e := by simp [Program.cellsOf, hti]
    rw [hsi] at nY
    have hav := nY.bS
    have finish : ∀ v' w1, (Builtin.append_ #[t, t] o.type #[.slice none 0 0, a.eval x]).run P w = .ok v' w1 → Below w.heap.size w w1 →
      (∀ b, blk v' = some b → w.heap.size ≤ b ∧ b < w1.heap.size) → v'.oneCell' = true →
      (∀ (N' : Nat → Prop) (m' : Nat → Option MV), (∀ b, aH S X w0.heap.size w m st.own b → N' b) → fP w1 N' v' e (P.cellsOf e) new) → o.wp P a w next Q := by
     intro v' w1 cA hg hb hv1 aUN
     obtain ⟨m', hs', hmi, hmm, hN⟩ := h.bE E (v := v') (bl := .row e (P.cellsOf e) new) hg rfl hv1 hb (fun N' m' hN' _ => ⟨rfl, aUN N' m' hN'⟩)
     refine bL (v := v') (w' := w1) (by simp [execOp, ho, resolve, invoke, builtin, hav, cA]) (hn v' _ _ w1 m' hs' ?_ hK)
     exact .own _ (v', []) hmi
    have aOJ := World.ownsRow_nil w 0 e (P.cellsOf e)
    rcases hS with ⟨c, hxv, rfl⟩ | ⟨ad, c, news, g, hxv, hnl, hnc, hn1, hng, g1, gr⟩
    ·refine finish (.slice none 0 0) w (by rw [hxv]; exact oS w t o.type e ti _ c hu hti _ 0 [] aOJ) (Below.refl _ _) (fun b hb => by simp [blk] at hb) rfl (fun N' m' hN' => ?_)
     exact ⟨[], fun _ _ => .bool false, aOJ, hs0, fun k j hk => by simp at hk, fun k hk => by simp at hk, fun _ _ => rfl, fun k hk => by simp at hk⟩
    ·obtain ⟨v', w1, cA, how, hg, hb, hv1⟩ := jF (P := P) w t o.type e ti z (P.cellsOf e) (P.bytesOf e) hu hti hzz oC (fY hti) hzs hs0 (.slice none 0 0) 0 [] aOJ ad new.length c news hnl hnc hn1
      (by simp only [maxLen]; omega) (by
       have : (0 + new.length) * P.bytesOf e ≤ 1000000000 * 1000 := Nat.mul_le_mul (by omega) hby
       omega)
     have aN5 : Below w.heap.size w w1 := ⟨hg.os, hg.tape, hg.output, hg.size, fun k hk => hg.block k hk (by simp [blk])⟩
     refine finish v' w1 (by rw [hxv]; exact cA) aN5 (fun b hb' => ?_) hv1 (fun N' m' hN' => ?_)
     ·have := hb b hb'
      simp [blk] at this
      exact ⟨this.1, this.2⟩
     ·have := rH (N := N') (els := []) (xs := []) (f := fun _ _ => .bool false) hs0 (by simpa using how) (by simp) (fun k j hk => by simp at hk) (fun k hk => by simp at hk) (fun _ _ => rfl) (fun k hk => by simp at hk) hng hok g1
       (fun k hk j hj => (gr k hk j hj).mono (fun b hb' => aN5.block b (bP E h hb')) hN')
      simpa using this
   ·exact hv.elim
  ·exact hv.elim
 ·exact hv.elim

end
end Go.Pe

/- A row of one's own that is cut; zeros appended to one. -/
namespace Go.Pe
open Go Go.RowKit

section
variable {P : Program} {gl : List (Nat × Obj)} {S X : Nat → Prop} {w0 w w' : World} {m0 m : Nat → Option MV} {st : St} {a : Act}

theorem Sim.aJV (E : Env P gl S X w0) (h : Sim S X w0 m0 st a w m) {i : Nat} {v v' : MV} {bl bl' : Blk} (hi : st.own[i]? = some bl) (hl : bl.live = true) (hv : m i = some v)
  (sN : ∀ b, hasB v' b → hasB v b) (hv1 : v'.1.oneCell' = true ∧ ∀ u, u ∈ v'.2 → u.oneCell' = true) (hok : ∀ (N' : Nat → Prop) (m' : Nat → Option MV), (∀ b, aH S X w0.heap.size w m st.own b → N' b) → cY w N' m' v' bl') :
  ∃ m', Sim S X w0 m0 { st with own := st.own.set i .gone ++ [bl'] } a w m' ∧ m' st.own.length = some v' := by
 have hlt : i < st.own.length := (List.getElem?_eq_some_iff.1 hi).1
 let m' : Nat → Option MV := fun j => if j = st.own.length then some v' else m j
 have hm : ∀ j u, m j = some u → m' j = some u := by
  intro j u hu
  have := (h.ows.len j u hu).1
  simp only [m']
  rw [if_neg (by omega)]
  exact hu
 have hmo : ∀ j, j ≠ st.own.length → bA m' j = bA m j := by
  intro j hj
  unfold bA
  simp only [m']
  rw [if_neg hj]
 have hmL : ∀ b, bA m' st.own.length b → bA m i b := by
  intro b hb
  obtain ⟨u, hu, hb⟩ := hb
  simp only [m', if_true, Option.some.injEq] at hu
  subst hu
  exact aP hv (sN b hb)
 have eM : aK st.own i := ⟨bl, hi, hl⟩
 have cM : ∀ (j : Nat) (b : Blk), (st.own.set i .gone ++ [bl'])[j]? = some b → b.live = true → (j < st.own.length ∧ j ≠ i ∧ st.own[j]? = some b) ∨ (j = st.own.length ∧ b = bl') := by
  intro j b hb hbl
  rw [List.getElem?_append] at hb
  split at hb
  ·rename_i hj
   rw [List.length_set] at hj
   by_cases hji : i = j
   ·subst hji
    rw [List.getElem?_set_self hlt] at hb
    cases hb; cases hbl
   ·rw [List.getElem?_set_ne hji] at hb
    exact .inl ⟨hj, fun e => hji e.symm, hb⟩
  ·rename_i hj
   rw [List.length_set] at hj hb
   by_cases hj0 : j = st.own.length
   ·subst hj0
    simp at hb
    exact .inr ⟨rfl, hb.symm⟩
   ·rw [List.getElem?_eq_none (by simp; omega)] at hb; cases hb
 have hlv : ∀ j, aK (st.own.set i .gone ++ [bl']) j → (j < st.own.length ∧ j ≠ i ∧ aK st.own j) ∨ j = st.own.length := by
  rintro j ⟨b, hb, hbl⟩
  rcases cM j b hb hbl with ⟨h1, h2, h3⟩ | ⟨h1, _⟩
  ·exact .inl ⟨h1, h2, b, h3, hbl⟩
  ·exact .inr h1
 have hmb : ∀ j b, aK (st.own.set i .gone ++ [bl']) j → bA m' j b → ∃ j0, aK st.own j0 ∧ bA m j0 b ∧ (j0 = j ∨ (j0 = i ∧ j = st.own.length)) := by
  intro j b hj hb
  rcases hlv j hj with ⟨h1, h2, h3⟩ | rfl
  ·rw [hmo j (by omega)] at hb
   exact ⟨j, h3, hb, .inl rfl⟩
  ·exact ⟨i, eM, hmL b hb, .inr ⟨rfl, rfl⟩⟩
 have hN : ∀ q, aH S X w0.heap.size w m st.own q → aH S X w0.heap.size w m' (st.own.set i .gone ++ [bl']) q := by
  rintro q (hq | ⟨h1, h2, h3⟩)
  ·exact .inl hq
  ·refine .inr ⟨h1, h2, fun j hj hmj => ?_⟩
   obtain ⟨j0, g1, g2, _⟩ := hmb j q hj hmj
   exact h3 j0 g1 g2
 refine ⟨m', ⟨h.bel, ⟨fun j u hu => ?_, fun j b hb hbl => ?_, fun j k b hne hj hk hbj hbk => ?_, fun j b hj hbj => ?_, fun j b hj hbj hNb => ?_⟩, fun j b hj hbj => ?_, fun j hj => ?_, ?_, h.nt, h.df, fun t => ?_⟩, ?_⟩
 ·simp only [m'] at hu
  simp only [List.length_append, List.length_set, List.length_singleton]
  split at hu
  ·rename_i he; cases hu; exact ⟨by omega, hv1⟩
  ·have := h.ows.len j u hu; exact ⟨by omega, this.2⟩
 ·rcases cM j b hb hbl with ⟨h1, h2, h3⟩ | ⟨rfl, rfl⟩
  ·obtain ⟨u, hu, hok'⟩ := h.ows.ok j b h3 hbl
   exact ⟨u, hm j u hu, hok'.mono (fun _ _ => rfl) hN hm (fun _ _ => rfl)⟩
  ·exact ⟨v', by simp only [m', if_true], hok _ _ hN⟩
 ·obtain ⟨j0, g1, g2, g3⟩ := hmb j b hj hbj
  obtain ⟨k0, e1, e2, e3⟩ := hmb k b hk hbk
  by_cases hjk : j0 = k0
  ·subst hjk
   rcases g3 with rfl | ⟨rfl, rfl⟩ <;> rcases e3 with rfl | ⟨e4, rfl⟩
   ·exact hne rfl
   ·subst e4
    rcases hlv j0 hj with ⟨_, h2, _⟩ | h2
    ·exact h2 rfl
    ·omega
   ·rcases hlv j0 hk with ⟨_, h2, _⟩ | h2
    ·exact h2 rfl
    ·omega
   ·exact hne rfl
  ·exact h.ows.sep j0 k0 b hjk g1 e1 g2 e2
 ·obtain ⟨j0, g1, g2, _⟩ := hmb j b hj hbj
  exact h.ows.lt j0 b g1 g2
 ·rcases hNb with hS | ⟨_, _, h3⟩
  ·obtain ⟨j0, g1, g2, _⟩ := hmb j b hj hbj
   exact h.ows.out j0 b g1 g2 (.inl hS)
  ·exact h3 j hj hbj
 ·obtain ⟨j0, g1, g2, _⟩ := hmb j b hj hbj
  exact h.bnd j0 b g1 g2
 ·have := h.k0
  simp only [m']
  rw [if_neg (by simp only at hj; omega)]
  exact h.fix j hj
 ·have := h.k0
  simp only [List.length_append, List.length_set, List.length_singleton]
  omega
 ·exact (h.slots t).mono (fun _ _ => rfl) hN hm
 ·simp only [m', if_true]

theorem aLE (E : Env P gl S X w0) (h : Sim S X w0 m0 st a w m) {t : TypeId} {o : Oper} {x q : Operand} (ho : o.op = .slice t x none (some q) none) {i : Nat} {k : IntKind} {hh : Int}
  (hx : aF w (aH S X w0.heap.size w m st.own) m (a.eval x) (.own i)) (hq : a.eval q = .int k hh) {K : FV → St → Prop} (hv : aG6 P st t i hh K) {next : Act → World → Prop} {Q : Exit → Act → World → Prop}
  (hn : ∀ v fv st' w' m', Sim S X w0 m0 st' a w' m' → aF w' (aH S X w0.heap.size w' m' st'.own) m' v fv → K fv st' → next (a.put o.dst v) w') : o.wp P a w next Q := by
 unfold aG6 at hv
 split at hv
 ·rename_i e s els e' hi he
  split at hv
  ·rename_i hee
   subst hee
   obtain ⟨h0, h1, hK⟩ := hv
   generalize hav : a.eval x = av at hx
   cases hx with | own _ vp hvi =>
   obtain ⟨av, ag⟩ := vp
   obtain ⟨n, rfl⟩ : ∃ n : Nat, hh = n := ⟨hh.toNat, by omega⟩
   obtain ⟨h00, xs, f, aM, hs0, hxs, hcl, h1c, hr⟩ := h.eQ i _ _ hi rfl hvi
   simp only at h00 aM hav
   subst h00
   have hnl : n ≤ els.length := by omega
   have fin : ∀ v', (Instr.sliceAt t av none (some (.int k n)) none).run P w = .ok v' w → (∀ b, blk v' = some b → blk av = some b) → v'.oneCell' = true → w.ownsRow 0 e s v' n (xs.take (n * s)) → o.wp P a w next Q := by
    intro v' cA hb hv1 how
    have aWX : ∀ (N' : Nat → Prop) (m' : Nat → Option MV), (∀ b, aH S X w0.heap.size w m st.own b → N' b) → cY w N' m' (v', []) (.row e s (els.take n)) := by
     intro N' m' hN'
     have hlt : (els.take n).length = n := by rw [List.length_take]; omega
     refine ⟨rfl, xs.take (n * s), f, by rw [hlt]; exact how, hs0, fun k' j hk hj => ?_, fun k' hk => ?_, h1c, fun k' hk j hj => ?_⟩
     ·rw [hlt] at hk
      rw [List.getElem?_take, if_pos (gW hk hj)]
      exact hxs k' j (by omega) hj
     ·rw [List.getElem_take]; exact hcl k' (by rw [hlt] at hk; omega)
     ·simp only [List.getElem_take] at hj ⊢
      exact (hr k' (by rw [hlt] at hk; omega) j hj).mono (fun _ _ => rfl) hN'
    split at hK
    ·rename_i hk0
     have hd := h.drop i
     have hdi : (st.drop i).own[i]? = some (.row e s els) := by simp [St.drop, List.getElem?_map, hi, oL]
     have hNsame : ∀ q, aH S X w0.heap.size w m st.own q → aH S X w0.heap.size w m (st.drop i).own q := by
      rintro q (hq | ⟨q1, q2, q3⟩)
      ·exact .inl hq
      ·refine .inr ⟨q1, q2, fun j hj => q3 j ?_⟩
       obtain ⟨b, hb, hl⟩ := hj
       obtain ⟨b0, h0, rfl⟩ := eB hb
       exact ⟨b0, h0, by cases b0 <;> first | exact hl | rfl⟩
     obtain ⟨m', hs', hmi⟩ := hd.aC1 E (w' := w) (v' := v') (bl' := .row e s (els.take n)) hdi rfl rfl hvi hk0 (oR i) (uG i) ⟨rfl, rfl, rfl, Nat.le_refl _, fun _ _ _ => rfl⟩ (fun b hb' => ⟨.inl (hb b hb'), h.ows.lt i b ⟨_, hi, rfl⟩ (aP hvi (.inl (hb b hb')))⟩) hv1 (fun N' m' hN' => aWX N' m' fun b hb' => hN' b (hNsame b hb'))
     refine bL (v := v') (w' := w) (by simp [execOp, ho, hav, hq, cA]) (hn v' _ _ w m' hs' (.own i (v', []) hmi) (by simpa using hK))
    ·obtain ⟨m', hs', hmi⟩ := h.aJV E (v' := (v', [])) (bl' := .row e s (els.take n)) hi rfl hvi (fun b hb' => .inl (hb b (kB.1 hb'))) ⟨hv1, fun _ h => by cases h⟩ aWX
     refine bL (v := v') (w' := w) (by simp [execOp, ho, hav, hq, cA]) (hn v' _ _ w m' hs' (.own _ (v', []) hmi) (by simpa using hK))
   rcases aM.2 with ⟨rfl, hz⟩ | ⟨g, cap, cur, rfl, hb0, hg, hnc, hcm, hcs, lE⟩
   ·have hn0 : n = 0 := by omega
    subst hn0
    refine fin (.slice none 0 0) ?_ (fun b hb => by simp [blk] at hb) rfl ⟨by simp, .inl ⟨rfl, rfl⟩⟩
    have := aCU (P := P) (w := w) he none 0 0 0 0 none (some (.int k 0)) (Nat.le_refl _) (Nat.le_refl _) (Nat.le_refl _) (.inl ⟨rfl, rfl⟩) (.inr ⟨k, rfl⟩)
    rw [hz] at *
    simpa using this
   ·refine fin (.slice (some ⟨g, 0, none⟩) n cap) ?_ (fun b hb => hb) rfl ⟨?_, .inr ⟨g, cap, cur, rfl, hb0, hg, by omega, hcm, hcs, ?_⟩⟩
    ·have := aCU (P := P) (w := w) he (some ⟨g, 0, none⟩) els.length cap 0 n none (some (.int k n)) (Nat.zero_le _) hnl hnc (.inl ⟨rfl, rfl⟩) (.inr ⟨k, rfl⟩)
     rw [this]
     congr 2
     split
     ·rfl
     ·simp [Addr.add]
    ·rw [List.length_take, aM.1]
     exact Nat.min_eq_left (Nat.mul_le_mul_right _ hnl)
    ·rw [← lE, List.take_take, Nat.min_eq_left (Nat.mul_le_mul_right _ hnl)]
  ·exact hv.elim
 ·exact hv.elim

theorem aLF {t : TypeId} {p : PV} (h : rW P t = some p) : p.aJO = false := by
 unfold rW at h
 split at h
 ·split at h
  ·split at h
   ·simp only [Option.some.injEq] at h
    subst h; rfl
   ·cases h
  ·split at h
   ·simp only [Option.some.injEq] at h
    subst h
    unfold kC
    split <;> rfl
   ·cases h
  ·cases h
 ·cases h

theorem aHB (E : Env P gl S X w0) (h : Sim S X w0 m0 st a w m) {t t' e : TypeId} {o : Oper} {s x : Operand}
  (ho : o.op = .call { callee := .builtin .append, args := #[s, x], argTypes := #[t, t'] }) (he : dW P t = some e) {K : FV → St → Prop}
  (hcs : bB none (st.ev s)) (hcx : bB none (st.ev x))
  (hv : aCY P st e t' (strip (st.ev s)) (strip (st.ev x)) K) {next : Act → World → Prop} {Q : Exit → Act → World → Prop}
  (hn : ∀ v fv st' w' m', Sim S X w0 m0 st' a w' m' → aF w' (aH S X w0.heap.size w' m' st'.own) m' v fv → K fv st' → next (a.put o.dst v) w') : o.wp P a w next Q := by
 obtain ⟨hu, hne⟩ := bR he
 have hs0 : 0 < P.cellsOf e := Nat.pos_of_ne_zero hne
 have nY := aU (h.evs s) hcs
 have aJU := aU (h.evs x) hcx
 unfold aCY at hv
 split at hv
 ·rename_i ht'
  split at hv
  ·rename_i i n hsi hxi
   split at hv
   ·rename_i e' s' els z hi hz
    split at hv
    ·rename_i hc
     obtain ⟨rfl, rfl, hk0, hby, hhz, hzl⟩ := hc
     obtain ⟨hn0, hlen, hK⟩ := hv
     rw [hsi] at nY
     rw [hxi] at aJU
     have hxv := aJU.bS
     generalize hav : a.eval s = av at nY
     cases nY with | own _ vp hvi =>
     obtain ⟨av, ag⟩ := vp
     obtain ⟨k, rfl⟩ : ∃ k : Nat, n = k := ⟨n.toNat, by omega⟩
     simp only [Int.toNat_natCast, List.length_replicate] at hlen hK
     obtain ⟨ti, zv, fz, hti, hzz, cQ, f1, fr⟩ := rD (w := w) (N := aH S X w0.heap.size w m st.own) hz
     have oC : ti.size = P.cellsOf e' := by simp [Program.cellsOf, hti]
     have hzs : zv.cells.size = ti.size := by rw [cQ, oC]; simpa using hzl
     have hz1 : ∀ u ∈ (Builtin.zeroCells zv.cells k).toList, u.oneCell' = true := by
      intro u hu'
      simp only [Builtin.zeroCells, Array.toList_map, List.mem_map] at hu'
      obtain ⟨j, hj, rfl⟩ := hu'
      have hjm : j % zv.cells.size < zv.cells.size := Nat.mod_lt _ (by rw [hzs, oC]; exact hs0)
      rw [getElem!_pos zv.cells _ hjm]
      simp only [cQ]
      simp [aE]
      exact f1 _
     have hd := h.drop i
     have hdi : (st.drop i).own[i]? = some (.row e' (P.cellsOf e') els) := by simp [St.drop, List.getElem?_map, hi, oL]
     have hNsame : ∀ q, aH S X w0.heap.size w m st.own q → aH S X w0.heap.size w m (st.drop i).own q := by
      rintro q (hq | ⟨q1, q2, q3⟩)
      ·exact .inl hq
      ·refine .inr ⟨q1, q2, fun j hj => q3 j ?_⟩
       obtain ⟨b, hb, hl⟩ := hj
       obtain ⟨b0, h0, rfl⟩ := eB hb
       exact ⟨b0, h0, by cases b0 <;> first | exact hl | rfl⟩
     obtain ⟨h00, xs, f, aM, hsp, hx, h2, h1, hr⟩ := h.eQ i _ _ hi rfl hvi
     simp only at h00 aM hav
     subst h00
     rw [← oC] at aM
     obtain ⟨v', w1, cA, how, hg, hb, hv1⟩ := uH (P := P) w t t' o.type e' ti zv (P.bytesOf e') hu ht' hti hzz (fY hti) hzs (by rw [oC]; exact hs0) k hz1 av els.length xs aM (by omega) hby
     have hNb : ∀ q, aH S X w0.heap.size w m st.own q → w1.heap[q]? = w.heap[q]? := by
      intro q hq
      refine hg.block q (bP E h hq) fun e => ?_
      exact h.ows.out i q ⟨_, hi, rfl⟩ (aP hvi (.inl e.symm)) hq
     obtain ⟨m', hs', hmi⟩ := hd.aC1 E (v' := v') (bl' := .row e' (P.cellsOf e') (els ++ List.replicate k z)) hdi rfl rfl hvi hk0 (oR i) (uG i) hg hb hv1 (fun N' m' hN' => by
      have hN2 : ∀ b, aH S X w0.heap.size w m st.own b → N' b := fun b hb' => hN' b (hNsame b hb')
      rw [oC] at how aM
      refine ⟨rfl, ?_⟩
      refine rH hs0 (new := List.replicate k z) (news := (Builtin.zeroCells zv.cells k).toList) (g := fun _ j => fz j) (by simpa using how) aM.1 hx h2 h1 (fun k' hk j hj => (hr k' hk j hj).mono hNb hN2) (fun k' j hk hj => ?_) (fun p hp => ?_) (fun _ j => f1 j) (fun k' hk j hj => ?_)
      ·rw [List.length_replicate] at hk
       have hlt : k' * P.cellsOf e' + j < k * zv.cells.size := by rw [hzs, oC]; exact gW hk hj
       rw [Array.getElem?_toList]
       simp only [Builtin.zeroCells]
       rw [Array.getElem?_eq_getElem (by simpa using hlt)]
       simp only [Array.getElem_map, Array.getElem_range, hzs, oC]
       rw [Nat.mul_comm, Nat.mul_add_mod, Nat.mod_eq_of_lt hj]
       rw [getElem!_pos zv.cells j (by rw [hzs, oC]; exact hj)]
       congr 1
       simp only [cQ]
       simp [aE]
      ·rw [(List.mem_replicate.1 hp).2]
       exact ⟨hzl, aLF hz⟩
      ·simp only [List.getElem_replicate] at hj ⊢
       exact (fr j hj).mono hNb hN2)
     refine bL (v := v') (w' := w1) (by simp [execOp, ho, resolve, invoke, builtin, hav, hxv, cA]) (hn v' _ _ w1 m' hs' (.own i (v', []) hmi) hK)
    ·exact hv.elim
   ·exact hv.elim
  ·exact hv.elim
 ·exact hv.elim

end
end Go.Pe

/- Trees: rows of one's own that lead to rows of one's own. -/
namespace Go.Pe
open Go Go.RowKit

section
variable {P : Program} {gl : List (Nat × Obj)} {S X : Nat → Prop} {w0 w w' : World} {m0 m : Nat → Option MV} {st : St} {a : Act}

def aOK (i : Nat) (same : Prop) (js : List Nat) (x : FV) : Prop := (∀ j ∈ js, x.cK j = false) ∧ (x.cK i = false ∨ (same ∧ x.oK i = false))

theorem Sim.aHC (E : Env P gl S X w0) (h : Sim S X w0 m0 st a w m) {i : Nat} {v v' : MV} {bl bl' : Blk} (js : List Nat) (hi : st.own[i]? = some bl) (hl : bl.live = true) (hl' : bl'.live = true) (hv : m i = some v) (hk : st.k0 ≤ i) (hij : i ∉ js)
  (xR : ∀ t, aOK i (v'.1 = v.1) js (st.get t)) (aEP : ∀ (j : Nat) (cs : List FV), st.own[j]? = some (Blk.box cs) → ∀ x ∈ cs, aOK i (v'.1 = v.1) js x)
  (hg : w.grownBy w' (blk v.1)) (sN : ∀ b, hasB v' b → (hasB v b ∨ w.heap.size ≤ b ∨ ∃ j, j ∈ js ∧ aK st.own j ∧ bA m j b) ∧ b < w'.heap.size)
  (hv1 : v'.1.oneCell' = true ∧ ∀ u, u ∈ v'.2 → u.oneCell' = true)
  (hok : ∀ (N' : Nat → Prop) (m' : Nat → Option MV), (∀ b, aH S X w0.heap.size w m st.own b → N' b) → cY w' N' m' v' bl') :
  ∃ m', Sim S X w0 m0 { st with own := iE js 0 (st.own.set i bl') } a w' m' ∧ m' i = some v' := by
 have hlt : i < st.own.length := (List.getElem?_eq_some_iff.1 hi).1
 let m' : Nat → Option MV := fun j => if j = i then some v' else m j
 let own' : List Blk := iE js 0 (st.own.set i bl')
 have cM : ∀ (j : Nat) (b : Blk), own'[j]? = some b → b.live = true → j ∉ js ∧ ((j = i ∧ b = bl') ∨ (j ≠ i ∧ st.own[j]? = some b)) := by
  intro j b hb hbl
  simp only [own'] at hb
  rw [mY, Nat.zero_add] at hb
  split at hb
  ·cases hq : (st.own.set i bl')[j]? with
   | none => rw [hq] at hb; cases hb
   | some b1 => rw [hq] at hb; cases hb; cases hbl
  ·rename_i hc
   refine ⟨by simpa using hc, ?_⟩
   by_cases hj : j = i
   ·subst hj
    rw [List.getElem?_set_self hlt] at hb
    cases hb
    exact .inl ⟨rfl, rfl⟩
   ·rw [List.getElem?_set_ne (fun e => hj e.symm)] at hb
    exact .inr ⟨hj, hb⟩
 have eM : aK st.own i := ⟨bl, hi, hl⟩
 have hlv : ∀ j, aK own' j → j ∉ js ∧ aK st.own j := by
  rintro j ⟨b, hb, hbl⟩
  obtain ⟨h1, ⟨rfl, _⟩ | ⟨_, h2⟩⟩ := cM j b hb hbl
  ·exact ⟨h1, eM⟩
  ·exact ⟨h1, b, h2, hbl⟩
 have hmo : ∀ j, j ≠ i → m' j = m j := fun j hj => by simp only [m']; rw [if_neg hj]
 have hmo' : ∀ j b, j ≠ i → bA m' j b → bA m j b := by
  rintro j b hj ⟨u, hu, hb⟩
  rw [hmo j hj] at hu
  exact ⟨u, hu, hb⟩
 have hmb : ∀ j b, aK own' j → bA m' j b → b < w'.heap.size ∧ (w.heap.size ≤ b ∨ ∃ j0, aK st.own j0 ∧ bA m j0 b ∧ (j0 = j ∨ (j0 ∈ js ∧ j = i))) := by
  intro j b hj hb
  by_cases hji : j = i
  ·subst hji
   obtain ⟨u, hu, hb⟩ := hb
   simp only [m', if_true, Option.some.injEq] at hu
   subst hu
   obtain ⟨h1 | h1 | ⟨j0, h1, h2, h3⟩, h4⟩ := sN b hb
   ·exact ⟨h4, .inr ⟨j, eM, aP hv h1, .inl rfl⟩⟩
   ·exact ⟨h4, .inl h1⟩
   ·exact ⟨h4, .inr ⟨j0, h2, h3, .inr ⟨h1, rfl⟩⟩⟩
  ·have hb' := hmo' j b hji hb
   have hl0 := (hlv j hj).2
   exact ⟨Nat.lt_of_lt_of_le (h.ows.lt j b hl0 hb') hg.size, .inr ⟨j, hl0, hb', .inl rfl⟩⟩
 have cR : ∀ j b, aK own' j → bA m' j b → w.heap.size ≤ b → j = i := by
  intro j b hj hb hge
  refine Classical.byContradiction fun hji => ?_
  have := h.ows.lt j b (hlv j hj).2 (hmo' j b hji hb)
  omega
 have iF : ∀ k, k < w.heap.size → blk v.1 ≠ some k → w'.heap[k]? = w.heap[k]? := fun k hk hne => hg.block k hk (fun e => hne e.symm)
 have hN : ∀ q, aH S X w0.heap.size w m st.own q → aH S X w0.heap.size w' m' own' q := by
  intro q hNq
  have hq := bP E h hNq
  rcases hNq with hS | ⟨h1, h2, h3⟩
  ·exact .inl hS
  ·refine .inr ⟨h1, Nat.lt_of_lt_of_le h2 hg.size, fun j hj hmj => ?_⟩
   obtain ⟨_, h5 | ⟨j0, h5, h6, _⟩⟩ := hmb j q hj hmj
   ·omega
   ·exact h3 j0 h5 h6
 have hNb : ∀ q, aH S X w0.heap.size w m st.own q → w'.heap[q]? = w.heap[q]? := by
  intro q hq
  exact iF q (bP E h hq) (fun e => h.ows.out i q eM (aP hv (.inl e)) hq)
 have eS : ∀ u x, aOK i (v'.1 = v.1) js x → aF w (aH S X w0.heap.size w m st.own) m u x → aF w' (aH S X w0.heap.size w' m' own') m' u x := by
  intro u x hx hr
  refine (hr.mono (m' := m) hNb hN (fun _ _ => id)).change fun j hj => ?_
  by_cases hji : j = i
  ·subst hji
   rcases hx.2 with h1 | ⟨h1, h2⟩
   ·rw [h1] at hj; cases hj
   ·exact .inr ⟨v, v', hv, by simp only [m', if_true], h1, h2⟩
  ·exact .inl (hmo j hji)
 have aY1 : ∀ j k b, j ≠ k → aK own' j → aK own' k → bA m' j b → bA m' k b → False := by
  intro j k b hne hj hk hbj hbk
  obtain ⟨_, h1 | ⟨j0, h2, h3, h4⟩⟩ := hmb j b hj hbj
  ·exact hne ((cR j b hj hbj h1).trans (cR k b hk hbk h1).symm)
  ·obtain ⟨_, h1 | ⟨k0, g2, g3, g4⟩⟩ := hmb k b hk hbk
   ·exact hne ((cR j b hj hbj h1).trans (cR k b hk hbk h1).symm)
   ·have e : j0 = k0 := Classical.byContradiction fun hn => h.ows.sep j0 k0 b hn h2 g2 h3 g3
    subst e
    rcases h4 with rfl | ⟨h4, rfl⟩ <;> rcases g4 with rfl | ⟨g4, rfl⟩
    ·exact hne rfl
    ·exact (hlv j0 hj).1 g4
    ·exact (hlv j0 hk).1 h4
    ·exact hne rfl
 refine ⟨m', ⟨⟨hg.os.trans h.bel.os, hg.tape.trans h.bel.tape, hg.output.trans h.bel.output, Nat.le_trans h.bel.size hg.size, fun k hk hX => (iF k (Nat.lt_of_lt_of_le hk h.bel.size) fun e => ?_).trans (h.bel.block k hk hX)⟩,
  ⟨fun j u hu => ?_, fun j b hj hbl => ?_, fun j k b hne hj hk' hbj hbk => aY1 j k b hne hj hk' hbj hbk, fun j b hj hmb' => (hmb j b hj hmb').1, fun j b hj hmb' hq => ?_⟩, fun j b hj hm => ?_, fun j hj => ?_, ?_, h.nt, h.df, fun t => eS _ _ (xR t) (h.slots t)⟩, by simp [m']⟩
 ·rcases h.bnd i k eM (aP hv (.inl e)) with h1 | h1
  ·omega
  ·exact hX h1
 ·simp only [iR, List.length_set]
  simp only [m'] at hu
  split at hu
  ·rename_i e; subst e; cases hu; exact ⟨hlt, hv1⟩
  ·exact h.ows.len j u hu
 ·obtain ⟨hjs, ⟨rfl, rfl⟩ | ⟨hji, hb⟩⟩ := cM j b hj hbl
  ·exact ⟨v', by simp [m'], hok _ _ hN⟩
  ·obtain ⟨u, hu, hok'⟩ := h.ows.ok j b hb hbl
   refine ⟨u, by rw [hmo j hji]; exact hu, ?_⟩
   have hvj : ∀ q, hasB u q → w'.heap[q]? = w.heap[q]? := by
    intro q hq
    refine iF q (h.ows.lt j q ⟨b, hb, hbl⟩ (aP hu hq)) fun e => ?_
    exact h.ows.sep j i q hji ⟨b, hb, hbl⟩ eM (aP hu hq) (aP hv (.inl e))
   cases b with
   | gone => trivial
   | row e s els => exact ⟨hok'.1, hok'.2.mono hNb hN (fun q hq => hvj q (.inl hq))⟩
   | tree e s et els => exact lR.mono hok' hvj
   | box cs =>
    obtain ⟨h0, b, T, f, h9, hh, h1, hr⟩ := hok'
    exact ⟨h0, b, T, f, h9, by rw [hvj b (.inl (by rw [h9]; rfl))]; exact hh, h1, fun k hk => eS _ _ (aEP j cs hb _ (List.getElem_mem hk)) (hr k hk)⟩
 ·rcases hq with hS | ⟨_, _, h3⟩
  ·obtain ⟨_, h5 | ⟨j0, h5, h6, _⟩⟩ := hmb j b hj hmb'
   ·have := E.Slt b hS; have := h.bel.size; omega
   ·exact h.ows.out j0 b h5 h6 (.inl hS)
  ·exact h3 j hj hmb'
 ·obtain ⟨_, h5 | ⟨j0, h5, h6, _⟩⟩ := hmb j b hj hm
  ·have := h.bel.size; exact .inl (by omega)
  ·exact h.bnd j0 b h5 h6
 ·have : j < st.k0 := hj
  simp only [m']
  rw [if_neg (by omega)]
  exact h.fix j hj
 ·show st.k0 ≤ (iE js 0 (st.own.set i bl')).length
  rw [iR, List.length_set]
  exact h.k0

theorem lS (n : Nat) (g : Nat → Value) : (aE n g).length = n := by simp

def gh (x : FV) (u : Value) : Value := match x with
 | .own _ => u
 | _ => .slice none 0 0

theorem aET (v : Value) : mD (kC (.val v)) = true := by
 unfold kC
 split <;> rfl

theorem iH {N : Nat → Prop} {v : Value} {p : PV} (h : Rep w N v p) (hp : mD p = true) : Rep w (fun _ => False) v p := by
 unfold mD at hp
 split at hp
 ·cases h with | val _ h => exact .val _ h
 ·cases h with
  | nil a c => exact .nil a c
  | lst b o c s _ f _ _ _ _ _ _ => exact .nil _ _
 ·cases hp

theorem fP.aHD {N : Nat → Prop} {v : Value} {e : TypeId} {s : Nat} {els : List PV} (h : fP w N v e s els) (hv : qT els) : fP w (fun _ => False) v e s els := by
 obtain ⟨xs, f, h1, h2, h3, h4, h5, h6⟩ := h
 refine ⟨xs, f, h1, h2, h3, h4, h5, fun k hk j hj => ?_⟩
 have h7 := h6 k hk j hj
 obtain ⟨u, hu⟩ := hv _ (List.getElem_mem hk)
 refine iH h7 ?_
 have : ∀ p : PV, p = .val u → ∀ j (hj : j < p.cells.length), mD p.cells[j] = true := by
  rintro _ rfl j hj
  simp only [PV.cells, List.length_singleton] at hj
  obtain rfl : j = 0 := by omega
  rfl
 exact this _ hu j hj

theorem oT : ∀ {l : List (Nat × List PV)}, mT l → ∀ y ∈ l, qT y.2
 | [], _, y, hy => by cases hy
 | x :: r, h, y, hy => by
  rcases List.mem_cons.1 hy with rfl | hy
  ·exact h.1
  ·exact oT h.2 y hy

theorem rI {own : List Blk} {et : TypeId} : ∀ {cs : List FV} {ps : List PV} {jl : List (Nat × List PV)}, jE own et cs = some (ps, jl) → ps.length = cs.length ∧
  (∀ q (hq : q < cs.length) (hq' : q < ps.length), ∃ l, kH own et cs[q] = some (ps[q], l) ∧ ∀ y ∈ l, y ∈ jl) ∧
  ((jl.map (·.1)).Nodup → ∀ q q' (hq : q < cs.length) (hq' : q' < cs.length) j, q ≠ q' → cs[q] = .own j → cs[q'] ≠ .own j) ∧ (∀ j, j ∈ jl.map (·.1) → FV.own j ∈ cs)
 | [], ps, jl, h => by
  simp only [jE, Option.some.injEq, Prod.mk.injEq] at h
  obtain ⟨rfl, rfl⟩ := h
  exact ⟨rfl, fun q hq => by simp at hq, fun _ q q' hq => by simp at hq, fun j hj => by simp at hj⟩
 | x :: r, ps, jl, h => by
  simp only [jE] at h
  split at h
  ·rename_i p js ps' ks hp hps
   simp only [Option.some.injEq, Prod.mk.injEq] at h
   obtain ⟨rfl, rfl⟩ := h
   obtain ⟨h1, h2, h3, h4⟩ := rI hps
   have aM : ∀ (r' : List FV) (ps2 : List PV) (ks2 : List (Nat × List PV)), jE own et r' = some (ps2, ks2) → ∀ j, FV.own j ∈ r' → j ∈ ks2.map (·.1) := by
    intro r'
    induction r' with
    | nil => intro _ _ _ j hj; cases hj
    | cons y r' ih =>
     intro ps2 ks2 h j hj
     simp only [jE] at h
     split at h
     ·rename_i p2 js2 ps3 ks3 hp2 aY2
      simp only [Option.some.injEq, Prod.mk.injEq] at h
      obtain ⟨_, rfl⟩ := h
      rw [List.map_append, List.mem_append]
      rcases List.mem_cons.1 hj with rfl | hj
      ·left
       simp only [kH] at hp2
       split at hp2
       ·split at hp2
        ·cases hp2; simp
        ·cases hp2
       ·cases hp2
      ·exact .inr (ih _ _ aY2 j hj)
     ·cases h
   have hx : ∀ j, x = .own j → j ∈ js.map (·.1) := by
    rintro j rfl
    simp only [kH] at hp
    split at hp
    ·split at hp
     ·cases hp; simp
     ·cases hp
    ·cases hp
   refine ⟨by simp [h1], fun q hq hq' => ?_, fun hnd q q' hq hq' j hne hj hj' => ?_, fun j hj => ?_⟩
   ·cases q with
    | zero => exact ⟨js, hp, fun y hy => List.mem_append.2 (.inl hy)⟩
    | succ q =>
     obtain ⟨l, hl1, hl2⟩ := h2 q (by simpa using hq) (by simpa using hq')
     exact ⟨l, hl1, fun y hy => List.mem_append.2 (.inr (hl2 y hy))⟩
   ·rw [List.map_append, List.nodup_append] at hnd
    obtain ⟨n1, n2, n3⟩ := hnd
    cases q with
    | zero =>
     cases q' with
     | zero => exact hne rfl
     | succ q' =>
      simp only [List.getElem_cons_zero] at hj
      simp only [List.getElem_cons_succ] at hj'
      exact n3 j (hx j hj) j (aM r ps' ks hps j (by rw [← hj']; exact List.getElem_mem _)) rfl
    | succ q =>
     cases q' with
     | zero =>
      simp only [List.getElem_cons_zero] at hj'
      simp only [List.getElem_cons_succ] at hj
      exact n3 j (hx j hj') j (aM r ps' ks hps j (by rw [← hj]; exact List.getElem_mem _)) rfl
     | succ q' =>
      simp only [List.getElem_cons_succ] at hj hj'
      exact h3 n2 q q' (by simpa using hq) (by simpa using hq') j (by omega) hj hj'
   ·rw [List.map_append, List.mem_append] at hj
    rcases hj with hj | hj
    ·have : x = .own j := by
      cases x <;> simp only [kH] at hp <;> try (cases hp; done)
      case pv p0 =>
       cases p0 with
       | val v => cases hp; simp at hj
       | lst l =>
        cases l with
        | nil => cases hp; simp at hj
        | cons y r => cases hp
       | _ => cases hp
      case own i =>
       split at hp
       ·split at hp
        ·cases hp; simp at hj; rw [hj]
        ·cases hp
       ·cases hp
     rw [this]; exact List.mem_cons_self
    ·exact List.mem_cons_of_mem _ (h4 j hj)
  ·cases h

theorem aJW {N : Nat → Prop} {own : List Blk} (aM : ∀ i b v, own[i]? = some b → b.live = true → m i = some v → cY w N m v b) {et : TypeId} {x : FV} {u : Value} {p : PV} {l : List (Nat × List PV)} (hr : aF w N m u x)
  (h : kH own et x = some (p, l)) (hv : mT l) : aAL w et u (gh x u) p ∧ p.one = true ∧ ∀ b, blk (gh x u) = some b → ∃ j, x = .own j ∧ aK own j ∧ bA m j b := by
 cases x with
 | pv p0 =>
  have hp := hr.eX
  cases p0 with
  | val v =>
   simp only [kH, Option.some.injEq, Prod.mk.injEq] at h
   obtain ⟨rfl, rfl⟩ := h
   refine ⟨.inl ⟨rfl, iH (mC hp) (aET v)⟩, ?_, fun b hb => by simp [gh, blk] at hb⟩
   unfold kC; split <;> rfl
  | lst l0 =>
   cases l0 with
   | nil =>
    simp only [kH, Option.some.injEq, Prod.mk.injEq] at h
    obtain ⟨rfl, rfl⟩ := h
    exact ⟨.inl ⟨rfl, iH hp rfl⟩, rfl, fun b hb => by simp [gh, blk] at hb⟩
   | cons y r => simp [kH] at h
  | _ => simp [kH] at h
 | own j =>
  simp only [kH] at h
  split at h
  ·rename_i e s l0 hj
   split at h
   ·rename_i hc
    simp only [Option.some.injEq, Prod.mk.injEq] at h
    obtain ⟨rfl, rfl⟩ := h
    obtain ⟨rfl, rfl⟩ := hc
    cases hr with | own _ vv hvv =>
    have hok := aM j _ _ hj rfl hvv
    exact ⟨.inr ⟨l0, rfl, rfl, hok.2.aHD hv.1⟩, rfl, fun b hb => ⟨j, rfl, ⟨_, hj, rfl⟩, aP hvv (.inl hb)⟩⟩
   ·cases h
  ·cases h
 | _ => simp [kH] at h

theorem Sim.cV (h : Sim S X w0 m0 st a w m) : ∀ (js : List Nat), Sim S X w0 m0 (st.cV js) a w m
 | [] => h
 | j :: r => (Sim.cV h r).drop j

theorem qF {b : Blk} {i : Nat} (hi : st.own[i]? = some b) (hb : ∀ cs, b ≠ .box cs) : ∀ (js : List Nat), (st.cV js).own[i]? = some b
 | [] => hi
 | j :: r => by
  have := qF hi hb r
  simp only [St.cV, St.drop, List.getElem?_map, this, Option.map_some, Option.some.injEq]
  cases b with
  | box cs => exact absurd rfl (hb cs)
  | _ => rfl

theorem iI {i j : Nat} {x : FV} (h : x.cK j = false) : (fR i x).cK j = false := by
 unfold fR
 split
 ·rfl
 ·exact h

theorem xT {i j : Nat} {x : FV} (h : x.oK j = false) : (fR i x).oK j = false := by
 unfold fR
 split
 ·rfl
 ·exact h

theorem lG (i t : Nat) : (st.drop i).get t = fR i (st.get t) := kI (fR i) (by simp [fR]) st.slots t

theorem mE {i j : Nat} {cs : List FV} (h : (st.drop i).own[j]? = some (.box cs)) : ∃ cs0, st.own[j]? = some (.box cs0) ∧ cs = cs0.map (fR i) := by
 simp only [St.drop] at h
 obtain ⟨b0, h0, hb⟩ := eB h
 cases b0 <;> simp only [oL] at hb <;> try (cases hb; done)
 cases hb
 exact ⟨_, h0, rfl⟩

theorem qG : ∀ (js : List Nat) (j : Nat), j ∈ js → ∀ t, ((st.cV js).get t).cK j = false
 | [], j, hj, t => by cases hj
 | k :: r, j, hj, t => by
  simp only [St.cV]
  rw [lG]
  rcases List.mem_cons.1 hj with rfl | hj
  ·exact iG _ _
  ·exact iI (qG r j hj t)

theorem nB : ∀ (js : List Nat) (j : Nat), j ∈ js → ∀ (i : Nat) (cs : List FV), (st.cV js).own[i]? = some (.box cs) → ∀ x ∈ cs, x.cK j = false
 | [], j, hj, i, cs, h, x, hx => by cases hj
 | k :: r, j, hj, i, cs, h, x, hx => by
  simp only [St.cV] at h
  obtain ⟨cs0, h0, rfl⟩ := mE h
  obtain ⟨y, hy, rfl⟩ := List.mem_map.1 hx
  rcases List.mem_cons.1 hj with rfl | hj
  ·exact iG _ _
  ·exact iI (nB r j hj i cs0 h0 y hy)

theorem aEU {f : FV → Bool} (hj : f .junk = true) : ∀ (l : List (Nat × FV)), (l.all fun x => f x.2) = true → ∀ t, f (look l t) = true
 | [], _, t => hj
 | (k, x) :: r, h, t => by
  simp only [List.all_cons, Bool.and_eq_true] at h
  simp only [look]
  split
  ·exact h.1
  ·exact aEU hj r h.2 t

theorem aLG {i : Nat} (h : st.vT i = true) (t : Nat) : (st.get t).oK i = false := by
 unfold St.vT at h
 simp only [Bool.and_eq_true] at h
 have := aEU (f := fun x => !x.oK i) (by simp [FV.oK]) st.slots h.1 t
 simpa [St.get] using this

theorem aHE {i : Nat} (h : st.vT i = true) (j : Nat) (cs : List FV) (hj : st.own[j]? = some (.box cs)) : ∀ x ∈ cs, x.oK i = false := by
 unfold St.vT at h
 simp only [Bool.and_eq_true] at h
 have := List.all_eq_true.1 h.2 _ (List.mem_of_getElem? hj)
 simp only [Bool.not_eq_true'] at this
 intro x hx
 obtain ⟨q, hq, rfl⟩ := List.getElem_of_mem hx
 exact tW this q hq

theorem vU {i : Nat} (h : st.vT i = true) : ∀ (js : List Nat), (∀ t, ((st.cV js).get t).oK i = false) ∧ ∀ (j : Nat) (cs : List FV), (st.cV js).own[j]? = some (.box cs) → ∀ x ∈ cs, x.oK i = false
 | [] => ⟨aLG h, aHE h⟩
 | k :: r => by
  obtain ⟨h1, h2⟩ := vU h r
  refine ⟨fun t => ?_, fun j cs hj x hx => ?_⟩
  ·simp only [St.cV]; rw [lG]; exact xT (h1 t)
  ·simp only [St.cV] at hj
   obtain ⟨cs0, h0, rfl⟩ := mE hj
   obtain ⟨y, hy, rfl⟩ := List.mem_map.1 hx
   exact xT (h2 j cs0 h0 y hy)

theorem lH {j : Nat} (h : aK st.own j) : ∀ (js : List Nat), aK (st.cV js).own j
 | [] => h
 | k :: r => by
  obtain ⟨b, hb, hl⟩ := lH h r
  refine ⟨oL k b, ?_, by cases b <;> first | exact hl | rfl⟩
  simp only [St.cV, St.drop, List.getElem?_map, hb, Option.map_some]

theorem Sim.aLH (E : Env P gl S X w0) (h : Sim S X w0 m0 st a w m) {i k b s : Nat} {e et t : TypeId} {els : List PV} {v : Value} {cs : List FV} {ps : List PV} {jl : List (Nat × List PV)} (hi : st.own[i]? = some (.tree e s et els)) (hb : jI m i = some b)
  (hk0 : st.k0 ≤ i) (hfc : ∃ g : Nat → Value, v.cells = (aE cs.length g).toArray ∧ (∀ j, (g j).oneCell' = true) ∧ ∀ j (hj : j < cs.length), aF w (aH S X w0.heap.size w m st.own) m (g j) cs[j])
  (hl : jE st.own et cs = some (ps, jl)) (hv : mT jl) (hnd : (jl.map (·.1)).Nodup) (hij : i ∉ jl.map (·.1)) (tT : st.vT i = true)
  (hn : cs.length = P.cellsOf t) (hn0 : P.cellsOf t ≠ 0) (hs : P.cellsOf t = s) (hk : k < els.length) :
  ∃ w' m', (storeVar t ⟨b, k * s + 0, none⟩ v).run P w = .ok () w' ∧ Sim S X w0 m0 (st.aAV i (.tree e s et (els.set k (.agg ps))) (jl.map (·.1))) a w' m' := by
 obtain ⟨⟨u, ug⟩, hu, hbu⟩ := cJ hb
 have hok := h.eQ i _ _ hi rfl hu
 obtain ⟨xs, f, aM, hs0, hx, h2, h1, hgl, hlf, hsp, htp⟩ := hok
 simp only at aM hbu hgl hlf hsp htp
 obtain ⟨g, hg, g1, gr⟩ := hfc
 obtain ⟨l1, l2, l3, l4⟩ := rI hl
 have hcs : cs.length = s := by rw [hn, hs]
 have kJ : ∀ q (hq : q < cs.length), aAL w et (g q) (gh cs[q] (g q)) (ps[q]'(by omega)) ∧ (ps[q]'(by omega)).one = true ∧ ∀ b, blk (gh cs[q] (g q)) = some b → ∃ j, cs[q] = .own j ∧ aK st.own j ∧ bA m j b := by
  intro q hq
  obtain ⟨l, hl1, hl2⟩ := l2 q hq (by omega)
  refine aJW h.eQ (gr q hq) hl1 ?_
  clear hl1
  induction l with
  | nil => trivial
  | cons y r ih => exact ⟨oT hv y (hl2 y (by simp)), ih (fun z hz => hl2 z (by simp [hz]))⟩
 have hjs : ∀ (q : Nat) (hq : q < cs.length) j, cs[q] = .own j → j ∈ jl.map (·.1) := by
  intro q hq j hj
  obtain ⟨l, hl1, hl2⟩ := l2 q hq (by omega)
  rw [hj] at hl1
  simp only [kH] at hl1
  split at hl1
  ·split at hl1
   ·rename_i lj _ _
    simp only [Option.some.injEq, Prod.mk.injEq] at hl1
    obtain ⟨_, rfl⟩ := hl1
    exact List.mem_map.2 ⟨(j, lj), hl2 (j, lj) (by simp), rfl⟩
   ·cases hl1
  ·cases hl1
 rcases aM.2 with ⟨rfl, _⟩ | ⟨b', cap, cur, rfl, hb0, hh, oB, hcm, aWY, lE⟩
 ·simp [blk] at hbu
 simp [blk] at hbu
 subst hbu
 have hin : k * s + s ≤ els.length * s := by
  have := Nat.mul_le_mul_right s (show k + 1 ≤ els.length from hk)
  rw [Nat.add_mul, Nat.one_mul] at this
  omega
 have hcap' : els.length * s ≤ cap * s := Nat.mul_le_mul_right s oB
 have cA := jJ (P := P) (w := w) hg hn hn0 g1 hh (off := k * s + 0) (by omega)
 simp only [Nat.add_zero, hcs] at cA ⊢
 let gs : List Value := (List.range cs.length).map fun q => gh (cs.getD q .junk) (g q)
 have hgs : ∀ q (hq : q < cs.length), gs[q]? = some (gh cs[q] (g q)) := by
  intro q hq
  simp only [gs, List.getElem?_map, List.getElem?_range hq, Option.map_some]
  simp [List.getD, List.getElem?_eq_getElem hq]
 have aOL : gs.length = s := by simp [gs, hcs]
 let v' : MV := (.slice (some ⟨b', 0, none⟩) els.length cap, aS ug (k * s) gs)
 have hv'n : ∀ n, v'.2[n]? = if k * s ≤ n ∧ n < k * s + s then gs[n - k * s]? else ug[n]? := by
  intro n
  simp only [v']
  rw [bK (by rw [aOL, hgl]; exact hin), aOL]
 have hv'm : ∀ x, x ∈ v'.2 → x ∈ ug ∨ ∃ q, ∃ hq : q < cs.length, x = gh cs[q] (g q) := by
  intro x hx'
  obtain ⟨n, hn'⟩ := List.getElem?_of_mem hx'
  rw [hv'n] at hn'
  split at hn'
  ·rename_i hc
   rw [hgs (n - k * s) (by omega)] at hn'
   cases hn'
   exact .inr ⟨_, by omega, rfl⟩
  ·exact .inl (List.mem_of_getElem? hn')
 have aTT : ∀ c, hasB v' c → (hasB (.slice (some ⟨b', 0, none⟩) els.length cap, ug) c) ∨ ∃ j, j ∈ jl.map (·.1) ∧ aK st.own j ∧ bA m j c := by
  rintro c (hc | ⟨x, hx', hc⟩)
  ·exact .inl (.inl hc)
  ·rcases hv'm x hx' with h3 | ⟨q, hq, rfl⟩
   ·exact .inl (.inr ⟨x, h3, hc⟩)
   ·obtain ⟨j, h4, h5, h6⟩ := (kJ q hq).2.2 c hc
    exact .inr ⟨j, hjs q hq j h4, h5, h6⟩
 have eM : aK st.own i := ⟨_, hi, rfl⟩
 have hold : ∀ c, c ≠ b' → (w.setRow b' (aS cur.toList (k * s) (aE s g)).toArray).heap[c]? = w.heap[c]? := fun c hc => setRow_other w b' c _ hc
 have aEV : ∀ x, x ∈ ug → ∀ c, blk x = some c → c ≠ b' := by
  intro x hx' c hc e
  subst e
  exact htp x c hx' hc (by simp [blk])
 have aOM : ∀ q (hq : q < cs.length) c, blk (gh cs[q] (g q)) = some c → c ≠ b' := by
  intro q hq c hc e
  subst e
  obtain ⟨j, h4, h5, h6⟩ := (kJ q hq).2.2 c hc
  exact h.ows.sep j i c (fun e => hij (e ▸ hjs q hq j h4)) h5 eM h6 (aP hu (.inl rfl))
 obtain ⟨n1, n2⟩ := vU tT (jl.map (·.1))
 obtain ⟨m', hs', _⟩ := (h.cV (jl.map (·.1))).aHC E (w' := w.setRow b' (aS cur.toList (k * s) (aE s g)).toArray) (v' := v') (bl' := .tree e s et (els.set k (.agg ps))) (jl.map (·.1))
  (qF hi (fun cs => by simp) _) rfl rfl hu (by
   have : ∀ js, (st.cV js).k0 = st.k0 := by intro js; induction js with | nil => rfl | cons _ _ ih => exact ih
   rw [this]; exact hk0) hij
  (fun t => ⟨fun j hj => qG _ j hj t, .inr ⟨rfl, n1 t⟩⟩) (fun j cs' hj x hx' => ⟨fun q hq => nB _ q hq j cs' hj x hx', .inr ⟨rfl, n2 j cs' hj x hx'⟩⟩)
  ⟨rfl, rfl, rfl, by simp, fun q _ hq => hold q (fun e => hq (by rw [e]; rfl))⟩
  (fun c hc => ⟨(aTT c hc).imp id (fun ⟨j, h4, h5, h6⟩ => .inr ⟨j, h4, lH h5 _, h6⟩), by
   have hsz : (w.setRow b' (aS cur.toList (k * s) (aE s g)).toArray).heap.size = w.heap.size := by simp
   rw [hsz]
   rcases aTT c hc with h3 | ⟨j, _, h5, h6⟩
   ·exact h.ows.lt i c eM (aP hu h3)
   ·exact h.ows.lt j c h5 h6⟩)
  ⟨rfl, fun x hx' => by
   rcases hv'm x hx' with h3 | ⟨q, hq, rfl⟩
   ·exact (h.ows.len i _ hu).2.2 x h3
   ·unfold gh; split
    ·exact g1 q
    ·rfl⟩
  (fun N' m' hN' => by
   refine ⟨aS xs (k * s) (aE s g), fun k' j => if k' = k then (if j < s then g j else f k' j) else f k' j, ⟨?_, .inr ⟨b', cap, _, by simp [v'], hb0, setRow_heap w b' _ _ e (0, 0) hh, by simpa using oB, hcm, by simp [aS]; omega, ?_⟩⟩, hs0, fun k' j hk' hj => ?_, fun k' hk' => ?_,
    fun k' j => by dsimp only; split <;> (try split) <;> simp [g1, h1], ?_, fun k' hk' j hj => ?_, ?_, ?_⟩
   ·rw [List.length_set]
    unfold aS
    rw [List.length_append, List.length_append, List.length_take, List.length_drop, aM.1, lS, Nat.min_eq_left (by omega)]
    omega
   ·apply List.ext_getElem?
    intro q
    have e1 : (aS cur.toList (k * s) (aE s g)).toArray.toList = aS cur.toList (k * s) (aE s g) := rfl
    rw [e1, List.length_set, List.getElem?_take, bK (by simp; omega), bK (by simp [aM.1]; omega)]
    simp only [List.length_map, List.length_range]
    by_cases hq : k * s ≤ q ∧ q < k * s + s
    ·rw [if_pos hq, if_pos hq, if_pos (by omega)]
    ·rw [if_neg hq, if_neg hq]
     by_cases h3 : q < els.length * s
     ·rw [if_pos h3, ← lE, List.getElem?_take, if_pos h3]
     ·rw [if_neg h3, List.getElem?_eq_none (by rw [aM.1]; omega)]
   ·simp only [List.length_set] at hk'
    rw [bK (by simp [aM.1]; omega)]
    simp only [List.length_map, List.length_range]
    by_cases hc : k' = k
    ·subst hc
     rw [if_pos ⟨by omega, by omega⟩, bX, if_pos (by omega), if_pos rfl, if_pos hj]
     congr 2
     omega
    ·rw [if_neg (fun hq => ?_), if_neg hc]
     ·exact hx k' j hk' hj
     ·have := xS (s := s) (j := j) (j' := k' * s + j - k * s) hj (by omega) hc
      omega
   ·simp only [List.length_set] at hk'
    rw [List.getElem_set]
    split
    ·simp only [PV.cells]; omega
    ·exact h2 k' hk'
   ·simp only [v', List.length_set]
    unfold aS
    rw [List.length_append, List.length_append, List.length_take, List.length_drop, hgl, aOL, Nat.min_eq_left (by omega)]
    omega
   ·simp only [List.length_set] at hk'
    by_cases hkk : k = k'
    ·subst hkk
     simp only [List.getElem_set_self, PV.cells] at hj ⊢
     have hjs' : j < s := by omega
     have hjc : j < cs.length := by omega
     refine ⟨gh cs[j] (g j), ?_, ?_⟩
     ·rw [hv'n, if_pos ⟨by omega, by omega⟩, Nat.add_sub_cancel_left]
      exact hgs j hjc
     ·simp only [if_true, if_pos hjs']
      exact (kJ j hjc).1.mono (fun c hc => hold c (aOM j hjc c hc))
    ·simp only [List.getElem_set_ne hkk] at hj ⊢
     obtain ⟨g', hg', hl'⟩ := hlf k' hk' j hj
     have hj' : j < s := by rw [h2 k' hk'] at hj; exact hj
     refine ⟨g', ?_, ?_⟩
     ·rw [hv'n, if_neg (fun hq => ?_)]
      ·exact hg'
      ·have := xS (s := s) (j := j) (j' := k' * s + j - k * s) hj' (by omega) (fun e => hkk e.symm)
       omega
     ·rw [if_neg (fun e => hkk e.symm)]
      exact hl'.mono (fun c hc => hold c (aEV g' (List.mem_of_getElem? hg') c hc))
   ·intro n n' x x' c hne hx1 hx2 hc hc'
    rw [hv'n] at hx1 hx2
    split at hx1 <;> split at hx2
    ·rename_i c1 c2
     rw [hgs (n - k * s) (by omega)] at hx1
     rw [hgs (n' - k * s) (by omega)] at hx2
     cases hx1; cases hx2
     obtain ⟨j, h4, h5, h6⟩ := (kJ _ (by omega)).2.2 c hc
     obtain ⟨j', h4', h5', h6'⟩ := (kJ _ (by omega)).2.2 c hc'
     by_cases hjj : j = j'
     ·subst hjj
      exact l3 hnd (n - k * s) (n' - k * s) (by omega) (by omega) j (by omega) h4 h4'
     ·exact h.ows.sep j j' c hjj h5 h5' h6 h6'
    ·rename_i c1 c2
     rw [hgs (n - k * s) (by omega)] at hx1
     cases hx1
     obtain ⟨j, h4, h5, h6⟩ := (kJ _ (by omega)).2.2 c hc
     exact h.ows.sep j i c (fun e => hij (e ▸ hjs _ (by omega) j h4)) h5 eM h6 (aP hu (.inr ⟨x', List.mem_of_getElem? hx2, hc'⟩))
    ·rename_i c1 c2
     rw [hgs (n' - k * s) (by omega)] at hx2
     cases hx2
     obtain ⟨j, h4, h5, h6⟩ := (kJ _ (by omega)).2.2 c hc'
     exact h.ows.sep j i c (fun e => hij (e ▸ hjs _ (by omega) j h4)) h5 eM h6 (aP hu (.inr ⟨x, List.mem_of_getElem? hx1, hc⟩))
    ·exact hsp n n' x x' c hne hx1 hx2 hc hc'
   ·intro x c hx' hc e
    simp only [v', blk, Option.some.injEq] at e
    subst e
    rcases hv'm x hx' with h3 | ⟨q, hq, rfl⟩
    ·exact aEV x h3 _ hc rfl
    ·exact aOM q hq _ hc rfl)
 exact ⟨_, m', cA, hs'⟩

end
end Go.Pe

/- Trees: elements appended. -/
namespace Go.Pe
open Go Go.RowKit

section
variable {P : Program} {gl : List (Nat × Obj)} {S X : Nat → Prop} {w0 w w' : World} {m0 m : Nat → Option MV} {st : St} {a : Act}

theorem aBL (i : Nat) : ∀ (js : List Nat) (t : Nat), (((st.drop i).cV js).get t).cK i = false
 | [], t => oR i t
 | k :: r, t => by simp only [St.cV]; rw [lG]; exact iI (aBL i r t)

theorem xU (i : Nat) : ∀ (js : List Nat) (j : Nat) (cs : List FV), ((st.drop i).cV js).own[j]? = some (.box cs) → ∀ x ∈ cs, x.cK i = false
 | [], j, cs, hj, x, hx' => by
  obtain ⟨cs0, _, rfl⟩ := mE hj
  obtain ⟨y, _, rfl⟩ := List.mem_map.1 hx'
  exact iG _ _
 | k :: r, j, cs, hj, x, hx' => by
  simp only [St.cV] at hj
  obtain ⟨cs0, h0, rfl⟩ := mE hj
  obtain ⟨y, hy, rfl⟩ := List.mem_map.1 hx'
  exact iI (xU i r j cs0 h0 y hy)

structure aHF (w : World) (st : St) (m : Nat → Option MV) (et : TypeId) (s : Nat) (js : List Nat) (new : List PV) (ngs : List Value) (xv : Value) : Prop where
 len : ngs.length = new.length * s
 one : ∀ u, u ∈ ngs → u.oneCell' = true
 blk : ∀ u b, u ∈ ngs → Go.Pe.blk u = some b → ∃ j, j ∈ js ∧ aK st.own j ∧ bA m j b
 sep : ∀ (n n' : Nat) (g g' : Value) (b : Nat), n ≠ n' → ngs[n]? = some g → ngs[n']? = some g' → Go.Pe.blk g = some b → Go.Pe.blk g' ≠ some b
 src : (∃ c, xv = .slice none 0 c ∧ new = []) ∨
  ∃ (ad : Addr) (c : Nat) (news : List Value) (f : Nat → Nat → Value), xv = .slice (some ad) new.length c ∧ news.length = new.length * s ∧ (∀ j u, news[j]? = some u → w.cell? (ad.add j) = some u) ∧ (∀ u ∈ news, u.oneCell' = true) ∧
   (∀ k j, k < new.length → j < s → news[k * s + j]? = some (f k j)) ∧ (∀ k j, (f k j).oneCell' = true) ∧ (∀ k (hk : k < new.length), (new[k]).cells.length = s) ∧
   (∀ k (hk : k < new.length) j (hj : j < (new[k]).cells.length), ∃ g, ngs[k * s + j]? = some g ∧ aAL w et (f k j) g ((new[k]).cells[j]))

theorem aHF.aWZ {et : TypeId} {s : Nat} (hs : 0 < s) {new : List PV} {xv : Value} {N : Nat → Prop} (h : Src w N s new xv) (hok : ∀ p ∈ new, kY s p) (hl : ∀ p ∈ new, (p.cells.all mD) = true) :
  aHF w st m et s [] new (List.replicate (new.length * s) (.slice none 0 0)) xv := by
 refine ⟨by simp, fun u hu => by rw [(List.mem_replicate.1 hu).2]; rfl, fun u b hu hb => by rw [(List.mem_replicate.1 hu).2] at hb; simp [Go.Pe.blk] at hb, fun n n' g g' b _ hg _ hb => ?_, ?_⟩
 ·rw [(List.mem_replicate.1 (List.mem_of_getElem? hg)).2] at hb; simp [Go.Pe.blk] at hb
 ·rcases h with h | ⟨ad, c, news, f, h1, h2, h3, h4, h5, h6, h7⟩
  ·exact .inl h
  ·refine .inr ⟨ad, c, news, f, h1, h2, h3, h4, h5, h6, fun k hk => (hok _ (List.getElem_mem hk)).1, fun k hk j hj => ⟨.slice none 0 0, ?_, .inl ⟨rfl, iH (h7 k hk j hj) ?_⟩⟩⟩
   ·have : j < s := by rw [(hok _ (List.getElem_mem hk)).1] at hj; exact hj
    rw [List.getElem?_replicate, if_pos (gW hk this)]
   ·exact List.all_eq_true.1 (hl _ (List.getElem_mem hk)) _ (List.getElem_mem hj)

theorem aHF.tree (h : Sim S X w0 m0 st a w m) {e et : TypeId} {s i2 : Nat} {new : List PV} {xv : Value} (hi : st.own[i2]? = some (.tree e s et new)) (hx : aF w (aH S X w0.heap.size w m st.own) m xv (.own i2)) :
  ∃ ngs, aHF w st m et s [i2] new ngs xv := by
 cases hx with | own _ vv hvv =>
 obtain ⟨v, gs⟩ := vv
 have hok := h.eQ i2 _ _ hi rfl hvv
 have hlv : aK st.own i2 := ⟨_, hi, rfl⟩
 obtain ⟨xs, f, aM, hs0, hx, h2, h1, hgl, hlf, hsp, htp⟩ := hok
 simp only at aM hgl hlf hsp htp ⊢
 refine ⟨gs, hgl, fun u hu => (h.ows.len i2 _ hvv).2.2 u hu, fun u b hu hb => ⟨i2, by simp, hlv, aP hvv (.inr ⟨u, hu, hb⟩)⟩, hsp, ?_⟩
 rcases aM.2 with ⟨rfl, h0⟩ | ⟨g, cap, cur, rfl, hb0, hg, hnc, hcm, hcs, lE⟩
 ·exact .inl ⟨0, rfl, List.eq_nil_of_length_eq_zero h0⟩
 ·refine .inr ⟨⟨g, 0, none⟩, cap, xs, f, rfl, aM.1, aM.cells (g := g) rfl, fun u hu => ?_, hx, h1, h2, hlf⟩
  obtain ⟨n, hn⟩ := List.getElem?_of_mem hu
  have hlt : n < xs.length := (List.getElem?_eq_some_iff.1 hn).1
  rw [aM.1] at hlt
  have hk : n / s < new.length := (Nat.div_lt_iff_lt_mul hs0).2 hlt
  have e1 : n = n / s * s + n % s := by rw [Nat.mul_comm]; exact (Nat.div_add_mod n s).symm
  have h3 := hx (n / s) (n % s) hk (Nat.mod_lt _ hs0)
  rw [← e1, hn] at h3
  cases h3
  exact h1 _ _

theorem qV (E : Env P gl S X w0) (h : Sim S X w0 m0 st a w m) {t e et : TypeId} {o : Oper} {sx xx : Operand} {i : Nat} {els new : List PV} {js : List Nat} {ngs : List Value}
  (ho : o.op = .call { callee := .builtin .append, args := #[sx, xx], argTypes := #[t, t] }) (he : dW P t = some e) (hi : st.own[i]? = some (.tree e (P.cellsOf e) et els)) (hk0 : st.k0 ≤ i)
  (nY : aF w (aH S X w0.heap.size w m st.own) m (a.eval sx) (.own i)) (hby : P.bytesOf e ≤ 1000) (hz : dI P e = true) (hij : i ∉ js) (hlen : els.length + new.length ≤ 1000000000)
  (hS : aHF w st m et (P.cellsOf e) js new ngs (a.eval xx)) {next : Act → World → Prop} {Q : Exit → Act → World → Prop}
  (hn : ∀ v w' m', Sim S X w0 m0 ((st.drop i).aAV i (.tree e (P.cellsOf e) et (els ++ new)) js) a w' m' → aF w' (aH S X w0.heap.size w' m' ((st.drop i).aAV i (.tree e (P.cellsOf e) et (els ++ new)) js).own) m' v (.own i) → next (a.put o.dst v) w') : o.wp P a w next Q := by
 obtain ⟨hu, hne⟩ := bR he
 have hs0 : 0 < P.cellsOf e := Nat.pos_of_ne_zero hne
 obtain ⟨ti, z, hti, hzz⟩ := pZ hz
 have hzf := E.zf e hz
 have hzs : z.cells.size = P.cellsOf e := by
  unfold sI at hzf
  simp [hti, hzz] at hzf
  rw [hzf]; simp [Program.cellsOf, hti]
 have oC : ti.size = P.cellsOf e := by simp [Program.cellsOf, hti]
 generalize hav : a.eval sx = av at nY
 cases nY with | own _ vp hvi =>
 obtain ⟨av, ug⟩ := vp
 simp only at hav
 have eM : aK st.own i := ⟨_, hi, rfl⟩
 obtain ⟨xs, f, aM, bAW, hx, h2, h1, hgl, hlf, hsp, htp⟩ := h.eQ i _ _ hi rfl hvi
 simp only at aM hgl hlf hsp htp
 have hug : ∀ x c, x ∈ ug → blk x = some c → c < w.heap.size := fun x c hx' hc => h.ows.lt i c eM (aP hvi (.inr ⟨x, hx', hc⟩))
 have hng : ∀ x c, x ∈ ngs → blk x = some c → c < w.heap.size ∧ blk av ≠ some c := by
  intro x c hx' hc
  obtain ⟨j, h4, h5, h6⟩ := hS.blk x c hx' hc
  exact ⟨h.ows.lt j c h5 h6, fun e => h.ows.sep j i c (fun e' => hij (e' ▸ h4)) h5 eM h6 (aP hvi (.inl e))⟩
 have fin : ∀ (v' : Value) (w1 : World) (news : List Value) (g : Nat → Nat → Value), (Builtin.append_ #[t, t] o.type #[av, a.eval xx]).run P w = .ok v' w1 → w1.ownsRow 0 e (P.cellsOf e) v' (els.length + new.length) (xs ++ news) → w.grownBy w1 (blk av) →
   (∀ b, blk v' = some b → (blk av = some b ∨ w.heap.size ≤ b) ∧ b < w1.heap.size) → v'.oneCell' = true → news.length = new.length * P.cellsOf e →
   (∀ k j, k < new.length → j < P.cellsOf e → news[k * P.cellsOf e + j]? = some (g k j)) → (∀ k j, (g k j).oneCell' = true) → (∀ k (hk : k < new.length), (new[k]).cells.length = P.cellsOf e) →
   (∀ k (hk : k < new.length) j (hj : j < (new[k]).cells.length), ∃ q, ngs[k * P.cellsOf e + j]? = some q ∧ aAL w et (g k j) q ((new[k]).cells[j])) → o.wp P a w next Q := by
  intro v' w1 news g cA how hg hb hv1 hnl aUO g1 aUP aHG
  have vP : ∀ c, c < w.heap.size → blk av ≠ some c → w1.heap[c]? = w.heap[c]? := fun c hc hne => hg.block c hc (fun e => hne e.symm)
  have hdk : ∀ js, ((st.drop i).cV js).k0 = st.k0 := by intro js; induction js with | nil => rfl | cons _ _ ih => exact ih
  have hui : ∀ (js : List Nat) t, (((st.drop i).cV js).get t).cK i = false := by
   intro js
   induction js with
   | nil => exact fun t => oR i t
   | cons k r ih => intro t; simp only [St.cV]; rw [lG]; exact iI (ih t)
  have hci : ∀ (js : List Nat) (j : Nat) (cs : List FV), ((st.drop i).cV js).own[j]? = some (.box cs) → ∀ x ∈ cs, x.cK i = false := by
   intro js
   induction js with
   | nil =>
    intro j cs hj x hx'
    obtain ⟨cs0, _, rfl⟩ := mE hj
    obtain ⟨y, _, rfl⟩ := List.mem_map.1 hx'
    exact iG _ _
   | cons k r ih =>
    intro j cs hj x hx'
    simp only [St.cV] at hj
    obtain ⟨cs0, h0, rfl⟩ := mE hj
    obtain ⟨y, hy, rfl⟩ := List.mem_map.1 hx'
    exact iI (ih j cs0 h0 y hy)
  have hdi : (st.drop i).own[i]? = some (.tree e (P.cellsOf e) et els) := by simp [St.drop, List.getElem?_map, hi, oL]
  have hdl : ∀ {j}, aK st.own j → aK (st.drop i).own j := by
   rintro j ⟨b, hb, hl⟩
   exact ⟨oL i b, by simp only [St.drop, List.getElem?_map, hb, Option.map_some], by cases b <;> first | exact hl | rfl⟩
  obtain ⟨m', hs', hmi⟩ := ((h.drop i).cV js).aHC E (w' := w1) (v' := (v', ug ++ ngs)) (bl' := .tree e (P.cellsOf e) et (els ++ new)) js (qF hdi (fun cs => by simp) js) rfl rfl hvi (by rw [hdk]; exact hk0) hij
   (fun t => ⟨fun j hj => qG js j hj t, .inl (hui js t)⟩) (fun j cs hj x hx' => ⟨fun q hq => nB js q hq j cs hj x hx', .inl (hci js j cs hj x hx')⟩)
   hg (fun b hb' => by
    rcases hb' with hb' | ⟨x, hx', hb'⟩
    ·obtain ⟨h3, h4⟩ := hb b hb'
     exact ⟨h3.elim (fun h3 => .inl (.inl h3)) (fun h3 => .inr (.inl h3)), h4⟩
    ·rcases List.mem_append.1 hx' with hx' | hx'
     ·exact ⟨.inl (.inr ⟨x, hx', hb'⟩), Nat.lt_of_lt_of_le (hug x b hx' hb') hg.size⟩
     ·obtain ⟨j, h4, h5, h6⟩ := hS.blk x b hx' hb'
      exact ⟨.inr (.inr ⟨j, h4, lH (hdl h5) js, h6⟩), Nat.lt_of_lt_of_le (hng x b hx' hb').1 hg.size⟩)
   ⟨hv1, fun u hu => by
    rcases List.mem_append.1 hu with hu | hu
    ·exact (h.ows.len i _ hvi).2.2 u hu
    ·exact hS.one u hu⟩
   (fun N' m' hN' => by
    refine ⟨xs ++ news, fun k j => if k < els.length then f k j else g (k - els.length) j, by simpa using how, hs0, fun k j hk hj => ?_, fun k hk => ?_, fun k j => by dsimp only; split <;> simp [h1, g1], ?_, fun k hk j hj => ?_, ?_, ?_⟩
    ·simp only [List.length_append] at hk
     rw [List.getElem?_append, aM.1]
     by_cases hkk : k < els.length
     ·rw [if_pos (gW hkk hj)]
      simp only [hkk, if_true]
      exact hx k j hkk hj
     ·have hge : els.length * P.cellsOf e ≤ k * P.cellsOf e := Nat.mul_le_mul_right _ (by omega)
      rw [if_neg (by omega)]
      simp only [hkk, if_false]
      have e1 : k * P.cellsOf e + j - els.length * P.cellsOf e = (k - els.length) * P.cellsOf e + j := by rw [Nat.sub_mul]; omega
      rw [e1]
      exact aUO (k - els.length) j (by omega) hj
    ·simp only [List.length_append] at hk
     rw [List.getElem_append]
     split
     ·exact h2 k _
     ·exact aUP _ _
    ·simp only [List.length_append, hgl, hS.len, Nat.add_mul]
    ·simp only [List.length_append] at hk
     by_cases hkk : k < els.length
     ·simp only [hkk, if_true]
      simp only [List.getElem_append_left hkk] at hj ⊢
      obtain ⟨q, hq, hl⟩ := hlf k hkk j hj
      have hj' : j < P.cellsOf e := by rw [h2 k hkk] at hj; exact hj
      refine ⟨q, ?_, hl.mono (fun c hc => vP c (hug q c (List.mem_of_getElem? hq) hc) (htp q c (List.mem_of_getElem? hq) hc))⟩
      rw [List.getElem?_append_left (by rw [hgl]; exact gW hkk hj')]
      exact hq
     ·simp only [hkk, if_false]
      have hkk' : els.length ≤ k := by omega
      simp only [List.getElem_append_right hkk'] at hj ⊢
      obtain ⟨q, hq, hl⟩ := aHG (k - els.length) (by omega) j hj
      refine ⟨q, ?_, hl.mono (fun c hc => vP c (hng q c (List.mem_of_getElem? hq) hc).1 (hng q c (List.mem_of_getElem? hq) hc).2)⟩
      have hge : els.length * P.cellsOf e ≤ k * P.cellsOf e := Nat.mul_le_mul_right _ hkk'
      rw [List.getElem?_append_right (by rw [hgl]; omega), hgl]
      have e1 : k * P.cellsOf e + j - els.length * P.cellsOf e = (k - els.length) * P.cellsOf e + j := by rw [Nat.sub_mul]; omega
      rw [e1]
      exact hq
    ·intro n n' x x' c hne' hx1 hx2 hc hc'
     rw [List.getElem?_append] at hx1 hx2
     split at hx1 <;> split at hx2
     ·exact hsp n n' x x' c hne' hx1 hx2 hc hc'
     ·obtain ⟨j, h4, h5, h6⟩ := hS.blk x' c (List.mem_of_getElem? hx2) hc'
      exact h.ows.sep j i c (fun e' => hij (e' ▸ h4)) h5 eM h6 (aP hvi (.inr ⟨x, List.mem_of_getElem? hx1, hc⟩))
     ·obtain ⟨j, h4, h5, h6⟩ := hS.blk x c (List.mem_of_getElem? hx1) hc
      exact h.ows.sep j i c (fun e' => hij (e' ▸ h4)) h5 eM h6 (aP hvi (.inr ⟨x', List.mem_of_getElem? hx2, hc'⟩))
     ·exact hS.sep (n - ug.length) (n' - ug.length) x x' c (by omega) hx1 hx2 hc hc'
    ·intro x c hx' hc hv'
     rcases (hb c hv').1 with h3 | h3
     ·rcases List.mem_append.1 hx' with hx' | hx'
      ·exact htp x c hx' hc h3
      ·exact (hng x c hx' hc).2 h3
     ·rcases List.mem_append.1 hx' with hx' | hx'
      ·have := hug x c hx' hc; omega
      ·have := (hng x c hx' hc).1; omega)
  refine bL (v := v') (w' := w1) (by simp [execOp, ho, resolve, invoke, builtin, hav, cA]) (hn v' w1 m' hs' (.own i (v', ug ++ ngs) hmi))
 rcases hS.src with ⟨c, hxv, rfl⟩ | ⟨ad, c, news, g, hxv, hnl, hnc, hn1, aUO, g1, aUP, aHG⟩
 ·exact fin av w [] (fun _ _ => .bool false) (by rw [hxv]; exact oS w t o.type e ti _ c hu hti av els.length xs aM) (by simpa using aM) ⟨rfl, rfl, rfl, Nat.le_refl _, fun _ _ _ => rfl⟩
   (fun b hb => ⟨.inl hb, h.ows.lt i b eM (aP hvi (.inl hb))⟩) (h.ows.len i _ hvi).2.1 (by simp) (fun k j hk => by simp at hk) (fun _ _ => rfl) (fun k hk => by simp at hk) (fun k hk => by simp at hk)
 ·obtain ⟨v', w1, cA, how, hg, hb, hv1⟩ := jF (P := P) w t o.type e ti z (P.cellsOf e) (P.bytesOf e) hu hti hzz oC (fY hti) hzs hs0 av els.length xs aM ad new.length c news hnl hnc hn1
   (by simp only [maxLen]; omega) (by
    have : (els.length + new.length) * P.bytesOf e ≤ 1000000000 * 1000 := Nat.mul_le_mul hlen hby
    omega)
  exact fin v' w1 news g (by rw [hxv]; exact cA) how hg hb hv1 hnl aUO g1 aUP aHG

end
end Go.Pe

/- Rows made; calls; one operation. -/
namespace Go.Pe
open Go Go.RowKit

section
variable {P : Program} {gl : List (Nat × Obj)} {S X : Nat → Prop} {w0 w w' : World} {m0 m : Nat → Option MV} {st : St} {a : Act}

theorem Sim.newRow (E : Env P gl S X w0) (h : Sim S X w0 m0 st a w m) {e : TypeId} {s n cap : Nat} {els : List PV} {A : Array Value} {f : Nat → Nat → Value} (hs : 0 < s) (hn : els.length = n) (oB : n ≤ cap) (hcm : cap ≤ maxLen)
  (hA : A.size = cap * s) (cM : ∀ k j, k < n → j < s → A[k * s + j]? = some (f k j)) (f1 : ∀ k j, (f k j).oneCell' = true) (h2 : ∀ k (hk : k < els.length), (els[k]).cells.length = s)
  (hr : ∀ k (hk : k < els.length) j (hj : j < (els[k]).cells.length), Rep w (aH S X w0.heap.size w m st.own) (f k j) (els[k]).cells[j]) (dst : Option Nat) :
  ∃ m', Sim S X w0 m0 ((st.bE (.row e s els)).put dst (.own st.own.length)) (a.put dst (.slice (some ⟨w.heap.size, 0, none⟩) n cap)) (w.alloc (.cells A e)) m' := by
 subst hn
 have hle : els.length * s ≤ cap * s := Nat.mul_le_mul_right _ oB
 obtain ⟨m', hs', hm, _, _⟩ := h.bE E (v := .slice (some ⟨w.heap.size, 0, none⟩) els.length cap) (bl := .row e s els) (gF w (.cells A e)) rfl rfl
  (fun b hb => by simp [blk] at hb; subst hb; simp) (fun N' m' hN hm => by
   refine ⟨rfl, A.toList.take (els.length * s), f, ⟨by simp; omega, .inr ⟨w.heap.size, cap, A, rfl, Nat.zero_le _, Go.heap_alloc_new w _, oB, hcm, hA, rfl⟩⟩, hs, fun k j hk hj => ?_, h2, f1, fun k hk j hj => (hr k hk j hj).mono (fun b hb => heap_alloc_old w _ (bP E h hb)) hN⟩
   rw [List.getElem?_take, if_pos (gW hk hj)]
   simpa using cM k j hk hj)
 exact ⟨m', hs'.put (.own _ (_, []) hm)⟩

theorem aC2 (E : Env P gl S X w0) (h : Sim S X w0 m0 st a w m) {t e : TypeId} {o : Oper} {l c : Operand} (ho : o.op = .makeSlice t l c) (he : dW P t = some e) {z : PV} (hz : rW P e = some z)
  {k k' : IntKind} {n n' : Int} (hl : a.eval l = .int k n) (hc : a.eval c = .int k' n') (hby : P.bytesOf e ≤ 1000) (hzl : z.cells.length = P.cellsOf e) (h0 : 0 ≤ n) (h1 : n ≤ n') (h2 : n' ≤ 1000000000)
  {next : Act → World → Prop} {Q : Exit → Act → World → Prop}
  (hn : ∀ a' w' m', Sim S X w0 m0 ((st.bE (.row e (P.cellsOf e) (List.replicate n.toNat z))).put o.dst (.own st.own.length)) a' w' m' → next a' w') : o.wp P a w next Q := by
 obtain ⟨hu, hne⟩ := bR he
 obtain ⟨i, zv, f, hi, hzv, cQ, f1, fr⟩ := rD (w := w) (N := aH S X w0.heap.size w m st.own) hz
 have hsz : i.size = P.cellsOf e := by simp [Program.cellsOf, hi]
 have hb : (i.bytes : Int) * n' ≤ 281474976710656 := by
  rw [fY hi]
  have : (P.bytesOf e : Int) * n' ≤ 1000 * 1000000000 := Int.mul_le_mul (by omega) h2 (by omega) (by omega)
  omega
 have cA := run_make (P := P) w t e i zv hu hi hzv k k' n n' h0 h1 hb (by omega)
 have hzs : zv.cells.size = P.cellsOf e := by rw [cQ]; simpa using hzl
 obtain ⟨m', hs'⟩ := h.newRow E (e := e) (s := P.cellsOf e) (n := n.toNat) (cap := n'.toNat) (els := List.replicate n.toNat z) (A := madeCells zv.cells (n'.toNat * i.size)) (f := fun _ j => f j) (Nat.pos_of_ne_zero hne) (by simp) (by omega) (by simp only [maxLen]; omega)
  (by rw [size_madeCells, hsz]) (fun k j hk hj => by
   have hlt : k * P.cellsOf e + j < n'.toNat * i.size := by rw [hsz]; exact gW (by omega) hj
   simp only [madeCells]
   rw [Array.getElem?_eq_getElem (by simpa using hlt)]
   simp only [Array.getElem_map, Array.getElem_range, hzs]
   rw [Nat.mul_comm, Nat.mul_add_mod, Nat.mod_eq_of_lt hj]
   rw [getElem!_pos zv.cells j (by rw [hzs]; exact hj)]
   congr 1
   simp only [cQ]
   simp [aE]) (fun _ j => f1 j) (fun k hk => by simp [hzl]) (fun k hk j hj => by
   simp only [List.getElem_replicate] at hj ⊢
   exact fr j hj) o.dst
 refine bL (v := .slice (some ⟨w.heap.size, 0, none⟩) n.toNat n'.toNat) (w' := w.alloc (.cells (madeCells zv.cells (n'.toNat * i.size)) e)) ?_ (hn _ _ m' hs')
 simp [execOp, ho, hl, hc, cA]

theorem aEW (E : Env P gl S X w0) (h : Sim S X w0 m0 st a w m) {o : Oper} {t e : TypeId} {n : Nat} {parts : Array (Nat × Operand)} {els : List PV} (ho : o.op = .buildSlice t n parts)
  (hc : bN none st (parts.toList.map (·.2))) (he : dW P t = some e) (hs : fK [] [] (parts.toList.map fun x => strip (st.ev x.2)) = some els)
  (hin : iQ 0 parts.toList = true) (hn : n = parts.size) (hsz : n * P.cellsOf e < 65536) (hz : dI P e = true) (hel : ∀ p ∈ els, kY (P.cellsOf e) p)
  {next : Act → World → Prop} {Q : Exit → Act → World → Prop}
  (hnx : ∀ a' w' m', Sim S X w0 m0 ((st.bE (.row e (P.cellsOf e) els)).put o.dst (.own st.own.length)) a' w' m' → next a' w') : o.wp P a w next Q := by
 obtain ⟨parts⟩ := parts
 simp only at hc hs hin
 simp only [List.size_toArray] at hn
 obtain ⟨hl, hsn⟩ := bI hs
 simp only [List.length_map] at hl
 have eS : ∀ k (hk : k < els.length), Rep w (aH S X w0.heap.size w m st.own) (a.eval (parts[k]'(by omega)).2) els[k] := by
  intro k hk
  have hq : (parts[k]'(by omega)).2 ∈ parts.map (·.2) := List.mem_map.2 ⟨_, List.getElem_mem _, rfl⟩
  have h1 := aU (h.evs (parts[k]'(by omega)).2) (cL (g := none) trivial hc _ hq)
  have h2 := hsn k (by simp; omega) hk
  simp only [List.getElem_map] at h2
  exact dN (own := []) (ds := []) (m := m) (fun i b v h => by simp at h) (fun _ => id) (fun i b h => by simp at h) 8 _ _ _ h1 h2
 have hcs : ∀ k, ∃ f : Nat → Value, (∀ (hk : k < els.length), (a.eval (parts[k]'(by omega)).2).cells = (aE (P.cellsOf e) f).toArray ∧ ∀ j (hj : j < (els[k]).cells.length), Rep w (aH S X w0.heap.size w m st.own) (f j) (els[k]).cells[j]) ∧ ∀ j, (f j).oneCell' = true := by
  intro k
  by_cases hk : k < els.length
  ·have hok := hel _ (List.getElem_mem hk)
   obtain ⟨f, h1, h2, h3⟩ := uD (eS k hk) hok.2
   exact ⟨f, fun _ => ⟨by rw [← hok.1]; exact h1, h3⟩, h2⟩
  ·exact ⟨fun _ => .bool false, fun h => absurd h hk, fun _ => rfl⟩
 let F : Nat → Nat → Value := fun k => Classical.choose (hcs k)
 have hF := fun k => Classical.choose_spec (hcs k)
 obtain ⟨A, cA, hA, cM⟩ := kG he hz (n := n) hsz (parts.map fun (i, x) => (i, a.eval x)) (by simp [hn]) F (fun k hk => by
  simp only [List.length_map] at hk
  have h1 := oN hin k hk
  simp only [List.getElem_map]
  exact ⟨by omega, ((hF k).1 (by omega)).1⟩) w
 obtain ⟨m', hs'⟩ := h.newRow E (e := e) (n := n) (cap := n) (els := els) (A := A) (f := F) (Nat.pos_of_ne_zero (bR he).2) (by omega) (Nat.le_refl _) (by
   have := Nat.pos_of_ne_zero (bR he).2
   have : n * 1 ≤ n * P.cellsOf e := Nat.mul_le_mul_left _ this
   simp only [maxLen]; omega) hA cM (fun k j => (hF k).2 j) (fun k hk => (hel _ (List.getElem_mem hk)).1) (fun k hk j hj => ((hF k).1 hk).2 j hj) o.dst
 exact bL (v := .slice (some ⟨w.heap.size, 0, none⟩) n n) (w' := w.alloc (.cells A e)) (by simp [execOp, ho, cA]) (hnx _ _ m' hs')

end
end Go.Pe

/- Calls in a statement whose order is fixed. -/
namespace Go.Pe
open Go Go.RowKit

theorem eL : ∀ (ds : List Nat) (new own : List Blk), (eE ds new own).length = own.length
 | [], _, _ => by simp [eE]
 | _ :: _, [], _ => by simp [eE]
 | d :: ds, b :: new, own => by simp [eE, eL ds new]

theorem rJ : ∀ (ds : List Nat) (new own : List Blk) (j : Nat), j ∉ ds → (eE ds new own)[j]? = own[j]?
 | [], _, _, _, _ => by simp [eE]
 | _ :: _, [], _, _, _ => by simp [eE]
 | d :: ds, b :: new, own, j, h => by
  simp only [List.mem_cons, not_or] at h
  simp only [eE]
  rw [rJ ds new _ j h.2, List.getElem?_set_ne (fun e => h.1 e.symm)]

theorem xV : ∀ (ds : List Nat) (new own : List Blk) (p j : Nat) (b : Blk), ds.Nodup → ds[p]? = some j → new[p]? = some b → j < own.length → (eE ds new own)[j]? = some b
 | [], _, _, p, _, _, _, h, _, _ => by simp at h
 | _ :: _, [], _, p, _, _, _, _, h, _ => by simp at h
 | d :: ds, b :: new, own, 0, j, b', hn, h1, h2, h3 => by
  simp at h1 h2
  subst h1; subst h2
  simp only [List.nodup_cons] at hn
  simp only [eE]
  rw [rJ ds new _ d hn.1, List.getElem?_set_self h3]
 | d :: ds, b :: new, own, p + 1, j, b', hn, h1, h2, h3 => by
  simp at h1 h2
  simp only [List.nodup_cons] at hn
  simp only [eE]
  exact xV ds new _ p j b' hn.2 h1 h2 (by simpa using h3)

theorem sO : ∀ (ds : List Nat) (i : Nat), i ∈ ds → ds[idx ds i]? = some i
 | [], i, h => by simp at h
 | d :: r, i, h => by
  unfold idx
  by_cases he : d = i
  ·simp [he]
  ·rw [if_neg he]
   simp only [List.getElem?_cons_succ]
   exact sO r i ((List.mem_cons.1 h).resolve_left (fun e => he e.symm))

theorem uI : ∀ {ds : List Nat} {p q j : Nat}, ds.Nodup → ds[p]? = some j → ds[q]? = some j → p = q
 | [], p, q, j, _, h, _ => by simp at h
 | d :: r, 0, 0, j, _, _, _ => rfl
 | d :: r, 0, q + 1, j, hn, h1, h2 => by
  simp at h1 h2
  subst h1
  exact absurd (List.mem_of_getElem? h2) (List.nodup_cons.1 hn).1
 | d :: r, p + 1, 0, j, hn, h1, h2 => by
  simp at h1 h2
  subst h2
  exact absurd (List.mem_of_getElem? h1) (List.nodup_cons.1 hn).1
 | d :: r, p + 1, q + 1, j, hn, h1, h2 => by
  simp at h1 h2
  rw [uI (List.nodup_cons.1 hn).2 h1 h2]

section
variable {P : Program} {gl : List (Nat × Obj)} {S X : Nat → Prop} {w0 w w' : World} {m0 m : Nat → Option MV} {st : St} {a : Act}

theorem aHH {N : Nat → Prop} {m m' : Nat → Option MV} {v : Value} {x : FV} (hp : aG4 x = true) (h : aF w N m v x) : aF w N m' v x := by
 cases x <;> simp [aG4] at hp
 exact .pv _ _ h.eX

theorem aBM {N : Nat → Prop} {m m' : Nat → Option MV} {v : MV} {b : Blk} (hp : fN b = true) (h : cY w N m v b) : cY w N m' v b := by
 cases b with
 | gone => trivial
 | row e s els => exact h
 | tree e s et els => exact h
 | box cs =>
  obtain ⟨h0, b, T, f, h9, hh, h1, hr⟩ := h
  exact ⟨h0, b, T, f, h9, hh, h1, fun j hj => aHH (List.all_eq_true.1 hp _ (List.getElem_mem hj)) (hr j hj)⟩

theorem lI {N N' : Nat → Prop} {m m' : Nat → Option MV} {v : MV} {b : Blk} (hp : fN b = true) (h : cY w N m v b)
  (hw : ∀ q, N q → w'.heap[q]? = w.heap[q]?) (hN : ∀ q, N q → N' q) (hv : ∀ q, hasB v q → w'.heap[q]? = w.heap[q]?) : cY w' N' m' v b :=
 aBM (m := m) hp (h.mono hw hN (fun _ _ => id) hv)

theorem FX.step (E : Env P gl S X w0) (h : Sim S X w0 m0 st a w m) {fid : FuncId} {ds : List Nat} {bs : List Blk} {as args : List FV} {R : List Blk → FV → Prop} {g : Nat → Value}
  (hnd : ds.Nodup) (hbs : fQ (fun i => st.own[i]?) ds = some bs) (xW : (bs.all fun b => b.live && fN b) = true) (has : fQ (aCV ds) args = some as)
  (hfx : FX P gl fid bs as R) (hg : ∀ j (hj : j < args.length), aF w (aH S X w0.heap.size w m st.own) m (g j) args[j]) {R' : Ending → World → Prop}
  (hn : ∀ v r own' w' m2, R own' r → (own'.all fN = true → Sim S X w0 m0 { st with own := eE ds own' st.own ++ own'.drop ds.length } a w' m2 ∧
   aF w' (aH S X w0.heap.size w' m2 (eE ds own' st.own ++ own'.drop ds.length)) m2 v (aBI ds st.own.length r)) → R' (.returned v) w') :
  Calls P fid (aE args.length g).toArray w R' := by
 obtain ⟨hbl, aON⟩ := bI hbs
 obtain ⟨hal, aOO⟩ := bI has
 have hbs' : ∀ (p j : Nat), ds[p]? = some j → ∃ b, bs[p]? = some b ∧ st.own[j]? = some b ∧ b.live = true ∧ fN b = true := by
  intro p j hp
  have hlt : p < ds.length := (List.getElem?_eq_some_iff.1 hp).1
  have hjd : ds[p] = j := (List.getElem?_eq_some_iff.1 hp).2
  have hb := aON p hlt (by omega)
  rw [hjd] at hb
  have hm := List.all_eq_true.1 xW bs[p] (List.getElem_mem _)
  simp only [Bool.and_eq_true] at hm
  exact ⟨bs[p], List.getElem?_eq_getElem (by omega), hb, hm.1, hm.2⟩
 let mX : Nat → Option MV := fun i => (ds[i]?).bind m
 have hmX : ∀ (p j : Nat), ds[p]? = some j → mX p = m j := fun p j hp => by simp [mX, hp]
 have oD : ∀ (p j : Nat), ds[p]? = some j → bA mX p = bA m j := fun p j hp => by unfold bA; rw [hmX p j hp]
 have rK : ∀ p, aK bs p → ∃ j : Nat, ds[p]? = some j ∧ aK st.own j := by
  rintro p ⟨b, hb, hl⟩
  have hlt : p < ds.length := by have := (List.getElem?_eq_some_iff.1 hb).1; omega
  obtain ⟨b', h1, h2, h3, _⟩ := hbs' p ds[p] (List.getElem?_eq_getElem hlt)
  exact ⟨ds[p], List.getElem?_eq_getElem hlt, b', h2, h3⟩
 have oU : ∀ (p j : Nat), ds[p]? = some j → aK bs p ∧ aK st.own j := by
  intro p j hp
  obtain ⟨b, h1, h2, h3, _⟩ := hbs' p j hp
  exact ⟨⟨b, h1, h3⟩, ⟨b, h2, h3⟩⟩
 have xX : tY w (aH S X w0.heap.size w m st.own) mX bs := by
  refine ⟨fun p v hv => ?_, fun p b hb hl => ?_, fun p q b hne hp hq hbp hbq => ?_, fun p b hp hb => ?_, fun p b hp hb => ?_⟩
  ·cases hd : ds[p]? with
   | none => simp [mX, hd] at hv
   | some j =>
    rw [hmX p j hd] at hv
    have := (List.getElem?_eq_some_iff.1 hd).1
    exact ⟨by omega, (h.ows.len j v hv).2⟩
  ·obtain ⟨j, hd, _⟩ := rK p ⟨b, hb, hl⟩
   obtain ⟨b', h1, h2, h3, h4⟩ := hbs' p j hd
   rw [hb] at h1; cases h1
   obtain ⟨v, hv, hok⟩ := h.ows.ok j b h2 hl
   exact ⟨v, (hmX p j hd).trans hv, aBM h4 hok⟩
  ·obtain ⟨j, hd, hlj⟩ := rK p hp
   obtain ⟨k, hdk, hlk⟩ := rK q hq
   rw [oD p j hd] at hbp
   rw [oD q k hdk] at hbq
   exact h.ows.sep j k b (fun e => by subst e; exact hne (uI hnd hd hdk)) hlj hlk hbp hbq
  ·obtain ⟨j, hd, hlj⟩ := rK p hp
   rw [oD p j hd] at hb
   exact h.ows.lt j b hlj hb
  ·obtain ⟨j, hd, hlj⟩ := rK p hp
   rw [oD p j hd] at hb
   exact h.ows.out j b hlj hb
 have aOP : ∀ j (hj : j < as.length), aF w (aH S X w0.heap.size w m st.own) mX (g j) as[j] := by
  intro j hj
  have h1 := aOO j (by omega) hj
  have h2 := hg j (by omega)
  generalize args[j]'(by omega) = x at h1 h2
  unfold aCV at h1
  split at h1
  ·simp only [Option.some.injEq] at h1
   rw [← h1]
   exact .pv _ _ h2.eX
  ·rename_i cs
   cases hm : fQ (aK9 ds) cs with
   | none => simp [hm] at h1
   | some cs' =>
    simp only [hm, Option.map_some, Option.some.injEq] at h1
    rw [← h1]
    obtain ⟨hcl, aEX⟩ := bI hm
    generalize g j = gj at h2
    cases h2 with | agg _ f hf1 hfr =>
    rw [hcl]
    refine .agg cs' f hf1 (fun q hq => ?_)
    have h3 := aEX q (by omega) hq
    have h4 := hfr q (by omega)
    generalize cs[q]'(by omega) = y at h3 h4
    generalize f q = fq at h4
    unfold aK9 at h3
    split at h3
    ·simp only [Option.some.injEq] at h3
     rw [← h3]
     exact .pv _ _ h4.eX
    ·rename_i i
     split at h3
     ·rename_i hd
      simp only [Option.some.injEq] at h3
      rw [← h3]
      have mF : i ∈ ds := by simpa using hd
      cases h4 with | own _ _ hvi =>
      exact .own _ _ ((hmX _ _ (sO ds i mF)).trans hvi)
     ·cases h3
    ·cases h3
  ·rename_i i
   split at h1
   ·rename_i hc
    simp only [Option.some.injEq] at h1
    rw [← h1]
    generalize g j = gj at h2
    cases h2 with | own _ _ hv =>
    exact .own _ _ ((hmX _ i (sO ds i (by simpa using hc))).trans hv)
   ·cases h1
  ·rename_i i off
   split at h1
   ·rename_i hc
    simp only [Option.some.injEq] at h1
    rw [← h1]
    generalize g j = gj at h2
    cases h2
    rename_i b hb
    exact .box _ _ b (by unfold jI at hb ⊢; rw [hmX _ i (sO ds i (by simpa using hc))]; exact hb)
   ·cases h1
  ·cases h1
 rw [hal]
 refine (hfx.2 w _ mX g (h.aLB E) (fun b => bP E h) xX (fun p b hp hb x hx => ?_) aOP).mono ?_
 ·obtain ⟨j, hd, hlj⟩ := rK p hp
  rw [oD p j hd] at hb
  intro e
  rcases h.bnd j b hlj hb with h1 | h1
  ·have h0 := (Array.getElem?_eq_some_iff.1 (E.gl0 x hx)).1
   omega
  ·exact E.glX b h1 x hx e
 ·rintro e w' ⟨v, r, own', m', rfl, hR, hlen, hmm, hbx, hos, hbn, hrr⟩
  let m2 : Nat → Option MV := fun j => if j < st.own.length then m j else m' (j - st.own.length + ds.length)
  refine hn v r own' w' m2 hR fun oV => ?_
  let own2 := eE ds own' st.own ++ own'.drop ds.length
  have hdl : ds.length ≤ own'.length := by omega
  have aW0 : ∀ j, j < st.own.length → own2[j]? = (eE ds own' st.own)[j]? := fun j hj => List.getElem?_append_left (by rw [eL]; exact hj)
  have aW1 : ∀ j, st.own.length ≤ j → own2[j]? = own'[j - st.own.length + ds.length]? := by
   intro j hj
   show (eE ds own' st.own ++ own'.drop ds.length)[j]? = _
   rw [List.getElem?_append_right (by rw [eL]; exact hj), eL, List.getElem?_drop, Nat.add_comm]
  have nZ : ∀ j, j < st.own.length → m2 j = m j := fun j hj => by simp only [m2]; rw [if_pos hj]
  have sP : ∀ j, st.own.length ≤ j → m2 j = m' (j - st.own.length + ds.length) := fun j hj => by simp only [m2]; rw [if_neg (by omega)]
  have aUQ : ∀ (p j : Nat), ds[p]? = some j → j < st.own.length := by
   intro p j hp
   obtain ⟨b, _, h2, _⟩ := hbs' p j hp
   exact (List.getElem?_eq_some_iff.1 h2).1
  have aUR : ∀ (p j : Nat), ds[p]? = some j → m' p = m j := by
   intro p j hp
   have := (List.getElem?_eq_some_iff.1 hp).1
   rw [hmm p (by omega), hmX p j hp]
  have jA : ∀ (j : Nat) (b : Blk), own2[j]? = some b → b.live = true →
    (j < st.own.length ∧ j ∉ ds ∧ st.own[j]? = some b) ∨ (∃ p : Nat, ds[p]? = some j ∧ own'[p]? = some b) ∨ (st.own.length ≤ j ∧ own'[j - st.own.length + ds.length]? = some b) := by
   intro j b hb hl
   by_cases hj : j < st.own.length
   ·rw [aW0 j hj] at hb
    by_cases hd : j ∈ ds
    ·right; left
     obtain ⟨p, hp, rfl⟩ := List.getElem_of_mem hd
     have hp' : ds[p]? = some ds[p] := List.getElem?_eq_getElem hp
     refine ⟨p, hp', ?_⟩
     rw [xV ds own' st.own p ds[p] (own'[p]'(by omega)) hnd hp' (List.getElem?_eq_getElem (by omega)) hj] at hb
     rw [← hb]
     exact List.getElem?_eq_getElem (by omega)
    ·left
     rw [rJ ds own' st.own j hd] at hb
     exact ⟨hj, hd, hb⟩
   ·right; right
    rw [aW1 j (by omega)] at hb
    exact ⟨by omega, hb⟩
  have hX1 : ∀ b, (∃ i, aK bs i ∧ bA mX i b) → ∃ p j : Nat, ds[p]? = some j ∧ bA m j b := by
   rintro b ⟨p, hp, hb⟩
   obtain ⟨j, hd, _⟩ := rK p hp
   exact ⟨p, j, hd, by rw [← oD p j hd]; exact hb⟩
  have hNb : ∀ q, aH S X w0.heap.size w m st.own q → w'.heap[q]? = w.heap[q]? := by
   intro q hq
   refine hbx.block q (bP E h hq) fun hX => ?_
   obtain ⟨p, j, hd, hb⟩ := hX1 q hX
   exact h.ows.out j q (oU p j hd).2 hb hq
  have lJ : ∀ j, aK own2 j → ∀ b, bA m2 j b →
    (j < st.own.length ∧ j ∉ ds ∧ aK st.own j ∧ bA m j b) ∨ (∃ p : Nat, ds[p]? = some j ∧ aK own' p ∧ bA m' p b ∧ bA m j b) ∨
    (st.own.length ≤ j ∧ aK own' (j - st.own.length + ds.length) ∧ bA m' (j - st.own.length + ds.length) b) := by
   rintro j ⟨c, hc, hl⟩ b hb
   rcases jA j c hc hl with ⟨h1, h2, h3⟩ | ⟨p, h1, h2⟩ | ⟨h1, h2⟩
   ·exact .inl ⟨h1, h2, ⟨c, h3, hl⟩, by unfold bA at *; rwa [nZ j h1] at hb⟩
   ·have hjl := aUQ p j h1
    have hb' : bA m j b := by unfold bA at *; rwa [nZ j hjl] at hb
    exact .inr (.inl ⟨p, h1, ⟨c, h2, hl⟩, by unfold bA at *; rw [aUR p j h1]; exact hb', hb'⟩)
   ·exact .inr (.inr ⟨h1, ⟨c, h2, hl⟩, by unfold bA at *; rwa [sP j h1] at hb⟩)
  have hN2 : ∀ q, aH S X w0.heap.size w m st.own q → aH S X w0.heap.size w' m2 own2 q := by
   intro q hNq
   have hlt := bP E h hNq
   have hNq' := hNq
   rcases hNq with hq | ⟨q1, q2, q3⟩
   ·exact .inl hq
   ·refine .inr ⟨q1, Nat.lt_of_lt_of_le q2 hbx.size, fun j hj hmj => ?_⟩
    rcases lJ j hj q hmj with ⟨_, _, h3, h4⟩ | ⟨p, h1, _, _, h4⟩ | ⟨_, h2, h3⟩
    ·exact q3 j h3 h4
    ·exact q3 j (oU p j h1).2 h4
    ·rcases hbn _ q h2 h3 with h5 | h5
     ·omega
     ·obtain ⟨p, k, hd, hb⟩ := hX1 q h5
      exact h.ows.out k q (oU p k hd).2 hb hNq'
  have hNF : ∀ q, aH (aH S X w0.heap.size w m st.own) (fun b => ∃ i, aK bs i ∧ bA mX i b) w.heap.size w' m' own' q → aH S X w0.heap.size w' m2 own2 q := by
   rintro q (hq | ⟨q1, q2, q3⟩)
   ·exact hN2 q hq
   ·refine .inr ⟨?_, q2, fun j hj hmj => ?_⟩
    ·rcases q1 with q1 | q1
     ·exact .inl (Nat.le_trans h.bel.size q1)
     ·obtain ⟨p, k, hd, hb⟩ := hX1 q q1
      exact h.bnd k q (oU p k hd).2 hb
    ·rcases lJ j hj q hmj with ⟨_, h2, h3, h4⟩ | ⟨p, _, h2, h3, _⟩ | ⟨_, h2, h3⟩
     ·rcases q1 with q1 | q1
      ·have := h.ows.lt j q h3 h4; omega
      ·obtain ⟨p, k, hd, hb⟩ := hX1 q q1
       refine h.ows.sep j k q (fun e => ?_) h3 (oU p k hd).2 h4 hb
       subst e
       exact h2 (List.mem_of_getElem? hd)
     ·exact q3 p h2 h3
     ·exact q3 _ h2 h3
  have hm2 : ∀ i v, m i = some v → m2 i = some v := fun i v hv => by rw [nZ i (h.ows.len i v hv).1]; exact hv
  refine ⟨⟨⟨hbx.os.trans h.bel.os, hbx.tape.trans h.bel.tape, hbx.output.trans h.bel.output, Nat.le_trans h.bel.size hbx.size, fun k hk hX => ?_⟩, ⟨fun j u hu => ?_, fun j b hb hl => ?_, fun j k b hne hj hk hbj hbk => ?_, fun j b hj hb => ?_, fun j b hj hb hq => ?_⟩, fun j b hj hb => ?_, fun j hj => ?_, ?_, h.nt, h.df, fun t => (h.slots t).mono hNb hN2 hm2⟩, ?_⟩
  ·refine (hbx.block k (Nat.lt_of_lt_of_le hk h.bel.size) fun hX' => ?_).trans (h.bel.block k hk hX)
   obtain ⟨p, j, hd, hb⟩ := hX1 k hX'
   rcases h.bnd j k (oU p j hd).2 hb with h1 | h1
   ·omega
   ·exact hX h1
  ·have bAF : own2.length = st.own.length + (own'.length - ds.length) := by simp [own2, eL]
   by_cases hj : j < st.own.length
   ·rw [nZ j hj] at hu
    exact ⟨by show j < own2.length; omega, (h.ows.len j u hu).2⟩
   ·rw [sP j (by omega)] at hu
    have := hos.len _ u hu
    exact ⟨by show j < own2.length; omega, this.2⟩
  ·rcases jA j b hb hl with ⟨h1, h2, h3⟩ | ⟨p, h1, h2⟩ | ⟨h1, h2⟩
   ·obtain ⟨u, hu, hok⟩ := h.ows.ok j b h3 hl
    refine ⟨u, hm2 j u hu, hok.mono hNb hN2 hm2 (fun q hq => hbx.block q (h.ows.lt j q ⟨b, h3, hl⟩ (aP hu hq)) fun hX => ?_)⟩
    obtain ⟨p, k, hd, hb'⟩ := hX1 q hX
    refine h.ows.sep j k q (fun e => ?_) ⟨b, h3, hl⟩ (oU p k hd).2 (aP hu hq) hb'
    subst e
    exact h2 (List.mem_of_getElem? hd)
   ·obtain ⟨u, hu, hok⟩ := hos.ok p b h2 hl
    have hpl := List.all_eq_true.1 oV b (List.mem_of_getElem? h2)
    refine ⟨u, ?_, lI (m := m') hpl hok (fun _ _ => rfl) hNF (fun _ _ => rfl)⟩
    rw [nZ j (aUQ p j h1), ← aUR p j h1]
    exact hu
   ·obtain ⟨u, hu, hok⟩ := hos.ok _ b h2 hl
    have hpl := List.all_eq_true.1 oV b (List.mem_of_getElem? h2)
    exact ⟨u, (sP j h1).trans hu, lI (m := m') hpl hok (fun _ _ => rfl) hNF (fun _ _ => rfl)⟩
  ·-- apart
   have hxx : ∀ (p j : Nat), ds[p]? = some j → j ∉ ds → False := fun p j h1 h2 => h2 (List.mem_of_getElem? h1)
   rcases lJ j hj b hbj with ⟨a1, a2, a3, a4⟩ | ⟨p, a1, a2, a3, a4⟩ | ⟨a1, a2, a3⟩ <;>
    rcases lJ k hk b hbk with ⟨c1, c2, c3, c4⟩ | ⟨q, c1, c2, c3, c4⟩ | ⟨c1, c2, c3⟩
   ·exact h.ows.sep j k b hne a3 c3 a4 c4
   ·exact h.ows.sep j k b hne a3 (oU q k c1).2 a4 c4
   ·rcases hbn _ b c2 c3 with h5 | h5
    ·have := h.ows.lt j b a3 a4; omega
    ·obtain ⟨p, i, hd, hb⟩ := hX1 b h5
     exact h.ows.sep j i b (fun e => by subst e; exact a2 (List.mem_of_getElem? hd)) a3 (oU p i hd).2 a4 hb
   ·exact h.ows.sep j k b hne (oU p j a1).2 c3 a4 c4
   ·exact h.ows.sep j k b hne (oU p j a1).2 (oU q k c1).2 a4 c4
   ·have := (List.getElem?_eq_some_iff.1 a1).1
    exact hos.sep p _ b (by omega) a2 c2 a3 c3
   ·rcases hbn _ b a2 a3 with h5 | h5
    ·have := h.ows.lt k b c3 c4; omega
    ·obtain ⟨p, i, hd, hb⟩ := hX1 b h5
     exact h.ows.sep k i b (fun e => by subst e; exact c2 (List.mem_of_getElem? hd)) c3 (oU p i hd).2 c4 hb
   ·have := (List.getElem?_eq_some_iff.1 c1).1
    exact hos.sep _ q b (by omega) a2 c2 a3 c3
   ·exact hos.sep _ _ b (by omega) a2 c2 a3 c3
  ·rcases lJ j hj b hb with ⟨a1, a2, a3, a4⟩ | ⟨p, a1, a2, a3, a4⟩ | ⟨a1, a2, a3⟩
   ·exact Nat.lt_of_lt_of_le (h.ows.lt j b a3 a4) hbx.size
   ·exact Nat.lt_of_lt_of_le (h.ows.lt j b (oU p j a1).2 a4) hbx.size
   ·exact hos.lt _ b a2 a3
  ·rcases hq with hq | ⟨_, _, q3⟩
   ·rcases lJ j hj b hb with ⟨a1, a2, a3, a4⟩ | ⟨p, a1, a2, a3, a4⟩ | ⟨a1, a2, a3⟩
    ·exact h.ows.out j b a3 a4 (.inl hq)
    ·exact h.ows.out j b (oU p j a1).2 a4 (.inl hq)
    ·exact hos.out _ b a2 a3 (.inl (.inl hq))
   ·exact q3 j hj hb
  ·rcases lJ j hj b hb with ⟨a1, a2, a3, a4⟩ | ⟨p, a1, a2, a3, a4⟩ | ⟨a1, a2, a3⟩
   ·exact h.bnd j b a3 a4
   ·exact h.bnd j b (oU p j a1).2 a4
   ·rcases hbn _ b a2 a3 with h5 | h5
    ·exact .inl (Nat.le_trans h.bel.size h5)
    ·obtain ⟨p, i, hd, hb'⟩ := hX1 b h5
     exact h.bnd i b (oU p i hd).2 hb'
  ·have : j < st.k0 := hj
   have := h.k0
   rw [nZ j (by omega)]
   exact h.fix j hj
  ·have := h.k0
   show st.k0 ≤ own2.length
   simp only [own2, List.length_append, eL]
   omega
  ·-- the result
   have sQ : ∀ i u, m' i = some u → m2 (aBG ds st.own.length i) = some u := by
    intro i u hu
    unfold aBG
    cases hd : ds[i]? with
    | some d =>
     simp only
     rw [nZ d (aUQ i d hd), ← aUR i d hd]
     exact hu
    | none =>
     have hge : ds.length ≤ i := by simpa using hd
     simp only
     rw [sP _ (by omega)]
     rw [show st.own.length + i - ds.length - st.own.length + ds.length = i by omega]
     exact hu
   have aUS : ∀ u x, aF w' (aH (aH S X w0.heap.size w m st.own) (fun b => ∃ i, aK bs i ∧ bA mX i b) w.heap.size w' m' own') m' u x →
     aF w' (aH S X w0.heap.size w' m2 own2) m2 u (aEJ ds st.own.length x) := by
    intro u x hx
    cases hx with
    | own i _ hv => exact .own _ _ (sQ i _ hv)
    | pv _ p hp => exact .pv _ _ (hp.mono (fun _ _ => rfl) hNF)
    | _ => exact .junk _
   have xY : ∀ u x, aF w' (aH (aH S X w0.heap.size w m st.own) (fun b => ∃ i, aK bs i ∧ bA mX i b) w.heap.size w' m' own') m' u x →
     aF w' (aH S X w0.heap.size w' m2 own2) m2 u (aBH ds st.own.length x) := by
    intro u x hx
    cases hx with
    | own i _ hv => exact .own _ _ (sQ i _ hv)
    | pv _ p hp => exact .pv _ _ (hp.mono (fun _ _ => rfl) hNF)
    | box i off b hb =>
     obtain ⟨u, hu, hbu⟩ := cJ hb
     exact .box _ _ b (qE (sQ i u hu) hbu)
    | agg cs f h1 hr =>
     have := aF.agg (w := w') (S := aH S X w0.heap.size w' m2 own2) (m := m2) (cs.map (aEJ ds st.own.length)) f h1 (fun j hj => by simp only [List.length_map] at hj; simp only [List.getElem_map]; exact aUS _ _ (hr j hj))
     simp only [List.length_map] at this
     exact this
    | _ => exact .junk _
   cases hrr with
   | tup cs f hr =>
    have := aF.tup (w := w') (S := aH S X w0.heap.size w' m2 own2) (m := m2) (cs.map (aBH ds st.own.length)) f (fun j hj => by simp only [List.length_map] at hj; simp only [List.getElem_map]; exact xY _ _ (hr j hj))
    simp only [List.length_map] at this
    exact this
   | own i _ hv => exact xY _ _ (.own i _ hv)
   | pv _ p hp => exact xY _ _ (.pv _ p hp)
   | box i off b hb => exact xY _ _ (.box i off b hb)
   | agg cs f h1 hr => exact xY _ _ (.agg cs f h1 hr)
   | _ => exact .junk _

end
end Go.Pe

/- Trees: made of one element; cells written and looked at; a row of a tree's handed to a function. -/
namespace Go.Pe
open Go Go.RowKit

theorem oW : ∀ {l : List Nat}, rE l = true → l.Nodup
 | [], _ => List.nodup_nil
 | x :: r, h => by
  simp only [rE, Bool.and_eq_true, Bool.not_eq_true', List.contains_eq_mem, decide_eq_false_iff_not] at h
  exact List.nodup_cons.2 ⟨h.1, oW h.2⟩

theorem iS {α : Type} {cs new : List α} {off : Nat} (h : off + new.length ≤ cs.length) : (aS cs off new).length = cs.length := by
 unfold aS
 rw [List.length_append, List.length_append, List.length_take, List.length_drop, Nat.min_eq_left (by omega)]
 omega

theorem oX (p : PV) (off : Nat) (new : List PV) : (setCells p off new).cells = aS p.cells off new := rfl

theorem uJ {p : PV} {j : Nat} (hj : j < p.cells.length) : cellAt p j = p.cells[j] := by
 unfold cellAt
 simp [List.getD, List.getElem?_eq_getElem hj]

section
variable {P : Program} {gl : List (Nat × Obj)} {S X : Nat → Prop} {w0 w w' : World} {m0 m : Nat → Option MV} {st : St} {a : Act}

theorem aC3 (E : Env P gl S X w0) (h : Sim S X w0 m0 st a w m) {o : Oper} {t e et : TypeId} {n : Nat} {x : Operand} {cs : List FV} {ps : List PV} {jl : List (Nat × List PV)} (ho : o.op = .buildSlice t n #[(0, x)]) (hn1 : n = 1)
  (hc : bB none (st.ev x)) (he : dW P t = some e) (hfc : dQ (strip (st.ev x)) = some cs) (hl : jE st.own et cs = some (ps, jl)) (hv : mT jl) (hnd : (jl.map (·.1)).Nodup)
  (hcl : cs.length = P.cellsOf e) (hsz : P.cellsOf e < 65536) (hz : dI P e = true)
  {next : Act → World → Prop} {Q : Exit → Act → World → Prop}
  (hnx : ∀ a' w' m', Sim S X w0 m0 ((st.aCW e (P.cellsOf e) et (.agg ps) (jl.map (·.1))).put o.dst (.own st.own.length)) a' w' m' → next a' w') : o.wp P a w next Q := by
 subst hn1
 have hs0 : 0 < P.cellsOf e := Nat.pos_of_ne_zero (bR he).2
 obtain ⟨g, hg, g1, gr⟩ := fX (aU (h.evs x) hc) hfc (fun i v hv => (h.ows.len i v hv).2.1)
 obtain ⟨l1, l2, l3, l4⟩ := rI hl
 obtain ⟨A, cA, hA, cM⟩ := kG he hz (n := 1) (by omega) [(0, a.eval x)] rfl (fun _ => g) (fun k hk => by
  simp only [List.length_singleton] at hk
  obtain rfl : k = 0 := by omega
  exact ⟨rfl, by rw [← hcl]; exact hg⟩) w
 have kJ : ∀ q (hq : q < cs.length), aAL w et (g q) (gh cs[q] (g q)) (ps[q]'(by omega)) ∧ (ps[q]'(by omega)).one = true ∧ ∀ b, blk (gh cs[q] (g q)) = some b → ∃ j, cs[q] = .own j ∧ aK st.own j ∧ bA m j b := by
  intro q hq
  obtain ⟨l, hl1, hl2⟩ := l2 q hq (by omega)
  refine aJW h.eQ (gr q hq) hl1 ?_
  clear hl1
  induction l with
  | nil => trivial
  | cons y r ih => exact ⟨oT hv y (hl2 y (by simp)), ih (fun z hz => hl2 z (by simp [hz]))⟩
 have hjs : ∀ (q : Nat) (hq : q < cs.length) j, cs[q] = .own j → j ∈ jl.map (·.1) := by
  intro q hq j hj
  obtain ⟨l, hl1, hl2⟩ := l2 q hq (by omega)
  rw [hj] at hl1
  simp only [kH] at hl1
  split at hl1
  ·split at hl1
   ·rename_i lj _ _
    simp only [Option.some.injEq, Prod.mk.injEq] at hl1
    obtain ⟨_, rfl⟩ := hl1
    exact List.mem_map.2 ⟨(j, lj), hl2 (j, lj) (by simp), rfl⟩
   ·cases hl1
  ·cases hl1
 have aY3 : ∀ j, j ∈ jl.map (·.1) → j < st.own.length := by
  intro j hj
  obtain ⟨q, hq, hqj⟩ := List.getElem_of_mem (l4 j hj)
  obtain ⟨l, hl1, _⟩ := l2 q hq (by omega)
  rw [hqj] at hl1
  simp only [kH] at hl1
  split at hl1
  ·rename_i hj'
   exact (List.getElem?_eq_some_iff.1 hj').1
  ·cases hl1
 obtain ⟨m1, hs1, hm1, hmm, _⟩ := h.bE E (w' := w) (v := .slice none 0 0) (bl := .row e (P.cellsOf e) []) (Below.refl _ _) rfl rfl (fun b hb => by simp [blk] at hb)
  (fun N' m' _ _ => ⟨rfl, [], fun _ _ => .bool false, World.ownsRow_nil w 0 e _, hs0, fun k j hk => by simp at hk, fun k hk => by simp at hk, fun _ _ => rfl, fun k hk => by simp at hk⟩)
 let st1 := st.bE (.row e (P.cellsOf e) [])
 have hi1 : st1.own[st.own.length]? = some (.row e (P.cellsOf e) []) := by simp [st1, St.bE]
 have aY4 : ∀ {j}, aK st.own j → aK st1.own j := by
  rintro j ⟨b, hb, hl⟩
  exact ⟨b, by simp only [st1, St.bE]; rw [List.getElem?_append_left (List.getElem?_eq_some_iff.1 hb).1]; exact hb, hl⟩
 have aY5 : ∀ {j b}, bA m j b → bA m1 j b := by
  rintro j b ⟨u, hu, hb⟩
  exact ⟨u, hmm j u hu, hb⟩
 let gs : List Value := (List.range cs.length).map fun q => gh (cs.getD q .junk) (g q)
 have hgs : ∀ q (hq : q < cs.length), gs[q]? = some (gh cs[q] (g q)) := by
  intro q hq
  simp only [gs, List.getElem?_map, List.getElem?_range hq, Option.map_some]
  simp [List.getD, List.getElem?_eq_getElem hq]
 have hgm : ∀ x, x ∈ gs → ∃ q, ∃ hq : q < cs.length, x = gh cs[q] (g q) := by
  intro x hx
  simp only [gs, List.mem_map, List.mem_range] at hx
  obtain ⟨q, hq, rfl⟩ := hx
  exact ⟨q, hq, by simp [List.getD, List.getElem?_eq_getElem hq]⟩
 have aOL : gs.length = cs.length := by simp [gs]
 have hw1 : ∀ c, c < w.heap.size → (w.alloc (.cells A e)).heap[c]? = w.heap[c]? := fun c hc => Go.heap_alloc_old w _ hc
 have aOI : ∀ x c, x ∈ gs → blk x = some c → c < w.heap.size := by
  intro x c hx hc
  obtain ⟨q, hq, rfl⟩ := hgm x hx
  obtain ⟨j, _, h5, h6⟩ := (kJ q hq).2.2 c hc
  exact h.ows.lt j c h5 h6
 have hA1 : A.size = P.cellsOf e := by rw [hA, Nat.one_mul]
 have hB : ∀ c, hasB (.slice (some ⟨w.heap.size, 0, none⟩) 1 1, gs) c → (hasB (.slice none 0 0, []) c ∨ w.heap.size ≤ c ∨ ∃ j, j ∈ jl.map (·.1) ∧ aK ((st1.drop st.own.length).cV (jl.map (·.1))).own j ∧ bA m1 j c) ∧ c < (w.alloc (.cells A e)).heap.size := by
  intro c hc
  have hsz' : (w.alloc (.cells A e)).heap.size = w.heap.size + 1 := by simp
  rcases hc with hc | ⟨x, hx, hc⟩
  ·simp only [blk, Option.some.injEq] at hc
   subst hc
   exact ⟨.inr (.inl (Nat.le_refl _)), by omega⟩
  ·have hlt := aOI x c hx hc
   obtain ⟨q, hq, rfl⟩ := hgm x hx
   obtain ⟨j, h4, h5, h6⟩ := (kJ q hq).2.2 c hc
   refine ⟨.inr (.inr ⟨j, hjs q hq j h4, lH ?_ _, aY5 h6⟩), by omega⟩
   obtain ⟨b, hb, hl⟩ := aY4 h5
   exact ⟨oL st.own.length b, by simp only [St.drop, List.getElem?_map]; rw [hb]; rfl, by cases b <;> first | exact hl | rfl⟩
 have hO : ∀ x, x ∈ gs → x.oneCell' = true := by
  intro x hx
  obtain ⟨q, hq, rfl⟩ := hgm x hx
  unfold gh; split
  ·exact g1 q
  ·rfl
 have hK : lR (w.alloc (.cells A e)) (.slice (some ⟨w.heap.size, 0, none⟩) 1 1, gs) e (P.cellsOf e) et [.agg ps] := by
  have hnw : (w.alloc (.cells A e)).heap[w.heap.size]? = some (.cells A e (0, 0)) := Go.heap_alloc_new w _
  refine ⟨A.toList.take (1 * P.cellsOf e), fun _ j => g j, ⟨by simp [hA1], .inr ⟨w.heap.size, 1, A, rfl, Nat.zero_le _, hnw, Nat.le_refl _, by simp [maxLen], hA, rfl⟩⟩, hs0, fun k j hk hj => ?_, fun k hk => ?_, fun _ j => g1 j, by simp [aOL, hcl], fun k hk j hj => ?_, fun n n' x x' c hne hx1 hx2 hc hc' => ?_, fun x c hx hc e' => ?_⟩
  ·simp only [List.length_singleton] at hk
   rw [List.getElem?_take, if_pos (gW hk hj)]
   simpa using cM k j hk hj
  ·simp only [List.length_singleton] at hk
   obtain rfl : k = 0 := by omega
   simp only [List.getElem_cons_zero, PV.cells]
   omega
  ·simp only [List.length_singleton] at hk
   obtain rfl : k = 0 := by omega
   simp only [List.getElem_cons_zero, PV.cells] at hj ⊢
   refine ⟨gh (cs[j]'(by omega)) (g j), by rw [Nat.zero_mul, Nat.zero_add]; exact hgs j (by omega), (kJ j (by omega)).1.mono (fun c hc => hw1 c (aOI _ c (List.mem_of_getElem? (hgs j (by omega))) hc))⟩
  ·have h1 : n < cs.length := by have : n < gs.length := (List.getElem?_eq_some_iff.1 hx1).1; omega
   have h2 : n' < cs.length := by have : n' < gs.length := (List.getElem?_eq_some_iff.1 hx2).1; omega
   rw [hgs n h1] at hx1
   rw [hgs n' h2] at hx2
   cases hx1; cases hx2
   obtain ⟨j, h4, h5, h6⟩ := (kJ n h1).2.2 c hc
   obtain ⟨j', h4', h5', h6'⟩ := (kJ n' h2).2.2 c hc'
   by_cases hjj : j = j'
   ·subst hjj
    exact l3 hnd n n' h1 h2 j hne h4 h4'
   ·exact h.ows.sep j j' c hjj h5 h5' h6 h6'
  ·simp only [blk, Option.some.injEq] at e'
   have := aOI x c hx hc
   omega
 obtain ⟨m', hs', hmi⟩ := (((hs1.drop st.own.length).cV (jl.map (·.1))).aHC E (w' := w.alloc (.cells A e)) (i := st.own.length) (v := (.slice none 0 0, [])) (v' := (.slice (some ⟨w.heap.size, 0, none⟩) 1 1, gs)) (bl' := .tree e (P.cellsOf e) et [.agg ps]) (jl.map (·.1))
  (qF (b := .row e (P.cellsOf e) []) (by simp only [St.drop, List.getElem?_map]; rw [show (st.bE (.row e (P.cellsOf e) [])).own[st.own.length]? = _ from hi1]; rfl) (fun cs => by simp) _) rfl rfl hm1 (by
   have : ∀ js, ((st1.drop st.own.length).cV js).k0 = st.k0 := by intro js; induction js with | nil => rfl | cons _ _ ih => exact ih
   rw [this]; exact h.k0) (fun hm => by have := aY3 _ hm; omega)
  (fun t => ⟨fun j hj => qG _ j hj t, .inl (aBL _ _ t)⟩) (fun j cs' hj x hx' => ⟨fun q hq => nB _ q hq j cs' hj x hx', .inl (xU _ _ j cs' hj x hx')⟩)
  ⟨rfl, rfl, rfl, by simp, fun q hq _ => hw1 q hq⟩
  hB ⟨rfl, hO⟩ (fun N' m' hN' => hK))
 refine bL (v := .slice (some ⟨w.heap.size, 0, none⟩) 1 1) (w' := w.alloc (.cells A e)) (by simp [execOp, ho, cA]) ?_
 exact hnx _ _ m' (hs'.put (dst := o.dst) (v := .slice (some ⟨w.heap.size, 0, none⟩) 1 1) (x := .own st.own.length) (.own st.own.length (_, gs) hmi))

theorem Sim.xZ (h : Sim S X w0 m0 st a w m) {i k off b s : Nat} {e et t : TypeId} {els : List PV} {v : Value} {pn : List PV} (hi : st.own[i]? = some (.tree e s et els)) (hb : jI m i = some b)
  {g : Nat → Value} (hg : v.cells = (aE pn.length g).toArray) (g1 : ∀ j, (g j).oneCell' = true) (gr : ∀ j (hj : j < pn.length), Rep w (fun _ => False) (g j) pn[j])
  (hn : pn.length = P.cellsOf t) (hn0 : P.cellsOf t ≠ 0) (hk : k < els.length) (hle : off + pn.length ≤ s) (cB : gZ els[k] off pn.length) :
  ∃ w', (storeVar t ⟨b, k * s + off, none⟩ v).run P w = .ok () w' ∧ Sim S X w0 m0 (st.aR i (.tree e s et (els.set k (setCells els[k] off pn)))) a w' m := by
 obtain ⟨⟨u, ug⟩, hu, hbu⟩ := cJ hb
 have eM : aK st.own i := ⟨_, hi, rfl⟩
 obtain ⟨xs, f, aM, hs0, hx, h2, h1, hgl, hlf, hsp, htp⟩ := h.eQ i _ _ hi rfl hu
 simp only at aM hbu hgl hlf hsp htp
 rcases aM.2 with ⟨rfl, _⟩ | ⟨b', cap, cur, rfl, hb0, hh, oB, hcm, aWY, lE⟩
 ·simp [blk] at hbu
 simp [blk] at hbu
 subst hbu
 have hin : k * s + off + pn.length ≤ els.length * s := by
  have := Nat.mul_le_mul_right s (show k + 1 ≤ els.length from hk)
  rw [Nat.add_mul, Nat.one_mul] at this
  omega
 have hcap' : els.length * s ≤ cap * s := Nat.mul_le_mul_right s oB
 have cA := jJ (P := P) (w := w) hg hn hn0 g1 hh (off := k * s + off) (by omega)
 have hold : ∀ c, c ≠ b' → (w.setRow b' (aS cur.toList (k * s + off) (aE pn.length g)).toArray).heap[c]? = w.heap[c]? := fun c hc => setRow_other w b' c _ hc
 have aEV : ∀ x, x ∈ ug → ∀ c, blk x = some c → c ≠ b' := by
  intro x hx' c hc e'
  subst e'
  exact htp x c hx' hc (by simp [blk])
 have aOF : (aS cur.toList (k * s + off) (aE pn.length g)).length = cur.size := by
  have aY6 : cur.toList.length = cur.size := Array.length_toList
  rw [iS (by rw [lS]; omega)]
  exact aY6
 have hcl : (aS (els[k]).cells off pn).length = s := by rw [iS (by rw [h2 k hk]; exact hle)]; exact h2 k hk
 refine ⟨_, cA, h.aR (w' := w.setRow b' _) hi rfl rfl hu (.inl rfl) rfl rfl rfl (by simp) hold (fun N hN => ?_)⟩
 refine ⟨aS xs (k * s + off) (aE pn.length g), fun k' j => if k' = k ∧ off ≤ j ∧ j < off + pn.length then g (j - off) else f k' j, ⟨?_, .inr ⟨b', cap, _, by simp, hb0, setRow_heap w b' _ _ e (0, 0) hh, by simpa using oB, hcm, ?_, ?_⟩⟩, hs0, fun k' j hk' hj => ?_, fun k' hk' => ?_,
  fun k' j => by dsimp only; split <;> simp [g1, h1], by simpa using hgl, fun k' hk' j hj => ?_, hsp, htp⟩
 ·rw [List.length_set, iS (by rw [lS, aM.1]; exact hin)]; exact aM.1
 ·rw [List.size_toArray, aOF]; exact aWY
 ·apply List.ext_getElem?
  intro q
  have e1 : (aS cur.toList (k * s + off) (aE pn.length g)).toArray.toList = aS cur.toList (k * s + off) (aE pn.length g) := rfl
  rw [e1, List.length_set, List.getElem?_take, bK (by simp; omega), bK (by simp [aM.1]; omega)]
  simp only [List.length_map, List.length_range]
  by_cases hq : k * s + off ≤ q ∧ q < k * s + off + pn.length
  ·rw [if_pos hq, if_pos hq, if_pos (by omega)]
  ·rw [if_neg hq, if_neg hq]
   by_cases h3 : q < els.length * s
   ·rw [if_pos h3, ← lE, List.getElem?_take, if_pos h3]
   ·rw [if_neg h3, List.getElem?_eq_none (by rw [aM.1]; omega)]
 ·simp only [List.length_set] at hk'
  rw [bK (by simp [aM.1]; omega)]
  simp only [List.length_map, List.length_range]
  by_cases hc : k' = k ∧ off ≤ j ∧ j < off + pn.length
  ·rw [if_pos hc]
   obtain ⟨hkk, h3, h4⟩ := hc
   subst hkk
   rw [if_pos (by omega), bX, if_pos (by omega)]
   congr 2
   omega
  ·rw [if_neg hc, if_neg (fun hq => ?_)]
   ·exact hx k' j hk' hj
   ·apply hc
    by_cases hkk : k' = k
    ·subst hkk; exact ⟨rfl, by omega, by omega⟩
    ·exfalso
     have := xS (s := s) (j := j) (j' := k' * s + j - k * s) hj (by omega) hkk
     omega
 ·simp only [List.length_set] at hk'
  rw [List.getElem_set]
  split
  ·exact hcl
  ·exact h2 k' hk'
 ·simp only [List.length_set] at hk'
  by_cases hkk : k = k'
  ·subst hkk
   simp only [List.getElem_set_self, oX] at hj ⊢
   have hjs : j < s := by rw [hcl] at hj; exact hj
   have hjc : j < (els[k]).cells.length := by rw [h2 k hk]; exact hjs
   obtain ⟨q, hq, hl⟩ := hlf k hk j hjc
   refine ⟨q, hq, ?_⟩
   by_cases hc : off ≤ j ∧ j < off + pn.length
   ·rw [if_pos ⟨trivial, hc⟩]
    have cM : (aS (els[k]).cells off pn)[j] = pn[j - off]'(by omega) := by
     have := bK (cs := (els[k]).cells) (new := pn) (off := off) (by rw [h2 k hk]; exact hle) j
     rw [if_pos hc, List.getElem?_eq_getElem hj, List.getElem?_eq_getElem (by omega)] at this
     exact Option.some.inj this
    rw [cM]
    refine .inl ⟨?_, (gr (j - off) (by omega)).mono (fun _ h => h.elim) (fun _ h => h)⟩
    rcases hl with ⟨h0, _⟩ | ⟨l, hl, _⟩
    ·exact h0
    ·obtain ⟨y, hy⟩ := cB (j - off) (by omega)
     rw [show off + (j - off) = j by omega, uJ hjc, hl] at hy
     cases hy
   ·rw [if_neg (fun h => hc h.2)]
    have cM : (aS (els[k]).cells off pn)[j] = (els[k]).cells[j] := by
     have := bK (cs := (els[k]).cells) (new := pn) (off := off) (by rw [h2 k hk]; exact hle) j
     rw [if_neg hc, List.getElem?_eq_getElem hj, List.getElem?_eq_getElem hjc] at this
     exact Option.some.inj this
    rw [cM]
    exact hl.mono (fun c hc' => hold c (aEV q (List.mem_of_getElem? hq) c hc'))
  ·simp only [List.getElem_set_ne hkk] at hj ⊢
   rw [if_neg (fun h => hkk h.1.symm)]
   obtain ⟨q, hq, hl⟩ := hlf k' hk' j hj
   exact ⟨q, hq, hl.mono (fun c hc' => hold c (aEV q (List.mem_of_getElem? hq) c hc'))⟩

theorem Sim.aOQ (h : Sim S X w0 m0 st a w m) {i k off b s : Nat} {e et t : TypeId} {els : List PV} (hi : st.own[i]? = some (.tree e s et els)) (hb : jI m i = some b) (hk : k < els.length) (ho : off < s) (hs : aAM P t = true) (hag : eD P t = false) :
  ∃ u, (loadVar t ⟨b, k * s + off, none⟩).run P w = .ok u w ∧ u.oneCell' = true ∧ ((∃ v, cellAt els[k] off = .val v) ∨ cellAt els[k] off = .lst [] → ∀ N, Rep w N u (cellAt els[k] off)) ∧
   (∀ l, cellAt els[k] off = .lst l → l ≠ [] → aF w (aH S X w0.heap.size w m st.own) m u (.sub i s k off)) := by
 obtain ⟨⟨u, ug⟩, hu, hbu⟩ := cJ hb
 obtain ⟨xs, f, aM, hs0, hx, h2, h1, hgl, hlf, hsp, htp⟩ := h.eQ i _ _ hi rfl hu
 simp only at aM hbu hgl hlf hsp htp
 have cQ := aM.cells (g := b) (by
  rcases aM.2 with ⟨rfl, _⟩ | ⟨g, cap, cur, rfl, _⟩
  ·simp [blk] at hbu
  ·simpa [blk, Value.ownBlock] using hbu)
 have hc1 : P.cellsOf t = 1 := (jU hs).2 hag
 have hjc : off < (els[k]).cells.length := by rw [h2 k hk]; exact ho
 have cA := vQ (P := P) (t := t) (w := w) (b := b) (o := k * s + off) (f := fun _ => f k off) hs (fun j hj => by
  obtain rfl : j = 0 := by omega
  have := cQ (k * s + off) _ (hx k off hk ho)
  rw [kD] at this
  simpa using this)
 rw [hag] at cA
 obtain ⟨q, hq, hl⟩ := hlf k hk off hjc
 have iB := uJ hjc
 refine ⟨f k off, by simpa using cA, h1 k off, fun hv N => ?_, fun l hcl hne => ?_⟩
 ·rw [iB] at hv ⊢
  rcases hl with ⟨_, h0⟩ | ⟨l, hl, rfl, hr⟩
  ·exact h0.mono (fun _ h => h.elim) (fun _ h => h.elim)
  ·rcases hv with ⟨v, hv⟩ | hv
   ·rw [hl] at hv; cases hv
   ·rw [hl] at hv ⊢
    cases hv
    rcases mA hr with ⟨h3, _⟩ | ⟨g, cap, h3⟩
    ·rw [h3]; exact .nil _ _
    ·rw [h3]; exact .nil _ _
 ·rw [iB] at hcl
  rcases hl with ⟨_, h0⟩ | ⟨l', _, rfl, _⟩
  ·rw [hcl] at h0
   generalize f k off = fv at h0
   cases h0 with
   | nil => exact absurd rfl hne
   | lst b o c s els f hS => exact hS.elim
  ·exact .sub i s k off _ _ hu ho hq (h1 k off)

end
end Go.Pe

/- Trees: a row of a tree's handed to a function that turns it. -/
namespace Go.Pe
open Go Go.RowKit

section
variable {P : Program} {gl : List (Nat × Obj)} {S X : Nat → Prop} {w0 w w' : World} {m0 m : Nat → Option MV} {st : St} {a : Act}

theorem FX.sub (E : Env P gl S X w0) (h : Sim S X w0 m0 st a w m) {fid : FuncId} {i s k j : Nat} {e et : TypeId} {els l : List PV} {as args : List FV} {R : List Blk → FV → Prop} {g : Nat → Value}
  (hi : st.own[i]? = some (.tree e s et els)) (hk : k < els.length) (iB : cellAt els[k] j = .lst l) (hne : l ≠ []) (has : fQ (xN i s k j) args = some as)
  (hfx : FX P gl fid [.row et 1 l] as R) (hg : ∀ q (hq : q < args.length), aF w (aH S X w0.heap.size w m st.own) m (g q) args[q]) (hjs : j < s) {R' : Ending → World → Prop}
  (hn : ∀ v own' r w', R own' r → (∀ l' x, own' = [.row et 1 l'] → r = .pv (.val x) → qT l' → Sim S X w0 m0 (st.aR i (.tree e s et (els.set k (setCells els[k] j [.lst l'])))) a w' m ∧ v = x ∧ free x = true) → R' (.returned v) w') :
  Calls P fid (aE args.length g).toArray w R' := by
 have eM : aK st.own i := ⟨_, hi, rfl⟩
 obtain ⟨⟨u, ug⟩, hu, hok⟩ := h.ows.ok i _ hi rfl
 obtain ⟨xs, f, aM, hs0, hx, h2, h1, hgl, hlf, hsp, htp⟩ := id hok
 simp only at aM hgl hlf hsp htp
 have hjc : j < (els[k]).cells.length := by rw [h2 k hk]; exact hjs
 obtain ⟨q, hq, kJ⟩ := hlf k hk j hjc
 have hc := uJ hjc
 rw [hc] at iB
 have mB : q = f k j ∧ fP w (fun _ => False) q et 1 l := by
  rcases kJ with ⟨_, h0⟩ | ⟨l', hl', rfl, hr⟩
  ·exfalso
   rw [iB] at h0
   generalize f k j = fv at h0
   cases h0 with
   | nil => exact hne rfl
   | lst b o c s els f hS => exact hS
  ·rw [iB] at hl'; cases hl'
   exact ⟨rfl, hr⟩
 obtain ⟨hqf, mB⟩ := mB
 have hqm : q ∈ ug := List.mem_of_getElem? hq
 have hq1 : q.oneCell' = true := (h.ows.len i _ hu).2.2 q hqm
 obtain ⟨hal, aOO⟩ := bI has
 let mX : Nat → Option MV := fun n => if n = 0 then some (q, []) else none
 have aY7 : mX 0 = some (q, []) := rfl
 have aUT : ∀ n, aK [Blk.row et 1 l] n → n = 0 := by
  rintro n ⟨b, hb, _⟩
  cases n with
  | zero => rfl
  | succ n => simp at hb
 have rK : aK [Blk.row et 1 l] 0 := ⟨_, rfl, rfl⟩
 have oD : ∀ n b, bA mX n b → blk q = some b := by
  rintro n b ⟨v, hv, hb⟩
  simp only [mX] at hv
  split at hv
  ·cases hv; exact kB.1 hb
  ·cases hv
 have hX1 : ∀ b, (∃ n, aK [Blk.row et 1 l] n ∧ bA mX n b) → blk q = some b := fun b ⟨n, _, hb⟩ => oD n b hb
 have hqB : ∀ b, blk q = some b → bA m i b := fun b hb => aP hu (.inr ⟨q, hqm, hb⟩)
 have xX : tY w (aH S X w0.heap.size w m st.own) mX [.row et 1 l] := by
  refine ⟨fun n v hv => ?_, fun n b hb hl => ?_, fun n n' b hne hp hq hbp hbq => ?_, fun n b hp hb => h.ows.lt i b eM (hqB b (oD n b hb)), fun n b hp hb => h.ows.out i b eM (hqB b (oD n b hb))⟩
  ·simp only [mX] at hv
   split at hv
   ·rename_i h0; cases hv; exact ⟨by simp [h0], hq1, fun _ h => by cases h⟩
   ·cases hv
  ·obtain rfl := aUT n ⟨b, hb, hl⟩
   simp only [List.getElem?_cons_zero, Option.some.injEq] at hb
   subst hb
   exact ⟨(q, []), rfl, rfl, mB.mono (fun _ h => h.elim) (fun _ h => h.elim) (fun _ _ => rfl)⟩
  ·exact absurd ((aUT n hp).trans (aUT n' hq).symm) hne
 have aOP : ∀ n (hn : n < as.length), aF w (aH S X w0.heap.size w m st.own) mX (g n) as[n] := by
  intro n hn'
  have h3 := aOO n (by omega) hn'
  have h4 := hg n (by omega)
  generalize args[n]'(by omega) = x at h3 h4
  unfold xN at h3
  split at h3
  ·simp only [Option.some.injEq] at h3
   rw [← h3]
   exact .pv _ _ h4.eX
  ·split at h3
   ·rename_i hcc
    obtain ⟨rfl, rfl, rfl, rfl⟩ := hcc
    simp only [Option.some.injEq] at h3
    rw [← h3]
    generalize g n = gn at h4
    cases h4 with | sub _ _ _ _ v' _ hv' _ hg' _ =>
    rw [hu] at hv'; cases hv'
    simp only at hg'
    rw [hq] at hg'; cases hg'
    exact .own 0 (q, []) rfl
   ·cases h3
  ·cases h3
 rw [hal]
 refine (hfx.2 w _ mX g (h.aLB E) (fun b => bP E h) xX (fun n b hp hb x hx' => ?_) aOP).mono ?_
 ·intro e'
  rcases h.bnd i b eM (hqB b (oD n b hb)) with h3 | h3
  ·have h0 := (Array.getElem?_eq_some_iff.1 (E.gl0 x hx')).1
   omega
  ·exact E.glX b h3 x hx' e'
 ·rintro en w' ⟨v, r, own', m', rfl, hR, hlen, hmm, hbx, hos, hbn, hrr⟩
  refine hn v own' r w' hR ?_
  rintro l' x rfl rfl hvl
  have hv : v = x ∧ free x = true := by
   have := hrr.eX
   cases this with | val _ hf => exact ⟨rfl, hf⟩
  have hm0 : m' 0 = some (q, []) := (hmm 0 (by simp)).trans aY7
  obtain ⟨v2, hv2, aUU⟩ := hos.ok 0 _ rfl rfl
  rw [hm0] at hv2; cases hv2
  have hrow' : fP w' (fun _ => False) q et 1 l' := aUU.2.aHD hvl
  have iF : ∀ c, c < w.heap.size → blk q ≠ some c → w'.heap[c]? = w.heap[c]? := fun c hc' hne' => hbx.block c hc' (fun hX => hne' (hX1 c hX))
  have hlt : i < st.own.length := (List.getElem?_eq_some_iff.1 hi).1
  let T : Blk := .tree e s et (els.set k (setCells els[k] j [.lst l']))
  have hlv : ∀ n, aK (st.own.set i T) n ↔ aK st.own n := by
   intro n
   unfold aK
   by_cases hni : n = i
   ·subst hni
    simp only [List.getElem?_set_self hlt]
    exact ⟨fun _ => ⟨_, hi, rfl⟩, fun _ => ⟨_, rfl, rfl⟩⟩
   ·rw [List.getElem?_set_ne (fun e => hni e.symm)]
  have hN1 : ∀ c, aH S X w0.heap.size w m st.own c → aH S X w0.heap.size w' m (st.own.set i T) c := by
   rintro c (hc' | ⟨c1, c2, c3⟩)
   ·exact .inl hc'
   ·exact .inr ⟨c1, Nat.lt_of_lt_of_le c2 hbx.size, fun n hn' => c3 n ((hlv n).1 hn')⟩
  have hNb : ∀ c, aH S X w0.heap.size w m st.own c → w'.heap[c]? = w.heap[c]? := fun c hc' => iF c (bP E h hc') (fun e' => h.ows.out i c eM (hqB c e') hc')
  have eA : ∀ n c, aK st.own n → bA m n c → ¬ aH S X w0.heap.size w' m (st.own.set i T) c := by
   intro n c hn' hc' hN
   rcases hN with hN | ⟨_, _, c3⟩
   ·exact h.ows.out n c hn' hc' (.inl hN)
   ·exact c3 n ((hlv n).2 hn') hc'
  refine ⟨⟨⟨hbx.os.trans h.bel.os, hbx.tape.trans h.bel.tape, hbx.output.trans h.bel.output, Nat.le_trans h.bel.size hbx.size, fun c hc' hX => (iF c (Nat.lt_of_lt_of_le hc' h.bel.size) fun e' => ?_).trans (h.bel.block c hc' hX)⟩,
   ⟨fun n v hv => ?_, fun n b hb hl => ?_, fun n n' b hne' hn1 hn2 => h.ows.sep n n' b hne' ((hlv n).1 hn1) ((hlv n').1 hn2), fun n b hn1 hb => Nat.lt_of_lt_of_le (h.ows.lt n b ((hlv n).1 hn1) hb) hbx.size, fun n b hn1 hb => eA n b ((hlv n).1 hn1) hb⟩,
   fun n b hn1 hb => h.bnd n b ((hlv n).1 hn1) hb, h.fix, by simpa [St.aR] using h.k0, h.nt, h.df, fun t => (h.slots t).mono hNb hN1 (fun _ _ => id)⟩, hv⟩
  ·rcases h.bnd i c eM (hqB c e') with h3 | h3
   ·omega
   ·exact hX h3
  ·have := h.ows.len n v hv
   simpa [St.aR] using this
  ·by_cases hni : n = i
   ·subst hni
    simp only [St.aR, List.getElem?_set_self hlt, Option.some.injEq] at hb
    subst hb
    refine ⟨(u, ug), hu, ?_⟩
    have hle : j + [PV.lst l'].length ≤ (els[k]).cells.length := by simp only [List.length_singleton]; omega
    have hcl : (aS (els[k]).cells j [PV.lst l']).length = s := by rw [iS hle]; exact h2 k hk
    have aR8 : ∀ c, blk u = some c → w'.heap[c]? = w.heap[c]? := fun c hc' => iF c (h.ows.lt n c eM (aP hu (.inl hc'))) (fun e' => htp q c hqm e' hc')
    have aOM : ∀ (n' : Nat) (g' : Value), n' ≠ k * s + j → ug[n']? = some g' → ∀ c, blk g' = some c → w'.heap[c]? = w.heap[c]? :=
     fun n' g' hne' hg' c hc' => iF c (h.ows.lt n c eM (aP hu (.inr ⟨g', List.mem_of_getElem? hg', hc'⟩))) (fun e' => hsp n' (k * s + j) g' q c hne' hg' hq hc' e')
    refine ⟨xs, f, by simpa using mV aM aR8, hs0, by simpa using hx, fun k' hk' => ?_, h1, by simpa using hgl, fun k' hk' j' hj' => ?_, hsp, htp⟩
    ·simp only [List.length_set] at hk'
     rw [List.getElem_set]
     split
     ·exact hcl
     ·exact h2 k' hk'
    ·simp only [List.length_set] at hk'
     by_cases hkk : k = k'
     ·subst hkk
      simp only [List.getElem_set_self, oX] at hj' ⊢
      have hjs' : j' < s := by rw [hcl] at hj'; exact hj'
      have hjc' : j' < (els[k]).cells.length := by rw [h2 k hk]; exact hjs'
      by_cases hjj : j' = j
      ·subst hjj
       refine ⟨q, hq, ?_⟩
       have cM : (aS (els[k]).cells j' [PV.lst l'])[j'] = .lst l' := by
        have := bK (cs := (els[k]).cells) (new := [PV.lst l']) (off := j') hle j'
        rw [if_pos (by simp), List.getElem?_eq_getElem hj'] at this
        simpa using this
       rw [cM, ← hqf]
       exact .inr ⟨l', rfl, rfl, hrow'⟩
      ·obtain ⟨q', hq', hl'⟩ := hlf k hk j' hjc'
       refine ⟨q', hq', ?_⟩
       have cM : (aS (els[k]).cells j [PV.lst l'])[j'] = (els[k]).cells[j'] := by
        have := bK (cs := (els[k]).cells) (new := [PV.lst l']) (off := j) hle j'
        rw [if_neg (by simp; omega), List.getElem?_eq_getElem hj', List.getElem?_eq_getElem hjc'] at this
        exact Option.some.inj this
       rw [cM]
       exact hl'.mono (aOM _ q' (by omega) hq')
     ·simp only [List.getElem_set_ne hkk] at hj' ⊢
      obtain ⟨q', hq', hl'⟩ := hlf k' hk' j' hj'
      have hjs' : j' < s := by rw [h2 k' hk'] at hj'; exact hj'
      exact ⟨q', hq', hl'.mono (aOM _ q' (xS hjs' hjs (fun e => hkk e.symm)) hq')⟩
   ·simp only [St.aR] at hb
    rw [List.getElem?_set_ne (fun e => hni e.symm)] at hb
    obtain ⟨v2, hv2, hok'⟩ := h.ows.ok n b hb hl
    refine ⟨v2, hv2, hok'.mono hNb hN1 (fun _ _ => id) (fun c hc' => iF c (h.ows.lt n c ⟨b, hb, hl⟩ (aP hv2 hc')) fun e' => ?_)⟩
    exact h.ows.sep n i c hni ⟨b, hb, hl⟩ eM (aP hv2 hc') (hqB c e')

end
end Go.Pe

/- One operation after the other. -/
namespace Go.Pe
open Go Go.RowKit

section
variable {P : Program} {gl : List (Nat × Obj)} {S X : Nat → Prop} {w0 w w' : World} {m0 m : Nat → Option MV} {st : St} {a : Act}

theorem Sim.sR (h : Sim S X w0 m0 st a w m) (dst : Option Nat) (v : Value) : Sim S X w0 m0 (st.put dst .junk) (a.put dst v) w m := h.put (.junk v)

theorem Sim.aR9 (E : Env P gl S X w0) (h : Sim S X w0 m0 st a w m) {own' : List Blk} {m' : Nat → Option MV} (hb : Below w.heap.size w w') (hos : tY w' (fun _ => False) m' own')
  (hbn : ∀ i b, aK own' i → bA m' i b → w.heap.size ≤ b) (oV : (own'.all fN) = true) {v : Value} {r : FV} (hrr : aF w' (fun _ => False) m' v r) :
  ∃ m2, Sim S X w0 m0 { st with own := st.own ++ own' } a w' m2 ∧ aF w' (aH S X w0.heap.size w' m2 (st.own ++ own')) m2 v (aBI [] st.own.length r) := by
 let m2 : Nat → Option MV := fun j => if j < st.own.length then m j else m' (j - st.own.length)
 have nZ : ∀ j, j < st.own.length → m2 j = m j := fun j hj => by simp only [m2]; rw [if_pos hj]
 have sP : ∀ j, st.own.length ≤ j → m2 j = m' (j - st.own.length) := fun j hj => by simp only [m2]; rw [if_neg (by omega)]
 have cM : ∀ (j : Nat) (b : Blk), (st.own ++ own')[j]? = some b → (j < st.own.length ∧ st.own[j]? = some b) ∨ (st.own.length ≤ j ∧ own'[j - st.own.length]? = some b) := by
  intro j b hj
  rw [List.getElem?_append] at hj
  split at hj
  ·rename_i hl; exact .inl ⟨hl, hj⟩
  ·rename_i hl; exact .inr ⟨by omega, hj⟩
 have lJ : ∀ j, aK (st.own ++ own') j → ∀ b, bA m2 j b →
   (j < st.own.length ∧ aK st.own j ∧ bA m j b) ∨ (st.own.length ≤ j ∧ aK own' (j - st.own.length) ∧ bA m' (j - st.own.length) b) := by
  rintro j ⟨c, hc, hl⟩ b hbj
  rcases cM j c hc with ⟨h1, h2⟩ | ⟨h1, h2⟩
  ·exact .inl ⟨h1, ⟨c, h2, hl⟩, by unfold bA at *; rwa [nZ j h1] at hbj⟩
  ·exact .inr ⟨h1, ⟨c, h2, hl⟩, by unfold bA at *; rwa [sP j h1] at hbj⟩
 have hN2 : ∀ q, aH S X w0.heap.size w m st.own q → aH S X w0.heap.size w' m2 (st.own ++ own') q := by
  intro q hNq
  have hlt := bP E h hNq
  rcases hNq with hq | ⟨q1, q2, q3⟩
  ·exact .inl hq
  ·refine .inr ⟨q1, Nat.lt_of_lt_of_le q2 hb.size, fun j hj hmj => ?_⟩
   rcases lJ j hj q hmj with ⟨_, h3, h4⟩ | ⟨_, h3, h4⟩
   ·exact q3 j h3 h4
   ·have := hbn _ q h3 h4; omega
 have hNb : ∀ q, aH S X w0.heap.size w m st.own q → w'.heap[q]? = w.heap[q]? := fun q hq => hb.block q (bP E h hq)
 have hm2 : ∀ i v, m i = some v → m2 i = some v := fun i v hv => by rw [nZ i (h.ows.len i v hv).1]; exact hv
 have hNF : ∀ q, False → aH S X w0.heap.size w' m2 (st.own ++ own') q := fun q hq => hq.elim
 refine ⟨m2, ⟨⟨hb.os.trans h.bel.os, hb.tape.trans h.bel.tape, hb.output.trans h.bel.output, Nat.le_trans h.bel.size hb.size, fun k hk hX => (hb.block k (Nat.lt_of_lt_of_le hk h.bel.size)).trans (h.bel.block k hk hX)⟩,
  ⟨fun j u hu => ?_, fun j b hj hl => ?_, fun j k b hne hj hk hbj hbk => ?_, fun j b hj hbj => ?_, fun j b hj hbj hq => ?_⟩, fun j b hj hbj => ?_, fun j hj => ?_, ?_, h.nt, h.df, fun t => (h.slots t).mono hNb hN2 hm2⟩, ?_⟩
 ·simp only [List.length_append]
  by_cases hj : j < st.own.length
  ·rw [nZ j hj] at hu
   have := h.ows.len j u hu
   exact ⟨by omega, this.2⟩
  ·rw [sP j (by omega)] at hu
   have := hos.len _ u hu
   exact ⟨by omega, this.2⟩
 ·rcases cM j b hj with ⟨h1, h2⟩ | ⟨h1, h2⟩
  ·obtain ⟨u, hu, hok⟩ := h.ows.ok j b h2 hl
   exact ⟨u, hm2 j u hu, hok.mono hNb hN2 hm2 (fun q hq => hb.block q (h.ows.lt j q ⟨b, h2, hl⟩ (aP hu hq)))⟩
  ·obtain ⟨u, hu, hok⟩ := hos.ok _ b h2 hl
   have hpl := List.all_eq_true.1 oV b (List.mem_of_getElem? h2)
   exact ⟨u, (sP j h1).trans hu, lI (m := m') hpl hok (fun _ _ => rfl) hNF (fun _ _ => rfl)⟩
 ·rcases lJ j hj b hbj with ⟨a1, a2, a3⟩ | ⟨a1, a2, a3⟩ <;> rcases lJ k hk b hbk with ⟨c1, c2, c3⟩ | ⟨c1, c2, c3⟩
  ·exact h.ows.sep j k b hne a2 c2 a3 c3
  ·have := h.ows.lt j b a2 a3; have := hbn _ b c2 c3; omega
  ·have := h.ows.lt k b c2 c3; have := hbn _ b a2 a3; omega
  ·exact hos.sep _ _ b (by omega) a2 c2 a3 c3
 ·rcases lJ j hj b hbj with ⟨a1, a2, a3⟩ | ⟨a1, a2, a3⟩
  ·exact Nat.lt_of_lt_of_le (h.ows.lt j b a2 a3) hb.size
  ·exact hos.lt _ b a2 a3
 ·rcases hq with hq | ⟨_, _, q3⟩
  ·rcases lJ j hj b hbj with ⟨a1, a2, a3⟩ | ⟨a1, a2, a3⟩
   ·exact h.ows.out j b a2 a3 (.inl hq)
   ·have := hbn _ b a2 a3; have := E.Slt b hq; have := h.bel.size; omega
  ·exact q3 j hj hbj
 ·rcases lJ j hj b hbj with ⟨a1, a2, a3⟩ | ⟨a1, a2, a3⟩
  ·exact h.bnd j b a2 a3
  ·exact .inl (Nat.le_trans h.bel.size (hbn _ b a2 a3))
 ·have : j < st.k0 := hj
  have := h.k0
  rw [nZ j (by omega)]
  exact h.fix j hj
 ·have := h.k0
  show st.k0 ≤ (st.own ++ own').length
  simp only [List.length_append]
  omega
 ·have sQ : ∀ i u, m' i = some u → m2 (aBG [] st.own.length i) = some u := by
   intro i u hu
   show m2 (st.own.length + i - 0) = some u
   rw [Nat.sub_zero, sP _ (by omega), Nat.add_sub_cancel_left]
   exact hu
  have aUS : ∀ u x, aF w' (fun _ => False) m' u x → aF w' (aH S X w0.heap.size w' m2 (st.own ++ own')) m2 u (aEJ [] st.own.length x) := by
   intro u x hx
   cases hx with
   | own i _ hv => exact .own _ _ (sQ i _ hv)
   | pv _ p hp => exact .pv _ _ (hp.mono (fun _ _ => rfl) hNF)
   | _ => exact .junk _
  have xY : ∀ u x, aF w' (fun _ => False) m' u x → aF w' (aH S X w0.heap.size w' m2 (st.own ++ own')) m2 u (aBH [] st.own.length x) := by
   intro u x hx
   cases hx with
   | own i _ hv => exact .own _ _ (sQ i _ hv)
   | pv _ p hp => exact .pv _ _ (hp.mono (fun _ _ => rfl) hNF)
   | box i off b hb =>
    obtain ⟨u, hu, hbu⟩ := cJ hb
    exact .box _ _ b (qE (sQ i u hu) hbu)
   | agg cs f h1 hr =>
    have := aF.agg (w := w') (S := aH S X w0.heap.size w' m2 (st.own ++ own')) (m := m2) (cs.map (aEJ [] st.own.length)) f h1 (fun j hj => by simp only [List.length_map] at hj; simp only [List.getElem_map]; exact aUS _ _ (hr j hj))
    simp only [List.length_map] at this
    exact this
   | _ => exact .junk _
  cases hrr with
  | tup cs f hr =>
   have := aF.tup (w := w') (S := aH S X w0.heap.size w' m2 (st.own ++ own')) (m := m2) (cs.map (aBH [] st.own.length)) f (fun j hj => by simp only [List.length_map] at hj; simp only [List.getElem_map]; exact xY _ _ (hr j hj))
   simp only [List.length_map] at this
   exact this
  | own i _ hv => exact xY _ _ (.own i _ hv)
  | pv _ p hp => exact xY _ _ (.pv _ p hp)
  | box i off b hb => exact xY _ _ (.box i off b hb)
  | agg cs f h1 hr => exact xY _ _ (.agg cs f h1 hr)
  | _ => exact .junk _

theorem aOR (E : Env P gl S X w0) (h : Sim S X w0 m0 st a w m) {o : Oper} {f : Operand} {args : Array Operand} {ts : Array TypeId} {fid : FuncId} {caps : List FV} {K : FV → St → Prop}
  (ho : o.op = .call { callee := .value f, args, argTypes := ts }) (hc : bN none st (f :: args.toList)) (hf : aAN (strip (st.ev f)) = some (fid, caps))
  (hv : aG5 P gl st fid ((args.toList.map fun x => strip (st.ev x)) ++ caps) K) {next : Act → World → Prop} {Q : Exit → Act → World → Prop}
  (hn : ∀ v fv st' w' m', Sim S X w0 m0 st' a w' m' → aF w' (aH S X w0.heap.size w' m' st'.own) m' v fv → K fv st' → next (a.put o.dst v) w') : o.wp P a w next Q := by
 have hcv : ∀ q ∈ f :: args.toList, bB none (st.ev q) := fun q hq => cL (g := none) trivial hc q hq
 have fL : gR P fid = true := by
  rcases hv with ⟨as, R, _, hfs, _⟩ | ⟨as, R, _, hfs, _⟩ | ⟨as, R, _, hfn, _⟩ | ⟨_, _, _, _, _, _, _, _, _, _, _, _, _, _, _, _, _, hfx, _⟩ | ⟨ds, bs, as, R, _, _, _, _, hfx, _⟩
  ·exact hfs.1
  ·exact hfs.1
  ·exact hfn.1
  ·exact hfx.1
  ·exact hfx.1
 obtain ⟨g, cA, eS⟩ := xL (P := P) (w := w) (S := aH S X w0.heap.size w m st.own) (m := m) (a := a) ho hcv hf (fun q _ => h.evs q) fL
 unfold Oper.wp
 rw [cA]
 rcases hv with ⟨as, R, hs, hfs, hk⟩ | ⟨as, R, hs, hfs, hk⟩ | ⟨as, R, hs, hfn, hk⟩ | ⟨i, s, k, j, e, et, els, l, as, R, _, hi, hkl, hjs, iB, hne, has, hfx, hk⟩ | ⟨ds, bs, as, R, hnd, hbs, hlv, has, hfx, hk⟩
 ·obtain ⟨aSA, aEQ⟩ := h.fW (tX st.own ((args.toList.map fun x => strip (st.ev x)) ++ caps))
  obtain ⟨hl, hsn⟩ := bI hs
  rw [hl]
  refine (hfs.2 w _ g (aSA.aLB E) (fun b => bP E aSA) (fun j hj => aEQ 8 _ _ _ (eS j (by omega)) (hsn j (by omega) hj))).mono ?_
  rintro e w' ⟨v, r, rfl, hR, hb, hr⟩
  refine hn v (.pv r) _ w' m (aSA.below E hb) (.pv _ _ (hr.mono (fun _ _ => rfl) ?_)) (hk r hR)
  rintro b (hb' | ⟨h1, h2⟩)
  ·rcases hb' with hb' | ⟨h1, h2, h3⟩
   ·exact .inl hb'
   ·exact .inr ⟨h1, Nat.lt_of_lt_of_le h2 hb.size, h3⟩
  ·refine .inr ⟨.inl (Nat.le_trans h.bel.size h1), h2, fun i hl hm => ?_⟩
   have := aSA.ows.lt i b hl hm
   omega
 ·obtain ⟨hl, hsn⟩ := bI hs
  rw [hl]
  refine (hfs.2 w (fun b => b < w.heap.size) g (h.aLB E) (fun _ => id) (fun j hj => dN h.eQ (fun b hb => bP E h hb) (fun i b _ hl hm => h.ows.lt i b hl hm) 8 _ _ _ (eS j (by omega)) (hsn j (by omega) hj))).mono ?_
  rintro e w' ⟨v, r, rfl, hR, hb, hr⟩
  obtain ⟨⟨u, rfl⟩, hk⟩ := hk r hR
  refine hn v (.pv (.val u)) _ w' m (h.below E hb) (.pv _ _ ?_) hk
  cases hr with | val _ hf => exact .val _ hf
 ·obtain ⟨hl, hsn⟩ := bI hs
  rw [hl]
  refine (hfn.2 w g (h.aLB E) (fun j hj => dN h.eQ (fun b hb => bP E h hb) (fun i b _ hl hm => h.ows.lt i b hl hm) 8 _ _ _ (eS j (by omega)) (hsn j (by omega) hj))).mono ?_
  rintro e w' ⟨v, r, own', m', rfl, hR, hb, hos, hbn, hrr⟩
  obtain ⟨hpl, hk⟩ := hk own' r hR
  obtain ⟨m2, h1, h2⟩ := h.aR9 E hb hos hbn hpl hrr
  exact hn v _ _ w' m2 h1 h2 hk
 ·have hd : els.getD k (.val (.bool false)) = els[k] := by simp [List.getD, List.getElem?_eq_getElem hkl]
  rw [hd] at iB
  refine FX.sub E h hi hkl iB hne has hfx eS hjs fun v own' r w' hR hs => ?_
  obtain ⟨l', x, h1, h2, h3, h4⟩ := hk own' r hR
  rw [hd] at h4
  obtain ⟨h5, rfl, h6⟩ := hs l' x h1 h2 h3
  exact hn v _ _ w' m h5 (.pv _ _ (.val _ h6)) h4
 ·refine FX.step E h hnd hbs hlv has hfx eS fun v r own' w' m2 hR hs => ?_
  obtain ⟨hpl, hk⟩ := hk own' r hR
  obtain ⟨h1, h2⟩ := hs hpl
  exact hn v _ _ w' m2 h1 h2 hk

theorem vV {own : List Blk} {x : FV} {i s : Nat} {e et : TypeId} {els : List PV} (h : rF own x = some (i, e, s, et, els)) : x = .own i ∧ own[i]? = some (.tree e s et els) := by
 cases x with
 | own j =>
  simp only [rF] at h
  split at h
  ·rename_i hj
   simp only [Option.some.injEq, Prod.mk.injEq] at h
   obtain ⟨rfl, rfl, rfl, rfl, rfl⟩ := h
   exact ⟨rfl, hj⟩
  ·cases h
 | _ => simp [rF] at h

theorem mG {o : Oper} {t : TypeId} {p x : Operand} (ho : o.op = .store t p x) {b off : Nat} {w1 : World} (hp : a.eval p = .pointer (some ⟨b, off, none⟩))
  (hr : (storeVar t ⟨b, off, none⟩ (a.eval x)).run P w = .ok () w1) : (execOp a.eval o).run P w = .ok .skip w1 := by
 simp [execOp, ho, hp, Instr.storeAt, Instr.sureAddr, hr]

theorem aBN (E : Env P gl S X w0) (h : Sim S X w0 m0 st a w m) {o : Oper} {K : St → Prop} (hv : aN9 P gl o st K) {next : Act → World → Prop} {Q : Exit → Act → World → Prop}
  (hn : ∀ st' a' w' m', Sim S X w0 m0 st' a' w' m' → K st' → next a' w') : o.wp P a w next Q := by
 have dflt : qop P gl st none o (fun x => K (st.put o.dst x)) → o.wp P a w next Q := by
  intro hq
  obtain ⟨x, hk, hok⟩ := oO hq
  exact gA E h (hok trivial) (fun q _ => h.evs q) (fun v w' hs hr => hn _ _ w' m (hs.put hr) hk)
 generalize hop : o.op = op at hv
 unfold aN9 at hv
 rw [hop] at hv
 cases op with
 | alloc t =>
  simp only at hv
  split at hv
  ·rename_i cs hz
   obtain ⟨i, z, f, hi, hzv, cQ, h1, hr⟩ := mS (w := w) (S := aH S X w0.heap.size w m st.own) (m := m) hz
   obtain ⟨m', hs⟩ := h.aOD E (t := t) h1 hr o.dst
   refine bL (v := .pointer (some ⟨w.heap.size, 0, none⟩)) ?_ (hn _ _ _ m' hs hv)
   simp [execOp, hop, Instr.alloc, zeroValue, typeInfo, hi, hzv, mZ, cQ]
  ·exact hv.elim
 | binOp b t x y t' =>
  cases b with
  | eql =>
   cases y with
   | const c =>
    cases c with
    | slice p l q =>
     cases p with
     | none =>
      cases l with
      | zero =>
       cases q with
       | zero =>
        simp only at hv
        obtain ⟨hc, hv⟩ := hv
        split at hv
        ·rename_i e els he hxe
         have hx := aU (h.evs x) hc
         rw [hxe] at hx
         have hp := hx.eX
         have hu := (bR he).1
         have fin : ∀ (p : Option Addr) (l q : Nat), a.eval x = .slice p l q → (p.isNone = true → els = []) → o.wp P a w next Q := by
          intro p l q hpv hn'
          refine bL (v := .bool p.isNone) (w' := w) ?_ (hn _ _ w m (h.put (.pv _ _ (.val _ rfl))) (hv p.isNone hn'))
          have hk : a.eval (.const (.slice none 0 0)) = .slice none 0 0 := rfl
          have hb : (binOp .eql t (.slice p l q) (.slice none 0 0)).run P w = .ok (.bool p.isNone) w := by
           show (do pure (Value.bool (← Op.equal t (.slice p l q) (.slice none 0 0)))  : Sem Value).run P w = _
           simp only [Sem.run_bind, run_equal_slice_nil w t e p l q hu, Result.andThen_ok, Sem.run_pure]
          have hg : (eqGuard .eql t x (.const (.slice none 0 0)) (.slice p l q) (.slice none 0 0)).run P w = .ok () w := by
           simp [eqGuard]
          simp [execOp, hop, hpv, hk, hg, hb]
         generalize hav : a.eval x = av at hp
         cases hp with
         | nil p c => exact fin p 0 c hav (fun _ => rfl)
         | lst => exact fin _ _ _ hav (fun hq => by simp at hq)
        ·exact hv.elim
       | succ _ => exact dflt hv
      | succ _ => exact dflt hv
     | some _ => exact dflt hv
    | _ => exact dflt hv
   | _ => exact dflt hv
  | _ => exact dflt hv
 | box t x =>
  simp only at hv
  obtain ⟨hc, hv⟩ := hv
  split at hv
  ·rename_i cs hfc
   obtain ⟨f, cQ, h1, hr⟩ := fX (aU (h.evs x) hc) hfc (fun i v hv => (h.ows.len i v hv).2.1)
   obtain ⟨m', hs⟩ := h.aOD E (t := t) h1 hr o.dst
   refine bL (v := .pointer (some ⟨w.heap.size, 0, none⟩)) ?_ (hn _ _ _ m' hs hv)
   simp [execOp, hop, Instr.box, mZ, cQ]
  ·exact hv.elim
 | store t p x =>
  simp only at hv
  obtain ⟨hcp, hcx, hv⟩ := hv
  have hp := aU (h.evs p) hcp
  have hx := aU (h.evs x) hcx
  split at hv
  ·-- into a variable
   rename_i i off new hpe hfc
   split at hv
   ·rename_i cs hi
    obtain ⟨h1, h2, h3, hk⟩ := hv
    rw [hpe] at hp
    generalize hav : a.eval p = av at hp
    cases hp
    rename_i b hb
    obtain ⟨w1, cA, hs⟩ := h.aOE hi hb (fX hx hfc (fun i v hv => (h.ows.len i v hv).2.1)) h1 h2 h3
    exact wp_skip (mG hop hav cA) (hn _ _ w1 m (hs.sR o.dst undef) hk)
   ·exact hv.elim
  ·-- into a row
   rename_i i s k off new hpe hfc
   split at hv
   ·rename_i e s' els hi
    split at hv
    ·rename_i hse
     subst hse
     obtain ⟨hkl, h1, h2, hv⟩ := hv
     rw [hpe] at hp
     generalize hav : a.eval p = av at hp
     cases hp
     rename_i b hb
     have hd : els.getD k (.val (.bool false)) = els[k] := by simp [List.getD, List.getElem?_eq_getElem hkl]
     split at hv
     ·rename_i hc
      obtain ⟨hts, rfl⟩ := hc
      split at hv
      ·rename_i q hq
       obtain ⟨hok, hk⟩ := hv
       have hqr : Rep w (aH S X w0.heap.size w m st.own) (a.eval x) q :=
        dN (own := []) (ds := []) (m := m) (fun i b v h => by simp at h) (fun _ => id) (fun i b h => by simp at h) 8 _ _ _ hx hq
       obtain ⟨g, hg, g1, gr⟩ := uD hqr hok.2
       obtain ⟨w1, cA, hs⟩ := h.aER (t := t) (p := q) (off := 0) (nn := q.cells.length) hi hb hg g1 (by rw [hok.1, hts]) h2 hkl (by rw [hok.1]; omega) hok.1
        (fun j hj _ _ => gr j hj) (fun j hj _ hno => absurd ⟨Nat.zero_le _, by omega⟩ hno)
       exact wp_skip (mG hop hav cA) (hn _ _ w1 m (hs.sR o.dst undef) hk)
      ·exact hv.elim
     ·split at hv
      ·rename_i pn hpn
       split at hv
       ·rename_i q hq
        obtain ⟨g, hg, g1, gr⟩ := fX hx hfc (fun i v hv => (h.ows.len i v hv).2.1)
        obtain ⟨hl, hsn⟩ := bI hpn
        obtain ⟨_, _, _, aUU, _⟩ := jV (h.eQ i _ _ hi rfl (cJ hb).choose_spec.1).2 (cJ hb).choose_spec.2
        rw [hd] at hq
        have cQ : ∃ cs, els[k] = .agg cs ∧ off + pn.length ≤ cs.length ∧ q = .agg (aS cs off pn) := by
         unfold aN8 at hq
         split at hq
         ·rename_i cs hcs
          split at hq
          ·rename_i hle
           simp only [Option.some.injEq] at hq
           exact ⟨cs, hcs, hle, hq.symm⟩
          ·cases hq
         ·cases hq
        obtain ⟨cs, hcs, hle, rfl⟩ := cQ
        have hlen := aUU k hkl
        rw [hcs] at hlen
        simp only [PV.cells] at hlen
        obtain ⟨w1, cA, hs⟩ := h.aER (t := t) (p := .agg (aS cs off pn)) (off := off) (nn := new.length) hi hb hg g1 h1 h2 hkl (by omega) (by simp only [PV.cells, aS]; simp; omega)
         (fun j hj q1 q2 => by
          simp only [PV.cells] at hj ⊢
          have e := List.getElem?_eq_getElem hj
          rw [bK hle, if_pos ⟨q1, by omega⟩, List.getElem?_eq_getElem (by omega)] at e
          simp only [Option.some.injEq] at e
          rw [← e]
          have := dN (own := []) (ds := []) (m := m) (w := w) (S := aH S X w0.heap.size w m st.own) (S' := aH S X w0.heap.size w m st.own) (fun i b v h => by simp at h) (fun _ => id) (fun i b h => by simp at h) 8 _ _ _ (gr (j - off) (by omega)) (hsn (j - off) (by omega) (by omega))
          exact this)
         (fun j hj hj' hno => by
          simp only [PV.cells] at hj ⊢
          have e := List.getElem?_eq_getElem hj
          rw [bK hle, if_neg (by omega)] at e
          simp only [hcs, PV.cells] at hj' ⊢
          rw [List.getElem?_eq_getElem hj'] at e
          simp only [Option.some.injEq] at e
          exact e.symm)
        exact wp_skip (mG hop hav cA) (hn _ _ w1 m (hs.sR o.dst undef) hv)
       ·exact hv.elim
      ·exact hv.elim
    ·exact hv.elim
   ·-- into a tree
    rename_i e s' et els hi
    unfold aEK at hv
    split at hv
    ·rename_i hse
     subst hse
     obtain ⟨hkl, h1, h2, hv⟩ := hv
     rw [hpe] at hp
     generalize hav : a.eval p = av at hp
     cases hp
     rename_i b hb
     have hd : els.getD k (.val (.bool false)) = els[k] := by simp [List.getD, List.getElem?_eq_getElem hkl]
     split at hv
     ·rename_i hc
      obtain ⟨hts, rfl⟩ := hc
      split at hv
      ·rename_i ps jl hl
       split at hv
       ·rename_i hc
        simp only [Bool.and_eq_true, Bool.not_eq_true', List.contains_eq_mem, decide_eq_false_iff_not, decide_eq_true_eq] at hc
        obtain ⟨⟨⟨c1, c2⟩, c3⟩, c4⟩ := hc
        obtain ⟨hva, hk⟩ := hv
        obtain ⟨w1, m1, cA, hs⟩ := h.aLH E (t := t) hi hb c4 (fX hx hfc (fun i v hv => (h.ows.len i v hv).2.1)) hl hva (oW c1) c2 c3 h1 h2 hts hkl
        exact wp_skip (mG hop hav cA) (hn _ _ w1 m1 (hs.sR o.dst undef) hk)
       ·exact hv.elim
      ·exact hv.elim
     ·split at hv
      ·rename_i pn hpn
       split at hv
       ·rename_i hc
        simp only [Bool.and_eq_true, decide_eq_true_eq] at hc
        obtain ⟨hva, hk⟩ := hv
        rw [hd] at hva hk
        obtain ⟨g, hg, g1, gr⟩ := fX hx hfc (fun i v hv => (h.ows.len i v hv).2.1)
        obtain ⟨hl, hsn⟩ := bI hpn
        rw [hl] at hg
        obtain ⟨w1, cA, hs⟩ := h.xZ (t := t) (pn := pn) (off := off) hi hb hg g1 (fun j hj => iH (dN (own := []) (ds := []) (m := m) (S' := aH S X w0.heap.size w m st.own) (fun i b v h => by simp at h) (fun _ => id) (fun i b h => by simp at h) 8 _ _ _ (gr j (by omega)) (hsn j (by omega) hj))
         (List.all_eq_true.1 hc.2 _ (List.getElem_mem hj))) (by omega) h2 hkl hc.1 hva
        exact wp_skip (mG hop hav cA) (hn _ _ w1 m (hs.sR o.dst undef) hk)
       ·exact hv.elim
      ·exact hv.elim
    ·exact hv.elim
   ·exact hv.elim
  ·exact hv.elim
 | load t x =>
  simp only at hv
  split at hv
  ·rename_i i s k off hxe
   split at hv
   ·rename_i e s' et els hi
    obtain ⟨hc, hv⟩ := hv
    have hx := aU (h.evs x) hc
    rw [hxe] at hx
    unfold aJS at hv
    split at hv
    ·rename_i hcc
     obtain ⟨rfl, ho, hs, hag⟩ := hcc
     obtain ⟨hkl, hv⟩ := hv
     have hd : els.getD k (.val (.bool false)) = els[k] := by simp [List.getD, List.getElem?_eq_getElem hkl]
     rw [hd] at hv
     generalize hav : a.eval x = av at hx
     cases hx
     rename_i b hb
     obtain ⟨u, cA, hu1, oV, tT⟩ := h.aOQ (P := P) (t := t) hi hb hkl ho hs hag
     have fin : ∀ {fv : FV}, aF w (aH S X w0.heap.size w m st.own) m u fv → K (st.put o.dst fv) → o.wp P a w next Q := by
      intro fv hr hk
      refine bL (v := u) (w' := w) ?_ (hn _ _ w m (h.put hr) hk)
      simp [execOp, hop, Instr.loadAt, hav, Instr.sureAddr, cA]
     split at hv
     ·obtain ⟨h1, hk⟩ := hv
      have := oV (.inl ⟨_, h1⟩) (aH S X w0.heap.size w m st.own)
      rw [h1] at this
      exact fin (.pv _ _ this) hk
     ·obtain ⟨h1, hk⟩ := hv
      have := oV (.inl ⟨_, h1⟩) (aH S X w0.heap.size w m st.own)
      rw [h1] at this
      exact fin (.pv _ _ this) hk
     ·obtain ⟨⟨l, hl⟩, h1, h2⟩ := hv
      by_cases hne : l = []
      ·subst hne
       have := oV (.inr hl) (aH S X w0.heap.size w m st.own)
       rw [hl] at this
       exact fin (.pv _ _ this) (h1 hl)
      ·exact fin (tT l hl hne) (h2 ⟨l, hne, hl⟩)
     ·exact hv.elim
    ·exact hv.elim
   ·exact dflt hv
  ·exact dflt hv
 | makeSlice t l c =>
  simp only at hv
  obtain ⟨hcl, hcc, hv⟩ := hv
  split at hv
  ·rename_i e he
   split at hv
   ·rename_i z k n k' n' hz hle hce
    split at hv
    ·rename_i gY
     obtain ⟨h0, h1, h2, hk⟩ := hv
     have e1 := (hle ▸ aU (h.evs l) hcl).bS
     have e2 := (hce ▸ aU (h.evs c) hcc).bS
     exact aC2 E h hop he hz e1 e2 gY.1 gY.2 h0 h1 h2 (fun a' w' m' hs => hn _ _ _ m' hs hk)
    ·exact hv.elim
   ·exact hv.elim
  ·exact hv.elim
 | buildSlice t n parts =>
  simp only at hv
  obtain ⟨hc, hv⟩ := hv
  split at hv
  ·rename_i e els he hs
   split at hv
   ·rename_i gY
    simp only [Bool.and_eq_true, beq_iff_eq, decide_eq_true_eq] at gY
    exact aEW E h hop hc he hs gY.1.1.1 gY.1.1.2 gY.1.2 gY.2 hv.1 (fun a' w' m' hs => hn _ _ _ m' hs hv.2)
   ·exact hv.elim
  ·rename_i e he hs
   unfold aEL at hv
   obtain ⟨parts⟩ := parts
   simp only at hv hc
   split at hv
   ·rename_i x hpx
    split at hv
    ·rename_i cs hfc
     split at hv
     ·rename_i et _
      split at hv
      ·rename_i ps jl hl
       split at hv
       ·rename_i hcc
        simp only [Bool.and_eq_true, beq_iff_eq, decide_eq_true_eq] at hcc
        obtain ⟨⟨⟨⟨c1, c2⟩, c3⟩, c4⟩, c5⟩ := hcc
        obtain ⟨hva, hk⟩ := hv
        exact aC3 E h hop c1 hc.1 he hfc hl hva (oW c5) c2 c3 c4 (fun a' w' m' hs => hn _ _ _ m' hs hk)
       ·exact hv.elim
      ·exact hv.elim
     ·exact hv.elim
    ·exact hv.elim
   ·exact hv.elim
  ·exact hv.elim
 | slice t x lo hi mx =>
  cases lo with
  | some _ => exact dflt (by simpa using hv)
  | none =>
  cases hi with
  | none => exact dflt (by simpa using hv)
  | some q =>
  cases mx with
  | some _ => exact dflt (by simpa using hv)
  | none =>
  simp only at hv
  split at hv
  ·rename_i i k hh hxi hqi
   obtain ⟨hcx, hcq, hv⟩ := hv
   have hx := aU (h.evs x) hcx
   rw [hxi] at hx
   have hq := aU (h.evs q) hcq
   rw [hqi] at hq
   exact aLE E h hop hx hq.bS hv (fun v fv st' w' m' hs hr hk => hn _ _ w' m' (hs.put hr) hk)
  ·exact dflt hv
 | call c =>
  obtain ⟨callee, args, ts⟩ := c
  cases callee with
  | value f =>
   simp only at hv
   obtain ⟨hc, hv⟩ := hv
   split at hv
   ·rename_i fid caps hf
    exact aOR E h hop hc hf hv (fun v fv st' w' m' hs hr hk => hn _ _ w' m' (hs.put hr) hk)
   ·exact hv.elim
  | builtin b =>
   cases b with
   | append =>
    simp only at hv
    split at hv
    ·rename_i s x t t' ha ht
     split at hv
     ·exact dflt hv
     ·obtain ⟨hcs, hcx, hv⟩ := hv
      split at hv
      ·rename_i e he
       split at hv
       ·rename_i i e' s' et els hta
        split at hv
        ·rename_i htt
         subst htt
         obtain ⟨args⟩ := args
         obtain ⟨ts⟩ := ts
         have e1 := iZ ha
         have e2 := iZ ht
         simp only at e1 e2
         subst e1; subst e2
         obtain ⟨hsi, hi⟩ := vV hta
         have hsr := aU (h.evs s) hcs
         rw [hsi] at hsr
         have hxr := aU (h.evs x) hcx
         unfold aBJ at hv
         split at hv
         ·rename_i hc
          obtain ⟨rfl, rfl, c1, c2, c3⟩ := hc
          split at hv
          ·rename_i i2 e2 s2 et2 new aY8
           obtain ⟨hxi, hi2⟩ := vV aY8
           split at hv
           ·rename_i hc2
            obtain ⟨d1, rfl, rfl, rfl⟩ := hc2
            rw [hxi] at hxr
            obtain ⟨ngs, hS⟩ := aHF.tree h hi2 hxr
            exact qV E h hop he hi c1 hsr c2 c3 (by simpa using fun e => d1 e.symm) hv.1 hS (fun v w' m' hs hr => hn _ _ w' m' (hs.put hr) hv.2)
           ·exact hv.elim
          ·split at hv
           ·rename_i new aUM
            obtain ⟨g1, g2, g3, hk⟩ := hv
            have hs0 : 0 < P.cellsOf e' := Nat.pos_of_ne_zero (bR he).2
            have hS := aHF.aWZ (st := st) (m := m) (et := et) hs0 (sJ hs0 h.eQ hxr aUM g1) g1 g2
            exact qV E h hop he hi c1 hsr c2 c3 (by simp) g3 hS (fun v w' m' hs hr => hn _ _ w' m' (hs.put hr) hk)
           ·exact hv.elim
         ·exact hv.elim
        ·exact hv.elim
       ·split at hv
        ·rename_i htt
         subst htt
         obtain ⟨args⟩ := args
         obtain ⟨ts⟩ := ts
         have e1 := iZ ha
         have e2 := iZ ht
         simp only at e1 e2
         subst e1; subst e2
         exact aLD E h hop he hcs hcx hv (fun v fv st' w' m' hs hr hk => hn _ _ w' m' (hs.put hr) hk)
        ·obtain ⟨args⟩ := args
         obtain ⟨ts⟩ := ts
         have e1 := iZ ha
         have e2 := iZ ht
         simp only at e1 e2
         subst e1; subst e2
         exact aHB E h hop he hcs hcx hv (fun v fv st' w' m' hs hr hk => hn _ _ w' m' (hs.put hr) hk)
      ·exact hv.elim
    ·exact hv.elim
   | _ => exact dflt hv
  | _ => exact dflt hv
 | _ => exact dflt hv

end
end Go.Pe

