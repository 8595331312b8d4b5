/- The conditions of a body, frames that read as states, and that each operation carries a state on: no condition on the input. -/
import Derived.Test.YtlkiofkkjbodjaaGreatDoorDEvA
import Derived.Laws.Cover3
set_option linter.unusedSimpArgs false
set_option linter.unusedVariables false
/- The conditions of a body. -/
namespace Go.Pe
open Go Go.RowKit

def St.setOwn (st : St) (i : Nat) (b : Blk) : St := { st with own := st.own.set i b }
def St.addOwn (st : St) (b : Blk) : St := { st with own := st.own ++ [b] }

def gcond (ops : List Oper) (st : St) (j : Nat) (want : Bool) : Option Bool :=
 match (ops[j]?).bind (·.dst) with
 | some t => match st.get t with
  | .pv (.val (.bool b)) => some (b == want)
  | .iff c (.pv (.val (.bool b))) => some (c && (b == want))
  | _ => none
 | none => none

def setEl (p : PV) (off : Nat) (new : List PV) : Option PV :=
 match p with
 | .agg cs => if off + new.length ≤ cs.length then some (.agg (setSeg cs off new)) else none
 | _ => none

def idx (ds : List Nat) (i : Nat) : Nat := match ds with
 | [] => 0
 | d :: r => if d = i then 0 else idx r i + 1

def renO (ds : List Nat) : FV → Option FV
 | .pv p => some (.pv p)
 | .own i => if ds.contains i then some (.own (idx ds i)) else none
 | _ => none

def renR (ds : List Nat) : FV → Option FV
 | .pv p => some (.pv p)
 | .agg cs => (mapO (renO ds) cs).map .agg
 | .own i => if ds.contains i then some (.own (idx ds i)) else none
 | .box i off => if ds.contains i then some (.box (idx ds i) off) else none
 | _ => none

def renT (ds : List Nat) : FV → Option FV
 | .tup cs => (mapO (renR ds) cs).map .tup
 | x => renR ds x

def backI (ds : List Nat) (n i : Nat) : Nat :=
 match ds[i]? with
 | some d => d
 | none => n + i - ds.length

def backO (ds : List Nat) (n : Nat) : FV → FV
 | .own i => .own (backI ds n i)
 | .pv p => .pv p
 | _ => .junk

def backP (ds : List Nat) (n : Nat) : FV → FV
 | .own i => .own (backI ds n i)
 | .box i off => .box (backI ds n i) off
 | .agg cs => .agg (cs.map (backO ds n))
 | .pv p => .pv p
 | _ => .junk

def backR (ds : List Nat) (n : Nat) : FV → FV
 | .tup cs => .tup (cs.map (backP ds n))
 | x => backP ds n x

def plainF : FV → Bool
 | .pv _ => true
 | _ => false

def plainB : Blk → Bool
 | .gone => true
 | .row _ _ _ => true
 | .tree _ _ _ _ => true
 | .box cs => cs.all plainF

def setAll (ds : List Nat) (new : List Blk) (own : List Blk) : List Blk :=
 match ds, new with
 | d :: ds, b :: new => setAll ds new (own.set d b)
 | _, _ => own

def leafy : PV → Bool
 | .val _ => true
 | .lst [] => true
 | _ => false

def leafF (own : List Blk) (et : TypeId) : FV → Option (PV × List (Nat × List PV))
 | .pv (.val v) => some (normP (.val v), [])
 | .pv (.lst []) => some (.lst [], [])
 | .own j => match own[j]? with
  | some (.row e s l) => if e = et ∧ s = 1 then some (.lst l, [(j, l)]) else none
  | _ => none
 | _ => none

def leafsF (own : List Blk) (et : TypeId) : List FV → Option (List PV × List (Nat × List PV))
 | [] => some ([], [])
 | x :: r => match leafF own et x, leafsF own et r with
  | some (p, js), some (ps, ks) => some (p :: ps, js ++ ks)
  | _, _ => none

def valsL (l : List PV) : Prop := ∀ p ∈ l, ∃ v, p = .val v

def valsAll : List (Nat × List PV) → Prop
 | [] => True
 | x :: r => valsL x.2 ∧ valsAll r

def St.drops (st : St) : List Nat → St
 | [] => st
 | j :: r => (st.drops r).drop j

def St.give (st : St) (i : Nat) (bl : Blk) (js : List Nat) : St := { st.drops js with own := goneAt js 0 ((st.drops js).own.set i bl) }

def St.newTree (st : St) (e : TypeId) (s : Nat) (et : TypeId) (p : PV) (js : List Nat) : St :=
 ((st.addOwn (.row e s [])).drop st.own.length).give st.own.length (.tree e s et [p]) js

def St.noSub (st : St) (i : Nat) : Bool := (st.slots.all fun x => !x.2.subs i) && st.own.all fun b => match b with | .box cs => !subsL i cs | _ => true

def setCells (p : PV) (off : Nat) (new : List PV) : PV := .agg (setSeg p.cells off new)

def valCells (p : PV) (off n : Nat) : Prop := ∀ j, j < n → ∃ v, cellAt p (off + j) = .val v

def nodupB : List Nat → Bool
 | [] => true
 | x :: r => !r.contains x && nodupB r

def renSub (i s k j : Nat) : FV → Option FV
 | .pv p => some (.pv p)
 | .sub i' s' k' j' => if i' = i ∧ s' = s ∧ k' = k ∧ j' = j then some (.own 0) else none
 | _ => none

def findSub : List FV → Option (Nat × Nat × Nat × Nat)
 | [] => none
 | .sub i s k j :: _ => some (i, s, k, j)
 | _ :: r => findSub r

def etOf (own : List Blk) : List FV → Option TypeId
 | [] => none
 | .own j :: r => match own[j]? with
  | some (.row e _ _) => some e
  | _ => etOf own r
 | _ :: r => etOf own r

def callVC (P : Program) (gl : List (Nat × Obj)) (st : St) (fid : FuncId) (args : List FV) (K : FV → St → Prop) : Prop :=
 (∃ as R, snapL st.own (idsL st.own args) args = some as ∧ FS P gl fid as R ∧ ∀ r, R r → K (.pv r) (st.retire (idsL st.own args)))
 ∨ (∃ as R, snapL st.own (idsL st.own args) args = some as ∧ FS P gl fid as R ∧ ∀ r, R r → (∃ v, r = .val v) ∧ K (.pv r) st)
 ∨ (∃ as R, snapL st.own (idsL st.own args) args = some as ∧ FN P gl fid as R ∧ ∀ own' r, R own' r → (own'.all plainB) = true ∧ K (backR [] st.own.length r) { st with own := st.own ++ own' })
 ∨ (∃ (i s k j : Nat) (e et : TypeId) (els l : List PV) (as : List FV) (R : List Blk → FV → Prop), findSub args = some (i, s, k, j) ∧ st.own[i]? = some (.tree e s et els) ∧ k < els.length ∧ j < s ∧ cellAt (els.getD k (.val (.bool false))) j = .lst l ∧ l ≠ [] ∧
   mapO (renSub i s k j) args = some as ∧ FX P gl fid [.row et 1 l] as R ∧
   ∀ own' r, R own' r → ∃ l' x, own' = [.row et 1 l'] ∧ r = .pv (.val x) ∧ valsL l' ∧ K (.pv (.val x)) (st.setOwn i (.tree e s et (els.set k (setCells (els.getD k (.val (.bool false))) j [.lst l'])))))
 ∨ (∃ (ds : List Nat) (bs : List Blk) (as : List FV) (R : List Blk → FV → Prop), ds.Nodup ∧ mapO (fun i => st.own[i]?) ds = some bs ∧ (bs.all fun b => b.live && plainB b) = true ∧ mapO (renR ds) args = some as ∧
   FX P gl fid bs as R ∧ ∀ own' r, R own' r → (own'.all plainB) = true ∧ K (backR ds st.own.length r) { st with own := setAll ds own' st.own ++ own'.drop ds.length })

def isOwn (i : Nat) : FV → Bool
 | .own j => i == j
 | _ => false

def appendVC (P : Program) (st : St) (e : TypeId) (s x : FV) (K : FV → St → Prop) : Prop :=
 match srcEls st.own x with
 | some new => (∀ p ∈ new, okEl (P.cellsOf e) p) ∧
  match s with
  | .own i => match st.own[i]? with
   | some (.row e' s' els) => if e' = e ∧ s' = P.cellsOf e ∧ st.k0 ≤ i ∧ isOwn i x = false ∧ P.bytesOf e ≤ 1000 ∧ hasZero P e = true then
     els.length + new.length ≤ 1000000000 ∧ K (.own i) ((st.drop i).setOwn i (.row e s' (els ++ new)))
    else False
   | _ => False
  | .pv (.val (.slice none 0 0)) => if P.bytesOf e ≤ 1000 ∧ hasZero P e = true then
    new.length ≤ 1000000000 ∧ K (.own st.own.length) (st.addOwn (.row e (P.cellsOf e) new))
   else False
  | _ => False
 | none => False

def zerosVC (P : Program) (st : St) (e t' : TypeId) (s x : FV) (K : FV → St → Prop) : Prop :=
 match P.underlying t' with
 | some (.int .i64) => match s, x with
  | .own i, .pv (.val (.int .i64 n)) => match st.own[i]?, zeroP P e with
   | some (.row e' s' els), some z => if e' = e ∧ s' = P.cellsOf e ∧ st.k0 ≤ i ∧ P.bytesOf e ≤ 1000 ∧ hasZero P e = true ∧ z.cells.length = P.cellsOf e then
     0 ≤ n ∧ els.length + (List.replicate n.toNat z).length ≤ 1000000000 ∧ K (.own i) ((st.drop i).setOwn i (.row e s' (els ++ List.replicate n.toNat z)))
    else False
   | _, _ => False
  | _, _ => False
 | _ => False

def cutOwn (P : Program) (st : St) (t : TypeId) (i : Nat) (h : Int) (K : FV → St → Prop) : Prop :=
 match st.own[i]?, elemT P t with
 | some (.row e s els), some e' => if e = e' then
   0 ≤ h ∧ h ≤ els.length ∧ if st.k0 ≤ i then K (.own i) ((st.drop i).setOwn i (.row e s ((els.take h.toNat).drop (0 : Int).toNat)))
    else K (.own st.own.length) { st with own := st.own.set i .gone ++ [.row e s ((els.take h.toNat).drop (0 : Int).toNat)] }
  else False
 | _, _ => False

def isXl : FV → Bool
 | .xl _ => true
 | _ => false

def treeAt (own : List Blk) : FV → Option (Nat × TypeId × Nat × TypeId × List PV)
 | .own i => match own[i]? with
  | some (.tree e s et els) => some (i, e, s, et, els)
  | _ => none
 | _ => none

def storeTVC (P : Program) (st : St) (t : TypeId) (i s k off : Nat) (e : TypeId) (s' : Nat) (et : TypeId) (els : List PV) (new : List FV) (K : St → Prop) : Prop :=
 if s' = s then
  k < els.length ∧ new.length = P.cellsOf t ∧ P.cellsOf t ≠ 0 ∧
  if P.cellsOf t = s ∧ off = 0 then
   match leafsF st.own et new with
   | some (ps, jl) => if nodupB (jl.map (·.1)) && !(jl.map (·.1)).contains i && st.noSub i && decide (st.k0 ≤ i) then
     valsAll jl ∧ K (st.give i (.tree e s et (els.set k (.agg ps))) (jl.map (·.1)))
    else False
   | none => False
  else match snapL [] [] new with
   | some pn => if decide (off + pn.length ≤ s) && pn.all leafy then
     valCells (els.getD k (.val (.bool false))) off pn.length ∧ K (st.setOwn i (.tree e s et (els.set k (setCells (els.getD k (.val (.bool false))) off pn))))
    else False
   | none => False
 else False

def loadTVC (P : Program) (t : TypeId) (i s k off s' : Nat) (els : List PV) (K : FV → Prop) : Prop :=
 if s' = s ∧ off < s ∧ scal P t = true ∧ isAggT P t = false then
  k < els.length ∧ match flat P 6 t with
   | [.int q] => cellAt (els.getD k (.val (.bool false))) off = .val (.int q (getI (els.getD k (.val (.bool false))) off)) ∧ K (.pv (.val (.int q (getI (els.getD k (.val (.bool false))) off))))
   | [.bool] => cellAt (els.getD k (.val (.bool false))) off = .val (.bool (getB (els.getD k (.val (.bool false))) off)) ∧ K (.pv (.val (.bool (getB (els.getD k (.val (.bool false))) off))))
   | [.sl] => (∃ l, cellAt (els.getD k (.val (.bool false))) off = .lst l) ∧ (cellAt (els.getD k (.val (.bool false))) off = .lst [] → K (.pv (.lst []))) ∧
     ((∃ l, l ≠ [] ∧ cellAt (els.getD k (.val (.bool false))) off = .lst l) → K (.sub i s k off))
   | _ => False
 else False

def buildTVC (P : Program) (st : St) (e : TypeId) (n : Nat) (parts : List (Nat × Operand)) (K : St → Prop) : Prop :=
 match parts with
 | [(0, x)] => match fcells (strip (st.ev x)) with
  | some cs => match etOf st.own cs with
   | some et => match leafsF st.own et cs with
    | some (ps, jl) => if n == 1 && cs.length == P.cellsOf e && decide (P.cellsOf e < 65536) && hasZero P e && nodupB (jl.map (·.1)) then
      valsAll jl ∧ K (st.newTree e (P.cellsOf e) et (.agg ps) (jl.map (·.1)))
     else False
    | none => False
   | none => False
  | none => False
 | _ => False

def appendTVC (P : Program) (st : St) (e : TypeId) (i : Nat) (e' : TypeId) (s' : Nat) (et : TypeId) (els : List PV) (x : FV) (K : FV → St → Prop) : Prop :=
 if e' = e ∧ s' = P.cellsOf e ∧ st.k0 ≤ i ∧ P.bytesOf e ≤ 1000 ∧ hasZero P e = true then
  match treeAt st.own x with
  | some (i2, e2, s2, et2, new) => if i2 ≠ i ∧ e2 = e' ∧ s2 = s' ∧ et2 = et then
    els.length + new.length ≤ 1000000000 ∧ K (.own i) ((st.drop i).give i (.tree e' s' et (els ++ new)) [i2])
   else False
  | none => match srcEls st.own x with
   | some new => (∀ p ∈ new, okEl (P.cellsOf e) p) ∧ (∀ p ∈ new, (p.cells.all leafy) = true) ∧ els.length + new.length ≤ 1000000000 ∧ K (.own i) ((st.drop i).give i (.tree e' s' et (els ++ new)) [])
   | none => False
 else False

def effVC (P : Program) (gl : List (Nat × Obj)) (o : Oper) (st : St) (K : St → Prop) : Prop :=
 match o.op with
 | .alloc t => match zeroF P t with
  | some cs => K ((st.addOwn (.box cs)).put o.dst (.box st.own.length 0))
  | none => False
 | .box _ x => condOk none (st.ev x) ∧ match fcells (strip (st.ev x)) with
  | some cs => K ((st.addOwn (.box cs)).put o.dst (.box st.own.length 0))
  | none => False
 | .store t p x => condOk none (st.ev p) ∧ condOk none (st.ev x) ∧ match strip (st.ev p), fcells (strip (st.ev x)) with
  | .box i off, some new => match st.own[i]? with
   | some (.box cs) => new.length = P.cellsOf t ∧ P.cellsOf t ≠ 0 ∧ off + new.length ≤ cs.length ∧ K ((st.setOwn i (.box (setSeg cs off new))).put o.dst .junk)
   | _ => False
  | .relt i s k off, some new => match st.own[i]? with
   | some (.row e s' els) => if s' = s then
     k < els.length ∧ new.length = P.cellsOf t ∧ P.cellsOf t ≠ 0 ∧
     if P.cellsOf t = s ∧ off = 0 then
      match snapD [] [] 8 (strip (st.ev x)) with
      | some p => okEl s p ∧ K ((st.setOwn i (.row e s (els.set k p))).put o.dst .junk)
      | none => False
     else match snapL [] [] new with
      | some pn => match setEl (els.getD k (.val (.bool false))) off pn with
       | some p => K ((st.setOwn i (.row e s (els.set k p))).put o.dst .junk)
       | none => False
      | none => False
    else False
   | some (.tree e s' et els) => storeTVC P st t i s k off e s' et els new (fun st' => K (st'.put o.dst .junk))
   | _ => False
  | _, _ => False
 | .load t x => match strip (st.ev x) with
  | .relt i s k off => match st.own[i]? with
   | some (.tree _ s' _ els) => condOk none (st.ev x) ∧ loadTVC P t i s k off s' els (fun v => K (st.put o.dst v))
   | _ => qop P gl st none o (fun x => K (st.put o.dst x))
  | _ => qop P gl st none o (fun x => K (st.put o.dst x))
 | .binOp .eql t x (.const (.slice none 0 0)) _ => condOk none (st.ev x) ∧ match elemT P t, strip (st.ev x) with
  | some _, .pv (.lst els) => ∀ b : Bool, (b = true → els = []) → K (st.put o.dst (.pv (.val (.bool b))))
  | _, _ => False
 | .makeSlice t l c => condOk none (st.ev l) ∧ condOk none (st.ev c) ∧ match elemT P t with
  | some e => match zeroP P e, strip (st.ev l), strip (st.ev c) with
   | some z, .pv (.val (.int _ n)), .pv (.val (.int _ n')) =>
    if P.bytesOf e ≤ 1000 ∧ z.cells.length = P.cellsOf e then
     0 ≤ n ∧ n ≤ n' ∧ n' ≤ 1000000000 ∧ K ((st.addOwn (.row e (P.cellsOf e) (List.replicate n.toNat z))).put o.dst (.own st.own.length))
    else False
   | _, _, _ => False
  | none => False
 | .buildSlice t n parts => condsOk none st (parts.toList.map (·.2)) ∧
  match elemT P t, snapL [] [] (parts.toList.map fun x => strip (st.ev x.2)) with
  | some e, some els => if inOrder 0 parts.toList && n == parts.size && n * P.cellsOf e < 65536 && hasZero P e then
    (∀ p ∈ els, okEl (P.cellsOf e) p) ∧ K ((st.addOwn (.row e (P.cellsOf e) els)).put o.dst (.own st.own.length)) else False
  | some e, none => buildTVC P st e n parts.toList (fun st' => K (st'.put o.dst (.own st.own.length)))
  | _, _ => False
 | .call { callee := .builtin .append, args, argTypes } => match two args.toList, two argTypes.toList with
  | some (s, x), some (t, t') => match isXl (st.ev s) with
   | true => qop P gl st none o (fun x => K (st.put o.dst x))
   | false => condOk none (st.ev s) ∧ condOk none (st.ev x) ∧ match elemT P t with
    | some e => match treeAt st.own (strip (st.ev s)) with
     | some (i, e', s', et, els) => if t' = t then appendTVC P st e i e' s' et els (strip (st.ev x)) (fun v st' => K (st'.put o.dst v)) else False
     | none => if t' = t then appendVC P st e (strip (st.ev s)) (strip (st.ev x)) (fun v st' => K (st'.put o.dst v)) else zerosVC P st e t' (strip (st.ev s)) (strip (st.ev x)) (fun v st' => K (st'.put o.dst v))
    | none => False
  | _, _ => False
 | .slice t x none (some q) none => match strip (st.ev x), strip (st.ev q) with
  | .own i, .pv (.val (.int _ h)) => condOk none (st.ev x) ∧ condOk none (st.ev q) ∧ cutOwn P st t i h (fun v st' => K (st'.put o.dst v))
  | _, _ => qop P gl st none o (fun x => K (st.put o.dst x))
 | .call { callee := .value f, args, .. } => condsOk none st (f :: args.toList) ∧
  match asFn (strip (st.ev f)) with
  | some (fid, caps) => callVC P gl st fid ((args.toList.map fun x => strip (st.ev x)) ++ caps) (fun v st' => K (st'.put o.dst v))
  | none => False
 | _ => qop P gl st none o (fun x => K (st.put o.dst x))

def quietVC1 (P : Program) (gl : List (Nat × Obj)) (ops : List Oper) (o : Oper) (st : St) (K : FV → Prop) : Prop :=
 match o.guard with
 | none => qop P gl st none o K
 | some (j, want) => match gcond ops st j want with
  | some g => qop P gl st (some g) o (fun x => K (.iff g x))
  | none => False

def stepVC (P : Program) (gl : List (Nat × Obj)) (ops : List Oper) (o : Oper) (st : St) (K : St → Prop) : Prop :=
 match o.guard with
 | none => effVC P gl o st K
 | some (j, want) => match gcond ops st j want with
  | some g => qop P gl st (some g) o (fun x => K (st.put o.dst (.iff g x)))
  | none => False

def seqVC (P : Program) (gl : List (Nat × Obj)) (ops : List Oper) : List Oper → St → (St → Prop) → Prop
 | [], st, K => K st
 | o :: r, st, K => stepVC P gl ops o st (fun st' => seqVC P gl ops r st' K)

def allocOf (P : Program) (o : Oper) : Option (List FV) :=
 match o.guard, o.op with
 | none, .alloc t => zeroF P t
 | _, _ => none

def quietVC (P : Program) (gl : List (Nat × Obj)) (ops : List Oper) : Nat → List Oper → St → (St → Prop) → Prop
 | _, [], st, K => K st
 | c, o :: r, st, K => match allocOf P o with
  | some _ => quietVC P gl ops (c + 1) r (st.put o.dst (.box c 0)) K
  | none => quietVC1 P gl ops o st (fun x => quietVC P gl ops c r (st.put o.dst x) K)

def fillsOf (P : Program) : Nat → Nat → List Oper → List (Nat × Nat × List FV)
 | _, _, [] => []
 | i, c, o :: r => match allocOf P o with
  | some cs => (i, c, cs) :: fillsOf P (i + 1) (c + 1) r
  | none => fillsOf P (i + 1) c r

def ovl (D : Nat → Bool) : List (Nat × Nat × List FV) → List Blk → List Blk
 | [], own => own
 | (i, c, cs) :: r, own => ovl D r (if D i then own.set c (.box cs) else own)

def St.gones (st : St) (n : Nat) : St := { st with own := st.own ++ List.replicate n .gone }
def St.over (st : St) (D : Nat → Bool) (F : List (Nat × Nat × List FV)) : St := { st with own := ovl D F st.own }

def ancs : List (List Nat) → List Oper → List (List Nat)
 | acc, [] => acc
 | acc, o :: r => ancs (acc ++ [o.after.toList.flatMap fun e => if Region.binds .any e then e.on :: acc.getD e.on [] else []]) r

def fullAt (an : List (List Nat)) (k : Nat) : Bool := (List.range k).all fun j => (an.getD k []).contains j

def splitFrom (an : List (List Nat)) : Nat → Nat
 | 0 => 0
 | k + 1 => if fullAt an k then splitFrom an k else k + 1

def readsT (ops : List Oper) (o : Oper) : List Tmp :=
 (o.op.operands.toList.filterMap fun | .tmp t => some t | _ => none) ++
 (match o.guard with
  | some (g, _) => ((ops[g]?).bind (·.dst)).toList
  | none => [])

def dstOf (ops : List Oper) (i : Nat) : Option Tmp := (ops[i]?).bind (·.dst)

def quietOk (ops : List Oper) (an : List (List Nat)) (p : Nat) : Bool :=
 ((List.range ops.length).all fun i => ((ops.getD i default).after.toList.all fun e => !Region.binds .any e || decide (e.on < i))) &&
 (List.range p).all fun i => (List.range p).all fun j =>
  (i == j || dstOf ops i == none || !(dstOf ops i == dstOf ops j)) &&
  ((readsT ops (ops.getD i default)).all fun t => !(dstOf ops j == some t) || ((an.getD i []).contains j && decide (j < i)))

def isStore (o : Oper) : Bool :=
 match o.op with
 | .store _ _ _ => true
 | _ => false

def lateOp (o : Oper) : Bool :=
 match o.guard, o.op with
 | none, .move _ => true
 | none, .extract _ _ => true
 | none, .load _ _ => true
 | none, .fieldAddr _ _ _ => true
 | _, _ => false

def condP (ops : List Oper) (an : List (List Nat)) (p : Nat) : Bool :=
 (List.range ops.length).all fun k => decide (k < p) || ((List.range k).all fun j => (an.getD k []).contains j || (decide (j < p) && lateOp (ops.getD j default)))

def storeAt : List Oper → Nat
 | [] => 0
 | o :: r => if isStore o then 0 else storeAt r + 1

def firstP (ops : List Oper) (_an : List (List Nat)) : Nat := storeAt ops

def lateSet (ops : List Oper) (an : List (List Nat)) (p : Nat) : List Nat :=
 (List.range p).filter fun j => (List.range ops.length).any fun k => decide (p ≤ k) && !(an.getD k []).contains j

def noSelect (o : Oper) : Bool :=
 match o.op with
 | .select _ _ => false
 | _ => true

def quietOkL (ops : List Oper) (an : List (List Nat)) (p : Nat) : Bool :=
 ops.all noSelect && quietOk ops an p && decide (p ≤ ops.length) && condP ops an p && (List.range ops.length).all fun k => decide (k < p) || ((List.range p).all fun j => (an.getD k []).contains j || (readsT ops (ops.getD k default)).all fun t => !(dstOf ops j == some t))

def recheck1 (P : Program) (ops : List Oper) (st : St) (j : Nat) : Prop :=
 condsOk none st (ops.getD j default).op.operands.toList ∧
 match pop P st.own (fun x => strip (st.ev x)) (ops.getD j default).op with
 | some (ob, x) => ob ∧ match (ops.getD j default).dst with
  | some t => st.get t = x
  | none => True
 | none => False

def recheck (P : Program) (ops : List Oper) (st : St) : List Nat → Prop
 | [] => True
 | j :: r => recheck1 P ops st j ∧ recheck P ops st r

def seqL (P : Program) (gl : List (Nat × Obj)) (ops : List Oper) (an : List (List Nat)) (lt : List Nat) : Nat → List Oper → St → (St → Prop) → Prop
 | _, [], st, K => K st
 | k, o :: r, st, K => stepVC P gl ops o st (fun st' => recheck P ops st' (lt.filter fun j => !(an.getD k []).contains j) ∧ seqL P gl ops an lt (k + 1) r st' K)

def lateVC (P : Program) (gl : List (Nat × Obj)) (ops : List Oper) (an : List (List Nat)) (p : Nat) (st : St) (K : St → Prop) : Prop :=
 if quietOkL ops an p then
  quietVC P gl ops st.own.length (ops.take p) (st.gones (fillsOf P 0 st.own.length (ops.take p)).length)
   (fun st' => recheck P ops (st'.over (fun _ => true) (fillsOf P 0 st.own.length (ops.take p))) (lateSet ops an p) ∧
    seqL P gl ops an (lateSet ops an p) p (ops.drop p) (st'.over (fun _ => true) (fillsOf P 0 st.own.length (ops.take p))) K)
 else False

def regionVC (P : Program) (gl : List (Nat × Obj)) (ops : List Oper) (draw : Bool) (st : St) (K : St → Prop) : Prop :=
 if draw then
  match (ops.take (splitFrom (ancs [] ops) ops.length)).all (fun o => !isStore o) with
  | true =>
   if quietOk ops (ancs [] ops) (splitFrom (ancs [] ops) ops.length) then
    quietVC P gl ops st.own.length (ops.take (splitFrom (ancs [] ops) ops.length)) (st.gones (fillsOf P 0 st.own.length (ops.take (splitFrom (ancs [] ops) ops.length))).length)
     (fun st' => seqVC P gl ops (ops.drop (splitFrom (ancs [] ops) ops.length)) (st'.over (fun _ => true) (fillsOf P 0 st.own.length (ops.take (splitFrom (ancs [] ops) ops.length)))) K)
   else False
  | false => lateVC P gl ops (ancs [] ops) (firstP ops (ancs [] ops)) st K
 else seqVC P gl ops ops st K

def shiftO (c : Nat) (o : Oper) : Oper :=
 { o with after := ((o.after.toList.filter fun e => decide (c ≤ e.on)).map fun e => { e with on := e.on - c }).toArray, guard := o.guard.map fun x => (x.1 - c, x.2) }

def barrier (ops : List Oper) (an : List (List Nat)) (c : Nat) : Bool :=
 ((List.range ops.length).all fun i => ((ops.getD i default).after.toList.all fun e => !Region.binds .any e || decide (e.on < i)) &&
  (match (ops.getD i default).guard with
   | some (g, _) => if i < c then decide (g < c) else decide (c ≤ g)
   | none => true)) &&
 (List.range ops.length).all fun k => decide (k < c) || ((List.range c).all fun j => (an.getD k []).contains j)

def cutAt (ops : List Oper) : Option Nat := (List.range ops.length).find? fun c => decide (0 < c) && barrier ops (ancs [] ops) c

def cutVC (P : Program) (gl : List (Nat × Obj)) : Nat → List Oper → St → (St → Prop) → Prop
 | 0, ops, st, K => regionVC P gl ops true st K
 | n + 1, ops, st, K => match cutAt ops with
  | some c => regionVC P gl (ops.take c) true st (fun st' => cutVC P gl n ((ops.drop c).map (shiftO c)) st' K)
  | none => regionVC P gl ops true st K

inductive Ex where
 | normal
 | exit (id : Nat)
 | ret

inductive Lift where
 | slot (t : Nat) (e : TypeId) (s : Nat)
 | cell (i j : Nat) (e : TypeId) (s : Nat)
 | move (i : Nat)
 | nilc (i j : Nat)
 | nils (t : Nat)
 | tree (i : Nat) (et : TypeId)

def reOwn (i j : Nat) : FV → FV
 | .own k => if k = i then .own j else .own k
 | x => x

def isNil : FV → Bool
 | .pv (.val (.slice none 0 0)) => true
 | _ => false

def St.lift (st : St) : Lift → St
 | .slot t e s => if isNil (st.get t) ∧ 0 < s then { (st.addOwn (.row e s [])) with slots := (t, .own st.own.length) :: st.slots } else st
 | .cell i j e s => match st.own[i]? with
  | some (.box cs) => if isNil (cs.getD j .junk) ∧ 0 < s then (st.setOwn i (.box (cs.set j (.own st.own.length)))).addOwn (.row e s []) else st
  | _ => st
 | .move i => match st.own[i]? with
  | some (.row e s els) => { st with own := st.own.set i .gone ++ [.row e s els], slots := st.slots.map fun x => (x.1, reOwn i st.own.length x.2) }
  | _ => st
 | .nilc i j => match st.own[i]? with
  | some (.box cs) => if isNil (cs.getD j .junk) then st.setOwn i (.box (cs.set j (.pv (.lst [])))) else st
  | _ => st
 | .nils t => if isNil (st.get t) then { st with slots := (t, .pv (.lst [])) :: st.slots } else st
 | .tree i et => match st.own[i]? with
  | some (.row e s els) => st.setOwn i (.tree e s et els)
  | _ => st

def St.liftOk (st : St) : Lift → Prop
 | .tree i _ => match st.own[i]? with
  | some (.row _ _ els) => st.k0 ≤ i ∧ ∀ p ∈ els, (p.cells.all leafy) = true
  | _ => True
 | _ => True

def St.lifts (st : St) : List Lift → St
 | [] => st
 | l :: r => (st.lift l).lifts r

def St.liftsOk (st : St) : List Lift → Prop
 | [] => True
 | l :: r => st.liftOk l ∧ (st.lift l).liftsOk r

def belowK (k : Nat) (n : Nat) (x : FV) : Bool := (List.range n).all fun i => decide (i < k) || !x.uses i

def St.norm (st : St) (keep : List Nat) (k : Nat) : Option St :=
 if decide (st.k0 ≤ k) && (keep.all fun t => belowK k st.own.length (st.get t)) && ((st.own.take k).all fun b => match b with | .box cs => cs.all (belowK k st.own.length) | _ => true) then
  some { st with slots := keep.map fun t => (t, st.get t), own := st.own.take k }
 else none

def reO (i j : Nat) (x : FV) : FV := match x with
 | .own k => if k = j then .own i else if k = i then .junk else .own k
 | x => if x.uses i || x.uses j then .junk else x

def reB (i j : Nat) : Blk → Blk
 | .box cs => .box (cs.map (reO i j))
 | b => b

def St.reloc (st : St) (i j : Nat) : St :=
 if decide (i ≠ j) && decide (i < st.own.length) && decide (j < st.own.length) && decide (st.k0 ≤ i) && decide (st.k0 ≤ j) then
  { st with own := ((st.own.set i (st.own.getD j .gone)).set j .gone).map (reB i j), slots := st.slots.map fun x => (x.1, reO i j x.2) }
 else st

def St.relocs (st : St) : List (Nat × Nat) → St
 | [] => st
 | x :: r => (st.reloc x.1 x.2).relocs r

inductive Md where
 | any
 | cut
 | ret
 | rc

def rowsIn (st : St) : List FV → List Nat
 | [] => []
 | .own j :: r => match st.own[j]? with
  | some (.row _ _ _) => j :: rowsIn st r
  | some (.tree _ _ _ _) => j :: rowsIn st r
  | _ => rowsIn st r
 | _ :: r => rowsIn st r

def loadedRows (st : St) : List Oper → List Nat
 | [] => []
 | o :: r => match o.op with
  | .load _ x => match st.ev x with
   | .box i _ => match st.own[i]? with
    | some (.box cs) => rowsIn st cs ++ loadedRows st r
    | _ => loadedRows st r
   | _ => loadedRows st r
  | _ => loadedRows st r

def movedRows (st : St) : List Oper → List Nat
 | [] => []
 | o :: r => match o.op with
  | .move x => match st.ev x with
   | .own i => match st.own[i]? with
    | some (.row _ _ _) => i :: movedRows st r
    | some (.tree _ _ _ _) => i :: movedRows st r
    | _ => movedRows st r
   | _ => movedRows st r
  | _ => movedRows st r

def codeVC (P : Program) (gl : List (Nat × Obj)) (b : Md) : Code → (Ex → St → Prop) → St → Prop
 | .skip, Q, st => Q .normal st
 | .region _ ops draw, Q, st => match draw with
  | true => match b with
   | .any => regionVC P gl ops.toList true st (Q .normal)
   | .cut => cutVC P gl ops.toList.length ops.toList st (Q .normal)
   | .ret => regionVC P gl ops.toList true (st.retire (movedRows st ops.toList)) (Q .normal)
   | .rc => cutVC P gl ops.toList.length ops.toList (st.retire (loadedRows st ops.toList)) (Q .normal)
  | false => regionVC P gl ops.toList false st (Q .normal)
 | .seq x y, Q, st => codeVC P gl b x (fun e s => match e with
  | .normal => codeVC P gl b y Q s
  | e => Q e s) st
 | .cond c x y, Q, st => match st.ev c with
  | .pv (.val (.bool t)) => (t = true → codeVC P gl b x Q st) ∧ (t = false → codeVC P gl b y Q st)
  | _ => False
 | .block id c, Q, st => codeVC P gl b c (fun e s => match e with
  | .exit i => if i = id then Q .normal s else Q (.exit i) s
  | e => Q e s) st
 | .loop c, Q, st => ∃ (ls : List Lift) (keep : List Nat) (k : Nat) (ι : Type) (f : ι → St) (μ : ι → Nat) (i0 : ι) (rl : List (Nat × Nat)), st.liftsOk ls ∧ (st.lifts ls).norm keep k = some (f i0) ∧
   ∀ i, codeVC P gl b c (fun e s => match e with
    | .normal => ∃ j, (s.relocs rl).norm keep k = some (f j) ∧ μ j < μ i
    | e => Q e s) (f i)
 | .exit id, Q, st => Q (.exit id) st
 | .ret, Q, st => Q .ret st
 | .label _, Q, st => Q .normal st
 | _, _, _ => False

def retOne (P : Program) (st : St) : ResultVar → Option (Prop × FV)
 | .tmp t => some (condOk none (st.get t), strip (st.get t))
 | .cell a t => pop P st.own st.ev (.load t (.tmp a))

def retAll (P : Program) (st : St) : List ResultVar → Option (Prop × List FV)
 | [] => some (True, [])
 | r :: rs => match retOne P st r, retAll P st rs with
  | some (o1, x), some (o2, xs) => some (o1 ∧ o2, x :: xs)
  | _, _ => none

def oneOrTup : List FV → FV
 | [x] => x
 | xs => .tup xs

def endS (P : Program) (fn : Func) (R : PV → Prop) (e : Ex) (st : St) : Prop :=
 match e with
 | .exit _ => False
 | _ => match retAll P st fn.results.toList with
  | some (o, xs) => o ∧ match snapD st.own (List.range st.own.length) 8 (oneOrTup xs) with
   | some p => R p
   | none => False
  | none => False

def endX (P : Program) (fn : Func) (k0 : Nat) (R : List Blk → FV → Prop) (e : Ex) (st : St) : Prop :=
 match e with
 | .exit _ => False
 | _ => match retAll P st fn.results.toList with
  | some (o, xs) => o ∧ st.k0 = k0 ∧ ∃ (es : List Nat) (bs : List Blk) (x : FV), es.Nodup ∧ k0 ≤ es.length ∧ es.take k0 = List.range k0 ∧ mapO (fun i => st.own[i]?) es = some bs ∧ (bs.all plainB) = true ∧ renT es (oneOrTup xs) = some x ∧ R bs x
  | none => False

def startSlots : Nat → List FV → List (Nat × FV)
 | _, [] => []
 | n, x :: r => (n, x) :: startSlots (n + 1) r

end Go.Pe

/- A frame reads as a state. -/
namespace Go.Pe
open Go Go.RowKit

structure Env (P : Program) (gl : List (Nat × Obj)) (S X : Nat → Prop) (w0 : World) : Prop where
 mix : P.follows .mixedOrders = true
 gl0 : Glob gl w0
 glX : ∀ b, X b → ∀ x ∈ gl, x.1 ≠ b
 Slt : ∀ b, S b → b < w0.heap.size
 SX : ∀ b, S b → ¬ X b
 Xlt : ∀ b, X b → b < w0.heap.size
 zf : ∀ t, hasZero P t = true → zeroFits P t = true

structure Sim (S X : Nat → Prop) (w0 : World) (m0 : Nat → Option MV) (st : St) (a : Act) (w : World) (m : Nat → Option MV) : Prop where
 bel : BelowX X w0 w
 ows : OwnS w (Nset S X w0.heap.size w m st.own) m st.own
 bnd : ∀ i b, lives st.own i → mblk m i b → w0.heap.size ≤ b ∨ X b
 fix : ∀ i, i < st.k0 → m i = m0 i
 k0 : st.k0 ≤ st.own.length
 nt : a.tmps.size = st.nt
 df : a.defers = []
 slots : ∀ t, RepF w (Nset S X w0.heap.size w m st.own) m (a.tmps.getD t undef) (st.get t)

section
variable {P : Program} {gl : List (Nat × Obj)} {S X : Nat → Prop} {w0 w w' : World} {m0 m : Nat → Option MV} {st : St} {a : Act}

theorem Sim.glob (E : Env P gl S X w0) (h : Sim S X w0 m0 st a w m) : Glob gl w := by
 intro x hx
 have h0 := E.gl0 x hx
 have hlt : x.1 < w0.heap.size := (Array.getElem?_eq_some_iff.1 h0).1
 rw [h.bel.block x.1 hlt (fun hX => E.glX _ hX x hx rfl)]
 exact h0

theorem Nset_lt (E : Env P gl S X w0) (h : Sim S X w0 m0 st a w m) {b : Nat} (hb : Nset S X w0.heap.size w m st.own b) : b < w.heap.size := by
 rcases hb with hb | hb
 ·exact Nat.lt_of_lt_of_le (E.Slt b hb) h.bel.size
 ·exact hb.2.1

theorem Sim.ownAt (h : Sim S X w0 m0 st a w m) : ∀ i b v, st.own[i]? = some b → b.live = true → m i = some v → OwnOk w (Nset S X w0.heap.size w m st.own) m v b := by
 intro i b v hb hl hv
 obtain ⟨v', hv', hok⟩ := h.ows.ok i b hb hl
 rw [hv] at hv'
 cases hv'
 exact hok

theorem ownsRow_mono {w w' : World} {e : TypeId} {s n : Nat} {v : Value} {xs : List Value} (h : w.ownsRow 0 e s v n xs) (hv : ∀ b, blk v = some b → w'.heap[b]? = w.heap[b]?) : w'.ownsRow 0 e s v n xs := by
 refine ⟨h.1, ?_⟩
 rcases h.2 with hn | ⟨g, cap, cur, rfl, h3, h4, h5⟩
 ·exact .inl hn
 ·exact .inr ⟨g, cap, cur, rfl, h3, by rw [hv g rfl]; exact h4, h5⟩

theorem RowOk.mono {w w' : World} {N N' : Nat → Prop} {v : Value} {e : TypeId} {s : Nat} {els : List PV} (h : RowOk w N v e s els)
  (hw : ∀ b, N b → w'.heap[b]? = w.heap[b]?) (hN : ∀ b, N b → N' b) (hv : ∀ b, blk v = some b → w'.heap[b]? = w.heap[b]?) : RowOk w' N' v e s els := by
 obtain ⟨xs, f, hown, hs, hx, h1, h2, hr⟩ := h
 exact ⟨xs, f, ownsRow_mono hown hv, hs, hx, h1, h2, fun k hk j hj => (hr k hk j hj).mono hw hN⟩

theorem Leaf.mono {w w' : World} {et : TypeId} {u g : Value} {p : PV} (h : Leaf w et u g p) (hv : ∀ b, blk g = some b → w'.heap[b]? = w.heap[b]?) : Leaf w' et u g p := by
 rcases h with ⟨h0, h⟩ | ⟨l, rfl, rfl, h⟩
 ·exact .inl ⟨h0, h.mono (fun _ h => h.elim) (fun _ h => h)⟩
 ·exact .inr ⟨l, rfl, rfl, h.mono (fun _ h => h.elim) (fun _ h => h) hv⟩

theorem TreeOk.mono {w w' : World} {v : MV} {e : TypeId} {s : Nat} {et : TypeId} {els : List PV} (h : TreeOk w v e s et els) (hv : ∀ b, hasB v b → w'.heap[b]? = w.heap[b]?) : TreeOk w' v e s et els := by
 obtain ⟨xs, f, h1, h2, h3, h4, h5, h6, h7, h8⟩ := h
 refine ⟨xs, f, ownsRow_mono h1 (fun b hb => hv b (.inl hb)), h2, h3, h4, h5, h6, fun k hk j hj => ?_, h8⟩
 obtain ⟨g, hg, hl⟩ := h7 k hk j hj
 exact ⟨g, hg, hl.mono (fun b hb => hv b (.inr ⟨g, List.mem_of_getElem? hg, hb⟩))⟩

theorem OwnOk.mono {w w' : World} {N N' : Nat → Prop} {m m' : Nat → Option MV} {v : MV} {bl : Blk} (h : OwnOk w N m v bl)
  (hw : ∀ b, N b → w'.heap[b]? = w.heap[b]?) (hN : ∀ b, N b → N' b) (hm : ∀ i v, m i = some v → m' i = some v)
  (hv : ∀ b, hasB v b → w'.heap[b]? = w.heap[b]?) : OwnOk w' N' m' v bl := by
 cases bl with
 | gone => trivial
 | box cs =>
  obtain ⟨h0, b, T, f, h9, hh, h1, hr⟩ := h
  exact ⟨h0, b, T, f, h9, by rw [hv b (.inl (by rw [h9]; rfl))]; exact hh, h1, fun j hj => (hr j hj).mono hw hN hm⟩
 | row e s els => exact ⟨h.1, h.2.mono hw hN (fun b hb => hv b (.inl hb))⟩
 | tree e s et els => exact TreeOk.mono h hv

theorem mblk_of {m : Nat → Option MV} {i b : Nat} {v : MV} (h : m i = some v) (hb : hasB v b) : mblk m i b := ⟨v, h, hb⟩

theorem tblk_of {m : Nat → Option MV} {i b : Nat} {v : MV} (h : m i = some v) (hb : blk v.1 = some b) : tblk m i = some b := by
 unfold tblk; rw [h]; exact hb

theorem look_put (l : List (Nat × FV)) (t q : Nat) (x : FV) : look ((t, x) :: l) q = if q = t then x else look l q := rfl

theorem getD_set {tmps : Array Value} {t q : Nat} {v : Value} (ht : t < tmps.size) : (tmps.setIfInBounds t v).getD q undef = if q = t then v else tmps.getD q undef := by
 simp only [Array.getD_eq_getD_getElem?, Array.getElem?_setIfInBounds]
 by_cases h : q = t
 ·subst h; simp [ht]
 ·rw [if_neg (fun e => h e.symm), if_neg h]

theorem Sim.put (h : Sim S X w0 m0 st a w m) {dst : Option Nat} {v : Value} {x : FV} (hx : RepF w (Nset S X w0.heap.size w m st.own) m v x) :
  Sim S X w0 m0 (st.put dst x) (a.put dst v) w m := by
 cases dst with
 | none => exact h
 | some t =>
  unfold St.put
  simp only
  split
  ·rename_i ht
   refine ⟨h.bel, h.ows, h.bnd, h.fix, h.k0, by simpa [Act.put] using h.nt, h.df, fun q => ?_⟩
   simp only [Act.put, St.get, look_put]
   rw [getD_set (by rw [h.nt]; exact ht)]
   split
   ·exact hx
   ·exact h.slots q
  ·rename_i ht
   refine ⟨h.bel, h.ows, h.bnd, h.fix, h.k0, by simpa [Act.put] using h.nt, h.df, fun q => ?_⟩
   have : (a.put (some t) v).tmps = a.tmps := by
    simp only [Act.put]
    apply Array.ext
    ·simp
    ·intro j h1 h2
     rw [Array.getElem_setIfInBounds]
     rw [if_neg (by intro e; subst e; rw [h.nt] at h2; exact ht h2)]
   rw [this]
   exact h.slots q

theorem Sim.below (E : Env P gl S X w0) (h : Sim S X w0 m0 st a w m) (hb : Below w.heap.size w w') : Sim S X w0 m0 st a w' m := by
 have hN : ∀ b, Nset S X w0.heap.size w m st.own b → Nset S X w0.heap.size w' m st.own b := by
  rintro b (hb' | ⟨h1, h2, h3⟩)
  ·exact .inl hb'
  ·exact .inr ⟨h1, Nat.lt_of_lt_of_le h2 hb.size, h3⟩
 have hw : ∀ b, Nset S X w0.heap.size w m st.own b → w'.heap[b]? = w.heap[b]? := fun b hb' => hb.block b (Nset_lt E h hb')
 refine ⟨⟨hb.os.trans h.bel.os, hb.tape.trans h.bel.tape, hb.output.trans h.bel.output, Nat.le_trans h.bel.size hb.size, fun k hk hX => (hb.block k (Nat.lt_of_lt_of_le hk h.bel.size)).trans (h.bel.block k hk hX)⟩, ?_, h.bnd, h.fix, h.k0, h.nt, h.df, fun t => (h.slots t).mono hw hN (fun _ _ => id)⟩
 refine ⟨h.ows.len, fun i bl hi hl => ?_, h.ows.sep, fun i b hl hm => Nat.lt_of_lt_of_le (h.ows.lt i b hl hm) hb.size, fun i b hl hm => ?_⟩
 ·obtain ⟨v, hv, hok⟩ := h.ows.ok i bl hi hl
  exact ⟨v, hv, hok.mono hw hN (fun _ _ => id) (fun b hbv => hb.block b (h.ows.lt i b ⟨bl, hi, hl⟩ (mblk_of hv hbv)))⟩
 ·have := h.ows.out i b hl hm
  rintro (hS | ⟨_, _, h3⟩)
  ·exact this (.inl hS)
  ·exact h3 i hl hm

theorem quiet_step (E : Env P gl S X w0) (h : Sim S X w0 m0 st a w m) {o : Oper} {x : FV} (hq : QOk P gl st.own st.ev o x)
  {next : Act → World → Prop} {Q : Exit → Act → World → Prop} (hev : ∀ q ∈ o.op.operands.toList, RepF w (Nset S X w0.heap.size w m st.own) m (a.eval q) (st.ev q))
  (hn : ∀ v w', Sim S X w0 m0 st a w' m → RepF w' (Nset S X w0.heap.size w' m st.own) m v x → next (a.put o.dst v) w') : o.wp P a w next Q := by
 refine hq w _ m a next Q (h.glob E) (fun b => Nset_lt E h) h.ownAt (fun i v hv => (h.ows.len i v hv).2.1) hev (fun v w' hb hr => hn v w' (h.below E hb) (hr.mono (fun _ _ => rfl) ?_ (fun _ _ => id)))
 rintro b (hb' | ⟨h1, h2⟩)
 ·rcases hb' with hb' | ⟨h1, h2, h3⟩
  ·exact .inl hb'
  ·exact .inr ⟨h1, Nat.lt_of_lt_of_le h2 hb.size, h3⟩
 ·refine .inr ⟨.inl (Nat.le_trans h.bel.size h1), h2, fun i hl hm => ?_⟩
  have := h.ows.lt i b hl hm
  omega

theorem constFV_rep {N : Nat → Prop} (v : Value) : RepF w N m v (constFV v) := by
 unfold constFV
 split
 ·rename_i cs
  split
  ·rename_i hall
   obtain ⟨f, hf, h1, hr⟩ := allFree_rep (w := w) (m := m) (N := N) hall
   have := RepF.agg _ f h1 hr
   rw [← hf] at this
   exact this
  ·exact .junk _
 ·split
  ·rename_i hf
   exact repVal hf
  ·exact .junk _

theorem Sim.evs (h : Sim S X w0 m0 st a w m) (q : Operand) : RepF w (Nset S X w0.heap.size w m st.own) m (a.eval q) (st.ev q) := by
 cases q with
 | tmp t => exact h.slots t
 | const v => exact constFV_rep v
 | func f => exact .pv _ _ (.fn f [] (fun _ => .bool false) (fun j hj => by simp at hj))
 | global g => exact .junk _

theorem gcond_spec (h : Sim S X w0 m0 st a w m) {ops : Array Oper} {o : Oper} {j : Nat} {want g : Bool} (ho : o.guard = some (j, want)) (hg : gcond ops.toList st j want = some g) :
  Region.wanted o (yielded ops a.tmps) = g := by
 unfold gcond at hg
 have e : (ops.toList[j]?).bind (·.dst) = (ops[j]?).bind (·.dst) := by simp
 rw [e] at hg
 unfold Region.wanted yielded
 rw [ho]
 simp only
 cases hd : (ops[j]?).bind (·.dst) with
 | none => simp [hd] at hg
 | some t =>
  simp only [hd] at hg
  simp only [Option.bind_some]
  have hs := h.slots t
  have hget : ∀ b, a.tmps.getD t undef = .bool b → a.tmps[t]? = some (.bool b) := by
   intro b hb
   rw [Array.getD_eq_getD_getElem?] at hb
   cases hq : a.tmps[t]? with
   | none => simp [hq, undef] at hb
   | some v => simp [hq] at hb; rw [hb]
  split at hg
  ·rename_i b hb
   simp only [Option.some.injEq] at hg
   subst hg
   rw [hb] at hs
   rw [hget b hs.valInv]
   simp [BEq.comm]
  ·rename_i c b hb
   simp only [Option.some.injEq] at hg
   subst hg
   rw [hb] at hs
   generalize hav : a.tmps.getD t undef = av at hs
   cases hs with | iff _ _ _ h1 h2 =>
   cases c with
   | true =>
    rw [hget b (hav.trans (h1 rfl).valInv)]
    simp
   | false =>
    have := hav.trans (h2 rfl)
    rw [Array.getD_eq_getD_getElem?] at this
    cases hq : a.tmps[t]? with
    | none => simp
    | some v => simp [hq] at this; subst this; simp [undef]
  ·cases hg

theorem Sim.addOwnT (E : Env P gl S X w0) (h : Sim S X w0 m0 st a w m) {v : MV} {bl : Blk} (hb : Below w.heap.size w w') (_hl : bl.live = true) (hv1 : v.1.oneCell' = true ∧ ∀ u, u ∈ v.2 → u.oneCell' = true)
  (hblk : ∀ b, hasB v b → w.heap.size ≤ b ∧ b < w'.heap.size)
  (hok : ∀ (N' : Nat → Prop) (m' : Nat → Option MV), (∀ b, Nset S X w0.heap.size w m st.own b → N' b) → (∀ i v, m i = some v → m' i = some v) → OwnOk w' N' m' v bl) :
  ∃ m', Sim S X w0 m0 (st.addOwn bl) a w' m' ∧ m' st.own.length = some v ∧ (∀ i v, m i = some v → m' i = some v) ∧
   (∀ b, Nset S X w0.heap.size w m st.own b → Nset S X w0.heap.size w' m' (st.addOwn bl).own b) := by
 let m' : Nat → Option MV := fun i => if i = st.own.length then some v else m i
 have hm : ∀ i v, m i = some v → m' i = some v := by
  intro i u hu
  have := (h.ows.len i u hu).1
  simp only [m']
  rw [if_neg (by omega)]
  exact hu
 have hlv : ∀ i, lives (st.own ++ [bl]) i → lives st.own i ∨ i = st.own.length := by
  rintro i ⟨b, hb, hbl⟩
  rw [List.getElem?_append] at hb
  split at hb
  ·exact .inl ⟨b, hb, hbl⟩
  ·rename_i hge
   right
   by_cases he : i = st.own.length
   ·exact he
   ·rw [List.getElem?_eq_none (by simp; omega)] at hb; cases hb
 have hold : ∀ i b, i ≠ st.own.length → mblk m' i b → mblk m i b := by
  intro i b hi hb
  unfold mblk at *
  simp only [m'] at hb
  rwa [if_neg hi] at hb
 have hnew : ∀ b, mblk m' st.own.length b → w.heap.size ≤ b ∧ b < w'.heap.size := by
  intro b hb
  obtain ⟨u, hu, hb⟩ := hb
  simp only [m', if_true, Option.some.injEq] at hu
  subst hu
  exact hblk b hb
 have hN : ∀ b, Nset S X w0.heap.size w m st.own b → Nset S X w0.heap.size w' m' (st.own ++ [bl]) b := by
  intro b hNb
  have hlt := Nset_lt E h hNb
  rcases hNb with hb' | ⟨h1, h2, h3⟩
  ·exact .inl hb'
  ·refine .inr ⟨h1, Nat.lt_of_lt_of_le h2 hb.size, fun i hi hmb => ?_⟩
   by_cases he : i = st.own.length
   ·subst he; have := hnew b hmb; omega
   ·exact h3 i ((hlv i hi).resolve_right he) (hold i b he hmb)
 have hw : ∀ b, Nset S X w0.heap.size w m st.own b → w'.heap[b]? = w.heap[b]? := fun b hb' => hb.block b (Nset_lt E h hb')
 refine ⟨m', ⟨⟨hb.os.trans h.bel.os, hb.tape.trans h.bel.tape, hb.output.trans h.bel.output, Nat.le_trans h.bel.size hb.size, fun k hk hX => (hb.block k (Nat.lt_of_lt_of_le hk h.bel.size)).trans (h.bel.block k hk hX)⟩, ?_, ?_, ?_, ?_, h.nt, h.df, fun t => (h.slots t).mono hw hN hm⟩, by simp [m'], hm, hN⟩
 ·refine ⟨fun i u hu => ?_, fun i b hi hbl => ?_, fun i j b hne hi hj hbi hbj => ?_, fun i b hi hmb => ?_, fun i b hi hmb => ?_⟩
  ·simp only [m'] at hu
   simp only [St.addOwn, List.length_append, List.length_singleton]
   split at hu
   ·cases hu; exact ⟨by omega, hv1⟩
   ·have := h.ows.len i u hu; exact ⟨by omega, this.2⟩
  ·simp only [St.addOwn] at hi
   rw [List.getElem?_append] at hi
   split at hi
   ·obtain ⟨u, hu, hok'⟩ := h.ows.ok i b hi hbl
    exact ⟨u, hm i u hu, hok'.mono hw hN hm (fun b' hbv => hb.block b' (h.ows.lt i b' ⟨b, hi, hbl⟩ (mblk_of hu hbv)))⟩
   ·rename_i hge
    by_cases he : i = st.own.length
    ·subst he
     simp at hi
     subst hi
     exact ⟨v, by simp [m'], hok _ _ hN hm⟩
    ·rw [List.getElem?_eq_none (by simp; omega)] at hi; cases hi
  ·by_cases hei : i = st.own.length
   ·by_cases hej : j = st.own.length
    ·omega
    ·subst hei
     have h1 := hnew b hbi
     have h2 := h.ows.lt j b ((hlv j hj).resolve_right hej) (hold j b hej hbj)
     omega
   ·by_cases hej : j = st.own.length
    ·subst hej
     have h1 := hnew b hbj
     have h2 := h.ows.lt i b ((hlv i hi).resolve_right hei) (hold i b hei hbi)
     omega
    ·exact h.ows.sep i j b hne ((hlv i hi).resolve_right hei) ((hlv j hj).resolve_right hej) (hold i b hei hbi) (hold j b hej hbj)
  ·by_cases he : i = st.own.length
   ·subst he; exact (hnew b hmb).2
   ·exact Nat.lt_of_lt_of_le (h.ows.lt i b ((hlv i hi).resolve_right he) (hold i b he hmb)) hb.size
  ·rintro (hS | ⟨_, _, h3⟩)
   ·by_cases he : i = st.own.length
    ·subst he; have := (hnew b hmb).1; have := E.Slt b hS; have := h.bel.size; omega
    ·exact h.ows.out i b ((hlv i hi).resolve_right he) (hold i b he hmb) (.inl hS)
   ·exact h3 i hi hmb
 ·intro i b hi hmb
  by_cases he : i = st.own.length
  ·subst he; have := (hnew b hmb).1; have := h.bel.size; exact .inl (by omega)
  ·exact h.bnd i b ((hlv i hi).resolve_right he) (hold i b he hmb)
 ·intro i hi
  have : i < st.k0 := hi
  have := h.k0
  simp only [m']
  rw [if_neg (by omega)]
  exact h.fix i hi
 ·have := h.k0
  simp only [St.addOwn, List.length_append, List.length_singleton]
  omega

theorem Sim.addOwn (E : Env P gl S X w0) (h : Sim S X w0 m0 st a w m) {v : Value} {bl : Blk} (hb : Below w.heap.size w w') (hl : bl.live = true) (hv1 : v.oneCell' = true)
  (hblk : ∀ b, blk v = some b → w.heap.size ≤ b ∧ b < w'.heap.size)
  (hok : ∀ (N' : Nat → Prop) (m' : Nat → Option MV), (∀ b, Nset S X w0.heap.size w m st.own b → N' b) → (∀ i v, m i = some v → m' i = some v) → OwnOk w' N' m' (v, []) bl) :
  ∃ m', Sim S X w0 m0 (st.addOwn bl) a w' m' ∧ m' st.own.length = some (v, []) ∧ (∀ i v, m i = some v → m' i = some v) ∧
   (∀ b, Nset S X w0.heap.size w m st.own b → Nset S X w0.heap.size w' m' (st.addOwn bl).own b) :=
 h.addOwnT E hb hl ⟨hv1, fun _ h => by cases h⟩ (fun b h => hblk b (hasB_one.1 h)) hok

theorem Sim.setOwn (h : Sim S X w0 m0 st a w m) {i b : Nat} {v : MV} {bl bl' : Blk} (hi : st.own[i]? = some bl) (hl : bl.live = true) (hl' : bl'.live = true) (hv : m i = some v) (hbv : hasB v b)
  (hos : w'.os = w.os) (htp : w'.tape = w.tape) (hou : w'.output = w.output) (hsz : w'.heap.size = w.heap.size) (hw : ∀ k, k ≠ b → w'.heap[k]? = w.heap[k]?)
  (hok : ∀ N, (∀ q, Nset S X w0.heap.size w m st.own q → N q) → OwnOk w' N m v bl') : Sim S X w0 m0 (st.setOwn i bl') a w' m := by
 have hlt : i < st.own.length := (List.getElem?_eq_some_iff.1 hi).1
 have hlv : ∀ j, lives (st.own.set i bl') j ↔ lives st.own j := by
  intro j
  unfold lives
  by_cases hj : j = i
  ·subst hj
   simp only [List.getElem?_set_self hlt]
   exact ⟨fun _ => ⟨bl, hi, hl⟩, fun _ => ⟨bl', rfl, hl'⟩⟩
  ·rw [List.getElem?_set_ne (fun e => hj e.symm)]
 have hNN : ∀ q, Nset S X w0.heap.size w' m (st.own.set i bl') q ↔ Nset S X w0.heap.size w m st.own q := by
  intro q
  unfold Nset
  rw [hsz]
  constructor
  ·rintro (hq | ⟨h1, h2, h3⟩)
   ·exact .inl hq
   ·exact .inr ⟨h1, h2, fun j hj => h3 j ((hlv j).2 hj)⟩
  ·rintro (hq | ⟨h1, h2, h3⟩)
   ·exact .inl hq
   ·exact .inr ⟨h1, h2, fun j hj => h3 j ((hlv j).1 hj)⟩
 have hNb : ∀ q, Nset S X w0.heap.size w m st.own q → w'.heap[q]? = w.heap[q]? := by
  intro q hq
  refine hw q fun e => ?_
  subst e
  exact h.ows.out i q ⟨bl, hi, hl⟩ (mblk_of hv hbv) hq
 have hN1 : ∀ q, Nset S X w0.heap.size w m st.own q → Nset S X w0.heap.size w' m (st.own.set i bl') q := fun q hq => (hNN q).2 hq
 refine ⟨⟨hos.trans h.bel.os, htp.trans h.bel.tape, hou.trans h.bel.output, by rw [hsz]; exact h.bel.size, fun k hk hX => (hw k fun e => ?_).trans (h.bel.block k hk hX)⟩, ?_, fun j q hj hm => h.bnd j q ((hlv j).1 hj) hm, h.fix, by simpa [St.setOwn] using h.k0, h.nt, h.df, fun t => (h.slots t).mono hNb hN1 (fun _ _ => id)⟩
 ·subst e
  rcases h.bnd i k ⟨bl, hi, hl⟩ (mblk_of hv hbv) with h1 | h1
  ·omega
  ·exact hX h1
 ·refine ⟨fun j u hu => ?_, fun j b' hj hbl => ?_, fun j k q hne hj hk => h.ows.sep j k q hne ((hlv j).1 hj) ((hlv k).1 hk), fun j q hj hm => by rw [hsz]; exact h.ows.lt j q ((hlv j).1 hj) hm, fun j q hj hm hq => h.ows.out j q ((hlv j).1 hj) hm ((hNN q).1 hq)⟩
  ·have := h.ows.len j u hu
   simpa [St.setOwn] using this
  ·by_cases hji : j = i
   ·subst hji
    simp only [St.setOwn, List.getElem?_set_self hlt, Option.some.injEq] at hj
    subst hj
    exact ⟨v, hv, hok _ hN1⟩
   ·simp only [St.setOwn] at hj
    rw [List.getElem?_set_ne (fun e => hji e.symm)] at hj
    obtain ⟨u, hu, hok'⟩ := h.ows.ok j b' hj hbl
    refine ⟨u, hu, hok'.mono hNb hN1 (fun _ _ => id) (fun q hq => hw q fun e => ?_)⟩
    subst e
    exact h.ows.sep j i q hji ⟨b', hj, hbl⟩ ⟨bl, hi, hl⟩ (mblk_of hu hq) (mblk_of hv hbv)

end
end Go.Pe

/- Own blocks forgotten, moved, frozen. -/
namespace Go.Pe
open Go Go.RowKit

theorem look_map (f : FV → FV) (hf : f .junk = .junk) : ∀ (l : List (Nat × FV)) (t : Nat), look (l.map fun x => (x.1, f x.2)) t = f (look l t)
 | [], t => by simp [look, hf]
 | (k, x) :: r, t => by
  simp only [List.map_cons, look]
  split
  ·rfl
  ·exact look_map f hf r t

section
variable {P : Program} {gl : List (Nat × Obj)} {S X : Nat → Prop} {w0 w w' : World} {m0 m : Nat → Option MV} {st : St} {a : Act}

theorem Sim.weaken (h : Sim S X w0 m0 st a w m) {f : FV → FV} {own' : List Blk} (hlen : own'.length = st.own.length)
  (hown : ∀ (i : Nat) (b' : Blk), own'[i]? = some b' → b'.live = true → ∃ b : Blk, st.own[i]? = some b ∧ b.live = true ∧ (b' = b ∨ ∃ cs : List FV, b = Blk.box cs ∧ b' = Blk.box (cs.map f)))
  (hf : ∀ v x, RepF w (Nset S X w0.heap.size w m st.own) m v x → RepF w (Nset S X w0.heap.size w m own') m v (f x)) {slots' : List (Nat × FV)}
  (hs : ∀ t, look slots' t = f (st.get t)) : Sim S X w0 m0 { st with slots := slots', own := own' } a w m := by
 have hlv' : ∀ i, lives own' i → lives st.own i := by
  rintro i ⟨b, hb, hl⟩
  obtain ⟨b0, h0, hl0, _⟩ := hown i b hb hl
  exact ⟨b0, h0, hl0⟩
 have hN : ∀ q, Nset S X w0.heap.size w m st.own q → Nset S X w0.heap.size w m own' q := by
  rintro q (hq | ⟨h1, h2, h3⟩)
  ·exact .inl hq
  ·exact .inr ⟨h1, h2, fun i hi => h3 i (hlv' i hi)⟩
 refine ⟨h.bel, ?_, fun i b hi hm => h.bnd i b (hlv' i hi) hm, h.fix, by simpa [hlen] using h.k0, h.nt, h.df, fun t => ?_⟩
 ·refine ⟨fun i v hv => by rw [hlen]; exact h.ows.len i v hv, fun i b hi hl => ?_, fun i j b hne hi hj => h.ows.sep i j b hne (hlv' i hi) (hlv' j hj), fun i b hi => h.ows.lt i b (hlv' i hi), fun i b hi hm hq => ?_⟩
  ·obtain ⟨b0, h0, hl0, hc⟩ := hown i b hi hl
   obtain ⟨v, hv, hok⟩ := h.ows.ok i b0 h0 hl0
   refine ⟨v, hv, ?_⟩
   rcases hc with rfl | ⟨cs, rfl, rfl⟩
   ·exact hok.mono (fun _ _ => rfl) hN (fun _ _ => id) (fun _ _ => rfl)
   ·obtain ⟨h0, b, T, g, h9, hh, h1, hr⟩ := hok
    exact ⟨h0, b, T, g, h9, by simpa using hh, h1, fun j hj => by simp only [List.length_map] at hj; simpa using hf _ _ (hr j hj)⟩
  ·rcases hq with hq | ⟨_, _, h3⟩
   ·exact h.ows.out i b (hlv' i hi) hm (.inl hq)
   ·exact h3 i hi hm
 ·have : ({ st with slots := slots', own := own' } : St).get t = f (st.get t) := hs t
  rw [this]
  exact hf _ _ (h.slots t)

theorem dropF_rep {N : Nat → Prop} {v : Value} {x : FV} {i : Nat} (h : RepF w N m v x) : RepF w N m v (dropF i x) := by
 unfold dropF
 split
 ·exact .junk _
 ·exact h

theorem map_own_get {f : Blk → Blk} {i : Nat} {b : Blk} (h : (st.own.map f)[i]? = some b) : ∃ b0, st.own[i]? = some b0 ∧ b = f b0 := by
 rw [List.getElem?_map] at h
 cases hq : st.own[i]? with
 | none => simp [hq] at h
 | some b0 => simp [hq] at h; exact ⟨b0, rfl, h.symm⟩

theorem Sim.drop (h : Sim S X w0 m0 st a w m) (i : Nat) : Sim S X w0 m0 (st.drop i) a w m := by
 have hlv' : ∀ j, lives (st.own.map (dropB i)) j → lives st.own j := by
  rintro j ⟨b, hb, hl⟩
  obtain ⟨b0, h0, rfl⟩ := map_own_get hb
  exact ⟨b0, h0, by cases b0 <;> first | exact hl | rfl⟩
 refine h.weaken (f := dropF i) (by simp) (fun j b' hb hl => ?_) (fun v x hr => ?_) (fun t => look_map (dropF i) (by simp [dropF]) st.slots t)
 ·obtain ⟨b0, h0, rfl⟩ := map_own_get hb
  refine ⟨b0, h0, by cases b0 <;> first | exact hl | rfl, ?_⟩
  cases b0 with
  | box cs => exact .inr ⟨cs, rfl, rfl⟩
  | _ => exact .inl rfl
 ·refine dropF_rep (hr.mono (fun _ _ => rfl) ?_ (fun _ _ => id))
  rintro q (hq | ⟨h1, h2, h3⟩)
  ·exact .inl hq
  ·exact .inr ⟨h1, h2, fun j hj => h3 j (hlv' j hj)⟩

theorem Sim.moveOwnT (E : Env P gl S X w0) (h : Sim S X w0 m0 st a w m) {i : Nat} {v v' : MV} {bl bl' : Blk} (hi : st.own[i]? = some bl) (hl : bl.live = true) (hl' : bl'.live = true) (hv : m i = some v) (hk : st.k0 ≤ i)
  (hslots : ∀ t, (st.get t).uses i = false) (hcont : ∀ (j : Nat) (cs : List FV), st.own[j]? = some (Blk.box cs) → usesL i cs = false)
  (hg : w.grownBy w' (blk v.1)) (hblk : ∀ b, hasB v' b → (hasB v b ∨ w.heap.size ≤ b) ∧ b < w'.heap.size) (hv1 : v'.1.oneCell' = true ∧ ∀ u, u ∈ v'.2 → u.oneCell' = true)
  (hok : ∀ (N' : Nat → Prop) (m' : Nat → Option MV), (∀ b, Nset S X w0.heap.size w m st.own b → N' b) → OwnOk w' N' m' v' bl') :
  ∃ m', Sim S X w0 m0 (st.setOwn i bl') a w' m' ∧ m' i = some v' := by
 have hlt : i < st.own.length := (List.getElem?_eq_some_iff.1 hi).1
 let m' : Nat → Option MV := fun j => if j = i then some v' else m j
 have hlv : ∀ j, lives (st.own.set i bl') j ↔ lives st.own j := by
  intro j
  unfold lives
  by_cases hj : j = i
  ·subst hj
   simp only [List.getElem?_set_self hlt]
   exact ⟨fun _ => ⟨bl, hi, hl⟩, fun _ => ⟨bl', rfl, hl'⟩⟩
  ·rw [List.getElem?_set_ne (fun e => hj e.symm)]
 have hlvi : lives st.own i := ⟨bl, hi, hl⟩
 have hmo : ∀ j, j ≠ i → mblk m' j = mblk m j := by
  intro j hj
  unfold mblk
  simp only [m']
  rw [if_neg hj]
 have hmi : ∀ b, mblk m' i b → (hasB v b ∨ w.heap.size ≤ b) ∧ b < w'.heap.size := by
  intro b hb
  obtain ⟨u, hu, hb⟩ := hb
  simp only [m', if_true, Option.some.injEq] at hu
  subst hu
  exact hblk b hb
 have hblock : ∀ k, k < w.heap.size → blk v.1 ≠ some k → w'.heap[k]? = w.heap[k]? := fun k hk hne => hg.block k hk (fun e => hne e.symm)
 have hN : ∀ q, Nset S X w0.heap.size w m st.own q → Nset S X w0.heap.size w' m' (st.own.set i bl') q := by
  intro q hNq
  have hq := Nset_lt E h hNq
  rcases hNq with hS | ⟨h1, h2, h3⟩
  ·exact .inl hS
  ·refine .inr ⟨h1, Nat.lt_of_lt_of_le h2 hg.size, fun j hj hmj => ?_⟩
   by_cases hji : j = i
   ·subst hji
    rcases (hmi q hmj).1 with h4 | h4
    ·exact h3 j hlvi (mblk_of hv h4)
    ·omega
   ·rw [hmo j hji] at hmj
    exact h3 j ((hlv j).1 hj) hmj
 have hNb : ∀ q, Nset S X w0.heap.size w m st.own q → w'.heap[q]? = w.heap[q]? := by
  intro q hq
  exact hblock q (Nset_lt E h hq) (fun e => h.ows.out i q hlvi (mblk_of hv (.inl e)) hq)
 have hrep : ∀ u x, x.uses i = false → RepF w (Nset S X w0.heap.size w m st.own) m u x → RepF w' (Nset S X w0.heap.size w' m' (st.own.set i bl')) m' u x := by
  intro u x hu hr
  have := hr.mono (m' := m) hNb hN (fun _ _ => id)
  refine this.remap fun j hj => ?_
  simp only [m']
  rw [if_neg (fun e => by subst e; rw [hu] at hj; cases hj)]
 refine ⟨m', ⟨⟨hg.os.trans h.bel.os, hg.tape.trans h.bel.tape, hg.output.trans h.bel.output, Nat.le_trans h.bel.size hg.size, fun k hk hX => (hblock k (Nat.lt_of_lt_of_le hk h.bel.size) fun e => ?_).trans (h.bel.block k hk hX)⟩, ?_, fun j b hj hm => ?_, fun j hj => ?_, by simpa [St.setOwn] using h.k0, h.nt, h.df, fun t => hrep _ _ (hslots t) (h.slots t)⟩, by simp [m']⟩
 ·rcases h.bnd i k hlvi (mblk_of hv (.inl e)) with h1 | h1
  ·omega
  ·exact hX h1
 ·refine ⟨fun j u hu => ?_, fun j b hj hbl => ?_, fun j k b hne hj hk' hbj hbk => ?_, fun j b hj hmb => ?_, fun j b hj hmb hq => ?_⟩
  ·simp only [St.setOwn, List.length_set]
   simp only [m'] at hu
   split at hu
   ·rename_i e; subst e; cases hu; exact ⟨hlt, hv1⟩
   ·exact h.ows.len j u hu
  ·by_cases hji : j = i
   ·subst hji
    simp only [St.setOwn, List.getElem?_set_self hlt, Option.some.injEq] at hj
    subst hj
    exact ⟨v', by simp [m'], hok _ _ hN⟩
   ·simp only [St.setOwn] at hj
    rw [List.getElem?_set_ne (fun e => hji e.symm)] at hj
    obtain ⟨u, hu, hok'⟩ := h.ows.ok j b hj hbl
    refine ⟨u, by simp only [m']; rw [if_neg hji]; exact hu, ?_⟩
    have hvj : ∀ q, hasB u q → w'.heap[q]? = w.heap[q]? := by
     intro q hq
     refine hblock q (h.ows.lt j q ⟨b, hj, hbl⟩ (mblk_of hu hq)) fun e => ?_
     exact h.ows.sep j i q hji ⟨b, hj, hbl⟩ hlvi (mblk_of hu hq) (mblk_of hv (.inl e))
    cases b with
    | gone => trivial
    | row e s els => exact ⟨hok'.1, hok'.2.mono hNb hN (fun q hq => hvj q (.inl hq))⟩
    | tree e s et els => exact TreeOk.mono hok' hvj
    | box cs =>
     obtain ⟨h0, b, T, f, h9, hh, h1, hr⟩ := hok'
     exact ⟨h0, b, T, f, h9, by rw [hvj b (.inl (by rw [h9]; rfl))]; exact hh, h1, fun k hk => hrep _ _ (usesL_get (hcont j cs hj) k hk) (hr k hk)⟩
  ·by_cases hji : j = i
   ·subst hji
    rw [hmo k (fun e => hne e.symm)] at hbk
    have h2 := (hmi b hbj).1
    rcases h2 with h2 | h2
    ·exact h.ows.sep j k b hne hlvi ((hlv k).1 hk') (mblk_of hv h2) hbk
    ·have := h.ows.lt k b ((hlv k).1 hk') hbk; omega
   ·rw [hmo j hji] at hbj
    by_cases hki : k = i
    ·subst hki
     rcases (hmi b hbk).1 with h2 | h2
     ·exact h.ows.sep j k b hji ((hlv j).1 hj) hlvi hbj (mblk_of hv h2)
     ·have := h.ows.lt j b ((hlv j).1 hj) hbj; omega
    ·rw [hmo k hki] at hbk
     exact h.ows.sep j k b hne ((hlv j).1 hj) ((hlv k).1 hk') hbj hbk
  ·by_cases hji : j = i
   ·subst hji; exact (hmi b hmb).2
   ·rw [hmo j hji] at hmb
    exact Nat.lt_of_lt_of_le (h.ows.lt j b ((hlv j).1 hj) hmb) hg.size
  ·rcases hq with hS | ⟨_, _, h3⟩
   ·by_cases hji : j = i
    ·subst hji
     rcases (hmi b hmb).1 with h2 | h2
     ·exact h.ows.out j b hlvi (mblk_of hv h2) (.inl hS)
     ·have := E.Slt b hS; have := h.bel.size; omega
    ·rw [hmo j hji] at hmb
     exact h.ows.out j b ((hlv j).1 hj) hmb (.inl hS)
   ·exact h3 j hj hmb
 ·by_cases hji : j = i
  ·subst hji
   rcases (hmi b hm).1 with h2 | h2
   ·exact h.bnd j b hlvi (mblk_of hv h2)
   ·have := h.bel.size; exact .inl (by omega)
  ·rw [hmo j hji] at hm
   exact h.bnd j b ((hlv j).1 hj) hm
 ·have : j < st.k0 := hj
  simp only [m']
  rw [if_neg (by omega)]
  exact h.fix j hj

theorem Sim.moveOwn (E : Env P gl S X w0) (h : Sim S X w0 m0 st a w m) {i : Nat} {v v' : Value} {bl bl' : Blk} (hi : st.own[i]? = some bl) (hl : bl.live = true) (hl' : bl'.live = true) (hv : m i = some (v, [])) (hk : st.k0 ≤ i)
  (hslots : ∀ t, (st.get t).uses i = false) (hcont : ∀ (j : Nat) (cs : List FV), st.own[j]? = some (Blk.box cs) → usesL i cs = false)
  (hg : w.grownBy w' (blk v)) (hblk : ∀ b, blk v' = some b → (blk v = some b ∨ w.heap.size ≤ b) ∧ b < w'.heap.size) (hv1 : v'.oneCell' = true)
  (hok : ∀ (N' : Nat → Prop) (m' : Nat → Option MV), (∀ b, Nset S X w0.heap.size w m st.own b → N' b) → OwnOk w' N' m' (v', []) bl') :
  ∃ m', Sim S X w0 m0 (st.setOwn i bl') a w' m' ∧ m' i = some (v', []) :=
 h.moveOwnT E hi hl hl' hv hk hslots hcont hg (fun b hb => ⟨(hblk b (hasB_one.1 hb)).1.imp (fun e => .inl e) id, (hblk b (hasB_one.1 hb)).2⟩) ⟨hv1, fun _ h => by cases h⟩ hok

theorem dropF_uses (i : Nat) (x : FV) : (dropF i x).uses i = false := by
 unfold dropF
 split
 ·rfl
 ·rename_i h; simpa using h

theorem drop_get (i t : Nat) : ((st.drop i).get t).uses i = false := by
 have : (st.drop i).get t = dropF i (st.get t) := look_map (dropF i) (by simp [dropF]) st.slots t
 rw [this]
 exact dropF_uses i _

theorem usesL_map (i : Nat) : ∀ (cs : List FV), usesL i (cs.map (dropF i)) = false
 | [] => rfl
 | x :: r => by simp [usesL, dropF_uses, usesL_map i r]

theorem drop_cont (i j : Nat) (cs : List FV) (h : (st.drop i).own[j]? = some (.box cs)) : usesL i cs = false := by
 simp only [St.drop] at h
 obtain ⟨b0, h0, hb⟩ := map_own_get h
 cases b0 <;> simp only [dropB] at hb <;> try (cases hb; done)
 cases hb
 exact usesL_map i _

end
end Go.Pe

/- Own blocks frozen; memory made and written. -/
namespace Go.Pe
open Go Go.RowKit

theorem goneAt_get (ds : List Nat) : ∀ (l : List Blk) (n i : Nat), (goneAt ds n l)[i]? = if ds.contains (n + i) then (l[i]?).map (fun _ => Blk.gone) else l[i]?
 | [], n, i => by simp [goneAt]
 | b :: r, n, 0 => by simp only [goneAt, Nat.add_zero, List.getElem?_cons_zero]; split <;> simp
 | b :: r, n, i + 1 => by
  simp only [goneAt, List.getElem?_cons_succ, goneAt_get ds r (n + 1) i]
  rw [show n + 1 + i = n + (i + 1) by omega]

theorem goneAt_length (ds : List Nat) : ∀ (l : List Blk) (n : Nat), (goneAt ds n l).length = l.length
 | [], n => rfl
 | b :: r, n => by simp [goneAt, goneAt_length ds r (n + 1)]

section
variable {P : Program} {gl : List (Nat × Obj)} {S X : Nat → Prop} {w0 w w' : World} {m0 m : Nat → Option MV} {st : St} {a : Act}

theorem Sim.retire (h : Sim S X w0 m0 st a w m) (ds : List Nat) :
  Sim S X w0 m0 (st.retire ds) a w m ∧ ∀ n x v p, RepF w (Nset S X w0.heap.size w m st.own) m v x → snapD st.own ds n x = some p → Rep w (Nset S X w0.heap.size w m (st.retire ds).own) v p := by
 let own' := goneAt ds 0 (st.own.map (frzB st.own ds))
 have hget : ∀ (i : Nat) (b : Blk), own'[i]? = some b → b.live = true → ds.contains i = false ∧ ∃ b0, st.own[i]? = some b0 ∧ b = frzB st.own ds b0 := by
  intro i b hb hl
  simp only [own'] at hb
  rw [goneAt_get, Nat.zero_add] at hb
  split at hb
  ·cases hq : (st.own.map (frzB st.own ds))[i]? with
   | none => simp [hq] at hb
   | some b1 => simp [hq] at hb; subst hb; cases hl
  ·rename_i hc
   exact ⟨by simpa using hc, map_own_get hb⟩
 have hlv' : ∀ i, lives own' i → lives st.own i ∧ ds.contains i = false := by
  rintro i ⟨b, hb, hl⟩
  obtain ⟨hc, b0, h0, rfl⟩ := hget i b hb hl
  exact ⟨⟨b0, h0, by cases b0 <;> first | exact hl | rfl⟩, hc⟩
 have hN : ∀ q, Nset S X w0.heap.size w m st.own q → Nset S X w0.heap.size w m own' q := by
  rintro q (hq | ⟨h1, h2, h3⟩)
  ·exact .inl hq
  ·exact .inr ⟨h1, h2, fun i hi => h3 i (hlv' i hi).1⟩
 have hds : ∀ i b, i ∈ ds → lives st.own i → mblk m i b → Nset S X w0.heap.size w m own' b := by
  intro i b hi hl hb
  refine .inr ⟨h.bnd i b hl hb, h.ows.lt i b hl hb, fun j hj hmj => ?_⟩
  obtain ⟨hjl, hjc⟩ := hlv' j hj
  refine h.ows.sep i j b (fun e => ?_) hl hjl hb hmj
  subst e
  simp at hjc
  exact hjc hi
 have hsnap : ∀ n x v p, RepF w (Nset S X w0.heap.size w m st.own) m v x → snapD st.own ds n x = some p → Rep w (Nset S X w0.heap.size w m own') v p :=
  fun n x v p hr hp => snapD_rep h.ownAt hN hds n x v p hr hp
 cases ds with
 | nil =>
  refine ⟨h, fun n x v p hr hp => ?_⟩
  have := hsnap n x v p hr hp
  refine this.mono (fun _ _ => rfl) ?_
  rintro q (hq | ⟨h1, h2, h3⟩)
  ·exact .inl hq
  ·refine .inr ⟨h1, h2, fun i hi => h3 i ?_⟩
   obtain ⟨b, hb, hl⟩ := hi
   have hb : st.own[i]? = some b := hb
   refine ⟨frzB st.own [] b, ?_, by cases b <;> first | exact hl | rfl⟩
   simp only [own']
   rw [goneAt_get]
   simp [List.getElem?_map, hb]
 | cons d ds =>
  refine ⟨?_, fun n x v p hr hp => hsnap n x v p hr hp⟩
  refine h.weaken (f := frzF st.own (d :: ds)) (own' := own') (by simp [own', goneAt_length]) (fun i b hb hl => ?_) (fun v x hr => ?_) (fun t => ?_)
  ·obtain ⟨_, b0, h0, rfl⟩ := hget i b hb hl
   refine ⟨b0, h0, by cases b0 <;> first | exact hl | rfl, ?_⟩
   cases b0 with
   | box cs => exact .inr ⟨cs, rfl, rfl⟩
   | _ => exact .inl rfl
  ·unfold frzF
   split
   ·split
    ·rename_i p hp
     exact .pv _ _ (hsnap 8 x v p hr hp)
    ·exact .junk _
   ·exact hr.mono (fun _ _ => rfl) hN (fun _ _ => id)
  ·exact look_map (frzF st.own (d :: ds)) (by simp [frzF, usesAny, FV.uses]) st.slots t

theorem run_newVar {P : Program} (t : TypeId) (v : Value) (w : World) : (newVar t v).run P w = .ok ⟨w.heap.size, 0, none⟩ (w.alloc (.cells v.cells t)) := by
 simp [newVar, newRow]

theorem Sim.newBox (E : Env P gl S X w0) (h : Sim S X w0 m0 st a w m) {cs : List FV} {f : Nat → Value} {t : TypeId} (h1 : ∀ j, (f j).oneCell' = true)
  (hr : ∀ j (hj : j < cs.length), RepF w (Nset S X w0.heap.size w m st.own) m (f j) cs[j]) (dst : Option Nat) :
  ∃ m', Sim S X w0 m0 ((st.addOwn (.box cs)).put dst (.box st.own.length 0)) (a.put dst (.pointer (some ⟨w.heap.size, 0, none⟩))) (w.alloc (.cells (vrange cs.length f).toArray t)) m' := by
 obtain ⟨m', hs, hm, hmm, hN⟩ := h.addOwn E (v := .pointer (some ⟨w.heap.size, 0, none⟩)) (bl := .box cs) (below_alloc w (.cells (vrange cs.length f).toArray t)) rfl rfl
  (fun b hb => by simp [blk] at hb; subst hb; simp) (fun N' m' hN hm => ⟨rfl, w.heap.size, t, f, rfl, Go.heap_alloc_new w _, h1, fun j hj => (hr j hj).mono (fun b hb => heap_alloc_old w _ (Nset_lt E h hb)) hN hm⟩)
 refine ⟨m', hs.put ?_⟩
 exact .box st.own.length 0 w.heap.size (tblk_of hm rfl)

theorem wp_skip {o : Oper} {next : Act → World → Prop} {Q : Exit → Act → World → Prop}
  (h : (execOp a.eval o).run P w = .ok .skip w') (hn : next (a.put o.dst undef) w') : o.wp P a w next Q := by
 unfold Oper.wp
 rw [h]
 exact hn

theorem run_storeVar {t : TypeId} {v : Value} {g : Nat → Value} {n : Nat} (hc : v.cells = (vrange n g).toArray) (hn : n = P.cellsOf t) (hn0 : P.cellsOf t ≠ 0) (g1 : ∀ j, (g j).oneCell' = true)
  {b off : Nat} {cur : Array Value} {T : TypeId} (hg : w.heap[b]? = some (.cells cur T (0, 0))) (hle : off + n ≤ cur.size) :
  (storeVar t ⟨b, off, none⟩ v).run P w = .ok () (w.setRow b (setSeg cur.toList off (vrange n g)).toArray) := by
 obtain ⟨i, hi, hsz⟩ := cellsOf_info hn0
 have hst := run_storeCells_at P b off T (vrange n g) 0 cur w hg (by simpa using hle) (fun v hv => by
  simp only [vrange, List.mem_map] at hv
  obtain ⟨j, _, rfl⟩ := hv
  exact g1 j)
 simp only [Nat.add_zero] at hst
 have hsz' : v.cells.size = i.size := by rw [hc]; simp; omega
 have e : (storeVar t ⟨b, off, none⟩ v).run P w = (storeCells ⟨b, off, none⟩ v.cells.toList).run P w := by
  simp [storeVar, run_sizeOf hi, hsz']
 rw [e, hc]
 simpa [setSeg] using hst

theorem Sim.storeBox (h : Sim S X w0 m0 st a w m) {i off b : Nat} {cs new : List FV} {t : TypeId} {v : Value} (hi : st.own[i]? = some (.box cs)) (hb : tblk m i = some b)
  (hfc : ∃ g : Nat → Value, v.cells = (vrange new.length g).toArray ∧ (∀ j, (g j).oneCell' = true) ∧ ∀ j (hj : j < new.length), RepF w (Nset S X w0.heap.size w m st.own) m (g j) new[j])
  (hn : new.length = P.cellsOf t) (hn0 : P.cellsOf t ≠ 0) (hle : off + new.length ≤ cs.length) :
  ∃ w', (storeVar t ⟨b, off, none⟩ v).run P w = .ok () w' ∧ Sim S X w0 m0 (st.setOwn i (.box (setSeg cs off new))) a w' m := by
 obtain ⟨⟨u, ug⟩, hu, hbu⟩ := tblk_spec hb
 have hok := h.ownAt i _ _ hi rfl hu
 obtain ⟨h0, b', T, f, h9, hh, h1, hr⟩ := hok
 simp only at h0 h9 hbu
 subst h0 h9
 simp [blk] at hbu
 subst hbu
 obtain ⟨g, hg, g1, gr⟩ := hfc
 have hrun := run_storeVar (P := P) (w := w) hg hn hn0 g1 hh (off := off) (by simpa using hle)
 refine ⟨_, hrun, h.setOwn (w' := w.setRow b' _) hi rfl rfl hu (.inl rfl) rfl rfl rfl (by simp) (fun k hk => setRow_other w b' k _ hk) (fun N hN => ?_)⟩
 obtain ⟨hl, hs⟩ := setSeg_rep (off := off) hr gr hle
 refine ⟨rfl, b', T, fun j => if off ≤ j ∧ j < off + new.length then g (j - off) else f j, rfl, ?_, fun j => by dsimp only; split <;> simp [g1, h1], fun j hj => (hs j hj).mono (fun q hq => setRow_other w b' q _ (fun e => ?_)) hN (fun _ _ => id)⟩
 ·rw [setRow_heap w b' _ _ T (0, 0) hh]
  congr 2
  apply Array.ext'
  apply List.ext_getElem?
  intro q
  rw [show (vrange cs.length f).toArray.toList = vrange cs.length f from rfl, setSeg_get (by simpa using hle)]
  simp only [hl, vrange_get, List.length_map, List.length_range]
  by_cases hq : off ≤ q ∧ q < off + new.length
  ·rw [if_pos hq, if_pos (by omega), if_pos (by omega), if_pos hq]
  ·rw [if_neg hq]
   by_cases h2 : q < cs.length
   ·rw [if_pos h2, if_pos h2, if_neg hq]
   ·rw [if_neg h2, if_neg h2]
 ·subst e
  exact h.ows.out i q ⟨_, hi, rfl⟩ (mblk_of hu (.inl rfl)) hq

end
end Go.Pe

/- Rows written, made, grown. -/
namespace Go.Pe
open Go Go.RowKit

section
variable {P : Program} {gl : List (Nat × Obj)} {S X : Nat → Prop} {w0 w w' : World} {m0 m : Nat → Option MV} {st : St} {a : Act}

theorem div_ne {k k' s j j' : Nat} (hj : j < s) (hj' : j' < s) (hk : k ≠ k') : k * s + j ≠ k' * s + j' := by
 intro e
 rcases Nat.lt_or_gt_of_ne hk with h | h
 ·have : (k + 1) * s ≤ k' * s := Nat.mul_le_mul_right _ h
  rw [Nat.add_mul, Nat.one_mul] at this
  omega
 ·have : (k' + 1) * s ≤ k * s := Nat.mul_le_mul_right _ h
  rw [Nat.add_mul, Nat.one_mul] at this
  omega

theorem Sim.storeRow (h : Sim S X w0 m0 st a w m) {i k off b s nn : Nat} {e t : TypeId} {els : List PV} {v : Value} {p : PV} (hi : st.own[i]? = some (.row e s els)) (hb : tblk m i = some b)
  {g : Nat → Value} (hg : v.cells = (vrange nn g).toArray) (g1 : ∀ j, (g j).oneCell' = true)
  (hn : nn = P.cellsOf t) (hn0 : P.cellsOf t ≠ 0) (hk : k < els.length) (hle : off + nn ≤ s) (hp : p.cells.length = s)
  (hnew : ∀ j (hj : j < p.cells.length), off ≤ j → j < off + nn → Rep w (Nset S X w0.heap.size w m st.own) (g (j - off)) p.cells[j])
  (hold : ∀ j (hj : j < p.cells.length) (hj' : j < (els[k]).cells.length), ¬ (off ≤ j ∧ j < off + nn) → p.cells[j] = (els[k]).cells[j]) :
  ∃ w', (storeVar t ⟨b, k * s + off, none⟩ v).run P w = .ok () w' ∧ Sim S X w0 m0 (st.setOwn i (.row e s (els.set k p))) a w' m := by
 obtain ⟨⟨u, ug⟩, hu, hbu⟩ := tblk_spec hb
 have hok := h.ownAt i _ _ hi rfl hu
 obtain ⟨h0, xs, f, hown, hs, hx, h2, h1, hr⟩ := hok
 simp only at h0 hown hbu
 subst h0
 obtain ⟨hxl, hsh⟩ := hown
 rcases hsh with ⟨rfl, _⟩ | ⟨b', cap, cur, rfl, hb0, hh, hcap, hcm, hcs, htake⟩
 ·simp [blk] at hbu
 simp [blk] at hbu
 subst hbu
 have hin : k * s + off + nn ≤ els.length * s := by
  have := Nat.mul_le_mul_right s (show k + 1 ≤ els.length from hk)
  rw [Nat.add_mul, Nat.one_mul] at this
  omega
 have hcap' : els.length * s ≤ cap * s := Nat.mul_le_mul_right s hcap
 have hrun := run_storeVar (P := P) (w := w) hg hn hn0 g1 hh (off := k * s + off) (by omega)
 have hsetl : (setSeg cur.toList (k * s + off) (vrange nn g)).length = cur.size := by simp [setSeg]; omega
 refine ⟨_, hrun, h.setOwn (w' := w.setRow b' _) hi rfl rfl hu (.inl rfl) rfl rfl rfl (by simp) (fun q hq => setRow_other w b' q _ hq) (fun N hN => ?_)⟩
 have hNb : ∀ q, Nset S X w0.heap.size w m st.own q → (w.setRow b' (setSeg cur.toList (k * s + off) (vrange nn g)).toArray).heap[q]? = w.heap[q]? := by
  intro q hq
  refine setRow_other w b' q _ (fun e => ?_)
  subst e
  exact h.ows.out i q ⟨_, hi, rfl⟩ (mblk_of hu (.inl rfl)) hq
 have hcurx : ∀ q, q < els.length * s → cur.toList[q]? = xs[q]? := by
  intro q hq
  rw [← htake, List.getElem?_take, if_pos hq]
 refine ⟨rfl, setSeg xs (k * s + off) (vrange nn g), fun k' j => if k' = k ∧ off ≤ j ∧ j < off + nn then g (j - off) else f k' j, ⟨?_, .inr ⟨b', cap, _, by simp, hb0, setRow_heap w b' _ _ e (0, 0) hh, by simpa using hcap, hcm, by simp [setSeg] at hsetl ⊢; omega, ?_⟩⟩, hs, fun k' j hk' hj => ?_, fun k' hk' => ?_, fun k' j => by dsimp only; split <;> simp [g1, h1], fun k' hk' j hj => ?_⟩
 ·simp [setSeg, hxl]; omega
 ·apply List.ext_getElem?
  intro q
  have e1 : (setSeg cur.toList (k * s + off) (vrange nn g)).toArray.toList = setSeg cur.toList (k * s + off) (vrange nn g) := rfl
  rw [e1, List.length_set, List.getElem?_take, setSeg_get (by simp; omega), setSeg_get (by simp [hxl]; omega)]
  simp only [List.length_map, List.length_range]
  by_cases hq : k * s + off ≤ q ∧ q < k * s + off + nn
  ·rw [if_pos hq, if_pos hq, if_pos (by omega)]
  ·rw [if_neg hq, if_neg hq]
   by_cases h3 : q < els.length * s
   ·rw [if_pos h3]; exact hcurx q h3
   ·rw [if_neg h3, List.getElem?_eq_none (by omega)]
 ·simp only [List.length_set] at hk'
  rw [setSeg_get (by simp [hxl]; omega)]
  simp only [List.length_map, List.length_range]
  by_cases hc : k' = k ∧ off ≤ j ∧ j < off + nn
  ·rw [if_pos hc]
   obtain ⟨hkk, h3, h4⟩ := hc
   subst hkk
   rw [if_pos (by omega), vrange_get, if_pos (by omega)]
   congr 2
   omega
  ·rw [if_neg hc, if_neg (fun hq => ?_)]
   ·exact hx k' j hk' hj
   ·apply hc
    by_cases hkk : k' = k
    ·subst hkk; exact ⟨rfl, by omega, by omega⟩
    ·exfalso
     have := div_ne (s := s) (j := j) (j' := k' * s + j - k * s) hj (by omega) hkk
     omega
 ·simp only [List.length_set] at hk'
  rw [List.getElem_set]
  split
  ·exact hp
  ·exact h2 k' hk'
 ·simp only [List.length_set] at hk'
  by_cases hkk : k = k'
  ·subst hkk
   simp only [List.getElem_set_self] at hj ⊢
   by_cases hc : off ≤ j ∧ j < off + nn
   ·have e : (if True ∧ off ≤ j ∧ j < off + nn then g (j - off) else f k j) = g (j - off) := if_pos ⟨trivial, hc⟩
    simp only [e]
    exact (hnew j hj hc.1 hc.2).mono hNb hN
   ·have e : (if True ∧ off ≤ j ∧ j < off + nn then g (j - off) else f k j) = f k j := if_neg (fun hq => hc hq.2)
    simp only [e]
    have hj' : j < (els[k]).cells.length := by rw [h2 k hk]; omega
    rw [hold j hj hj' hc]
    exact (hr k hk j hj').mono hNb hN
  ·have e : (if k' = k ∧ off ≤ j ∧ j < off + nn then g (j - off) else f k' j) = f k' j := if_neg (fun hq => hkk hq.1.symm)
   simp only [e]
   simp only [List.getElem_set_ne hkk] at hj ⊢
   exact (hr k' hk' j hj).mono hNb hN

end
end Go.Pe

/- Rows made and grown. -/
namespace Go.Pe
open Go Go.RowKit

section
variable {P : Program} {gl : List (Nat × Obj)} {S X : Nat → Prop} {w0 w w' : World} {m0 m : Nat → Option MV} {st : St} {a : Act}

theorem run_append_own2 (w : World) (t ty e : TypeId) (i : TypeInfo) (z : Value) (size bytes : Nat) (ht : P.underlying t = some (.slice e)) (hi : P.info? e = some i) (hz : i.zero = some z)
  (hsize : i.size = size) (hby : i.bytes = bytes) (hzs : z.cells.size = size) (hsz : 0 < size)
  (v : Value) (n : Nat) (xs : List Value) (hown : w.ownsRow 0 e size v n xs)
  (a : Addr) (m c : Nat) (news : List Value) (hl : news.length = m * size) (hnews : ∀ j u, news[j]? = some u → w.cell? (a.add j) = some u) (h1 : ∀ u ∈ news, u.oneCell' = true)
  (h63 : n + m ≤ maxLen) (hbytes : (n + m) * bytes ≤ 140737488355328) :
  ∃ v' w', (Builtin.append_ #[t, t] ty #[v, .slice (some a) m c]).run P w = .ok v' w' ∧ w'.ownsRow 0 e size v' (n + m) (xs ++ news) ∧ w.grownBy w' (blk v) ∧
   (∀ b, blk v' = some b → (blk v = some b ∨ w.heap.size ≤ b) ∧ b < w'.heap.size) ∧ v'.oneCell' = true := by
 have hsmall : n + m ≤ 9223372036854775807 := by simp only [maxLen] at h63; omega
 by_cases hcase : (v = .slice none 0 0 ∧ m ≠ 0) ∨ ∃ g cap, v = .slice (some ⟨g, 0, none⟩) n cap ∧ ¬ n + m ≤ cap
 ·-- a new array
  have hbig : ∃ v' w', (Builtin.append_ #[t, t] ty #[v, .slice (some a) m c]).run P w = .ok v' w' ∧ w'.ownsRow w.heap.size e size v' (n + m) (xs ++ news) ∧ w.grownBy w' v.ownBlock := by
   rcases hcase with ⟨rfl, hm⟩ | ⟨g, cap, rfl, hroom⟩
   ·have hn : n = 0 := by
     rcases hown.2 with ⟨_, h0⟩ | ⟨g, cap, cur, h', _⟩
     ·exact h0
     ·cases h'
    subst hn
    have hx : xs = [] := List.eq_nil_of_length_eq_zero (by simpa using hown.1)
    subst hx
    obtain ⟨v', w', h1', h2', h3', _⟩ := run_append_own (P := P) w w.heap.size t ty e i z size bytes ht hi hz hsize hby hzs hsz (.slice none 0 0) 0 [] (World.ownsRow_nil w _ e size) a m c news hl hnews h1 h63 hbytes (Nat.le_refl _)
    exact ⟨v', w', h1', h2', h3'⟩
   ·subst hsize; subst hby
    rcases hown.2 with ⟨h', _⟩ | ⟨g', cap', cur, h', _, hg, hnc, hcm, hcs, htake⟩
    ·cases h'
    ·cases h'
     have holds : ∀ j u, xs[j]? = some u → w.cell? ((⟨g, 0, none⟩ : Addr).add j) = some u := hown.cells (g := g) rfl
     have hr := run_append_grow (P := P) w t ty e i z ht hi hz ⟨g, 0, none⟩ n cap xs hown.1 holds a m c news hl hnews (by omega) (by omega) (growslice_fits (by omega) hbytes)
     refine ⟨_, _, hr, ?_, ⟨rfl, rfl, rfl, by simp, fun k hk _ => Go.heap_alloc_old w.drew _ hk⟩⟩
     have hge := grownCap_ge w (n + m) cap e
     have hcm' : grownCap w (n + m) cap e ≤ maxLen := grownCap_le_maxLen w (n + m) cap e h63
     have hlen : (xs ++ news).length = (n + m) * i.size := by rw [List.length_append, hown.1, hl, Nat.add_mul]
     refine ⟨hlen, .inr ⟨w.heap.size, _, _, rfl, Nat.le_refl _, Go.heap_alloc_new w.drew _, hge, hcm', ?_, ?_⟩⟩
     ·simp only [Array.size_append, List.size_toArray, size_zeroCells, hzs, hown.1, hl, ← Nat.add_mul]
      congr 1
      omega
     ·simp only [Array.toList_append, List.append_assoc]
      rw [← List.append_assoc, ← hlen]
      exact List.take_left
  obtain ⟨v', w', hr, ho, hg⟩ := hbig
  have hvb : blk v = v.ownBlock := by
   rcases hcase with ⟨rfl, _⟩ | ⟨g, cap, rfl, _⟩ <;> rfl
  rcases ho.2 with ⟨rfl, h0⟩ | ⟨g, cap, cur, rfl, hbg, hgg, hrest⟩
  ·exact ⟨_, w', hr, ⟨ho.1, .inl ⟨rfl, h0⟩⟩, by rw [hvb]; exact hg, fun b hb => by simp [blk] at hb, rfl⟩
  ·have hglt := (Array.getElem?_eq_some_iff.1 hgg).1
   refine ⟨_, w', hr, ⟨ho.1, .inr ⟨g, cap, cur, rfl, Nat.zero_le _, hgg, hrest⟩⟩, by rw [hvb]; exact hg, fun b hb => ?_, rfl⟩
   simp [blk] at hb
   subst hb
   exact ⟨.inr hbg, hglt⟩
 ·-- in place
  rcases hown.2 with ⟨rfl, hn⟩ | ⟨g, cap, cur, rfl, hb0, hg, hnc, hcm, hcs, htake⟩
  ·have hm : m = 0 := Classical.byContradiction fun h => hcase (.inl ⟨rfl, h⟩)
   subst hm; subst hn
   have hn0 : news = [] := List.eq_nil_of_length_eq_zero (by simpa using hl)
   have hx : xs = [] := List.eq_nil_of_length_eq_zero (by simpa using hown.1)
   subst hn0; subst hx
   refine ⟨.slice none 0 0, w, ?_, World.ownsRow_nil w 0 e size, ⟨rfl, rfl, rfl, Nat.le_refl _, fun _ _ _ => rfl⟩, fun b hb => by simp [blk] at hb, rfl⟩
   simp [Builtin.append_, run_underlying ht, sizeOf, typeInfo, hi, Builtin.lenOf, Builtin.firstCells, loadCells, loadCellsFrom]
  ·have hroom : n + m ≤ cap := Classical.byContradiction fun h => hcase (.inr ⟨g, cap, rfl, h⟩)
   subst hsize; subst hby
   have hlen : (xs ++ news).length = (n + m) * i.size := by rw [List.length_append, hown.1, hl, Nat.add_mul]
   have hfit : n * i.size + news.length ≤ cur.size := by rw [hl, hcs, ← Nat.add_mul]; exact Nat.mul_le_mul_right _ hroom
   have hr := run_append_room (P := P) w t ty e i ht hi g n cap cur hg a m c news hl hnews h1 hroom hfit
   refine ⟨_, _, hr, ⟨hlen, .inr ⟨g, cap, _, rfl, hb0, setRow_heap w g cur _ e _ hg, hroom, hcm, ?_, ?_⟩⟩, ⟨rfl, rfl, rfl, by simp, fun k _ hk => setRow_other w g k _ (fun e => hk (by simp [blk, e]))⟩, fun b hb => ?_, rfl⟩
   ·simp only [List.size_toArray, List.length_append, List.length_take, List.length_drop, Array.length_toList]
    omega
   ·rw [htake, ← hlen]
    exact List.take_left
   ·simp only [blk, Option.some.injEq] at hb
    subst hb
    exact ⟨.inl rfl, by simpa using (Array.getElem?_eq_some_iff.1 hg).1⟩

theorem append_none (w : World) (t ty e : TypeId) (i : TypeInfo) (size c : Nat) (ht : P.underlying t = some (.slice e)) (hi : P.info? e = some i)
  (v : Value) (n : Nat) (xs : List Value) (hown : w.ownsRow 0 e size v n xs) : (Builtin.append_ #[t, t] ty #[v, .slice none 0 c]).run P w = .ok v w := by
 rcases hown.2 with ⟨rfl, rfl⟩ | ⟨g, cap, cur, rfl, _, _, hnc, _⟩
 ·simp [Builtin.append_, run_underlying ht, sizeOf, typeInfo, hi, Builtin.lenOf, Builtin.firstCells]
 ·simp [Builtin.append_, run_underlying ht, sizeOf, typeInfo, hi, Builtin.lenOf, Builtin.firstCells, hnc, storeCells]

end
end Go.Pe

/- Appending zeros to a row of one's own. -/
namespace Go.Pe
open Go Go.RowKit

section
variable {P : Program}

theorem run_append_zeros (w : World) (t t' ty e : TypeId) (i : TypeInfo) (z : Value) (bytes : Nat) (ht : P.underlying t = some (.slice e)) (ht' : P.underlying t' = some (.int .i64)) (hi : P.info? e = some i) (hz : i.zero = some z)
  (hby : i.bytes = bytes) (hzs : z.cells.size = i.size) (hsz : 0 < i.size) (k : Nat) (hz1 : ∀ u ∈ (Builtin.zeroCells z.cells k).toList, u.oneCell' = true)
  (v : Value) (n : Nat) (xs : List Value) (hown : w.ownsRow 0 e i.size v n xs) (h63 : n + k ≤ 1000000000) (hbytes : bytes ≤ 1000) :
  ∃ v' w', (Builtin.append_ #[t, t'] ty #[v, .int .i64 k]).run P w = .ok v' w' ∧ w'.ownsRow 0 e i.size v' (n + k) (xs ++ (Builtin.zeroCells z.cells k).toList) ∧ w.grownBy w' (blk v) ∧
   (∀ b, blk v' = some b → (blk v = some b ∨ w.heap.size ≤ b) ∧ b < w'.heap.size) ∧ v'.oneCell' = true := by
 have hwrap : IntKind.i64.wrap (k : Int) = k := by rw [IntKind.wrap_i64]; omega
 have h48 : ¬ (281474976710656 < (k : Int) * (i.bytes : Int)) := by
  have : k * i.bytes ≤ 1000000000 * 1000 := Nat.mul_le_mul (by omega) (by omega)
  omega
 have hk0 : ¬ ((k : Int) < 0) := by omega
 have hlz : (Builtin.zeroCells z.cells k).toList.length = k * i.size := by rw [Array.length_toList, size_zeroCells, hzs]
 rcases hown.2 with ⟨rfl, hn⟩ | ⟨g, cap, cur, rfl, hb0, hg, hnc, hcm, hcs, htake⟩
 ·subst hn
  have hx : xs = [] := List.eq_nil_of_length_eq_zero (by simpa using hown.1)
  subst hx
  by_cases hk : k = 0
  ·subst hk
   refine ⟨.slice none 0 0, w, ?_, ?_, ⟨rfl, rfl, rfl, Nat.le_refl _, fun _ _ _ => rfl⟩, fun b hb => by simp [blk] at hb, rfl⟩
   ·simp [Builtin.append_, run_underlying ht, run_underlying ht', sizeOf, typeInfo, hi, asInt, asIntOf, hwrap, h48, show IntKind.i64.wrap 0 = 0 from rfl]
   ·have := World.ownsRow_nil w 0 e i.size
    have e0 : (Builtin.zeroCells z.cells 0).toList = [] := List.eq_nil_of_length_eq_zero (by rw [hlz]; simp)
    rw [e0]; exact this
  ·have hks : ¬ (k * i.size = 0) := by
    intro h
    rcases Nat.mul_eq_zero.1 h with h | h <;> omega
   have hcap := grownCap_ge w k 0 e
   have hcm := grownCap_le_maxLen w k 0 e (by simp only [maxLen]; omega)
   have hfit : ¬ (281474976710656 < Builtin.nextslicecap k 0 * i.bytes) := by
    have := growslice_fits (need := k) (old := 0) (bytes := i.bytes) (by omega) (by
     have : k * i.bytes ≤ 1000000000 * 1000 := Nat.mul_le_mul (by omega) (by omega)
     omega)
    omega
   refine ⟨.slice (some ⟨w.heap.size, 0, none⟩) (0 + k) (grownCap w k 0 e), w.drew.alloc (.cells (Builtin.zeroCells z.cells k ++ Builtin.zeroCells z.cells (grownCap w k 0 e - k)) e), ?_, ?_, ⟨rfl, rfl, rfl, by simp, fun q hq _ => Go.heap_alloc_old w.drew _ hq⟩, fun b hb => ?_, rfl⟩
   ·have h63' : ¬ (9223372036854775807 < (k : Int)) := by omega
    simp [Builtin.append_, run_underlying ht, run_underlying ht', sizeOf, typeInfo, hi, asInt, asIntOf, hwrap, h48, hk0, hk, hks, h63', hfit, Question.forced, run_firstCells_none, newRow, grownCap, zeroValue, hz]
   ·refine ⟨by rw [List.nil_append, hlz]; simp, .inr ⟨w.heap.size, _, _, rfl, Nat.zero_le _, Go.heap_alloc_new w.drew _, by omega, hcm, ?_, ?_⟩⟩
    ·simp only [Array.size_append, size_zeroCells, hzs, ← Nat.add_mul]
     congr 1
     omega
    ·simp only [Array.toList_append, List.nil_append]
     rw [show (0 + k) * i.size = (Builtin.zeroCells z.cells k).toList.length by rw [hlz]; simp]
     exact List.take_left
   ·simp only [blk, Option.some.injEq] at hb
    subst hb
    exact ⟨.inr (Nat.le_refl _), by simp⟩
 ·have hst := fun (h : n * i.size + (Builtin.zeroCells z.cells k).toList.length ≤ cur.size) (h1 : ∀ u ∈ (Builtin.zeroCells z.cells k).toList, u.oneCell' = true) => run_storeCells_at P g (n * i.size) e (Builtin.zeroCells z.cells k).toList 0 cur w hg (by simpa using h) h1
  by_cases hroom : n + k ≤ cap
  ·have hfit : n * i.size + (Builtin.zeroCells z.cells k).toList.length ≤ cur.size := by rw [hlz, hcs, ← Nat.add_mul]; exact Nat.mul_le_mul_right _ hroom
   have hst' := hst hfit hz1
   simp only [Nat.add_zero] at hst'
   refine ⟨.slice (some ⟨g, 0, none⟩) (n + k) cap, w.setRow g (cur.toList.take (n * i.size) ++ (Builtin.zeroCells z.cells k).toList ++ cur.toList.drop (n * i.size + (Builtin.zeroCells z.cells k).toList.length)).toArray, ?_, ?_, ⟨rfl, rfl, rfl, by simp, fun q _ hq => setRow_other w g q _ (fun e => hq (by simp [blk, e]))⟩, fun b hb => ?_, rfl⟩
   ·by_cases hks : k * i.size = 0
    ·have e0 : (Builtin.zeroCells z.cells k).toList = [] := List.eq_nil_of_length_eq_zero (by rw [hlz]; exact hks)
     rw [e0] at hst' ⊢
     simp [Builtin.append_, run_underlying ht, run_underlying ht', sizeOf, typeInfo, hi, asInt, asIntOf, hwrap, h48, hk0, hroom, hks, Addr.add_lit, hst']
    ·simp [Builtin.append_, run_underlying ht, run_underlying ht', sizeOf, typeInfo, hi, asInt, asIntOf, hwrap, h48, hk0, hroom, hks, Addr.add_lit, hst', zeroValue, hz]
   ·refine ⟨by rw [List.length_append, hown.1, hlz, Nat.add_mul], .inr ⟨g, cap, _, rfl, hb0, setRow_heap w g cur _ e _ hg, hroom, hcm, ?_, ?_⟩⟩
    ·simp only [List.size_toArray, List.length_append, List.length_take, List.length_drop, Array.length_toList]
     simp only [Array.length_toList] at hfit
     omega
    ·rw [htake, show (n + k) * i.size = (xs ++ (Builtin.zeroCells z.cells k).toList).length by rw [List.length_append, hown.1, hlz, Nat.add_mul]]
     exact List.take_left
   ·simp only [blk, Option.some.injEq] at hb
    subst hb
    exact ⟨.inl rfl, by simpa using (Array.getElem?_eq_some_iff.1 hg).1⟩
  ·have holds : ∀ j u, xs[j]? = some u → w.cell? ((⟨g, 0, none⟩ : Addr).add j) = some u := hown.cells (g := g) rfl
   have hfo := run_firstCells_some (P := P) w.drew i.size n ⟨g, 0, none⟩ n cap xs hown.1 (by simpa using holds)
   have hkp : k ≠ 0 := by omega
   have hks : ¬ (k * i.size = 0) := by
    intro h
    rcases Nat.mul_eq_zero.1 h with h | h <;> omega
   have hcap := grownCap_ge w (n + k) cap e
   have hcm' := grownCap_le_maxLen w (n + k) cap e (by simp only [maxLen]; omega)
   have hfit : ¬ (281474976710656 < Builtin.nextslicecap (n + k) cap * i.bytes) := by
    have := growslice_fits (need := n + k) (old := cap) (bytes := i.bytes) (by omega) (by
     have : (n + k) * i.bytes ≤ 1000000000 * 1000 := Nat.mul_le_mul h63 (by omega)
     omega)
    omega
   refine ⟨.slice (some ⟨w.heap.size, 0, none⟩) (n + k) (grownCap w (n + k) cap e), w.drew.alloc (.cells (xs.toArray ++ Builtin.zeroCells z.cells k ++ Builtin.zeroCells z.cells (grownCap w (n + k) cap e - (n + k))) e), ?_, ?_, ⟨rfl, rfl, rfl, by simp, fun q hq _ => Go.heap_alloc_old w.drew _ hq⟩, fun b hb => ?_, rfl⟩
   ·have h63' : ¬ (9223372036854775807 < ((n : Int) + (k : Int))) := by omega
    simp [Builtin.append_, run_underlying ht, run_underlying ht', sizeOf, typeInfo, hi, asInt, asIntOf, hwrap, h48, hk0, hroom, hks, h63', hfit, Question.forced, hfo, newRow, grownCap, zeroValue, hz]
   ·refine ⟨by rw [List.length_append, hown.1, hlz, Nat.add_mul], .inr ⟨w.heap.size, _, _, rfl, Nat.zero_le _, Go.heap_alloc_new w.drew _, hcap, hcm', ?_, ?_⟩⟩
    ·simp only [Array.size_append, List.size_toArray, size_zeroCells, hzs, hown.1, ← Nat.add_mul]
     congr 1
     omega
    ·simp only [Array.toList_append, List.append_assoc]
     rw [← List.append_assoc, show (n + k) * i.size = (xs ++ (Builtin.zeroCells z.cells k).toList).length by rw [List.length_append, hown.1, hlz, Nat.add_mul]]
     exact List.take_left
   ·simp only [blk, Option.some.injEq] at hb
    subst hb
    exact ⟨.inr (Nat.le_refl _), by simp⟩

end
end Go.Pe

/- Operations that make and write memory are met by the machine. -/
namespace Go.Pe
open Go Go.RowKit

section
variable {P : Program} {gl : List (Nat × Obj)} {S X : Nat → Prop} {w0 w w' : World} {m0 m : Nat → Option MV} {st : St} {a : Act}

theorem row_append {w' : World} {N : Nat → Prop} {e : TypeId} {s : Nat} {els new : List PV} {v' : Value} {xs news : List Value} {f g : Nat → Nat → Value} (hs : 0 < s)
  (hown : w'.ownsRow 0 e s v' (els.length + new.length) (xs ++ news)) (hxl : xs.length = els.length * s)
  (hx : ∀ k j, k < els.length → j < s → xs[k * s + j]? = some (f k j)) (h2 : ∀ k (hk : k < els.length), (els[k]).cells.length = s) (h1 : ∀ k j, (f k j).oneCell' = true)
  (hr : ∀ k (hk : k < els.length) j (hj : j < (els[k]).cells.length), Rep w' N (f k j) ((els[k]).cells[j]))
  (hn : ∀ k j, k < new.length → j < s → news[k * s + j]? = some (g k j)) (hok : ∀ p ∈ new, okEl s p) (g1 : ∀ k j, (g k j).oneCell' = true)
  (gr : ∀ k (hk : k < new.length) j (hj : j < (new[k]).cells.length), Rep w' N (g k j) ((new[k]).cells[j])) : RowOk w' N v' e s (els ++ new) := by
 refine ⟨xs ++ news, fun k j => if k < els.length then f k j else g (k - els.length) j, by simpa using hown, hs, fun k j hk hj => ?_, fun k hk => ?_, fun k j => by dsimp only; split <;> simp [h1, g1], fun k hk j hj => ?_⟩
 ·simp only [List.length_append] at hk
  rw [List.getElem?_append, hxl]
  by_cases hkk : k < els.length
  ·rw [if_pos (mul_lt hkk hj)]
   simp only [hkk, if_true]
   exact hx k j hkk hj
  ·have hle : els.length * s ≤ k * s := Nat.mul_le_mul_right _ (by omega)
   rw [if_neg (by omega)]
   simp only [hkk, if_false]
   have := hn (k - els.length) j (by omega) hj
   rw [← this]
   congr 1
   rw [Nat.sub_mul]
   omega
 ·simp only [List.length_append] at hk
  rw [List.getElem_append]
  split
  ·exact h2 k _
  ·exact (hok _ (List.getElem_mem _)).1
 ·simp only [List.length_append] at hk
  by_cases hkk : k < els.length
  ·simp only [hkk, if_true]
   simp only [List.getElem_append_left hkk] at hj ⊢
   exact hr k hkk j hj
  ·simp only [hkk, if_false]
   have hkk' : els.length ≤ k := by omega
   simp only [List.getElem_append_right hkk'] at hj ⊢
   exact gr (k - els.length) (by omega) j hj

theorem append_ok (E : Env P gl S X w0) (h : Sim S X w0 m0 st a w m) {t e : TypeId} {o : Oper} {s x : Operand}
  (ho : o.op = .call { callee := .builtin .append, args := #[s, x], argTypes := #[t, t] }) (he : elemT P t = some e) {K : FV → St → Prop}
  (hcs : condOk none (st.ev s)) (hcx : condOk none (st.ev x))
  (hv : appendVC P st e (strip (st.ev s)) (strip (st.ev x)) K) {next : Act → World → Prop} {Q : Exit → Act → World → Prop}
  (hn : ∀ v fv st' w' m', Sim S X w0 m0 st' a w' m' → RepF w' (Nset S X w0.heap.size w' m' st'.own) m' v fv → K fv st' → next (a.put o.dst v) w') : o.wp P a w next Q := by
 obtain ⟨hu, hne⟩ := elemT_spec he
 have hs0 : 0 < P.cellsOf e := Nat.pos_of_ne_zero hne
 have hsrep := strip_rep (h.evs s) hcs
 have hxrep := strip_rep (h.evs x) hcx
 unfold appendVC at hv
 split at hv
 ·rename_i new hsrc
  obtain ⟨hok, hv⟩ := hv
  have hS := src_spec hs0 h.ownAt hxrep hsrc hok
  split at hv
  ·-- onto a row of one's own
   rename_i i hsi
   split at hv
   ·rename_i e' s' els hi
    split at hv
    ·rename_i hc
     obtain ⟨rfl, rfl, hk0, hself, hby, hz⟩ := hc
     obtain ⟨hlen, hK⟩ := hv
     obtain ⟨ti, z, hti, hzz⟩ := zero_info hz
     have hzf := E.zf e' hz
     have hzs : z.cells.size = P.cellsOf e' := by
      unfold zeroFits at hzf
      simp [hti, hzz] at hzf
      rw [hzf]; simp [Program.cellsOf, hti]
     have htsz : ti.size = P.cellsOf e' := by simp [Program.cellsOf, hti]
     rw [hsi] at hsrep
     generalize hav : a.eval s = av at hsrep
     cases hsrep with | own _ vp hvi =>
     obtain ⟨av, ag⟩ := vp
     have hd := h.drop i
     have hdi : (st.drop i).own[i]? = some (.row e' (P.cellsOf e') els) := by simp [St.drop, List.getElem?_map, hi, dropB]
     have hNsame : ∀ q, Nset S X w0.heap.size w m st.own q → Nset S X w0.heap.size w m (st.drop i).own q := by
      rintro q (hq | ⟨q1, q2, q3⟩)
      ·exact .inl hq
      ·refine .inr ⟨q1, q2, fun j hj => q3 j ?_⟩
       obtain ⟨b, hb, hl⟩ := hj
       obtain ⟨b0, h0, rfl⟩ := map_own_get hb
       exact ⟨b0, h0, by cases b0 <;> first | exact hl | rfl⟩
     obtain ⟨h00, xs, f, hown, hsp, hx, h2, h1, hr⟩ := h.ownAt i _ _ hi rfl hvi
     simp only at h00 hown hav
     subst h00
     have finish : ∀ v' w1, (Builtin.append_ #[t, t] o.type #[av, a.eval x]).run P w = .ok v' w1 → w.grownBy w1 (blk av) →
       (∀ b, blk v' = some b → (blk av = some b ∨ w.heap.size ≤ b) ∧ b < w1.heap.size) → v'.oneCell' = true →
       (∀ (N' : Nat → Prop) (m' : Nat → Option MV), (∀ b, Nset S X w0.heap.size w m st.own b → N' b) → RowOk w1 N' v' e' (P.cellsOf e') (els ++ new)) → o.wp P a w next Q := by
      intro v' w1 hrun hg hb hv1 hokr
      obtain ⟨m', hs', hmi⟩ := hd.moveOwn E (v' := v') (bl' := .row e' (P.cellsOf e') (els ++ new)) hdi rfl rfl hvi hk0 (drop_get i) (drop_cont i) hg hb hv1 (fun N' m' hN' => ⟨rfl, hokr N' m' (fun b hb' => hN' b (hNsame b hb'))⟩)
      refine wp_value' (v := v') (w' := w1) (by simp [execOp, ho, resolve, invoke, builtin, hav, hrun]) (hn v' _ _ w1 m' hs' ?_ hK)
      exact .own i (v', []) hmi
     have hNb : ∀ w1, w.grownBy w1 (blk av) → ∀ q, Nset S X w0.heap.size w m st.own q → w1.heap[q]? = w.heap[q]? := by
      intro w1 hg q hq
      refine hg.block q (Nset_lt E h hq) fun e => ?_
      exact h.ows.out i q ⟨_, hi, rfl⟩ (mblk_of hvi (.inl e.symm)) hq
     rcases hS with ⟨c, hxv, rfl⟩ | ⟨ad, c, news, g, hxv, hnl, hnc, hn1, hng, g1, gr⟩
     ·refine finish av w (by rw [hxv]; exact append_none w t o.type e' ti _ c hu hti av els.length xs hown) ⟨rfl, rfl, rfl, Nat.le_refl _, fun _ _ _ => rfl⟩ (fun b hb => ⟨.inl hb, h.ows.lt i b ⟨_, hi, rfl⟩ (mblk_of hvi (.inl hb))⟩) (h.ows.len i _ hvi).2.1 (fun N' m' hN' => ?_)
      simp only [List.append_nil]
      exact RowOk.mono (h.ownAt i _ _ hi rfl hvi).2 (fun _ _ => rfl) hN' (fun _ _ => rfl)
     ·obtain ⟨v', w1, hrun, how, hg, hb, hv1⟩ := run_append_own2 (P := P) w t o.type e' ti z (P.cellsOf e') (P.bytesOf e') hu hti hzz htsz (bytes_info hti) hzs hs0 av els.length xs hown ad new.length c news hnl hnc hn1
       (by simp only [maxLen]; omega) (by
        have : (els.length + new.length) * P.bytesOf e' ≤ 1000000000 * 1000 := Nat.mul_le_mul hlen hby
        omega)
      refine finish v' w1 (by rw [hxv]; exact hrun) hg hb hv1 (fun N' m' hN' => ?_)
      exact row_append hs0 how hown.1 hx h2 h1 (fun k hk j hj => (hr k hk j hj).mono (hNb w1 hg) hN') hng hok g1 (fun k hk j hj => (gr k hk j hj).mono (hNb w1 hg) hN')
    ·exact hv.elim
   ·exact hv.elim
  ·-- onto nil
   rename_i hsi
   split at hv
   ·rename_i hc
    obtain ⟨hby, hz⟩ := hc
    obtain ⟨hlen, hK⟩ := hv
    obtain ⟨ti, z, hti, hzz⟩ := zero_info hz
    have hzf := E.zf e hz
    have hzs : z.cells.size = P.cellsOf e := by
     unfold zeroFits at hzf
     simp [hti, hzz] at hzf
     rw [hzf]; simp [Program.cellsOf, hti]
    have htsz : ti.size = P.cellsOf e := by simp [Program.cellsOf, hti]
    rw [hsi] at hsrep
    have hav := hsrep.valInv
    have finish : ∀ v' w1, (Builtin.append_ #[t, t] o.type #[.slice none 0 0, a.eval x]).run P w = .ok v' w1 → Below w.heap.size w w1 →
      (∀ b, blk v' = some b → w.heap.size ≤ b ∧ b < w1.heap.size) → v'.oneCell' = true →
      (∀ (N' : Nat → Prop) (m' : Nat → Option MV), (∀ b, Nset S X w0.heap.size w m st.own b → N' b) → RowOk w1 N' v' e (P.cellsOf e) new) → o.wp P a w next Q := by
     intro v' w1 hrun hg hb hv1 hokr
     obtain ⟨m', hs', hmi, hmm, hN⟩ := h.addOwn E (v := v') (bl := .row e (P.cellsOf e) new) hg rfl hv1 hb (fun N' m' hN' _ => ⟨rfl, hokr N' m' hN'⟩)
     refine wp_value' (v := v') (w' := w1) (by simp [execOp, ho, resolve, invoke, builtin, hav, hrun]) (hn v' _ _ w1 m' hs' ?_ hK)
     exact .own _ (v', []) hmi
    have hown0 := World.ownsRow_nil w 0 e (P.cellsOf e)
    rcases hS with ⟨c, hxv, rfl⟩ | ⟨ad, c, news, g, hxv, hnl, hnc, hn1, hng, g1, gr⟩
    ·refine finish (.slice none 0 0) w (by rw [hxv]; exact append_none w t o.type e ti _ c hu hti _ 0 [] hown0) (Below.refl _ _) (fun b hb => by simp [blk] at hb) rfl (fun N' m' hN' => ?_)
     exact ⟨[], fun _ _ => .bool false, hown0, hs0, fun k j hk => by simp at hk, fun k hk => by simp at hk, fun _ _ => rfl, fun k hk => by simp at hk⟩
    ·obtain ⟨v', w1, hrun, how, hg, hb, hv1⟩ := run_append_own2 (P := P) w t o.type e ti z (P.cellsOf e) (P.bytesOf e) hu hti hzz htsz (bytes_info hti) hzs hs0 (.slice none 0 0) 0 [] hown0 ad new.length c news hnl hnc hn1
      (by simp only [maxLen]; omega) (by
       have : (0 + new.length) * P.bytesOf e ≤ 1000000000 * 1000 := Nat.mul_le_mul (by omega) hby
       omega)
     have hbel : Below w.heap.size w w1 := ⟨hg.os, hg.tape, hg.output, hg.size, fun k hk => hg.block k hk (by simp [blk])⟩
     refine finish v' w1 (by rw [hxv]; exact hrun) hbel (fun b hb' => ?_) hv1 (fun N' m' hN' => ?_)
     ·have := hb b hb'
      simp [blk] at this
      exact ⟨this.1, this.2⟩
     ·have := row_append (N := N') (els := []) (xs := []) (f := fun _ _ => .bool false) hs0 (by simpa using how) (by simp) (fun k j hk => by simp at hk) (fun k hk => by simp at hk) (fun _ _ => rfl) (fun k hk => by simp at hk) hng hok g1
       (fun k hk j hj => (gr k hk j hj).mono (fun b hb' => hbel.block b (Nset_lt E h hb')) hN')
      simpa using this
   ·exact hv.elim
  ·exact hv.elim
 ·exact hv.elim

end
end Go.Pe

/- A row of one's own that is cut; zeros appended to one. -/
namespace Go.Pe
open Go Go.RowKit

section
variable {P : Program} {gl : List (Nat × Obj)} {S X : Nat → Prop} {w0 w w' : World} {m0 m : Nat → Option MV} {st : St} {a : Act}

theorem Sim.moveNew (E : Env P gl S X w0) (h : Sim S X w0 m0 st a w m) {i : Nat} {v v' : MV} {bl bl' : Blk} (hi : st.own[i]? = some bl) (hl : bl.live = true) (hv : m i = some v)
  (hblk : ∀ b, hasB v' b → hasB v b) (hv1 : v'.1.oneCell' = true ∧ ∀ u, u ∈ v'.2 → u.oneCell' = true) (hok : ∀ (N' : Nat → Prop) (m' : Nat → Option MV), (∀ b, Nset S X w0.heap.size w m st.own b → N' b) → OwnOk w N' m' v' bl') :
  ∃ m', Sim S X w0 m0 { st with own := st.own.set i .gone ++ [bl'] } a w m' ∧ m' st.own.length = some v' := by
 have hlt : i < st.own.length := (List.getElem?_eq_some_iff.1 hi).1
 let m' : Nat → Option MV := fun j => if j = st.own.length then some v' else m j
 have hm : ∀ j u, m j = some u → m' j = some u := by
  intro j u hu
  have := (h.ows.len j u hu).1
  simp only [m']
  rw [if_neg (by omega)]
  exact hu
 have hmo : ∀ j, j ≠ st.own.length → mblk m' j = mblk m j := by
  intro j hj
  unfold mblk
  simp only [m']
  rw [if_neg hj]
 have hmL : ∀ b, mblk m' st.own.length b → mblk m i b := by
  intro b hb
  obtain ⟨u, hu, hb⟩ := hb
  simp only [m', if_true, Option.some.injEq] at hu
  subst hu
  exact mblk_of hv (hblk b hb)
 have hlvi : lives st.own i := ⟨bl, hi, hl⟩
 have hget : ∀ (j : Nat) (b : Blk), (st.own.set i .gone ++ [bl'])[j]? = some b → b.live = true → (j < st.own.length ∧ j ≠ i ∧ st.own[j]? = some b) ∨ (j = st.own.length ∧ b = bl') := by
  intro j b hb hbl
  rw [List.getElem?_append] at hb
  split at hb
  ·rename_i hj
   rw [List.length_set] at hj
   by_cases hji : i = j
   ·subst hji
    rw [List.getElem?_set_self hlt] at hb
    cases hb; cases hbl
   ·rw [List.getElem?_set_ne hji] at hb
    exact .inl ⟨hj, fun e => hji e.symm, hb⟩
  ·rename_i hj
   rw [List.length_set] at hj hb
   by_cases hj0 : j = st.own.length
   ·subst hj0
    simp at hb
    exact .inr ⟨rfl, hb.symm⟩
   ·rw [List.getElem?_eq_none (by simp; omega)] at hb; cases hb
 have hlv : ∀ j, lives (st.own.set i .gone ++ [bl']) j → (j < st.own.length ∧ j ≠ i ∧ lives st.own j) ∨ j = st.own.length := by
  rintro j ⟨b, hb, hbl⟩
  rcases hget j b hb hbl with ⟨h1, h2, h3⟩ | ⟨h1, _⟩
  ·exact .inl ⟨h1, h2, b, h3, hbl⟩
  ·exact .inr h1
 have hmb : ∀ j b, lives (st.own.set i .gone ++ [bl']) j → mblk m' j b → ∃ j0, lives st.own j0 ∧ mblk m j0 b ∧ (j0 = j ∨ (j0 = i ∧ j = st.own.length)) := by
  intro j b hj hb
  rcases hlv j hj with ⟨h1, h2, h3⟩ | rfl
  ·rw [hmo j (by omega)] at hb
   exact ⟨j, h3, hb, .inl rfl⟩
  ·exact ⟨i, hlvi, hmL b hb, .inr ⟨rfl, rfl⟩⟩
 have hN : ∀ q, Nset S X w0.heap.size w m st.own q → Nset S X w0.heap.size w m' (st.own.set i .gone ++ [bl']) q := by
  rintro q (hq | ⟨h1, h2, h3⟩)
  ·exact .inl hq
  ·refine .inr ⟨h1, h2, fun j hj hmj => ?_⟩
   obtain ⟨j0, g1, g2, _⟩ := hmb j q hj hmj
   exact h3 j0 g1 g2
 refine ⟨m', ⟨h.bel, ⟨fun j u hu => ?_, fun j b hb hbl => ?_, fun j k b hne hj hk hbj hbk => ?_, fun j b hj hbj => ?_, fun j b hj hbj hNb => ?_⟩, fun j b hj hbj => ?_, fun j hj => ?_, ?_, h.nt, h.df, fun t => ?_⟩, ?_⟩
 ·simp only [m'] at hu
  simp only [List.length_append, List.length_set, List.length_singleton]
  split at hu
  ·rename_i he; cases hu; exact ⟨by omega, hv1⟩
  ·have := h.ows.len j u hu; exact ⟨by omega, this.2⟩
 ·rcases hget j b hb hbl with ⟨h1, h2, h3⟩ | ⟨rfl, rfl⟩
  ·obtain ⟨u, hu, hok'⟩ := h.ows.ok j b h3 hbl
   exact ⟨u, hm j u hu, hok'.mono (fun _ _ => rfl) hN hm (fun _ _ => rfl)⟩
  ·exact ⟨v', by simp only [m', if_true], hok _ _ hN⟩
 ·obtain ⟨j0, g1, g2, g3⟩ := hmb j b hj hbj
  obtain ⟨k0, e1, e2, e3⟩ := hmb k b hk hbk
  by_cases hjk : j0 = k0
  ·subst hjk
   rcases g3 with rfl | ⟨rfl, rfl⟩ <;> rcases e3 with rfl | ⟨e4, rfl⟩
   ·exact hne rfl
   ·subst e4
    rcases hlv j0 hj with ⟨_, h2, _⟩ | h2
    ·exact h2 rfl
    ·omega
   ·rcases hlv j0 hk with ⟨_, h2, _⟩ | h2
    ·exact h2 rfl
    ·omega
   ·exact hne rfl
  ·exact h.ows.sep j0 k0 b hjk g1 e1 g2 e2
 ·obtain ⟨j0, g1, g2, _⟩ := hmb j b hj hbj
  exact h.ows.lt j0 b g1 g2
 ·rcases hNb with hS | ⟨_, _, h3⟩
  ·obtain ⟨j0, g1, g2, _⟩ := hmb j b hj hbj
   exact h.ows.out j0 b g1 g2 (.inl hS)
  ·exact h3 j hj hbj
 ·obtain ⟨j0, g1, g2, _⟩ := hmb j b hj hbj
  exact h.bnd j0 b g1 g2
 ·have := h.k0
  simp only [m']
  rw [if_neg (by simp only at hj; omega)]
  exact h.fix j hj
 ·have := h.k0
  simp only [List.length_append, List.length_set, List.length_singleton]
  omega
 ·exact (h.slots t).mono (fun _ _ => rfl) hN hm
 ·simp only [m', if_true]

theorem cutOwn_ok (E : Env P gl S X w0) (h : Sim S X w0 m0 st a w m) {t : TypeId} {o : Oper} {x q : Operand} (ho : o.op = .slice t x none (some q) none) {i : Nat} {k : IntKind} {hh : Int}
  (hx : RepF w (Nset S X w0.heap.size w m st.own) m (a.eval x) (.own i)) (hq : a.eval q = .int k hh) {K : FV → St → Prop} (hv : cutOwn P st t i hh K) {next : Act → World → Prop} {Q : Exit → Act → World → Prop}
  (hn : ∀ v fv st' w' m', Sim S X w0 m0 st' a w' m' → RepF w' (Nset S X w0.heap.size w' m' st'.own) m' v fv → K fv st' → next (a.put o.dst v) w') : o.wp P a w next Q := by
 unfold cutOwn at hv
 split at hv
 ·rename_i e s els e' hi he
  split at hv
  ·rename_i hee
   subst hee
   obtain ⟨h0, h1, hK⟩ := hv
   generalize hav : a.eval x = av at hx
   cases hx with | own _ vp hvi =>
   obtain ⟨av, ag⟩ := vp
   obtain ⟨n, rfl⟩ : ∃ n : Nat, hh = n := ⟨hh.toNat, by omega⟩
   obtain ⟨h00, xs, f, hown, hs0, hxs, hcl, h1c, hr⟩ := h.ownAt i _ _ hi rfl hvi
   simp only at h00 hown hav
   subst h00
   have hnl : n ≤ els.length := by omega
   have fin : ∀ v', (Instr.sliceAt t av none (some (.int k n)) none).run P w = .ok v' w → (∀ b, blk v' = some b → blk av = some b) → v'.oneCell' = true → w.ownsRow 0 e s v' n (xs.take (n * s)) → o.wp P a w next Q := by
    intro v' hrun hb hv1 how
    have hokn : ∀ (N' : Nat → Prop) (m' : Nat → Option MV), (∀ b, Nset S X w0.heap.size w m st.own b → N' b) → OwnOk w N' m' (v', []) (.row e s (els.take n)) := by
     intro N' m' hN'
     have hlt : (els.take n).length = n := by rw [List.length_take]; omega
     refine ⟨rfl, xs.take (n * s), f, by rw [hlt]; exact how, hs0, fun k' j hk hj => ?_, fun k' hk => ?_, h1c, fun k' hk j hj => ?_⟩
     ·rw [hlt] at hk
      rw [List.getElem?_take, if_pos (mul_lt hk hj)]
      exact hxs k' j (by omega) hj
     ·rw [List.getElem_take]; exact hcl k' (by rw [hlt] at hk; omega)
     ·simp only [List.getElem_take] at hj ⊢
      exact (hr k' (by rw [hlt] at hk; omega) j hj).mono (fun _ _ => rfl) hN'
    split at hK
    ·rename_i hk0
     have hd := h.drop i
     have hdi : (st.drop i).own[i]? = some (.row e s els) := by simp [St.drop, List.getElem?_map, hi, dropB]
     have hNsame : ∀ q, Nset S X w0.heap.size w m st.own q → Nset S X w0.heap.size w m (st.drop i).own q := by
      rintro q (hq | ⟨q1, q2, q3⟩)
      ·exact .inl hq
      ·refine .inr ⟨q1, q2, fun j hj => q3 j ?_⟩
       obtain ⟨b, hb, hl⟩ := hj
       obtain ⟨b0, h0, rfl⟩ := map_own_get hb
       exact ⟨b0, h0, by cases b0 <;> first | exact hl | rfl⟩
     obtain ⟨m', hs', hmi⟩ := hd.moveOwn E (w' := w) (v' := v') (bl' := .row e s (els.take n)) hdi rfl rfl hvi hk0 (drop_get i) (drop_cont i) ⟨rfl, rfl, rfl, Nat.le_refl _, fun _ _ _ => rfl⟩ (fun b hb' => ⟨.inl (hb b hb'), h.ows.lt i b ⟨_, hi, rfl⟩ (mblk_of hvi (.inl (hb b hb')))⟩) hv1 (fun N' m' hN' => hokn N' m' fun b hb' => hN' b (hNsame b hb'))
     refine wp_value' (v := v') (w' := w) (by simp [execOp, ho, hav, hq, hrun]) (hn v' _ _ w m' hs' (.own i (v', []) hmi) (by simpa using hK))
    ·obtain ⟨m', hs', hmi⟩ := h.moveNew E (v' := (v', [])) (bl' := .row e s (els.take n)) hi rfl hvi (fun b hb' => .inl (hb b (hasB_one.1 hb'))) ⟨hv1, fun _ h => by cases h⟩ hokn
     refine wp_value' (v := v') (w' := w) (by simp [execOp, ho, hav, hq, hrun]) (hn v' _ _ w m' hs' (.own _ (v', []) hmi) (by simpa using hK))
   rcases hown.2 with ⟨rfl, hz⟩ | ⟨g, cap, cur, rfl, hb0, hg, hnc, hcm, hcs, htake⟩
   ·have hn0 : n = 0 := by omega
    subst hn0
    refine fin (.slice none 0 0) ?_ (fun b hb => by simp [blk] at hb) rfl ⟨by simp, .inl ⟨rfl, rfl⟩⟩
    have := run_cut (P := P) (w := w) he none 0 0 0 0 none (some (.int k 0)) (Nat.le_refl _) (Nat.le_refl _) (Nat.le_refl _) (.inl ⟨rfl, rfl⟩) (.inr ⟨k, rfl⟩)
    rw [hz] at *
    simpa using this
   ·refine fin (.slice (some ⟨g, 0, none⟩) n cap) ?_ (fun b hb => hb) rfl ⟨?_, .inr ⟨g, cap, cur, rfl, hb0, hg, by omega, hcm, hcs, ?_⟩⟩
    ·have := run_cut (P := P) (w := w) he (some ⟨g, 0, none⟩) els.length cap 0 n none (some (.int k n)) (Nat.zero_le _) hnl hnc (.inl ⟨rfl, rfl⟩) (.inr ⟨k, rfl⟩)
     rw [this]
     congr 2
     split
     ·rfl
     ·simp [Addr.add]
    ·rw [List.length_take, hown.1]
     exact Nat.min_eq_left (Nat.mul_le_mul_right _ hnl)
    ·rw [← htake, List.take_take, Nat.min_eq_left (Nat.mul_le_mul_right _ hnl)]
  ·exact hv.elim
 ·exact hv.elim

theorem zeroP_tup {t : TypeId} {p : PV} (h : zeroP P t = some p) : p.isTup = false := by
 unfold zeroP at h
 split at h
 ·split at h
  ·split at h
   ·simp only [Option.some.injEq] at h
    subst h; rfl
   ·cases h
  ·split at h
   ·simp only [Option.some.injEq] at h
    subst h
    unfold normP
    split <;> rfl
   ·cases h
  ·cases h
 ·cases h

theorem appendZ_ok (E : Env P gl S X w0) (h : Sim S X w0 m0 st a w m) {t t' e : TypeId} {o : Oper} {s x : Operand}
  (ho : o.op = .call { callee := .builtin .append, args := #[s, x], argTypes := #[t, t'] }) (he : elemT P t = some e) {K : FV → St → Prop}
  (hcs : condOk none (st.ev s)) (hcx : condOk none (st.ev x))
  (hv : zerosVC P st e t' (strip (st.ev s)) (strip (st.ev x)) K) {next : Act → World → Prop} {Q : Exit → Act → World → Prop}
  (hn : ∀ v fv st' w' m', Sim S X w0 m0 st' a w' m' → RepF w' (Nset S X w0.heap.size w' m' st'.own) m' v fv → K fv st' → next (a.put o.dst v) w') : o.wp P a w next Q := by
 obtain ⟨hu, hne⟩ := elemT_spec he
 have hs0 : 0 < P.cellsOf e := Nat.pos_of_ne_zero hne
 have hsrep := strip_rep (h.evs s) hcs
 have hxrep := strip_rep (h.evs x) hcx
 unfold zerosVC at hv
 split at hv
 ·rename_i ht'
  split at hv
  ·rename_i i n hsi hxi
   split at hv
   ·rename_i e' s' els z hi hz
    split at hv
    ·rename_i hc
     obtain ⟨rfl, rfl, hk0, hby, hhz, hzl⟩ := hc
     obtain ⟨hn0, hlen, hK⟩ := hv
     rw [hsi] at hsrep
     rw [hxi] at hxrep
     have hxv := hxrep.valInv
     generalize hav : a.eval s = av at hsrep
     cases hsrep with | own _ vp hvi =>
     obtain ⟨av, ag⟩ := vp
     obtain ⟨k, rfl⟩ : ∃ k : Nat, n = k := ⟨n.toNat, by omega⟩
     simp only [Int.toNat_natCast, List.length_replicate] at hlen hK
     obtain ⟨ti, zv, fz, hti, hzz, hcells, f1, fr⟩ := zeroP_spec (w := w) (N := Nset S X w0.heap.size w m st.own) hz
     have htsz : ti.size = P.cellsOf e' := by simp [Program.cellsOf, hti]
     have hzs : zv.cells.size = ti.size := by rw [hcells, htsz]; simpa using hzl
     have hz1 : ∀ u ∈ (Builtin.zeroCells zv.cells k).toList, u.oneCell' = true := by
      intro u hu'
      simp only [Builtin.zeroCells, Array.toList_map, List.mem_map] at hu'
      obtain ⟨j, hj, rfl⟩ := hu'
      have hjm : j % zv.cells.size < zv.cells.size := Nat.mod_lt _ (by rw [hzs, htsz]; exact hs0)
      rw [getElem!_pos zv.cells _ hjm]
      simp only [hcells]
      simp [vrange]
      exact f1 _
     have hd := h.drop i
     have hdi : (st.drop i).own[i]? = some (.row e' (P.cellsOf e') els) := by simp [St.drop, List.getElem?_map, hi, dropB]
     have hNsame : ∀ q, Nset S X w0.heap.size w m st.own q → Nset S X w0.heap.size w m (st.drop i).own q := by
      rintro q (hq | ⟨q1, q2, q3⟩)
      ·exact .inl hq
      ·refine .inr ⟨q1, q2, fun j hj => q3 j ?_⟩
       obtain ⟨b, hb, hl⟩ := hj
       obtain ⟨b0, h0, rfl⟩ := map_own_get hb
       exact ⟨b0, h0, by cases b0 <;> first | exact hl | rfl⟩
     obtain ⟨h00, xs, f, hown, hsp, hx, h2, h1, hr⟩ := h.ownAt i _ _ hi rfl hvi
     simp only at h00 hown hav
     subst h00
     rw [← htsz] at hown
     obtain ⟨v', w1, hrun, how, hg, hb, hv1⟩ := run_append_zeros (P := P) w t t' o.type e' ti zv (P.bytesOf e') hu ht' hti hzz (bytes_info hti) hzs (by rw [htsz]; exact hs0) k hz1 av els.length xs hown (by omega) hby
     have hNb : ∀ q, Nset S X w0.heap.size w m st.own q → w1.heap[q]? = w.heap[q]? := by
      intro q hq
      refine hg.block q (Nset_lt E h hq) fun e => ?_
      exact h.ows.out i q ⟨_, hi, rfl⟩ (mblk_of hvi (.inl e.symm)) hq
     obtain ⟨m', hs', hmi⟩ := hd.moveOwn E (v' := v') (bl' := .row e' (P.cellsOf e') (els ++ List.replicate k z)) hdi rfl rfl hvi hk0 (drop_get i) (drop_cont i) hg hb hv1 (fun N' m' hN' => by
      have hN2 : ∀ b, Nset S X w0.heap.size w m st.own b → N' b := fun b hb' => hN' b (hNsame b hb')
      rw [htsz] at how hown
      refine ⟨rfl, ?_⟩
      refine row_append hs0 (new := List.replicate k z) (news := (Builtin.zeroCells zv.cells k).toList) (g := fun _ j => fz j) (by simpa using how) hown.1 hx h2 h1 (fun k' hk j hj => (hr k' hk j hj).mono hNb hN2) (fun k' j hk hj => ?_) (fun p hp => ?_) (fun _ j => f1 j) (fun k' hk j hj => ?_)
      ·rw [List.length_replicate] at hk
       have hlt : k' * P.cellsOf e' + j < k * zv.cells.size := by rw [hzs, htsz]; exact mul_lt hk hj
       rw [Array.getElem?_toList]
       simp only [Builtin.zeroCells]
       rw [Array.getElem?_eq_getElem (by simpa using hlt)]
       simp only [Array.getElem_map, Array.getElem_range, hzs, htsz]
       rw [Nat.mul_comm, Nat.mul_add_mod, Nat.mod_eq_of_lt hj]
       rw [getElem!_pos zv.cells j (by rw [hzs, htsz]; exact hj)]
       congr 1
       simp only [hcells]
       simp [vrange]
      ·rw [(List.mem_replicate.1 hp).2]
       exact ⟨hzl, zeroP_tup hz⟩
      ·simp only [List.getElem_replicate] at hj ⊢
       exact (fr j hj).mono hNb hN2)
     refine wp_value' (v := v') (w' := w1) (by simp [execOp, ho, resolve, invoke, builtin, hav, hxv, hrun]) (hn v' _ _ w1 m' hs' (.own i (v', []) hmi) hK)
    ·exact hv.elim
   ·exact hv.elim
  ·exact hv.elim
 ·exact hv.elim

end
end Go.Pe

/- Trees: rows of one's own that lead to rows of one's own. -/
namespace Go.Pe
open Go Go.RowKit

section
variable {P : Program} {gl : List (Nat × Obj)} {S X : Nat → Prop} {w0 w w' : World} {m0 m : Nat → Option MV} {st : St} {a : Act}

def okUse (i : Nat) (same : Prop) (js : List Nat) (x : FV) : Prop := (∀ j ∈ js, x.uses j = false) ∧ (x.uses i = false ∨ (same ∧ x.subs i = false))

theorem Sim.absorb (E : Env P gl S X w0) (h : Sim S X w0 m0 st a w m) {i : Nat} {v v' : MV} {bl bl' : Blk} (js : List Nat) (hi : st.own[i]? = some bl) (hl : bl.live = true) (hl' : bl'.live = true) (hv : m i = some v) (hk : st.k0 ≤ i) (hij : i ∉ js)
  (hslots : ∀ t, okUse i (v'.1 = v.1) js (st.get t)) (hcont : ∀ (j : Nat) (cs : List FV), st.own[j]? = some (Blk.box cs) → ∀ x ∈ cs, okUse i (v'.1 = v.1) js x)
  (hg : w.grownBy w' (blk v.1)) (hblk : ∀ b, hasB v' b → (hasB v b ∨ w.heap.size ≤ b ∨ ∃ j, j ∈ js ∧ lives st.own j ∧ mblk m j b) ∧ b < w'.heap.size)
  (hv1 : v'.1.oneCell' = true ∧ ∀ u, u ∈ v'.2 → u.oneCell' = true)
  (hok : ∀ (N' : Nat → Prop) (m' : Nat → Option MV), (∀ b, Nset S X w0.heap.size w m st.own b → N' b) → OwnOk w' N' m' v' bl') :
  ∃ m', Sim S X w0 m0 { st with own := goneAt js 0 (st.own.set i bl') } a w' m' ∧ m' i = some v' := by
 have hlt : i < st.own.length := (List.getElem?_eq_some_iff.1 hi).1
 let m' : Nat → Option MV := fun j => if j = i then some v' else m j
 let own' : List Blk := goneAt js 0 (st.own.set i bl')
 have hget : ∀ (j : Nat) (b : Blk), own'[j]? = some b → b.live = true → j ∉ js ∧ ((j = i ∧ b = bl') ∨ (j ≠ i ∧ st.own[j]? = some b)) := by
  intro j b hb hbl
  simp only [own'] at hb
  rw [goneAt_get, Nat.zero_add] at hb
  split at hb
  ·cases hq : (st.own.set i bl')[j]? with
   | none => rw [hq] at hb; cases hb
   | some b1 => rw [hq] at hb; cases hb; cases hbl
  ·rename_i hc
   refine ⟨by simpa using hc, ?_⟩
   by_cases hj : j = i
   ·subst hj
    rw [List.getElem?_set_self hlt] at hb
    cases hb
    exact .inl ⟨rfl, rfl⟩
   ·rw [List.getElem?_set_ne (fun e => hj e.symm)] at hb
    exact .inr ⟨hj, hb⟩
 have hlvi : lives st.own i := ⟨bl, hi, hl⟩
 have hlv : ∀ j, lives own' j → j ∉ js ∧ lives st.own j := by
  rintro j ⟨b, hb, hbl⟩
  obtain ⟨h1, ⟨rfl, _⟩ | ⟨_, h2⟩⟩ := hget j b hb hbl
  ·exact ⟨h1, hlvi⟩
  ·exact ⟨h1, b, h2, hbl⟩
 have hmo : ∀ j, j ≠ i → m' j = m j := fun j hj => by simp only [m']; rw [if_neg hj]
 have hmo' : ∀ j b, j ≠ i → mblk m' j b → mblk m j b := by
  rintro j b hj ⟨u, hu, hb⟩
  rw [hmo j hj] at hu
  exact ⟨u, hu, hb⟩
 have hmb : ∀ j b, lives own' j → mblk m' j b → b < w'.heap.size ∧ (w.heap.size ≤ b ∨ ∃ j0, lives st.own j0 ∧ mblk m j0 b ∧ (j0 = j ∨ (j0 ∈ js ∧ j = i))) := by
  intro j b hj hb
  by_cases hji : j = i
  ·subst hji
   obtain ⟨u, hu, hb⟩ := hb
   simp only [m', if_true, Option.some.injEq] at hu
   subst hu
   obtain ⟨h1 | h1 | ⟨j0, h1, h2, h3⟩, h4⟩ := hblk b hb
   ·exact ⟨h4, .inr ⟨j, hlvi, mblk_of hv h1, .inl rfl⟩⟩
   ·exact ⟨h4, .inl h1⟩
   ·exact ⟨h4, .inr ⟨j0, h2, h3, .inr ⟨h1, rfl⟩⟩⟩
  ·have hb' := hmo' j b hji hb
   have hl0 := (hlv j hj).2
   exact ⟨Nat.lt_of_lt_of_le (h.ows.lt j b hl0 hb') hg.size, .inr ⟨j, hl0, hb', .inl rfl⟩⟩
 have hnew : ∀ j b, lives own' j → mblk m' j b → w.heap.size ≤ b → j = i := by
  intro j b hj hb hge
  refine Classical.byContradiction fun hji => ?_
  have := h.ows.lt j b (hlv j hj).2 (hmo' j b hji hb)
  omega
 have hblock : ∀ k, k < w.heap.size → blk v.1 ≠ some k → w'.heap[k]? = w.heap[k]? := fun k hk hne => hg.block k hk (fun e => hne e.symm)
 have hN : ∀ q, Nset S X w0.heap.size w m st.own q → Nset S X w0.heap.size w' m' own' q := by
  intro q hNq
  have hq := Nset_lt E h hNq
  rcases hNq with hS | ⟨h1, h2, h3⟩
  ·exact .inl hS
  ·refine .inr ⟨h1, Nat.lt_of_lt_of_le h2 hg.size, fun j hj hmj => ?_⟩
   obtain ⟨_, h5 | ⟨j0, h5, h6, _⟩⟩ := hmb j q hj hmj
   ·omega
   ·exact h3 j0 h5 h6
 have hNb : ∀ q, Nset S X w0.heap.size w m st.own q → w'.heap[q]? = w.heap[q]? := by
  intro q hq
  exact hblock q (Nset_lt E h hq) (fun e => h.ows.out i q hlvi (mblk_of hv (.inl e)) hq)
 have hrep : ∀ u x, okUse i (v'.1 = v.1) js x → RepF w (Nset S X w0.heap.size w m st.own) m u x → RepF w' (Nset S X w0.heap.size w' m' own') m' u x := by
  intro u x hx hr
  refine (hr.mono (m' := m) hNb hN (fun _ _ => id)).change fun j hj => ?_
  by_cases hji : j = i
  ·subst hji
   rcases hx.2 with h1 | ⟨h1, h2⟩
   ·rw [h1] at hj; cases hj
   ·exact .inr ⟨v, v', hv, by simp only [m', if_true], h1, h2⟩
  ·exact .inl (hmo j hji)
 have hsep : ∀ j k b, j ≠ k → lives own' j → lives own' k → mblk m' j b → mblk m' k b → False := by
  intro j k b hne hj hk hbj hbk
  obtain ⟨_, h1 | ⟨j0, h2, h3, h4⟩⟩ := hmb j b hj hbj
  ·exact hne ((hnew j b hj hbj h1).trans (hnew k b hk hbk h1).symm)
  ·obtain ⟨_, h1 | ⟨k0, g2, g3, g4⟩⟩ := hmb k b hk hbk
   ·exact hne ((hnew j b hj hbj h1).trans (hnew k b hk hbk h1).symm)
   ·have e : j0 = k0 := Classical.byContradiction fun hn => h.ows.sep j0 k0 b hn h2 g2 h3 g3
    subst e
    rcases h4 with rfl | ⟨h4, rfl⟩ <;> rcases g4 with rfl | ⟨g4, rfl⟩
    ·exact hne rfl
    ·exact (hlv j0 hj).1 g4
    ·exact (hlv j0 hk).1 h4
    ·exact hne rfl
 refine ⟨m', ⟨⟨hg.os.trans h.bel.os, hg.tape.trans h.bel.tape, hg.output.trans h.bel.output, Nat.le_trans h.bel.size hg.size, fun k hk hX => (hblock k (Nat.lt_of_lt_of_le hk h.bel.size) fun e => ?_).trans (h.bel.block k hk hX)⟩,
  ⟨fun j u hu => ?_, fun j b hj hbl => ?_, fun j k b hne hj hk' hbj hbk => hsep j k b hne hj hk' hbj hbk, fun j b hj hmb' => (hmb j b hj hmb').1, fun j b hj hmb' hq => ?_⟩, fun j b hj hm => ?_, fun j hj => ?_, ?_, h.nt, h.df, fun t => hrep _ _ (hslots t) (h.slots t)⟩, by simp [m']⟩
 ·rcases h.bnd i k hlvi (mblk_of hv (.inl e)) with h1 | h1
  ·omega
  ·exact hX h1
 ·simp only [goneAt_length, List.length_set]
  simp only [m'] at hu
  split at hu
  ·rename_i e; subst e; cases hu; exact ⟨hlt, hv1⟩
  ·exact h.ows.len j u hu
 ·obtain ⟨hjs, ⟨rfl, rfl⟩ | ⟨hji, hb⟩⟩ := hget j b hj hbl
  ·exact ⟨v', by simp [m'], hok _ _ hN⟩
  ·obtain ⟨u, hu, hok'⟩ := h.ows.ok j b hb hbl
   refine ⟨u, by rw [hmo j hji]; exact hu, ?_⟩
   have hvj : ∀ q, hasB u q → w'.heap[q]? = w.heap[q]? := by
    intro q hq
    refine hblock q (h.ows.lt j q ⟨b, hb, hbl⟩ (mblk_of hu hq)) fun e => ?_
    exact h.ows.sep j i q hji ⟨b, hb, hbl⟩ hlvi (mblk_of hu hq) (mblk_of hv (.inl e))
   cases b with
   | gone => trivial
   | row e s els => exact ⟨hok'.1, hok'.2.mono hNb hN (fun q hq => hvj q (.inl hq))⟩
   | tree e s et els => exact TreeOk.mono hok' hvj
   | box cs =>
    obtain ⟨h0, b, T, f, h9, hh, h1, hr⟩ := hok'
    exact ⟨h0, b, T, f, h9, by rw [hvj b (.inl (by rw [h9]; rfl))]; exact hh, h1, fun k hk => hrep _ _ (hcont j cs hb _ (List.getElem_mem hk)) (hr k hk)⟩
 ·rcases hq with hS | ⟨_, _, h3⟩
  ·obtain ⟨_, h5 | ⟨j0, h5, h6, _⟩⟩ := hmb j b hj hmb'
   ·have := E.Slt b hS; have := h.bel.size; omega
   ·exact h.ows.out j0 b h5 h6 (.inl hS)
  ·exact h3 j hj hmb'
 ·obtain ⟨_, h5 | ⟨j0, h5, h6, _⟩⟩ := hmb j b hj hm
  ·have := h.bel.size; exact .inl (by omega)
  ·exact h.bnd j0 b h5 h6
 ·have : j < st.k0 := hj
  simp only [m']
  rw [if_neg (by omega)]
  exact h.fix j hj
 ·show st.k0 ≤ (goneAt js 0 (st.own.set i bl')).length
  rw [goneAt_length, List.length_set]
  exact h.k0

theorem vrange_length (n : Nat) (g : Nat → Value) : (vrange n g).length = n := by simp

def gh (x : FV) (u : Value) : Value := match x with
 | .own _ => u
 | _ => .slice none 0 0

theorem normP_leafy (v : Value) : leafy (normP (.val v)) = true := by
 unfold normP
 split <;> rfl

theorem leafy_rep {N : Nat → Prop} {v : Value} {p : PV} (h : Rep w N v p) (hp : leafy p = true) : Rep w (fun _ => False) v p := by
 unfold leafy at hp
 split at hp
 ·cases h with | val _ h => exact .val _ h
 ·cases h with
  | nil a c => exact .nil a c
  | lst b o c s _ f _ _ _ _ _ _ => exact .nil _ _
 ·cases hp

theorem RowOk.vals {N : Nat → Prop} {v : Value} {e : TypeId} {s : Nat} {els : List PV} (h : RowOk w N v e s els) (hv : valsL els) : RowOk w (fun _ => False) v e s els := by
 obtain ⟨xs, f, h1, h2, h3, h4, h5, h6⟩ := h
 refine ⟨xs, f, h1, h2, h3, h4, h5, fun k hk j hj => ?_⟩
 have h7 := h6 k hk j hj
 obtain ⟨u, hu⟩ := hv _ (List.getElem_mem hk)
 refine leafy_rep h7 ?_
 have : ∀ p : PV, p = .val u → ∀ j (hj : j < p.cells.length), leafy p.cells[j] = true := by
  rintro _ rfl j hj
  simp only [PV.cells, List.length_singleton] at hj
  obtain rfl : j = 0 := by omega
  rfl
 exact this _ hu j hj

theorem valsAll_mem : ∀ {l : List (Nat × List PV)}, valsAll l → ∀ y ∈ l, valsL y.2
 | [], _, y, hy => by cases hy
 | x :: r, h, y, hy => by
  rcases List.mem_cons.1 hy with rfl | hy
  ·exact h.1
  ·exact valsAll_mem h.2 y hy

theorem leafs_spec {own : List Blk} {et : TypeId} : ∀ {cs : List FV} {ps : List PV} {jl : List (Nat × List PV)}, leafsF own et cs = some (ps, jl) → ps.length = cs.length ∧
  (∀ q (hq : q < cs.length) (hq' : q < ps.length), ∃ l, leafF own et cs[q] = some (ps[q], l) ∧ ∀ y ∈ l, y ∈ jl) ∧
  ((jl.map (·.1)).Nodup → ∀ q q' (hq : q < cs.length) (hq' : q' < cs.length) j, q ≠ q' → cs[q] = .own j → cs[q'] ≠ .own j) ∧ (∀ j, j ∈ jl.map (·.1) → FV.own j ∈ cs)
 | [], ps, jl, h => by
  simp only [leafsF, Option.some.injEq, Prod.mk.injEq] at h
  obtain ⟨rfl, rfl⟩ := h
  exact ⟨rfl, fun q hq => by simp at hq, fun _ q q' hq => by simp at hq, fun j hj => by simp at hj⟩
 | x :: r, ps, jl, h => by
  simp only [leafsF] at h
  split at h
  ·rename_i p js ps' ks hp hps
   simp only [Option.some.injEq, Prod.mk.injEq] at h
   obtain ⟨rfl, rfl⟩ := h
   obtain ⟨h1, h2, h3, h4⟩ := leafs_spec hps
   have hown : ∀ (r' : List FV) (ps2 : List PV) (ks2 : List (Nat × List PV)), leafsF own et r' = some (ps2, ks2) → ∀ j, FV.own j ∈ r' → j ∈ ks2.map (·.1) := by
    intro r'
    induction r' with
    | nil => intro _ _ _ j hj; cases hj
    | cons y r' ih =>
     intro ps2 ks2 h j hj
     simp only [leafsF] at h
     split at h
     ·rename_i p2 js2 ps3 ks3 hp2 hps2
      simp only [Option.some.injEq, Prod.mk.injEq] at h
      obtain ⟨_, rfl⟩ := h
      rw [List.map_append, List.mem_append]
      rcases List.mem_cons.1 hj with rfl | hj
      ·left
       simp only [leafF] at hp2
       split at hp2
       ·split at hp2
        ·cases hp2; simp
        ·cases hp2
       ·cases hp2
      ·exact .inr (ih _ _ hps2 j hj)
     ·cases h
   have hx : ∀ j, x = .own j → j ∈ js.map (·.1) := by
    rintro j rfl
    simp only [leafF] at hp
    split at hp
    ·split at hp
     ·cases hp; simp
     ·cases hp
    ·cases hp
   refine ⟨by simp [h1], fun q hq hq' => ?_, fun hnd q q' hq hq' j hne hj hj' => ?_, fun j hj => ?_⟩
   ·cases q with
    | zero => exact ⟨js, hp, fun y hy => List.mem_append.2 (.inl hy)⟩
    | succ q =>
     obtain ⟨l, hl1, hl2⟩ := h2 q (by simpa using hq) (by simpa using hq')
     exact ⟨l, hl1, fun y hy => List.mem_append.2 (.inr (hl2 y hy))⟩
   ·rw [List.map_append, List.nodup_append] at hnd
    obtain ⟨n1, n2, n3⟩ := hnd
    cases q with
    | zero =>
     cases q' with
     | zero => exact hne rfl
     | succ q' =>
      simp only [List.getElem_cons_zero] at hj
      simp only [List.getElem_cons_succ] at hj'
      exact n3 j (hx j hj) j (hown r ps' ks hps j (by rw [← hj']; exact List.getElem_mem _)) rfl
    | succ q =>
     cases q' with
     | zero =>
      simp only [List.getElem_cons_zero] at hj'
      simp only [List.getElem_cons_succ] at hj
      exact n3 j (hx j hj') j (hown r ps' ks hps j (by rw [← hj]; exact List.getElem_mem _)) rfl
     | succ q' =>
      simp only [List.getElem_cons_succ] at hj hj'
      exact h3 n2 q q' (by simpa using hq) (by simpa using hq') j (by omega) hj hj'
   ·rw [List.map_append, List.mem_append] at hj
    rcases hj with hj | hj
    ·have : x = .own j := by
      cases x <;> simp only [leafF] at hp <;> try (cases hp; done)
      case pv p0 =>
       cases p0 with
       | val v => cases hp; simp at hj
       | lst l =>
        cases l with
        | nil => cases hp; simp at hj
        | cons y r => cases hp
       | _ => cases hp
      case own i =>
       split at hp
       ·split at hp
        ·cases hp; simp at hj; rw [hj]
        ·cases hp
       ·cases hp
     rw [this]; exact List.mem_cons_self
    ·exact List.mem_cons_of_mem _ (h4 j hj)
  ·cases h

theorem leaf_ok {N : Nat → Prop} {own : List Blk} (hown : ∀ i b v, own[i]? = some b → b.live = true → m i = some v → OwnOk w N m v b) {et : TypeId} {x : FV} {u : Value} {p : PV} {l : List (Nat × List PV)} (hr : RepF w N m u x)
  (h : leafF own et x = some (p, l)) (hv : valsAll l) : Leaf w et u (gh x u) p ∧ p.one = true ∧ ∀ b, blk (gh x u) = some b → ∃ j, x = .own j ∧ lives own j ∧ mblk m j b := by
 cases x with
 | pv p0 =>
  have hp := hr.pvInv
  cases p0 with
  | val v =>
   simp only [leafF, Option.some.injEq, Prod.mk.injEq] at h
   obtain ⟨rfl, rfl⟩ := h
   refine ⟨.inl ⟨rfl, leafy_rep (normP_rep hp) (normP_leafy v)⟩, ?_, fun b hb => by simp [gh, blk] at hb⟩
   unfold normP; split <;> rfl
  | lst l0 =>
   cases l0 with
   | nil =>
    simp only [leafF, Option.some.injEq, Prod.mk.injEq] at h
    obtain ⟨rfl, rfl⟩ := h
    exact ⟨.inl ⟨rfl, leafy_rep hp rfl⟩, rfl, fun b hb => by simp [gh, blk] at hb⟩
   | cons y r => simp [leafF] at h
  | _ => simp [leafF] at h
 | own j =>
  simp only [leafF] at h
  split at h
  ·rename_i e s l0 hj
   split at h
   ·rename_i hc
    simp only [Option.some.injEq, Prod.mk.injEq] at h
    obtain ⟨rfl, rfl⟩ := h
    obtain ⟨rfl, rfl⟩ := hc
    cases hr with | own _ vv hvv =>
    have hok := hown j _ _ hj rfl hvv
    exact ⟨.inr ⟨l0, rfl, rfl, hok.2.vals hv.1⟩, rfl, fun b hb => ⟨j, rfl, ⟨_, hj, rfl⟩, mblk_of hvv (.inl hb)⟩⟩
   ·cases h
  ·cases h
 | _ => simp [leafF] at h

theorem Sim.drops (h : Sim S X w0 m0 st a w m) : ∀ (js : List Nat), Sim S X w0 m0 (st.drops js) a w m
 | [] => h
 | j :: r => (Sim.drops h r).drop j

theorem drops_own {b : Blk} {i : Nat} (hi : st.own[i]? = some b) (hb : ∀ cs, b ≠ .box cs) : ∀ (js : List Nat), (st.drops js).own[i]? = some b
 | [] => hi
 | j :: r => by
  have := drops_own hi hb r
  simp only [St.drops, St.drop, List.getElem?_map, this, Option.map_some, Option.some.injEq]
  cases b with
  | box cs => exact absurd rfl (hb cs)
  | _ => rfl

theorem dropF_mono {i j : Nat} {x : FV} (h : x.uses j = false) : (dropF i x).uses j = false := by
 unfold dropF
 split
 ·rfl
 ·exact h

theorem dropF_subs {i j : Nat} {x : FV} (h : x.subs j = false) : (dropF i x).subs j = false := by
 unfold dropF
 split
 ·rfl
 ·exact h

theorem drop_get_eq (i t : Nat) : (st.drop i).get t = dropF i (st.get t) := look_map (dropF i) (by simp [dropF]) st.slots t

theorem drop_box {i j : Nat} {cs : List FV} (h : (st.drop i).own[j]? = some (.box cs)) : ∃ cs0, st.own[j]? = some (.box cs0) ∧ cs = cs0.map (dropF i) := by
 simp only [St.drop] at h
 obtain ⟨b0, h0, hb⟩ := map_own_get h
 cases b0 <;> simp only [dropB] at hb <;> try (cases hb; done)
 cases hb
 exact ⟨_, h0, rfl⟩

theorem drops_get : ∀ (js : List Nat) (j : Nat), j ∈ js → ∀ t, ((st.drops js).get t).uses j = false
 | [], j, hj, t => by cases hj
 | k :: r, j, hj, t => by
  simp only [St.drops]
  rw [drop_get_eq]
  rcases List.mem_cons.1 hj with rfl | hj
  ·exact dropF_uses _ _
  ·exact dropF_mono (drops_get r j hj t)

theorem drops_cont : ∀ (js : List Nat) (j : Nat), j ∈ js → ∀ (i : Nat) (cs : List FV), (st.drops js).own[i]? = some (.box cs) → ∀ x ∈ cs, x.uses j = false
 | [], j, hj, i, cs, h, x, hx => by cases hj
 | k :: r, j, hj, i, cs, h, x, hx => by
  simp only [St.drops] at h
  obtain ⟨cs0, h0, rfl⟩ := drop_box h
  obtain ⟨y, hy, rfl⟩ := List.mem_map.1 hx
  rcases List.mem_cons.1 hj with rfl | hj
  ·exact dropF_uses _ _
  ·exact dropF_mono (drops_cont r j hj i cs0 h0 y hy)

theorem look_all {f : FV → Bool} (hj : f .junk = true) : ∀ (l : List (Nat × FV)), (l.all fun x => f x.2) = true → ∀ t, f (look l t) = true
 | [], _, t => hj
 | (k, x) :: r, h, t => by
  simp only [List.all_cons, Bool.and_eq_true] at h
  simp only [look]
  split
  ·exact h.1
  ·exact look_all hj r h.2 t

theorem noSub_get {i : Nat} (h : st.noSub i = true) (t : Nat) : (st.get t).subs i = false := by
 unfold St.noSub at h
 simp only [Bool.and_eq_true] at h
 have := look_all (f := fun x => !x.subs i) (by simp [FV.subs]) st.slots h.1 t
 simpa [St.get] using this

theorem noSub_cont {i : Nat} (h : st.noSub i = true) (j : Nat) (cs : List FV) (hj : st.own[j]? = some (.box cs)) : ∀ x ∈ cs, x.subs i = false := by
 unfold St.noSub at h
 simp only [Bool.and_eq_true] at h
 have := List.all_eq_true.1 h.2 _ (List.mem_of_getElem? hj)
 simp only [Bool.not_eq_true'] at this
 intro x hx
 obtain ⟨q, hq, rfl⟩ := List.getElem_of_mem hx
 exact subsL_get this q hq

theorem drops_noSub {i : Nat} (h : st.noSub i = true) : ∀ (js : List Nat), (∀ t, ((st.drops js).get t).subs i = false) ∧ ∀ (j : Nat) (cs : List FV), (st.drops js).own[j]? = some (.box cs) → ∀ x ∈ cs, x.subs i = false
 | [] => ⟨noSub_get h, noSub_cont h⟩
 | k :: r => by
  obtain ⟨h1, h2⟩ := drops_noSub h r
  refine ⟨fun t => ?_, fun j cs hj x hx => ?_⟩
  ·simp only [St.drops]; rw [drop_get_eq]; exact dropF_subs (h1 t)
  ·simp only [St.drops] at hj
   obtain ⟨cs0, h0, rfl⟩ := drop_box hj
   obtain ⟨y, hy, rfl⟩ := List.mem_map.1 hx
   exact dropF_subs (h2 j cs0 h0 y hy)

theorem drops_lives {j : Nat} (h : lives st.own j) : ∀ (js : List Nat), lives (st.drops js).own j
 | [] => h
 | k :: r => by
  obtain ⟨b, hb, hl⟩ := drops_lives h r
  refine ⟨dropB k b, ?_, by cases b <;> first | exact hl | rfl⟩
  simp only [St.drops, St.drop, List.getElem?_map, hb, Option.map_some]

theorem Sim.storeTree (E : Env P gl S X w0) (h : Sim S X w0 m0 st a w m) {i k b s : Nat} {e et t : TypeId} {els : List PV} {v : Value} {cs : List FV} {ps : List PV} {jl : List (Nat × List PV)} (hi : st.own[i]? = some (.tree e s et els)) (hb : tblk m i = some b)
  (hk0 : st.k0 ≤ i) (hfc : ∃ g : Nat → Value, v.cells = (vrange cs.length g).toArray ∧ (∀ j, (g j).oneCell' = true) ∧ ∀ j (hj : j < cs.length), RepF w (Nset S X w0.heap.size w m st.own) m (g j) cs[j])
  (hl : leafsF st.own et cs = some (ps, jl)) (hv : valsAll jl) (hnd : (jl.map (·.1)).Nodup) (hij : i ∉ jl.map (·.1)) (hsub : st.noSub i = true)
  (hn : cs.length = P.cellsOf t) (hn0 : P.cellsOf t ≠ 0) (hs : P.cellsOf t = s) (hk : k < els.length) :
  ∃ w' m', (storeVar t ⟨b, k * s + 0, none⟩ v).run P w = .ok () w' ∧ Sim S X w0 m0 (st.give i (.tree e s et (els.set k (.agg ps))) (jl.map (·.1))) a w' m' := by
 obtain ⟨⟨u, ug⟩, hu, hbu⟩ := tblk_spec hb
 have hok := h.ownAt i _ _ hi rfl hu
 obtain ⟨xs, f, hown, hs0, hx, h2, h1, hgl, hlf, hsp, htp⟩ := hok
 simp only at hown hbu hgl hlf hsp htp
 obtain ⟨g, hg, g1, gr⟩ := hfc
 obtain ⟨l1, l2, l3, l4⟩ := leafs_spec hl
 have hcs : cs.length = s := by rw [hn, hs]
 have hleaf : ∀ q (hq : q < cs.length), Leaf w et (g q) (gh cs[q] (g q)) (ps[q]'(by omega)) ∧ (ps[q]'(by omega)).one = true ∧ ∀ b, blk (gh cs[q] (g q)) = some b → ∃ j, cs[q] = .own j ∧ lives st.own j ∧ mblk m j b := by
  intro q hq
  obtain ⟨l, hl1, hl2⟩ := l2 q hq (by omega)
  refine leaf_ok h.ownAt (gr q hq) hl1 ?_
  clear hl1
  induction l with
  | nil => trivial
  | cons y r ih => exact ⟨valsAll_mem hv y (hl2 y (by simp)), ih (fun z hz => hl2 z (by simp [hz]))⟩
 have hjs : ∀ (q : Nat) (hq : q < cs.length) j, cs[q] = .own j → j ∈ jl.map (·.1) := by
  intro q hq j hj
  obtain ⟨l, hl1, hl2⟩ := l2 q hq (by omega)
  rw [hj] at hl1
  simp only [leafF] at hl1
  split at hl1
  ·split at hl1
   ·rename_i lj _ _
    simp only [Option.some.injEq, Prod.mk.injEq] at hl1
    obtain ⟨_, rfl⟩ := hl1
    exact List.mem_map.2 ⟨(j, lj), hl2 (j, lj) (by simp), rfl⟩
   ·cases hl1
  ·cases hl1
 rcases hown.2 with ⟨rfl, _⟩ | ⟨b', cap, cur, rfl, hb0, hh, hcap, hcm, hcsz, htake⟩
 ·simp [blk] at hbu
 simp [blk] at hbu
 subst hbu
 have hin : k * s + s ≤ els.length * s := by
  have := Nat.mul_le_mul_right s (show k + 1 ≤ els.length from hk)
  rw [Nat.add_mul, Nat.one_mul] at this
  omega
 have hcap' : els.length * s ≤ cap * s := Nat.mul_le_mul_right s hcap
 have hrun := run_storeVar (P := P) (w := w) hg hn hn0 g1 hh (off := k * s + 0) (by omega)
 simp only [Nat.add_zero, hcs] at hrun ⊢
 let gs : List Value := (List.range cs.length).map fun q => gh (cs.getD q .junk) (g q)
 have hgs : ∀ q (hq : q < cs.length), gs[q]? = some (gh cs[q] (g q)) := by
  intro q hq
  simp only [gs, List.getElem?_map, List.getElem?_range hq, Option.map_some]
  simp [List.getD, List.getElem?_eq_getElem hq]
 have hgsl : gs.length = s := by simp [gs, hcs]
 let v' : MV := (.slice (some ⟨b', 0, none⟩) els.length cap, setSeg ug (k * s) gs)
 have hv'n : ∀ n, v'.2[n]? = if k * s ≤ n ∧ n < k * s + s then gs[n - k * s]? else ug[n]? := by
  intro n
  simp only [v']
  rw [setSeg_get (by rw [hgsl, hgl]; exact hin), hgsl]
 have hv'm : ∀ x, x ∈ v'.2 → x ∈ ug ∨ ∃ q, ∃ hq : q < cs.length, x = gh cs[q] (g q) := by
  intro x hx'
  obtain ⟨n, hn'⟩ := List.getElem?_of_mem hx'
  rw [hv'n] at hn'
  split at hn'
  ·rename_i hc
   rw [hgs (n - k * s) (by omega)] at hn'
   cases hn'
   exact .inr ⟨_, by omega, rfl⟩
  ·exact .inl (List.mem_of_getElem? hn')
 have hblkB : ∀ c, hasB v' c → (hasB (.slice (some ⟨b', 0, none⟩) els.length cap, ug) c) ∨ ∃ j, j ∈ jl.map (·.1) ∧ lives st.own j ∧ mblk m j c := by
  rintro c (hc | ⟨x, hx', hc⟩)
  ·exact .inl (.inl hc)
  ·rcases hv'm x hx' with h3 | ⟨q, hq, rfl⟩
   ·exact .inl (.inr ⟨x, h3, hc⟩)
   ·obtain ⟨j, h4, h5, h6⟩ := (hleaf q hq).2.2 c hc
    exact .inr ⟨j, hjs q hq j h4, h5, h6⟩
 have hlvi : lives st.own i := ⟨_, hi, rfl⟩
 have hold : ∀ c, c ≠ b' → (w.setRow b' (setSeg cur.toList (k * s) (vrange s g)).toArray).heap[c]? = w.heap[c]? := fun c hc => setRow_other w b' c _ hc
 have hugne : ∀ x, x ∈ ug → ∀ c, blk x = some c → c ≠ b' := by
  intro x hx' c hc e
  subst e
  exact htp x c hx' hc (by simp [blk])
 have hgne : ∀ q (hq : q < cs.length) c, blk (gh cs[q] (g q)) = some c → c ≠ b' := by
  intro q hq c hc e
  subst e
  obtain ⟨j, h4, h5, h6⟩ := (hleaf q hq).2.2 c hc
  exact h.ows.sep j i c (fun e => hij (e ▸ hjs q hq j h4)) h5 hlvi h6 (mblk_of hu (.inl rfl))
 obtain ⟨n1, n2⟩ := drops_noSub hsub (jl.map (·.1))
 obtain ⟨m', hs', _⟩ := (h.drops (jl.map (·.1))).absorb E (w' := w.setRow b' (setSeg cur.toList (k * s) (vrange s g)).toArray) (v' := v') (bl' := .tree e s et (els.set k (.agg ps))) (jl.map (·.1))
  (drops_own hi (fun cs => by simp) _) rfl rfl hu (by
   have : ∀ js, (st.drops js).k0 = st.k0 := by intro js; induction js with | nil => rfl | cons _ _ ih => exact ih
   rw [this]; exact hk0) hij
  (fun t => ⟨fun j hj => drops_get _ j hj t, .inr ⟨rfl, n1 t⟩⟩) (fun j cs' hj x hx' => ⟨fun q hq => drops_cont _ q hq j cs' hj x hx', .inr ⟨rfl, n2 j cs' hj x hx'⟩⟩)
  ⟨rfl, rfl, rfl, by simp, fun q _ hq => hold q (fun e => hq (by rw [e]; rfl))⟩
  (fun c hc => ⟨(hblkB c hc).imp id (fun ⟨j, h4, h5, h6⟩ => .inr ⟨j, h4, drops_lives h5 _, h6⟩), by
   have hsz : (w.setRow b' (setSeg cur.toList (k * s) (vrange s g)).toArray).heap.size = w.heap.size := by simp
   rw [hsz]
   rcases hblkB c hc with h3 | ⟨j, _, h5, h6⟩
   ·exact h.ows.lt i c hlvi (mblk_of hu h3)
   ·exact h.ows.lt j c h5 h6⟩)
  ⟨rfl, fun x hx' => by
   rcases hv'm x hx' with h3 | ⟨q, hq, rfl⟩
   ·exact (h.ows.len i _ hu).2.2 x h3
   ·unfold gh; split
    ·exact g1 q
    ·rfl⟩
  (fun N' m' hN' => by
   refine ⟨setSeg xs (k * s) (vrange s g), fun k' j => if k' = k then (if j < s then g j else f k' j) else f k' j, ⟨?_, .inr ⟨b', cap, _, by simp [v'], hb0, setRow_heap w b' _ _ e (0, 0) hh, by simpa using hcap, hcm, by simp [setSeg]; omega, ?_⟩⟩, hs0, fun k' j hk' hj => ?_, fun k' hk' => ?_,
    fun k' j => by dsimp only; split <;> (try split) <;> simp [g1, h1], ?_, fun k' hk' j hj => ?_, ?_, ?_⟩
   ·rw [List.length_set]
    unfold setSeg
    rw [List.length_append, List.length_append, List.length_take, List.length_drop, hown.1, vrange_length, Nat.min_eq_left (by omega)]
    omega
   ·apply List.ext_getElem?
    intro q
    have e1 : (setSeg cur.toList (k * s) (vrange s g)).toArray.toList = setSeg cur.toList (k * s) (vrange s g) := rfl
    rw [e1, List.length_set, List.getElem?_take, setSeg_get (by simp; omega), setSeg_get (by simp [hown.1]; omega)]
    simp only [List.length_map, List.length_range]
    by_cases hq : k * s ≤ q ∧ q < k * s + s
    ·rw [if_pos hq, if_pos hq, if_pos (by omega)]
    ·rw [if_neg hq, if_neg hq]
     by_cases h3 : q < els.length * s
     ·rw [if_pos h3, ← htake, List.getElem?_take, if_pos h3]
     ·rw [if_neg h3, List.getElem?_eq_none (by rw [hown.1]; omega)]
   ·simp only [List.length_set] at hk'
    rw [setSeg_get (by simp [hown.1]; omega)]
    simp only [List.length_map, List.length_range]
    by_cases hc : k' = k
    ·subst hc
     rw [if_pos ⟨by omega, by omega⟩, vrange_get, if_pos (by omega), if_pos rfl, if_pos hj]
     congr 2
     omega
    ·rw [if_neg (fun hq => ?_), if_neg hc]
     ·exact hx k' j hk' hj
     ·have := div_ne (s := s) (j := j) (j' := k' * s + j - k * s) hj (by omega) hc
      omega
   ·simp only [List.length_set] at hk'
    rw [List.getElem_set]
    split
    ·simp only [PV.cells]; omega
    ·exact h2 k' hk'
   ·simp only [v', List.length_set]
    unfold setSeg
    rw [List.length_append, List.length_append, List.length_take, List.length_drop, hgl, hgsl, Nat.min_eq_left (by omega)]
    omega
   ·simp only [List.length_set] at hk'
    by_cases hkk : k = k'
    ·subst hkk
     simp only [List.getElem_set_self, PV.cells] at hj ⊢
     have hjs' : j < s := by omega
     have hjc : j < cs.length := by omega
     refine ⟨gh cs[j] (g j), ?_, ?_⟩
     ·rw [hv'n, if_pos ⟨by omega, by omega⟩, Nat.add_sub_cancel_left]
      exact hgs j hjc
     ·simp only [if_true, if_pos hjs']
      exact (hleaf j hjc).1.mono (fun c hc => hold c (hgne j hjc c hc))
    ·simp only [List.getElem_set_ne hkk] at hj ⊢
     obtain ⟨g', hg', hl'⟩ := hlf k' hk' j hj
     have hj' : j < s := by rw [h2 k' hk'] at hj; exact hj
     refine ⟨g', ?_, ?_⟩
     ·rw [hv'n, if_neg (fun hq => ?_)]
      ·exact hg'
      ·have := div_ne (s := s) (j := j) (j' := k' * s + j - k * s) hj' (by omega) (fun e => hkk e.symm)
       omega
     ·rw [if_neg (fun e => hkk e.symm)]
      exact hl'.mono (fun c hc => hold c (hugne g' (List.mem_of_getElem? hg') c hc))
   ·intro n n' x x' c hne hx1 hx2 hc hc'
    rw [hv'n] at hx1 hx2
    split at hx1 <;> split at hx2
    ·rename_i c1 c2
     rw [hgs (n - k * s) (by omega)] at hx1
     rw [hgs (n' - k * s) (by omega)] at hx2
     cases hx1; cases hx2
     obtain ⟨j, h4, h5, h6⟩ := (hleaf _ (by omega)).2.2 c hc
     obtain ⟨j', h4', h5', h6'⟩ := (hleaf _ (by omega)).2.2 c hc'
     by_cases hjj : j = j'
     ·subst hjj
      exact l3 hnd (n - k * s) (n' - k * s) (by omega) (by omega) j (by omega) h4 h4'
     ·exact h.ows.sep j j' c hjj h5 h5' h6 h6'
    ·rename_i c1 c2
     rw [hgs (n - k * s) (by omega)] at hx1
     cases hx1
     obtain ⟨j, h4, h5, h6⟩ := (hleaf _ (by omega)).2.2 c hc
     exact h.ows.sep j i c (fun e => hij (e ▸ hjs _ (by omega) j h4)) h5 hlvi h6 (mblk_of hu (.inr ⟨x', List.mem_of_getElem? hx2, hc'⟩))
    ·rename_i c1 c2
     rw [hgs (n' - k * s) (by omega)] at hx2
     cases hx2
     obtain ⟨j, h4, h5, h6⟩ := (hleaf _ (by omega)).2.2 c hc'
     exact h.ows.sep j i c (fun e => hij (e ▸ hjs _ (by omega) j h4)) h5 hlvi h6 (mblk_of hu (.inr ⟨x, List.mem_of_getElem? hx1, hc⟩))
    ·exact hsp n n' x x' c hne hx1 hx2 hc hc'
   ·intro x c hx' hc e
    simp only [v', blk, Option.some.injEq] at e
    subst e
    rcases hv'm x hx' with h3 | ⟨q, hq, rfl⟩
    ·exact hugne x h3 _ hc rfl
    ·exact hgne q hq _ hc rfl)
 exact ⟨_, m', hrun, hs'⟩

end
end Go.Pe

/- Trees: elements appended. -/
namespace Go.Pe
open Go Go.RowKit

section
variable {P : Program} {gl : List (Nat × Obj)} {S X : Nat → Prop} {w0 w w' : World} {m0 m : Nat → Option MV} {st : St} {a : Act}

theorem dropd_get (i : Nat) : ∀ (js : List Nat) (t : Nat), (((st.drop i).drops js).get t).uses i = false
 | [], t => drop_get i t
 | k :: r, t => by simp only [St.drops]; rw [drop_get_eq]; exact dropF_mono (dropd_get i r t)

theorem dropd_cont (i : Nat) : ∀ (js : List Nat) (j : Nat) (cs : List FV), ((st.drop i).drops js).own[j]? = some (.box cs) → ∀ x ∈ cs, x.uses i = false
 | [], j, cs, hj, x, hx' => by
  obtain ⟨cs0, _, rfl⟩ := drop_box hj
  obtain ⟨y, _, rfl⟩ := List.mem_map.1 hx'
  exact dropF_uses _ _
 | k :: r, j, cs, hj, x, hx' => by
  simp only [St.drops] at hj
  obtain ⟨cs0, h0, rfl⟩ := drop_box hj
  obtain ⟨y, hy, rfl⟩ := List.mem_map.1 hx'
  exact dropF_mono (dropd_cont i r j cs0 h0 y hy)

structure TSrc (w : World) (st : St) (m : Nat → Option MV) (et : TypeId) (s : Nat) (js : List Nat) (new : List PV) (ngs : List Value) (xv : Value) : Prop where
 len : ngs.length = new.length * s
 one : ∀ u, u ∈ ngs → u.oneCell' = true
 blk : ∀ u b, u ∈ ngs → Go.Pe.blk u = some b → ∃ j, j ∈ js ∧ lives st.own j ∧ mblk m j b
 sep : ∀ (n n' : Nat) (g g' : Value) (b : Nat), n ≠ n' → ngs[n]? = some g → ngs[n']? = some g' → Go.Pe.blk g = some b → Go.Pe.blk g' ≠ some b
 src : (∃ c, xv = .slice none 0 c ∧ new = []) ∨
  ∃ (ad : Addr) (c : Nat) (news : List Value) (f : Nat → Nat → Value), xv = .slice (some ad) new.length c ∧ news.length = new.length * s ∧ (∀ j u, news[j]? = some u → w.cell? (ad.add j) = some u) ∧ (∀ u ∈ news, u.oneCell' = true) ∧
   (∀ k j, k < new.length → j < s → news[k * s + j]? = some (f k j)) ∧ (∀ k j, (f k j).oneCell' = true) ∧ (∀ k (hk : k < new.length), (new[k]).cells.length = s) ∧
   (∀ k (hk : k < new.length) j (hj : j < (new[k]).cells.length), ∃ g, ngs[k * s + j]? = some g ∧ Leaf w et (f k j) g ((new[k]).cells[j]))

theorem TSrc.leafs {et : TypeId} {s : Nat} (hs : 0 < s) {new : List PV} {xv : Value} {N : Nat → Prop} (h : Src w N s new xv) (hok : ∀ p ∈ new, okEl s p) (hl : ∀ p ∈ new, (p.cells.all leafy) = true) :
  TSrc w st m et s [] new (List.replicate (new.length * s) (.slice none 0 0)) xv := by
 refine ⟨by simp, fun u hu => by rw [(List.mem_replicate.1 hu).2]; rfl, fun u b hu hb => by rw [(List.mem_replicate.1 hu).2] at hb; simp [Go.Pe.blk] at hb, fun n n' g g' b _ hg _ hb => ?_, ?_⟩
 ·rw [(List.mem_replicate.1 (List.mem_of_getElem? hg)).2] at hb; simp [Go.Pe.blk] at hb
 ·rcases h with h | ⟨ad, c, news, f, h1, h2, h3, h4, h5, h6, h7⟩
  ·exact .inl h
  ·refine .inr ⟨ad, c, news, f, h1, h2, h3, h4, h5, h6, fun k hk => (hok _ (List.getElem_mem hk)).1, fun k hk j hj => ⟨.slice none 0 0, ?_, .inl ⟨rfl, leafy_rep (h7 k hk j hj) ?_⟩⟩⟩
   ·have : j < s := by rw [(hok _ (List.getElem_mem hk)).1] at hj; exact hj
    rw [List.getElem?_replicate, if_pos (mul_lt hk this)]
   ·exact List.all_eq_true.1 (hl _ (List.getElem_mem hk)) _ (List.getElem_mem hj)

theorem TSrc.tree (h : Sim S X w0 m0 st a w m) {e et : TypeId} {s i2 : Nat} {new : List PV} {xv : Value} (hi : st.own[i2]? = some (.tree e s et new)) (hx : RepF w (Nset S X w0.heap.size w m st.own) m xv (.own i2)) :
  ∃ ngs, TSrc w st m et s [i2] new ngs xv := by
 cases hx with | own _ vv hvv =>
 obtain ⟨v, gs⟩ := vv
 have hok := h.ownAt i2 _ _ hi rfl hvv
 have hlv : lives st.own i2 := ⟨_, hi, rfl⟩
 obtain ⟨xs, f, hown, hs0, hx, h2, h1, hgl, hlf, hsp, htp⟩ := hok
 simp only at hown hgl hlf hsp htp ⊢
 refine ⟨gs, hgl, fun u hu => (h.ows.len i2 _ hvv).2.2 u hu, fun u b hu hb => ⟨i2, by simp, hlv, mblk_of hvv (.inr ⟨u, hu, hb⟩)⟩, hsp, ?_⟩
 rcases hown.2 with ⟨rfl, h0⟩ | ⟨g, cap, cur, rfl, hb0, hg, hnc, hcm, hcs, htake⟩
 ·exact .inl ⟨0, rfl, List.eq_nil_of_length_eq_zero h0⟩
 ·refine .inr ⟨⟨g, 0, none⟩, cap, xs, f, rfl, hown.1, hown.cells (g := g) rfl, fun u hu => ?_, hx, h1, h2, hlf⟩
  obtain ⟨n, hn⟩ := List.getElem?_of_mem hu
  have hlt : n < xs.length := (List.getElem?_eq_some_iff.1 hn).1
  rw [hown.1] at hlt
  have hk : n / s < new.length := (Nat.div_lt_iff_lt_mul hs0).2 hlt
  have e1 : n = n / s * s + n % s := by rw [Nat.mul_comm]; exact (Nat.div_add_mod n s).symm
  have h3 := hx (n / s) (n % s) hk (Nat.mod_lt _ hs0)
  rw [← e1, hn] at h3
  cases h3
  exact h1 _ _

theorem appendTree_ok (E : Env P gl S X w0) (h : Sim S X w0 m0 st a w m) {t e et : TypeId} {o : Oper} {sx xx : Operand} {i : Nat} {els new : List PV} {js : List Nat} {ngs : List Value}
  (ho : o.op = .call { callee := .builtin .append, args := #[sx, xx], argTypes := #[t, t] }) (he : elemT P t = some e) (hi : st.own[i]? = some (.tree e (P.cellsOf e) et els)) (hk0 : st.k0 ≤ i)
  (hsrep : RepF w (Nset S X w0.heap.size w m st.own) m (a.eval sx) (.own i)) (hby : P.bytesOf e ≤ 1000) (hz : hasZero P e = true) (hij : i ∉ js) (hlen : els.length + new.length ≤ 1000000000)
  (hS : TSrc w st m et (P.cellsOf e) js new ngs (a.eval xx)) {next : Act → World → Prop} {Q : Exit → Act → World → Prop}
  (hn : ∀ v w' m', Sim S X w0 m0 ((st.drop i).give i (.tree e (P.cellsOf e) et (els ++ new)) js) a w' m' → RepF w' (Nset S X w0.heap.size w' m' ((st.drop i).give i (.tree e (P.cellsOf e) et (els ++ new)) js).own) m' v (.own i) → next (a.put o.dst v) w') : o.wp P a w next Q := by
 obtain ⟨hu, hne⟩ := elemT_spec he
 have hs0 : 0 < P.cellsOf e := Nat.pos_of_ne_zero hne
 obtain ⟨ti, z, hti, hzz⟩ := zero_info hz
 have hzf := E.zf e hz
 have hzs : z.cells.size = P.cellsOf e := by
  unfold zeroFits at hzf
  simp [hti, hzz] at hzf
  rw [hzf]; simp [Program.cellsOf, hti]
 have htsz : ti.size = P.cellsOf e := by simp [Program.cellsOf, hti]
 generalize hav : a.eval sx = av at hsrep
 cases hsrep with | own _ vp hvi =>
 obtain ⟨av, ug⟩ := vp
 simp only at hav
 have hlvi : lives st.own i := ⟨_, hi, rfl⟩
 obtain ⟨xs, f, hown, hsp0, hx, h2, h1, hgl, hlf, hsp, htp⟩ := h.ownAt i _ _ hi rfl hvi
 simp only at hown hgl hlf hsp htp
 have hug : ∀ x c, x ∈ ug → blk x = some c → c < w.heap.size := fun x c hx' hc => h.ows.lt i c hlvi (mblk_of hvi (.inr ⟨x, hx', hc⟩))
 have hng : ∀ x c, x ∈ ngs → blk x = some c → c < w.heap.size ∧ blk av ≠ some c := by
  intro x c hx' hc
  obtain ⟨j, h4, h5, h6⟩ := hS.blk x c hx' hc
  exact ⟨h.ows.lt j c h5 h6, fun e => h.ows.sep j i c (fun e' => hij (e' ▸ h4)) h5 hlvi h6 (mblk_of hvi (.inl e))⟩
 have fin : ∀ (v' : Value) (w1 : World) (news : List Value) (g : Nat → Nat → Value), (Builtin.append_ #[t, t] o.type #[av, a.eval xx]).run P w = .ok v' w1 → w1.ownsRow 0 e (P.cellsOf e) v' (els.length + new.length) (xs ++ news) → w.grownBy w1 (blk av) →
   (∀ b, blk v' = some b → (blk av = some b ∨ w.heap.size ≤ b) ∧ b < w1.heap.size) → v'.oneCell' = true → news.length = new.length * P.cellsOf e →
   (∀ k j, k < new.length → j < P.cellsOf e → news[k * P.cellsOf e + j]? = some (g k j)) → (∀ k j, (g k j).oneCell' = true) → (∀ k (hk : k < new.length), (new[k]).cells.length = P.cellsOf e) →
   (∀ k (hk : k < new.length) j (hj : j < (new[k]).cells.length), ∃ q, ngs[k * P.cellsOf e + j]? = some q ∧ Leaf w et (g k j) q ((new[k]).cells[j])) → o.wp P a w next Q := by
  intro v' w1 news g hrun how hg hb hv1 hnl hng2 g1 hncl hnleaf
  have hsame : ∀ c, c < w.heap.size → blk av ≠ some c → w1.heap[c]? = w.heap[c]? := fun c hc hne => hg.block c hc (fun e => hne e.symm)
  have hdk : ∀ js, ((st.drop i).drops js).k0 = st.k0 := by intro js; induction js with | nil => rfl | cons _ _ ih => exact ih
  have hui : ∀ (js : List Nat) t, (((st.drop i).drops js).get t).uses i = false := by
   intro js
   induction js with
   | nil => exact fun t => drop_get i t
   | cons k r ih => intro t; simp only [St.drops]; rw [drop_get_eq]; exact dropF_mono (ih t)
  have hci : ∀ (js : List Nat) (j : Nat) (cs : List FV), ((st.drop i).drops js).own[j]? = some (.box cs) → ∀ x ∈ cs, x.uses i = false := by
   intro js
   induction js with
   | nil =>
    intro j cs hj x hx'
    obtain ⟨cs0, _, rfl⟩ := drop_box hj
    obtain ⟨y, _, rfl⟩ := List.mem_map.1 hx'
    exact dropF_uses _ _
   | cons k r ih =>
    intro j cs hj x hx'
    simp only [St.drops] at hj
    obtain ⟨cs0, h0, rfl⟩ := drop_box hj
    obtain ⟨y, hy, rfl⟩ := List.mem_map.1 hx'
    exact dropF_mono (ih j cs0 h0 y hy)
  have hdi : (st.drop i).own[i]? = some (.tree e (P.cellsOf e) et els) := by simp [St.drop, List.getElem?_map, hi, dropB]
  have hdl : ∀ {j}, lives st.own j → lives (st.drop i).own j := by
   rintro j ⟨b, hb, hl⟩
   exact ⟨dropB i b, by simp only [St.drop, List.getElem?_map, hb, Option.map_some], by cases b <;> first | exact hl | rfl⟩
  obtain ⟨m', hs', hmi⟩ := ((h.drop i).drops js).absorb E (w' := w1) (v' := (v', ug ++ ngs)) (bl' := .tree e (P.cellsOf e) et (els ++ new)) js (drops_own hdi (fun cs => by simp) js) rfl rfl hvi (by rw [hdk]; exact hk0) hij
   (fun t => ⟨fun j hj => drops_get js j hj t, .inl (hui js t)⟩) (fun j cs hj x hx' => ⟨fun q hq => drops_cont js q hq j cs hj x hx', .inl (hci js j cs hj x hx')⟩)
   hg (fun b hb' => by
    rcases hb' with hb' | ⟨x, hx', hb'⟩
    ·obtain ⟨h3, h4⟩ := hb b hb'
     exact ⟨h3.elim (fun h3 => .inl (.inl h3)) (fun h3 => .inr (.inl h3)), h4⟩
    ·rcases List.mem_append.1 hx' with hx' | hx'
     ·exact ⟨.inl (.inr ⟨x, hx', hb'⟩), Nat.lt_of_lt_of_le (hug x b hx' hb') hg.size⟩
     ·obtain ⟨j, h4, h5, h6⟩ := hS.blk x b hx' hb'
      exact ⟨.inr (.inr ⟨j, h4, drops_lives (hdl h5) js, h6⟩), Nat.lt_of_lt_of_le (hng x b hx' hb').1 hg.size⟩)
   ⟨hv1, fun u hu => by
    rcases List.mem_append.1 hu with hu | hu
    ·exact (h.ows.len i _ hvi).2.2 u hu
    ·exact hS.one u hu⟩
   (fun N' m' hN' => by
    refine ⟨xs ++ news, fun k j => if k < els.length then f k j else g (k - els.length) j, by simpa using how, hs0, fun k j hk hj => ?_, fun k hk => ?_, fun k j => by dsimp only; split <;> simp [h1, g1], ?_, fun k hk j hj => ?_, ?_, ?_⟩
    ·simp only [List.length_append] at hk
     rw [List.getElem?_append, hown.1]
     by_cases hkk : k < els.length
     ·rw [if_pos (mul_lt hkk hj)]
      simp only [hkk, if_true]
      exact hx k j hkk hj
     ·have hge : els.length * P.cellsOf e ≤ k * P.cellsOf e := Nat.mul_le_mul_right _ (by omega)
      rw [if_neg (by omega)]
      simp only [hkk, if_false]
      have e1 : k * P.cellsOf e + j - els.length * P.cellsOf e = (k - els.length) * P.cellsOf e + j := by rw [Nat.sub_mul]; omega
      rw [e1]
      exact hng2 (k - els.length) j (by omega) hj
    ·simp only [List.length_append] at hk
     rw [List.getElem_append]
     split
     ·exact h2 k _
     ·exact hncl _ _
    ·simp only [List.length_append, hgl, hS.len, Nat.add_mul]
    ·simp only [List.length_append] at hk
     by_cases hkk : k < els.length
     ·simp only [hkk, if_true]
      simp only [List.getElem_append_left hkk] at hj ⊢
      obtain ⟨q, hq, hl⟩ := hlf k hkk j hj
      have hj' : j < P.cellsOf e := by rw [h2 k hkk] at hj; exact hj
      refine ⟨q, ?_, hl.mono (fun c hc => hsame c (hug q c (List.mem_of_getElem? hq) hc) (htp q c (List.mem_of_getElem? hq) hc))⟩
      rw [List.getElem?_append_left (by rw [hgl]; exact mul_lt hkk hj')]
      exact hq
     ·simp only [hkk, if_false]
      have hkk' : els.length ≤ k := by omega
      simp only [List.getElem_append_right hkk'] at hj ⊢
      obtain ⟨q, hq, hl⟩ := hnleaf (k - els.length) (by omega) j hj
      refine ⟨q, ?_, hl.mono (fun c hc => hsame c (hng q c (List.mem_of_getElem? hq) hc).1 (hng q c (List.mem_of_getElem? hq) hc).2)⟩
      have hge : els.length * P.cellsOf e ≤ k * P.cellsOf e := Nat.mul_le_mul_right _ hkk'
      rw [List.getElem?_append_right (by rw [hgl]; omega), hgl]
      have e1 : k * P.cellsOf e + j - els.length * P.cellsOf e = (k - els.length) * P.cellsOf e + j := by rw [Nat.sub_mul]; omega
      rw [e1]
      exact hq
    ·intro n n' x x' c hne' hx1 hx2 hc hc'
     rw [List.getElem?_append] at hx1 hx2
     split at hx1 <;> split at hx2
     ·exact hsp n n' x x' c hne' hx1 hx2 hc hc'
     ·obtain ⟨j, h4, h5, h6⟩ := hS.blk x' c (List.mem_of_getElem? hx2) hc'
      exact h.ows.sep j i c (fun e' => hij (e' ▸ h4)) h5 hlvi h6 (mblk_of hvi (.inr ⟨x, List.mem_of_getElem? hx1, hc⟩))
     ·obtain ⟨j, h4, h5, h6⟩ := hS.blk x c (List.mem_of_getElem? hx1) hc
      exact h.ows.sep j i c (fun e' => hij (e' ▸ h4)) h5 hlvi h6 (mblk_of hvi (.inr ⟨x', List.mem_of_getElem? hx2, hc'⟩))
     ·exact hS.sep (n - ug.length) (n' - ug.length) x x' c (by omega) hx1 hx2 hc hc'
    ·intro x c hx' hc hv'
     rcases (hb c hv').1 with h3 | h3
     ·rcases List.mem_append.1 hx' with hx' | hx'
      ·exact htp x c hx' hc h3
      ·exact (hng x c hx' hc).2 h3
     ·rcases List.mem_append.1 hx' with hx' | hx'
      ·have := hug x c hx' hc; omega
      ·have := (hng x c hx' hc).1; omega)
  refine wp_value' (v := v') (w' := w1) (by simp [execOp, ho, resolve, invoke, builtin, hav, hrun]) (hn v' w1 m' hs' (.own i (v', ug ++ ngs) hmi))
 rcases hS.src with ⟨c, hxv, rfl⟩ | ⟨ad, c, news, g, hxv, hnl, hnc, hn1, hng2, g1, hncl, hnleaf⟩
 ·exact fin av w [] (fun _ _ => .bool false) (by rw [hxv]; exact append_none w t o.type e ti _ c hu hti av els.length xs hown) (by simpa using hown) ⟨rfl, rfl, rfl, Nat.le_refl _, fun _ _ _ => rfl⟩
   (fun b hb => ⟨.inl hb, h.ows.lt i b hlvi (mblk_of hvi (.inl hb))⟩) (h.ows.len i _ hvi).2.1 (by simp) (fun k j hk => by simp at hk) (fun _ _ => rfl) (fun k hk => by simp at hk) (fun k hk => by simp at hk)
 ·obtain ⟨v', w1, hrun, how, hg, hb, hv1⟩ := run_append_own2 (P := P) w t o.type e ti z (P.cellsOf e) (P.bytesOf e) hu hti hzz htsz (bytes_info hti) hzs hs0 av els.length xs hown ad new.length c news hnl hnc hn1
   (by simp only [maxLen]; omega) (by
    have : (els.length + new.length) * P.bytesOf e ≤ 1000000000 * 1000 := Nat.mul_le_mul hlen hby
    omega)
  exact fin v' w1 news g (by rw [hxv]; exact hrun) how hg hb hv1 hnl hng2 g1 hncl hnleaf

end
end Go.Pe

/- Rows made; calls; one operation. -/
namespace Go.Pe
open Go Go.RowKit

section
variable {P : Program} {gl : List (Nat × Obj)} {S X : Nat → Prop} {w0 w w' : World} {m0 m : Nat → Option MV} {st : St} {a : Act}

theorem Sim.newRow (E : Env P gl S X w0) (h : Sim S X w0 m0 st a w m) {e : TypeId} {s n cap : Nat} {els : List PV} {A : Array Value} {f : Nat → Nat → Value} (hs : 0 < s) (hn : els.length = n) (hcap : n ≤ cap) (hcm : cap ≤ maxLen)
  (hA : A.size = cap * s) (hget : ∀ k j, k < n → j < s → A[k * s + j]? = some (f k j)) (f1 : ∀ k j, (f k j).oneCell' = true) (h2 : ∀ k (hk : k < els.length), (els[k]).cells.length = s)
  (hr : ∀ k (hk : k < els.length) j (hj : j < (els[k]).cells.length), Rep w (Nset S X w0.heap.size w m st.own) (f k j) (els[k]).cells[j]) (dst : Option Nat) :
  ∃ m', Sim S X w0 m0 ((st.addOwn (.row e s els)).put dst (.own st.own.length)) (a.put dst (.slice (some ⟨w.heap.size, 0, none⟩) n cap)) (w.alloc (.cells A e)) m' := by
 subst hn
 have hle : els.length * s ≤ cap * s := Nat.mul_le_mul_right _ hcap
 obtain ⟨m', hs', hm, _, _⟩ := h.addOwn E (v := .slice (some ⟨w.heap.size, 0, none⟩) els.length cap) (bl := .row e s els) (below_alloc w (.cells A e)) rfl rfl
  (fun b hb => by simp [blk] at hb; subst hb; simp) (fun N' m' hN hm => by
   refine ⟨rfl, A.toList.take (els.length * s), f, ⟨by simp; omega, .inr ⟨w.heap.size, cap, A, rfl, Nat.zero_le _, Go.heap_alloc_new w _, hcap, hcm, hA, rfl⟩⟩, hs, fun k j hk hj => ?_, h2, f1, fun k hk j hj => (hr k hk j hj).mono (fun b hb => heap_alloc_old w _ (Nset_lt E h hb)) hN⟩
   rw [List.getElem?_take, if_pos (mul_lt hk hj)]
   simpa using hget k j hk hj)
 exact ⟨m', hs'.put (.own _ (_, []) hm)⟩

theorem makeSlice_ok (E : Env P gl S X w0) (h : Sim S X w0 m0 st a w m) {t e : TypeId} {o : Oper} {l c : Operand} (ho : o.op = .makeSlice t l c) (he : elemT P t = some e) {z : PV} (hz : zeroP P e = some z)
  {k k' : IntKind} {n n' : Int} (hl : a.eval l = .int k n) (hc : a.eval c = .int k' n') (hby : P.bytesOf e ≤ 1000) (hzl : z.cells.length = P.cellsOf e) (h0 : 0 ≤ n) (h1 : n ≤ n') (h2 : n' ≤ 1000000000)
  {next : Act → World → Prop} {Q : Exit → Act → World → Prop}
  (hn : ∀ a' w' m', Sim S X w0 m0 ((st.addOwn (.row e (P.cellsOf e) (List.replicate n.toNat z))).put o.dst (.own st.own.length)) a' w' m' → next a' w') : o.wp P a w next Q := by
 obtain ⟨hu, hne⟩ := elemT_spec he
 obtain ⟨i, zv, f, hi, hzv, hcells, f1, fr⟩ := zeroP_spec (w := w) (N := Nset S X w0.heap.size w m st.own) hz
 have hsz : i.size = P.cellsOf e := by simp [Program.cellsOf, hi]
 have hb : (i.bytes : Int) * n' ≤ 281474976710656 := by
  rw [bytes_info hi]
  have : (P.bytesOf e : Int) * n' ≤ 1000 * 1000000000 := Int.mul_le_mul (by omega) h2 (by omega) (by omega)
  omega
 have hrun := run_make (P := P) w t e i zv hu hi hzv k k' n n' h0 h1 hb (by omega)
 have hzs : zv.cells.size = P.cellsOf e := by rw [hcells]; simpa using hzl
 obtain ⟨m', hs'⟩ := h.newRow E (e := e) (s := P.cellsOf e) (n := n.toNat) (cap := n'.toNat) (els := List.replicate n.toNat z) (A := madeCells zv.cells (n'.toNat * i.size)) (f := fun _ j => f j) (Nat.pos_of_ne_zero hne) (by simp) (by omega) (by simp only [maxLen]; omega)
  (by rw [size_madeCells, hsz]) (fun k j hk hj => by
   have hlt : k * P.cellsOf e + j < n'.toNat * i.size := by rw [hsz]; exact mul_lt (by omega) hj
   simp only [madeCells]
   rw [Array.getElem?_eq_getElem (by simpa using hlt)]
   simp only [Array.getElem_map, Array.getElem_range, hzs]
   rw [Nat.mul_comm, Nat.mul_add_mod, Nat.mod_eq_of_lt hj]
   rw [getElem!_pos zv.cells j (by rw [hzs]; exact hj)]
   congr 1
   simp only [hcells]
   simp [vrange]) (fun _ j => f1 j) (fun k hk => by simp [hzl]) (fun k hk j hj => by
   simp only [List.getElem_replicate] at hj ⊢
   exact fr j hj) o.dst
 refine wp_value' (v := .slice (some ⟨w.heap.size, 0, none⟩) n.toNat n'.toNat) (w' := w.alloc (.cells (madeCells zv.cells (n'.toNat * i.size)) e)) ?_ (hn _ _ m' hs')
 simp [execOp, ho, hl, hc, hrun]

theorem buildOwn_ok (E : Env P gl S X w0) (h : Sim S X w0 m0 st a w m) {o : Oper} {t e : TypeId} {n : Nat} {parts : Array (Nat × Operand)} {els : List PV} (ho : o.op = .buildSlice t n parts)
  (hc : condsOk none st (parts.toList.map (·.2))) (he : elemT P t = some e) (hs : snapL [] [] (parts.toList.map fun x => strip (st.ev x.2)) = some els)
  (hin : inOrder 0 parts.toList = true) (hn : n = parts.size) (hsz : n * P.cellsOf e < 65536) (hz : hasZero P e = true) (hel : ∀ p ∈ els, okEl (P.cellsOf e) p)
  {next : Act → World → Prop} {Q : Exit → Act → World → Prop}
  (hnx : ∀ a' w' m', Sim S X w0 m0 ((st.addOwn (.row e (P.cellsOf e) els)).put o.dst (.own st.own.length)) a' w' m' → next a' w') : o.wp P a w next Q := by
 obtain ⟨parts⟩ := parts
 simp only at hc hs hin
 simp only [List.size_toArray] at hn
 obtain ⟨hl, hsn⟩ := mapO_spec hs
 simp only [List.length_map] at hl
 have hrep : ∀ k (hk : k < els.length), Rep w (Nset S X w0.heap.size w m st.own) (a.eval (parts[k]'(by omega)).2) els[k] := by
  intro k hk
  have hq : (parts[k]'(by omega)).2 ∈ parts.map (·.2) := List.mem_map.2 ⟨_, List.getElem_mem _, rfl⟩
  have h1 := strip_rep (h.evs (parts[k]'(by omega)).2) (condsOk_mem (g := none) trivial hc _ hq)
  have h2 := hsn k (by simp; omega) hk
  simp only [List.getElem_map] at h2
  exact snapD_rep (own := []) (ds := []) (m := m) (fun i b v h => by simp at h) (fun _ => id) (fun i b h => by simp at h) 8 _ _ _ h1 h2
 have hcs : ∀ k, ∃ f : Nat → Value, (∀ (hk : k < els.length), (a.eval (parts[k]'(by omega)).2).cells = (vrange (P.cellsOf e) f).toArray ∧ ∀ j (hj : j < (els[k]).cells.length), Rep w (Nset S X w0.heap.size w m st.own) (f j) (els[k]).cells[j]) ∧ ∀ j, (f j).oneCell' = true := by
  intro k
  by_cases hk : k < els.length
  ·have hok := hel _ (List.getElem_mem hk)
   obtain ⟨f, h1, h2, h3⟩ := rep_cells (hrep k hk) hok.2
   exact ⟨f, fun _ => ⟨by rw [← hok.1]; exact h1, h3⟩, h2⟩
  ·exact ⟨fun _ => .bool false, fun h => absurd h hk, fun _ => rfl⟩
 let F : Nat → Nat → Value := fun k => Classical.choose (hcs k)
 have hF := fun k => Classical.choose_spec (hcs k)
 obtain ⟨A, hrun, hA, hget⟩ := run_buildSlice he hz (n := n) hsz (parts.map fun (i, x) => (i, a.eval x)) (by simp [hn]) F (fun k hk => by
  simp only [List.length_map] at hk
  have h1 := inOrder_get hin k hk
  simp only [List.getElem_map]
  exact ⟨by omega, ((hF k).1 (by omega)).1⟩) w
 obtain ⟨m', hs'⟩ := h.newRow E (e := e) (n := n) (cap := n) (els := els) (A := A) (f := F) (Nat.pos_of_ne_zero (elemT_spec he).2) (by omega) (Nat.le_refl _) (by
   have := Nat.pos_of_ne_zero (elemT_spec he).2
   have : n * 1 ≤ n * P.cellsOf e := Nat.mul_le_mul_left _ this
   simp only [maxLen]; omega) hA hget (fun k j => (hF k).2 j) (fun k hk => (hel _ (List.getElem_mem hk)).1) (fun k hk j hj => ((hF k).1 hk).2 j hj) o.dst
 exact wp_value' (v := .slice (some ⟨w.heap.size, 0, none⟩) n n) (w' := w.alloc (.cells A e)) (by simp [execOp, ho, hrun]) (hnx _ _ m' hs')

end
end Go.Pe

/- Calls in a statement whose order is fixed. -/
namespace Go.Pe
open Go Go.RowKit

theorem setAll_length : ∀ (ds : List Nat) (new own : List Blk), (setAll ds new own).length = own.length
 | [], _, _ => by simp [setAll]
 | _ :: _, [], _ => by simp [setAll]
 | d :: ds, b :: new, own => by simp [setAll, setAll_length ds new]

theorem setAll_not : ∀ (ds : List Nat) (new own : List Blk) (j : Nat), j ∉ ds → (setAll ds new own)[j]? = own[j]?
 | [], _, _, _, _ => by simp [setAll]
 | _ :: _, [], _, _, _ => by simp [setAll]
 | d :: ds, b :: new, own, j, h => by
  simp only [List.mem_cons, not_or] at h
  simp only [setAll]
  rw [setAll_not ds new _ j h.2, List.getElem?_set_ne (fun e => h.1 e.symm)]

theorem setAll_mem : ∀ (ds : List Nat) (new own : List Blk) (p j : Nat) (b : Blk), ds.Nodup → ds[p]? = some j → new[p]? = some b → j < own.length → (setAll ds new own)[j]? = some b
 | [], _, _, p, _, _, _, h, _, _ => by simp at h
 | _ :: _, [], _, p, _, _, _, _, h, _ => by simp at h
 | d :: ds, b :: new, own, 0, j, b', hn, h1, h2, h3 => by
  simp at h1 h2
  subst h1; subst h2
  simp only [List.nodup_cons] at hn
  simp only [setAll]
  rw [setAll_not ds new _ d hn.1, List.getElem?_set_self h3]
 | d :: ds, b :: new, own, p + 1, j, b', hn, h1, h2, h3 => by
  simp at h1 h2
  simp only [List.nodup_cons] at hn
  simp only [setAll]
  exact setAll_mem ds new _ p j b' hn.2 h1 h2 (by simpa using h3)

theorem idx_get : ∀ (ds : List Nat) (i : Nat), i ∈ ds → ds[idx ds i]? = some i
 | [], i, h => by simp at h
 | d :: r, i, h => by
  unfold idx
  by_cases he : d = i
  ·simp [he]
  ·rw [if_neg he]
   simp only [List.getElem?_cons_succ]
   exact idx_get r i ((List.mem_cons.1 h).resolve_left (fun e => he e.symm))

theorem nodup_get : ∀ {ds : List Nat} {p q j : Nat}, ds.Nodup → ds[p]? = some j → ds[q]? = some j → p = q
 | [], p, q, j, _, h, _ => by simp at h
 | d :: r, 0, 0, j, _, _, _ => rfl
 | d :: r, 0, q + 1, j, hn, h1, h2 => by
  simp at h1 h2
  subst h1
  exact absurd (List.mem_of_getElem? h2) (List.nodup_cons.1 hn).1
 | d :: r, p + 1, 0, j, hn, h1, h2 => by
  simp at h1 h2
  subst h2
  exact absurd (List.mem_of_getElem? h1) (List.nodup_cons.1 hn).1
 | d :: r, p + 1, q + 1, j, hn, h1, h2 => by
  simp at h1 h2
  rw [nodup_get (List.nodup_cons.1 hn).2 h1 h2]

section
variable {P : Program} {gl : List (Nat × Obj)} {S X : Nat → Prop} {w0 w w' : World} {m0 m : Nat → Option MV} {st : St} {a : Act}

theorem plainF_rep {N : Nat → Prop} {m m' : Nat → Option MV} {v : Value} {x : FV} (hp : plainF x = true) (h : RepF w N m v x) : RepF w N m' v x := by
 cases x <;> simp [plainF] at hp
 exact .pv _ _ h.pvInv

theorem plainB_ok {N : Nat → Prop} {m m' : Nat → Option MV} {v : MV} {b : Blk} (hp : plainB b = true) (h : OwnOk w N m v b) : OwnOk w N m' v b := by
 cases b with
 | gone => trivial
 | row e s els => exact h
 | tree e s et els => exact h
 | box cs =>
  obtain ⟨h0, b, T, f, h9, hh, h1, hr⟩ := h
  exact ⟨h0, b, T, f, h9, hh, h1, fun j hj => plainF_rep (List.all_eq_true.1 hp _ (List.getElem_mem hj)) (hr j hj)⟩

theorem plainB_mono {N N' : Nat → Prop} {m m' : Nat → Option MV} {v : MV} {b : Blk} (hp : plainB b = true) (h : OwnOk w N m v b)
  (hw : ∀ q, N q → w'.heap[q]? = w.heap[q]?) (hN : ∀ q, N q → N' q) (hv : ∀ q, hasB v q → w'.heap[q]? = w.heap[q]?) : OwnOk w' N' m' v b :=
 plainB_ok (m := m) hp (h.mono hw hN (fun _ _ => id) hv)

theorem FX.step (E : Env P gl S X w0) (h : Sim S X w0 m0 st a w m) {fid : FuncId} {ds : List Nat} {bs : List Blk} {as args : List FV} {R : List Blk → FV → Prop} {g : Nat → Value}
  (hnd : ds.Nodup) (hbs : mapO (fun i => st.own[i]?) ds = some bs) (hlive : (bs.all fun b => b.live && plainB b) = true) (has : mapO (renR ds) args = some as)
  (hfx : FX P gl fid bs as R) (hg : ∀ j (hj : j < args.length), RepF w (Nset S X w0.heap.size w m st.own) m (g j) args[j]) {R' : Ending → World → Prop}
  (hn : ∀ v r own' w' m2, R own' r → (own'.all plainB = true → Sim S X w0 m0 { st with own := setAll ds own' st.own ++ own'.drop ds.length } a w' m2 ∧
   RepF w' (Nset S X w0.heap.size w' m2 (setAll ds own' st.own ++ own'.drop ds.length)) m2 v (backR ds st.own.length r)) → R' (.returned v) w') :
  Calls P fid (vrange args.length g).toArray w R' := by
 obtain ⟨hbl, hbget⟩ := mapO_spec hbs
 obtain ⟨hal, haget⟩ := mapO_spec has
 have hbs' : ∀ (p j : Nat), ds[p]? = some j → ∃ b, bs[p]? = some b ∧ st.own[j]? = some b ∧ b.live = true ∧ plainB b = true := by
  intro p j hp
  have hlt : p < ds.length := (List.getElem?_eq_some_iff.1 hp).1
  have hjd : ds[p] = j := (List.getElem?_eq_some_iff.1 hp).2
  have hb := hbget p hlt (by omega)
  rw [hjd] at hb
  have hm := List.all_eq_true.1 hlive bs[p] (List.getElem_mem _)
  simp only [Bool.and_eq_true] at hm
  exact ⟨bs[p], List.getElem?_eq_getElem (by omega), hb, hm.1, hm.2⟩
 let mX : Nat → Option MV := fun i => (ds[i]?).bind m
 have hmX : ∀ (p j : Nat), ds[p]? = some j → mX p = m j := fun p j hp => by simp [mX, hp]
 have hmbX : ∀ (p j : Nat), ds[p]? = some j → mblk mX p = mblk m j := fun p j hp => by unfold mblk; rw [hmX p j hp]
 have hlvX : ∀ p, lives bs p → ∃ j : Nat, ds[p]? = some j ∧ lives st.own j := by
  rintro p ⟨b, hb, hl⟩
  have hlt : p < ds.length := by have := (List.getElem?_eq_some_iff.1 hb).1; omega
  obtain ⟨b', h1, h2, h3, _⟩ := hbs' p ds[p] (List.getElem?_eq_getElem hlt)
  exact ⟨ds[p], List.getElem?_eq_getElem hlt, b', h2, h3⟩
 have hlvd : ∀ (p j : Nat), ds[p]? = some j → lives bs p ∧ lives st.own j := by
  intro p j hp
  obtain ⟨b, h1, h2, h3, _⟩ := hbs' p j hp
  exact ⟨⟨b, h1, h3⟩, ⟨b, h2, h3⟩⟩
 have hows : OwnS w (Nset S X w0.heap.size w m st.own) mX bs := by
  refine ⟨fun p v hv => ?_, fun p b hb hl => ?_, fun p q b hne hp hq hbp hbq => ?_, fun p b hp hb => ?_, fun p b hp hb => ?_⟩
  ·cases hd : ds[p]? with
   | none => simp [mX, hd] at hv
   | some j =>
    rw [hmX p j hd] at hv
    have := (List.getElem?_eq_some_iff.1 hd).1
    exact ⟨by omega, (h.ows.len j v hv).2⟩
  ·obtain ⟨j, hd, _⟩ := hlvX p ⟨b, hb, hl⟩
   obtain ⟨b', h1, h2, h3, h4⟩ := hbs' p j hd
   rw [hb] at h1; cases h1
   obtain ⟨v, hv, hok⟩ := h.ows.ok j b h2 hl
   exact ⟨v, (hmX p j hd).trans hv, plainB_ok h4 hok⟩
  ·obtain ⟨j, hd, hlj⟩ := hlvX p hp
   obtain ⟨k, hdk, hlk⟩ := hlvX q hq
   rw [hmbX p j hd] at hbp
   rw [hmbX q k hdk] at hbq
   exact h.ows.sep j k b (fun e => by subst e; exact hne (nodup_get hnd hd hdk)) hlj hlk hbp hbq
  ·obtain ⟨j, hd, hlj⟩ := hlvX p hp
   rw [hmbX p j hd] at hb
   exact h.ows.lt j b hlj hb
  ·obtain ⟨j, hd, hlj⟩ := hlvX p hp
   rw [hmbX p j hd] at hb
   exact h.ows.out j b hlj hb
 have hren : ∀ j (hj : j < as.length), RepF w (Nset S X w0.heap.size w m st.own) mX (g j) as[j] := by
  intro j hj
  have h1 := haget j (by omega) hj
  have h2 := hg j (by omega)
  generalize args[j]'(by omega) = x at h1 h2
  unfold renR at h1
  split at h1
  ·simp only [Option.some.injEq] at h1
   rw [← h1]
   exact .pv _ _ h2.pvInv
  ·rename_i cs
   cases hm : mapO (renO ds) cs with
   | none => simp [hm] at h1
   | some cs' =>
    simp only [hm, Option.map_some, Option.some.injEq] at h1
    rw [← h1]
    obtain ⟨hcl, hcget⟩ := mapO_spec hm
    generalize g j = gj at h2
    cases h2 with | agg _ f hf1 hfr =>
    rw [hcl]
    refine .agg cs' f hf1 (fun q hq => ?_)
    have h3 := hcget q (by omega) hq
    have h4 := hfr q (by omega)
    generalize cs[q]'(by omega) = y at h3 h4
    generalize f q = fq at h4
    unfold renO at h3
    split at h3
    ·simp only [Option.some.injEq] at h3
     rw [← h3]
     exact .pv _ _ h4.pvInv
    ·rename_i i
     split at h3
     ·rename_i hd
      simp only [Option.some.injEq] at h3
      rw [← h3]
      have hmem : i ∈ ds := by simpa using hd
      cases h4 with | own _ _ hvi =>
      exact .own _ _ ((hmX _ _ (idx_get ds i hmem)).trans hvi)
     ·cases h3
    ·cases h3
  ·rename_i i
   split at h1
   ·rename_i hc
    simp only [Option.some.injEq] at h1
    rw [← h1]
    generalize g j = gj at h2
    cases h2 with | own _ _ hv =>
    exact .own _ _ ((hmX _ i (idx_get ds i (by simpa using hc))).trans hv)
   ·cases h1
  ·rename_i i off
   split at h1
   ·rename_i hc
    simp only [Option.some.injEq] at h1
    rw [← h1]
    generalize g j = gj at h2
    cases h2
    rename_i b hb
    exact .box _ _ b (by unfold tblk at hb ⊢; rw [hmX _ i (idx_get ds i (by simpa using hc))]; exact hb)
   ·cases h1
  ·cases h1
 rw [hal]
 refine (hfx.2 w _ mX g (h.glob E) (fun b => Nset_lt E h) hows (fun p b hp hb x hx => ?_) hren).mono ?_
 ·obtain ⟨j, hd, hlj⟩ := hlvX p hp
  rw [hmbX p j hd] at hb
  intro e
  rcases h.bnd j b hlj hb with h1 | h1
  ·have h0 := (Array.getElem?_eq_some_iff.1 (E.gl0 x hx)).1
   omega
  ·exact E.glX b h1 x hx e
 ·rintro e w' ⟨v, r, own', m', rfl, hR, hlen, hmm, hbx, hos, hbn, hrr⟩
  let m2 : Nat → Option MV := fun j => if j < st.own.length then m j else m' (j - st.own.length + ds.length)
  refine hn v r own' w' m2 hR fun hplain => ?_
  let own2 := setAll ds own' st.own ++ own'.drop ds.length
  have hdl : ds.length ≤ own'.length := by omega
  have hold2 : ∀ j, j < st.own.length → own2[j]? = (setAll ds own' st.own)[j]? := fun j hj => List.getElem?_append_left (by rw [setAll_length]; exact hj)
  have hnew2 : ∀ j, st.own.length ≤ j → own2[j]? = own'[j - st.own.length + ds.length]? := by
   intro j hj
   show (setAll ds own' st.own ++ own'.drop ds.length)[j]? = _
   rw [List.getElem?_append_right (by rw [setAll_length]; exact hj), setAll_length, List.getElem?_drop, Nat.add_comm]
  have hmold : ∀ j, j < st.own.length → m2 j = m j := fun j hj => by simp only [m2]; rw [if_pos hj]
  have hmnew : ∀ j, st.own.length ≤ j → m2 j = m' (j - st.own.length + ds.length) := fun j hj => by simp only [m2]; rw [if_neg (by omega)]
  have hdlt : ∀ (p j : Nat), ds[p]? = some j → j < st.own.length := by
   intro p j hp
   obtain ⟨b, _, h2, _⟩ := hbs' p j hp
   exact (List.getElem?_eq_some_iff.1 h2).1
  have hmds : ∀ (p j : Nat), ds[p]? = some j → m' p = m j := by
   intro p j hp
   have := (List.getElem?_eq_some_iff.1 hp).1
   rw [hmm p (by omega), hmX p j hp]
  have hcase : ∀ (j : Nat) (b : Blk), own2[j]? = some b → b.live = true →
    (j < st.own.length ∧ j ∉ ds ∧ st.own[j]? = some b) ∨ (∃ p : Nat, ds[p]? = some j ∧ own'[p]? = some b) ∨ (st.own.length ≤ j ∧ own'[j - st.own.length + ds.length]? = some b) := by
   intro j b hb hl
   by_cases hj : j < st.own.length
   ·rw [hold2 j hj] at hb
    by_cases hd : j ∈ ds
    ·right; left
     obtain ⟨p, hp, rfl⟩ := List.getElem_of_mem hd
     have hp' : ds[p]? = some ds[p] := List.getElem?_eq_getElem hp
     refine ⟨p, hp', ?_⟩
     rw [setAll_mem ds own' st.own p ds[p] (own'[p]'(by omega)) hnd hp' (List.getElem?_eq_getElem (by omega)) hj] at hb
     rw [← hb]
     exact List.getElem?_eq_getElem (by omega)
    ·left
     rw [setAll_not ds own' st.own j hd] at hb
     exact ⟨hj, hd, hb⟩
   ·right; right
    rw [hnew2 j (by omega)] at hb
    exact ⟨by omega, hb⟩
  have hX1 : ∀ b, (∃ i, lives bs i ∧ mblk mX i b) → ∃ p j : Nat, ds[p]? = some j ∧ mblk m j b := by
   rintro b ⟨p, hp, hb⟩
   obtain ⟨j, hd, _⟩ := hlvX p hp
   exact ⟨p, j, hd, by rw [← hmbX p j hd]; exact hb⟩
  have hNb : ∀ q, Nset S X w0.heap.size w m st.own q → w'.heap[q]? = w.heap[q]? := by
   intro q hq
   refine hbx.block q (Nset_lt E h hq) fun hX => ?_
   obtain ⟨p, j, hd, hb⟩ := hX1 q hX
   exact h.ows.out j q (hlvd p j hd).2 hb hq
  have hblk2 : ∀ j, lives own2 j → ∀ b, mblk m2 j b →
    (j < st.own.length ∧ j ∉ ds ∧ lives st.own j ∧ mblk m j b) ∨ (∃ p : Nat, ds[p]? = some j ∧ lives own' p ∧ mblk m' p b ∧ mblk m j b) ∨
    (st.own.length ≤ j ∧ lives own' (j - st.own.length + ds.length) ∧ mblk m' (j - st.own.length + ds.length) b) := by
   rintro j ⟨c, hc, hl⟩ b hb
   rcases hcase j c hc hl with ⟨h1, h2, h3⟩ | ⟨p, h1, h2⟩ | ⟨h1, h2⟩
   ·exact .inl ⟨h1, h2, ⟨c, h3, hl⟩, by unfold mblk at *; rwa [hmold j h1] at hb⟩
   ·have hjl := hdlt p j h1
    have hb' : mblk m j b := by unfold mblk at *; rwa [hmold j hjl] at hb
    exact .inr (.inl ⟨p, h1, ⟨c, h2, hl⟩, by unfold mblk at *; rw [hmds p j h1]; exact hb', hb'⟩)
   ·exact .inr (.inr ⟨h1, ⟨c, h2, hl⟩, by unfold mblk at *; rwa [hmnew j h1] at hb⟩)
  have hN2 : ∀ q, Nset S X w0.heap.size w m st.own q → Nset S X w0.heap.size w' m2 own2 q := by
   intro q hNq
   have hlt := Nset_lt E h hNq
   have hNq' := hNq
   rcases hNq with hq | ⟨q1, q2, q3⟩
   ·exact .inl hq
   ·refine .inr ⟨q1, Nat.lt_of_lt_of_le q2 hbx.size, fun j hj hmj => ?_⟩
    rcases hblk2 j hj q hmj with ⟨_, _, h3, h4⟩ | ⟨p, h1, _, _, h4⟩ | ⟨_, h2, h3⟩
    ·exact q3 j h3 h4
    ·exact q3 j (hlvd p j h1).2 h4
    ·rcases hbn _ q h2 h3 with h5 | h5
     ·omega
     ·obtain ⟨p, k, hd, hb⟩ := hX1 q h5
      exact h.ows.out k q (hlvd p k hd).2 hb hNq'
  have hNF : ∀ q, Nset (Nset S X w0.heap.size w m st.own) (fun b => ∃ i, lives bs i ∧ mblk mX i b) w.heap.size w' m' own' q → Nset S X w0.heap.size w' m2 own2 q := by
   rintro q (hq | ⟨q1, q2, q3⟩)
   ·exact hN2 q hq
   ·refine .inr ⟨?_, q2, fun j hj hmj => ?_⟩
    ·rcases q1 with q1 | q1
     ·exact .inl (Nat.le_trans h.bel.size q1)
     ·obtain ⟨p, k, hd, hb⟩ := hX1 q q1
      exact h.bnd k q (hlvd p k hd).2 hb
    ·rcases hblk2 j hj q hmj with ⟨_, h2, h3, h4⟩ | ⟨p, _, h2, h3, _⟩ | ⟨_, h2, h3⟩
     ·rcases q1 with q1 | q1
      ·have := h.ows.lt j q h3 h4; omega
      ·obtain ⟨p, k, hd, hb⟩ := hX1 q q1
       refine h.ows.sep j k q (fun e => ?_) h3 (hlvd p k hd).2 h4 hb
       subst e
       exact h2 (List.mem_of_getElem? hd)
     ·exact q3 p h2 h3
     ·exact q3 _ h2 h3
  have hm2 : ∀ i v, m i = some v → m2 i = some v := fun i v hv => by rw [hmold i (h.ows.len i v hv).1]; exact hv
  refine ⟨⟨⟨hbx.os.trans h.bel.os, hbx.tape.trans h.bel.tape, hbx.output.trans h.bel.output, Nat.le_trans h.bel.size hbx.size, fun k hk hX => ?_⟩, ⟨fun j u hu => ?_, fun j b hb hl => ?_, fun j k b hne hj hk hbj hbk => ?_, fun j b hj hb => ?_, fun j b hj hb hq => ?_⟩, fun j b hj hb => ?_, fun j hj => ?_, ?_, h.nt, h.df, fun t => (h.slots t).mono hNb hN2 hm2⟩, ?_⟩
  ·refine (hbx.block k (Nat.lt_of_lt_of_le hk h.bel.size) fun hX' => ?_).trans (h.bel.block k hk hX)
   obtain ⟨p, j, hd, hb⟩ := hX1 k hX'
   rcases h.bnd j k (hlvd p j hd).2 hb with h1 | h1
   ·omega
   ·exact hX h1
  ·have hlen2 : own2.length = st.own.length + (own'.length - ds.length) := by simp [own2, setAll_length]
   by_cases hj : j < st.own.length
   ·rw [hmold j hj] at hu
    exact ⟨by show j < own2.length; omega, (h.ows.len j u hu).2⟩
   ·rw [hmnew j (by omega)] at hu
    have := hos.len _ u hu
    exact ⟨by show j < own2.length; omega, this.2⟩
  ·rcases hcase j b hb hl with ⟨h1, h2, h3⟩ | ⟨p, h1, h2⟩ | ⟨h1, h2⟩
   ·obtain ⟨u, hu, hok⟩ := h.ows.ok j b h3 hl
    refine ⟨u, hm2 j u hu, hok.mono hNb hN2 hm2 (fun q hq => hbx.block q (h.ows.lt j q ⟨b, h3, hl⟩ (mblk_of hu hq)) fun hX => ?_)⟩
    obtain ⟨p, k, hd, hb'⟩ := hX1 q hX
    refine h.ows.sep j k q (fun e => ?_) ⟨b, h3, hl⟩ (hlvd p k hd).2 (mblk_of hu hq) hb'
    subst e
    exact h2 (List.mem_of_getElem? hd)
   ·obtain ⟨u, hu, hok⟩ := hos.ok p b h2 hl
    have hpl := List.all_eq_true.1 hplain b (List.mem_of_getElem? h2)
    refine ⟨u, ?_, plainB_mono (m := m') hpl hok (fun _ _ => rfl) hNF (fun _ _ => rfl)⟩
    rw [hmold j (hdlt p j h1), ← hmds p j h1]
    exact hu
   ·obtain ⟨u, hu, hok⟩ := hos.ok _ b h2 hl
    have hpl := List.all_eq_true.1 hplain b (List.mem_of_getElem? h2)
    exact ⟨u, (hmnew j h1).trans hu, plainB_mono (m := m') hpl hok (fun _ _ => rfl) hNF (fun _ _ => rfl)⟩
  ·-- apart
   have hxx : ∀ (p j : Nat), ds[p]? = some j → j ∉ ds → False := fun p j h1 h2 => h2 (List.mem_of_getElem? h1)
   rcases hblk2 j hj b hbj with ⟨a1, a2, a3, a4⟩ | ⟨p, a1, a2, a3, a4⟩ | ⟨a1, a2, a3⟩ <;>
    rcases hblk2 k hk b hbk with ⟨c1, c2, c3, c4⟩ | ⟨q, c1, c2, c3, c4⟩ | ⟨c1, c2, c3⟩
   ·exact h.ows.sep j k b hne a3 c3 a4 c4
   ·exact h.ows.sep j k b hne a3 (hlvd q k c1).2 a4 c4
   ·rcases hbn _ b c2 c3 with h5 | h5
    ·have := h.ows.lt j b a3 a4; omega
    ·obtain ⟨p, i, hd, hb⟩ := hX1 b h5
     exact h.ows.sep j i b (fun e => by subst e; exact a2 (List.mem_of_getElem? hd)) a3 (hlvd p i hd).2 a4 hb
   ·exact h.ows.sep j k b hne (hlvd p j a1).2 c3 a4 c4
   ·exact h.ows.sep j k b hne (hlvd p j a1).2 (hlvd q k c1).2 a4 c4
   ·have := (List.getElem?_eq_some_iff.1 a1).1
    exact hos.sep p _ b (by omega) a2 c2 a3 c3
   ·rcases hbn _ b a2 a3 with h5 | h5
    ·have := h.ows.lt k b c3 c4; omega
    ·obtain ⟨p, i, hd, hb⟩ := hX1 b h5
     exact h.ows.sep k i b (fun e => by subst e; exact c2 (List.mem_of_getElem? hd)) c3 (hlvd p i hd).2 c4 hb
   ·have := (List.getElem?_eq_some_iff.1 c1).1
    exact hos.sep _ q b (by omega) a2 c2 a3 c3
   ·exact hos.sep _ _ b (by omega) a2 c2 a3 c3
  ·rcases hblk2 j hj b hb with ⟨a1, a2, a3, a4⟩ | ⟨p, a1, a2, a3, a4⟩ | ⟨a1, a2, a3⟩
   ·exact Nat.lt_of_lt_of_le (h.ows.lt j b a3 a4) hbx.size
   ·exact Nat.lt_of_lt_of_le (h.ows.lt j b (hlvd p j a1).2 a4) hbx.size
   ·exact hos.lt _ b a2 a3
  ·rcases hq with hq | ⟨_, _, q3⟩
   ·rcases hblk2 j hj b hb with ⟨a1, a2, a3, a4⟩ | ⟨p, a1, a2, a3, a4⟩ | ⟨a1, a2, a3⟩
    ·exact h.ows.out j b a3 a4 (.inl hq)
    ·exact h.ows.out j b (hlvd p j a1).2 a4 (.inl hq)
    ·exact hos.out _ b a2 a3 (.inl (.inl hq))
   ·exact q3 j hj hb
  ·rcases hblk2 j hj b hb with ⟨a1, a2, a3, a4⟩ | ⟨p, a1, a2, a3, a4⟩ | ⟨a1, a2, a3⟩
   ·exact h.bnd j b a3 a4
   ·exact h.bnd j b (hlvd p j a1).2 a4
   ·rcases hbn _ b a2 a3 with h5 | h5
    ·exact .inl (Nat.le_trans h.bel.size h5)
    ·obtain ⟨p, i, hd, hb'⟩ := hX1 b h5
     exact h.bnd i b (hlvd p i hd).2 hb'
  ·have : j < st.k0 := hj
   have := h.k0
   rw [hmold j (by omega)]
   exact h.fix j hj
  ·have := h.k0
   show st.k0 ≤ own2.length
   simp only [own2, List.length_append, setAll_length]
   omega
  ·-- the result
   have hback : ∀ i u, m' i = some u → m2 (backI ds st.own.length i) = some u := by
    intro i u hu
    unfold backI
    cases hd : ds[i]? with
    | some d =>
     simp only
     rw [hmold d (hdlt i d hd), ← hmds i d hd]
     exact hu
    | none =>
     have hge : ds.length ≤ i := by simpa using hd
     simp only
     rw [hmnew _ (by omega)]
     rw [show st.own.length + i - ds.length - st.own.length + ds.length = i by omega]
     exact hu
   have hone : ∀ u x, RepF w' (Nset (Nset S X w0.heap.size w m st.own) (fun b => ∃ i, lives bs i ∧ mblk mX i b) w.heap.size w' m' own') m' u x →
     RepF w' (Nset S X w0.heap.size w' m2 own2) m2 u (backO ds st.own.length x) := by
    intro u x hx
    cases hx with
    | own i _ hv => exact .own _ _ (hback i _ hv)
    | pv _ p hp => exact .pv _ _ (hp.mono (fun _ _ => rfl) hNF)
    | _ => exact .junk _
   have htwo : ∀ u x, RepF w' (Nset (Nset S X w0.heap.size w m st.own) (fun b => ∃ i, lives bs i ∧ mblk mX i b) w.heap.size w' m' own') m' u x →
     RepF w' (Nset S X w0.heap.size w' m2 own2) m2 u (backP ds st.own.length x) := by
    intro u x hx
    cases hx with
    | own i _ hv => exact .own _ _ (hback i _ hv)
    | pv _ p hp => exact .pv _ _ (hp.mono (fun _ _ => rfl) hNF)
    | box i off b hb =>
     obtain ⟨u, hu, hbu⟩ := tblk_spec hb
     exact .box _ _ b (tblk_of (hback i u hu) hbu)
    | agg cs f h1 hr =>
     have := RepF.agg (w := w') (S := Nset S X w0.heap.size w' m2 own2) (m := m2) (cs.map (backO ds st.own.length)) f h1 (fun j hj => by simp only [List.length_map] at hj; simp only [List.getElem_map]; exact hone _ _ (hr j hj))
     simp only [List.length_map] at this
     exact this
    | _ => exact .junk _
   cases hrr with
   | tup cs f hr =>
    have := RepF.tup (w := w') (S := Nset S X w0.heap.size w' m2 own2) (m := m2) (cs.map (backP ds st.own.length)) f (fun j hj => by simp only [List.length_map] at hj; simp only [List.getElem_map]; exact htwo _ _ (hr j hj))
    simp only [List.length_map] at this
    exact this
   | own i _ hv => exact htwo _ _ (.own i _ hv)
   | pv _ p hp => exact htwo _ _ (.pv _ p hp)
   | box i off b hb => exact htwo _ _ (.box i off b hb)
   | agg cs f h1 hr => exact htwo _ _ (.agg cs f h1 hr)
   | _ => exact .junk _

end
end Go.Pe

/- Trees: made of one element; cells written and looked at; a row of a tree's handed to a function. -/
namespace Go.Pe
open Go Go.RowKit

theorem nodupB_spec : ∀ {l : List Nat}, nodupB l = true → l.Nodup
 | [], _ => List.nodup_nil
 | x :: r, h => by
  simp only [nodupB, Bool.and_eq_true, Bool.not_eq_true', List.contains_eq_mem, decide_eq_false_iff_not] at h
  exact List.nodup_cons.2 ⟨h.1, nodupB_spec h.2⟩

theorem setSeg_length {α : Type} {cs new : List α} {off : Nat} (h : off + new.length ≤ cs.length) : (setSeg cs off new).length = cs.length := by
 unfold setSeg
 rw [List.length_append, List.length_append, List.length_take, List.length_drop, Nat.min_eq_left (by omega)]
 omega

theorem setCells_cells (p : PV) (off : Nat) (new : List PV) : (setCells p off new).cells = setSeg p.cells off new := rfl

theorem getD_cell {p : PV} {j : Nat} (hj : j < p.cells.length) : cellAt p j = p.cells[j] := by
 unfold cellAt
 simp [List.getD, List.getElem?_eq_getElem hj]

section
variable {P : Program} {gl : List (Nat × Obj)} {S X : Nat → Prop} {w0 w w' : World} {m0 m : Nat → Option MV} {st : St} {a : Act}

theorem buildTree_ok (E : Env P gl S X w0) (h : Sim S X w0 m0 st a w m) {o : Oper} {t e et : TypeId} {n : Nat} {x : Operand} {cs : List FV} {ps : List PV} {jl : List (Nat × List PV)} (ho : o.op = .buildSlice t n #[(0, x)]) (hn1 : n = 1)
  (hc : condOk none (st.ev x)) (he : elemT P t = some e) (hfc : fcells (strip (st.ev x)) = some cs) (hl : leafsF st.own et cs = some (ps, jl)) (hv : valsAll jl) (hnd : (jl.map (·.1)).Nodup)
  (hcl : cs.length = P.cellsOf e) (hsz : P.cellsOf e < 65536) (hz : hasZero P e = true)
  {next : Act → World → Prop} {Q : Exit → Act → World → Prop}
  (hnx : ∀ a' w' m', Sim S X w0 m0 ((st.newTree e (P.cellsOf e) et (.agg ps) (jl.map (·.1))).put o.dst (.own st.own.length)) a' w' m' → next a' w') : o.wp P a w next Q := by
 subst hn1
 have hs0 : 0 < P.cellsOf e := Nat.pos_of_ne_zero (elemT_spec he).2
 obtain ⟨g, hg, g1, gr⟩ := fcells_rep (strip_rep (h.evs x) hc) hfc (fun i v hv => (h.ows.len i v hv).2.1)
 obtain ⟨l1, l2, l3, l4⟩ := leafs_spec hl
 obtain ⟨A, hrun, hA, hget⟩ := run_buildSlice he hz (n := 1) (by omega) [(0, a.eval x)] rfl (fun _ => g) (fun k hk => by
  simp only [List.length_singleton] at hk
  obtain rfl : k = 0 := by omega
  exact ⟨rfl, by rw [← hcl]; exact hg⟩) w
 have hleaf : ∀ q (hq : q < cs.length), Leaf w et (g q) (gh cs[q] (g q)) (ps[q]'(by omega)) ∧ (ps[q]'(by omega)).one = true ∧ ∀ b, blk (gh cs[q] (g q)) = some b → ∃ j, cs[q] = .own j ∧ lives st.own j ∧ mblk m j b := by
  intro q hq
  obtain ⟨l, hl1, hl2⟩ := l2 q hq (by omega)
  refine leaf_ok h.ownAt (gr q hq) hl1 ?_
  clear hl1
  induction l with
  | nil => trivial
  | cons y r ih => exact ⟨valsAll_mem hv y (hl2 y (by simp)), ih (fun z hz => hl2 z (by simp [hz]))⟩
 have hjs : ∀ (q : Nat) (hq : q < cs.length) j, cs[q] = .own j → j ∈ jl.map (·.1) := by
  intro q hq j hj
  obtain ⟨l, hl1, hl2⟩ := l2 q hq (by omega)
  rw [hj] at hl1
  simp only [leafF] at hl1
  split at hl1
  ·split at hl1
   ·rename_i lj _ _
    simp only [Option.some.injEq, Prod.mk.injEq] at hl1
    obtain ⟨_, rfl⟩ := hl1
    exact List.mem_map.2 ⟨(j, lj), hl2 (j, lj) (by simp), rfl⟩
   ·cases hl1
  ·cases hl1
 have hjlt : ∀ j, j ∈ jl.map (·.1) → j < st.own.length := by
  intro j hj
  obtain ⟨q, hq, hqj⟩ := List.getElem_of_mem (l4 j hj)
  obtain ⟨l, hl1, _⟩ := l2 q hq (by omega)
  rw [hqj] at hl1
  simp only [leafF] at hl1
  split at hl1
  ·rename_i hj'
   exact (List.getElem?_eq_some_iff.1 hj').1
  ·cases hl1
 obtain ⟨m1, hs1, hm1, hmm, _⟩ := h.addOwn E (w' := w) (v := .slice none 0 0) (bl := .row e (P.cellsOf e) []) (Below.refl _ _) rfl rfl (fun b hb => by simp [blk] at hb)
  (fun N' m' _ _ => ⟨rfl, [], fun _ _ => .bool false, World.ownsRow_nil w 0 e _, hs0, fun k j hk => by simp at hk, fun k hk => by simp at hk, fun _ _ => rfl, fun k hk => by simp at hk⟩)
 let st1 := st.addOwn (.row e (P.cellsOf e) [])
 have hi1 : st1.own[st.own.length]? = some (.row e (P.cellsOf e) []) := by simp [st1, St.addOwn]
 have hlv1 : ∀ {j}, lives st.own j → lives st1.own j := by
  rintro j ⟨b, hb, hl⟩
  exact ⟨b, by simp only [st1, St.addOwn]; rw [List.getElem?_append_left (List.getElem?_eq_some_iff.1 hb).1]; exact hb, hl⟩
 have hmb1 : ∀ {j b}, mblk m j b → mblk m1 j b := by
  rintro j b ⟨u, hu, hb⟩
  exact ⟨u, hmm j u hu, hb⟩
 let gs : List Value := (List.range cs.length).map fun q => gh (cs.getD q .junk) (g q)
 have hgs : ∀ q (hq : q < cs.length), gs[q]? = some (gh cs[q] (g q)) := by
  intro q hq
  simp only [gs, List.getElem?_map, List.getElem?_range hq, Option.map_some]
  simp [List.getD, List.getElem?_eq_getElem hq]
 have hgm : ∀ x, x ∈ gs → ∃ q, ∃ hq : q < cs.length, x = gh cs[q] (g q) := by
  intro x hx
  simp only [gs, List.mem_map, List.mem_range] at hx
  obtain ⟨q, hq, rfl⟩ := hx
  exact ⟨q, hq, by simp [List.getD, List.getElem?_eq_getElem hq]⟩
 have hgsl : gs.length = cs.length := by simp [gs]
 have hw1 : ∀ c, c < w.heap.size → (w.alloc (.cells A e)).heap[c]? = w.heap[c]? := fun c hc => Go.heap_alloc_old w _ hc
 have hglt : ∀ x c, x ∈ gs → blk x = some c → c < w.heap.size := by
  intro x c hx hc
  obtain ⟨q, hq, rfl⟩ := hgm x hx
  obtain ⟨j, _, h5, h6⟩ := (hleaf q hq).2.2 c hc
  exact h.ows.lt j c h5 h6
 have hA1 : A.size = P.cellsOf e := by rw [hA, Nat.one_mul]
 have hB : ∀ c, hasB (.slice (some ⟨w.heap.size, 0, none⟩) 1 1, gs) c → (hasB (.slice none 0 0, []) c ∨ w.heap.size ≤ c ∨ ∃ j, j ∈ jl.map (·.1) ∧ lives ((st1.drop st.own.length).drops (jl.map (·.1))).own j ∧ mblk m1 j c) ∧ c < (w.alloc (.cells A e)).heap.size := by
  intro c hc
  have hsz' : (w.alloc (.cells A e)).heap.size = w.heap.size + 1 := by simp
  rcases hc with hc | ⟨x, hx, hc⟩
  ·simp only [blk, Option.some.injEq] at hc
   subst hc
   exact ⟨.inr (.inl (Nat.le_refl _)), by omega⟩
  ·have hlt := hglt x c hx hc
   obtain ⟨q, hq, rfl⟩ := hgm x hx
   obtain ⟨j, h4, h5, h6⟩ := (hleaf q hq).2.2 c hc
   refine ⟨.inr (.inr ⟨j, hjs q hq j h4, drops_lives ?_ _, hmb1 h6⟩), by omega⟩
   obtain ⟨b, hb, hl⟩ := hlv1 h5
   exact ⟨dropB st.own.length b, by simp only [St.drop, List.getElem?_map]; rw [hb]; rfl, by cases b <;> first | exact hl | rfl⟩
 have hO : ∀ x, x ∈ gs → x.oneCell' = true := by
  intro x hx
  obtain ⟨q, hq, rfl⟩ := hgm x hx
  unfold gh; split
  ·exact g1 q
  ·rfl
 have hK : TreeOk (w.alloc (.cells A e)) (.slice (some ⟨w.heap.size, 0, none⟩) 1 1, gs) e (P.cellsOf e) et [.agg ps] := by
  have hnw : (w.alloc (.cells A e)).heap[w.heap.size]? = some (.cells A e (0, 0)) := Go.heap_alloc_new w _
  refine ⟨A.toList.take (1 * P.cellsOf e), fun _ j => g j, ⟨by simp [hA1], .inr ⟨w.heap.size, 1, A, rfl, Nat.zero_le _, hnw, Nat.le_refl _, by simp [maxLen], hA, rfl⟩⟩, hs0, fun k j hk hj => ?_, fun k hk => ?_, fun _ j => g1 j, by simp [hgsl, hcl], fun k hk j hj => ?_, fun n n' x x' c hne hx1 hx2 hc hc' => ?_, fun x c hx hc e' => ?_⟩
  ·simp only [List.length_singleton] at hk
   rw [List.getElem?_take, if_pos (mul_lt hk hj)]
   simpa using hget k j hk hj
  ·simp only [List.length_singleton] at hk
   obtain rfl : k = 0 := by omega
   simp only [List.getElem_cons_zero, PV.cells]
   omega
  ·simp only [List.length_singleton] at hk
   obtain rfl : k = 0 := by omega
   simp only [List.getElem_cons_zero, PV.cells] at hj ⊢
   refine ⟨gh (cs[j]'(by omega)) (g j), by rw [Nat.zero_mul, Nat.zero_add]; exact hgs j (by omega), (hleaf j (by omega)).1.mono (fun c hc => hw1 c (hglt _ c (List.mem_of_getElem? (hgs j (by omega))) hc))⟩
  ·have h1 : n < cs.length := by have : n < gs.length := (List.getElem?_eq_some_iff.1 hx1).1; omega
   have h2 : n' < cs.length := by have : n' < gs.length := (List.getElem?_eq_some_iff.1 hx2).1; omega
   rw [hgs n h1] at hx1
   rw [hgs n' h2] at hx2
   cases hx1; cases hx2
   obtain ⟨j, h4, h5, h6⟩ := (hleaf n h1).2.2 c hc
   obtain ⟨j', h4', h5', h6'⟩ := (hleaf n' h2).2.2 c hc'
   by_cases hjj : j = j'
   ·subst hjj
    exact l3 hnd n n' h1 h2 j hne h4 h4'
   ·exact h.ows.sep j j' c hjj h5 h5' h6 h6'
  ·simp only [blk, Option.some.injEq] at e'
   have := hglt x c hx hc
   omega
 obtain ⟨m', hs', hmi⟩ := (((hs1.drop st.own.length).drops (jl.map (·.1))).absorb E (w' := w.alloc (.cells A e)) (i := st.own.length) (v := (.slice none 0 0, [])) (v' := (.slice (some ⟨w.heap.size, 0, none⟩) 1 1, gs)) (bl' := .tree e (P.cellsOf e) et [.agg ps]) (jl.map (·.1))
  (drops_own (b := .row e (P.cellsOf e) []) (by simp only [St.drop, List.getElem?_map]; rw [show (st.addOwn (.row e (P.cellsOf e) [])).own[st.own.length]? = _ from hi1]; rfl) (fun cs => by simp) _) rfl rfl hm1 (by
   have : ∀ js, ((st1.drop st.own.length).drops js).k0 = st.k0 := by intro js; induction js with | nil => rfl | cons _ _ ih => exact ih
   rw [this]; exact h.k0) (fun hm => by have := hjlt _ hm; omega)
  (fun t => ⟨fun j hj => drops_get _ j hj t, .inl (dropd_get _ _ t)⟩) (fun j cs' hj x hx' => ⟨fun q hq => drops_cont _ q hq j cs' hj x hx', .inl (dropd_cont _ _ j cs' hj x hx')⟩)
  ⟨rfl, rfl, rfl, by simp, fun q hq _ => hw1 q hq⟩
  hB ⟨rfl, hO⟩ (fun N' m' hN' => hK))
 refine wp_value' (v := .slice (some ⟨w.heap.size, 0, none⟩) 1 1) (w' := w.alloc (.cells A e)) (by simp [execOp, ho, hrun]) ?_
 exact hnx _ _ m' (hs'.put (dst := o.dst) (v := .slice (some ⟨w.heap.size, 0, none⟩) 1 1) (x := .own st.own.length) (.own st.own.length (_, gs) hmi))

theorem Sim.storeTreeCells (h : Sim S X w0 m0 st a w m) {i k off b s : Nat} {e et t : TypeId} {els : List PV} {v : Value} {pn : List PV} (hi : st.own[i]? = some (.tree e s et els)) (hb : tblk m i = some b)
  {g : Nat → Value} (hg : v.cells = (vrange pn.length g).toArray) (g1 : ∀ j, (g j).oneCell' = true) (gr : ∀ j (hj : j < pn.length), Rep w (fun _ => False) (g j) pn[j])
  (hn : pn.length = P.cellsOf t) (hn0 : P.cellsOf t ≠ 0) (hk : k < els.length) (hle : off + pn.length ≤ s) (hval : valCells els[k] off pn.length) :
  ∃ w', (storeVar t ⟨b, k * s + off, none⟩ v).run P w = .ok () w' ∧ Sim S X w0 m0 (st.setOwn i (.tree e s et (els.set k (setCells els[k] off pn)))) a w' m := by
 obtain ⟨⟨u, ug⟩, hu, hbu⟩ := tblk_spec hb
 have hlvi : lives st.own i := ⟨_, hi, rfl⟩
 obtain ⟨xs, f, hown, hs0, hx, h2, h1, hgl, hlf, hsp, htp⟩ := h.ownAt i _ _ hi rfl hu
 simp only at hown hbu hgl hlf hsp htp
 rcases hown.2 with ⟨rfl, _⟩ | ⟨b', cap, cur, rfl, hb0, hh, hcap, hcm, hcsz, htake⟩
 ·simp [blk] at hbu
 simp [blk] at hbu
 subst hbu
 have hin : k * s + off + pn.length ≤ els.length * s := by
  have := Nat.mul_le_mul_right s (show k + 1 ≤ els.length from hk)
  rw [Nat.add_mul, Nat.one_mul] at this
  omega
 have hcap' : els.length * s ≤ cap * s := Nat.mul_le_mul_right s hcap
 have hrun := run_storeVar (P := P) (w := w) hg hn hn0 g1 hh (off := k * s + off) (by omega)
 have hold : ∀ c, c ≠ b' → (w.setRow b' (setSeg cur.toList (k * s + off) (vrange pn.length g)).toArray).heap[c]? = w.heap[c]? := fun c hc => setRow_other w b' c _ hc
 have hugne : ∀ x, x ∈ ug → ∀ c, blk x = some c → c ≠ b' := by
  intro x hx' c hc e'
  subst e'
  exact htp x c hx' hc (by simp [blk])
 have hsetl : (setSeg cur.toList (k * s + off) (vrange pn.length g)).length = cur.size := by
  have hcl2 : cur.toList.length = cur.size := Array.length_toList
  rw [setSeg_length (by rw [vrange_length]; omega)]
  exact hcl2
 have hcl : (setSeg (els[k]).cells off pn).length = s := by rw [setSeg_length (by rw [h2 k hk]; exact hle)]; exact h2 k hk
 refine ⟨_, hrun, h.setOwn (w' := w.setRow b' _) hi rfl rfl hu (.inl rfl) rfl rfl rfl (by simp) hold (fun N hN => ?_)⟩
 refine ⟨setSeg xs (k * s + off) (vrange pn.length g), fun k' j => if k' = k ∧ off ≤ j ∧ j < off + pn.length then g (j - off) else f k' j, ⟨?_, .inr ⟨b', cap, _, by simp, hb0, setRow_heap w b' _ _ e (0, 0) hh, by simpa using hcap, hcm, ?_, ?_⟩⟩, hs0, fun k' j hk' hj => ?_, fun k' hk' => ?_,
  fun k' j => by dsimp only; split <;> simp [g1, h1], by simpa using hgl, fun k' hk' j hj => ?_, hsp, htp⟩
 ·rw [List.length_set, setSeg_length (by rw [vrange_length, hown.1]; exact hin)]; exact hown.1
 ·rw [List.size_toArray, hsetl]; exact hcsz
 ·apply List.ext_getElem?
  intro q
  have e1 : (setSeg cur.toList (k * s + off) (vrange pn.length g)).toArray.toList = setSeg cur.toList (k * s + off) (vrange pn.length g) := rfl
  rw [e1, List.length_set, List.getElem?_take, setSeg_get (by simp; omega), setSeg_get (by simp [hown.1]; omega)]
  simp only [List.length_map, List.length_range]
  by_cases hq : k * s + off ≤ q ∧ q < k * s + off + pn.length
  ·rw [if_pos hq, if_pos hq, if_pos (by omega)]
  ·rw [if_neg hq, if_neg hq]
   by_cases h3 : q < els.length * s
   ·rw [if_pos h3, ← htake, List.getElem?_take, if_pos h3]
   ·rw [if_neg h3, List.getElem?_eq_none (by rw [hown.1]; omega)]
 ·simp only [List.length_set] at hk'
  rw [setSeg_get (by simp [hown.1]; omega)]
  simp only [List.length_map, List.length_range]
  by_cases hc : k' = k ∧ off ≤ j ∧ j < off + pn.length
  ·rw [if_pos hc]
   obtain ⟨hkk, h3, h4⟩ := hc
   subst hkk
   rw [if_pos (by omega), vrange_get, if_pos (by omega)]
   congr 2
   omega
  ·rw [if_neg hc, if_neg (fun hq => ?_)]
   ·exact hx k' j hk' hj
   ·apply hc
    by_cases hkk : k' = k
    ·subst hkk; exact ⟨rfl, by omega, by omega⟩
    ·exfalso
     have := div_ne (s := s) (j := j) (j' := k' * s + j - k * s) hj (by omega) hkk
     omega
 ·simp only [List.length_set] at hk'
  rw [List.getElem_set]
  split
  ·exact hcl
  ·exact h2 k' hk'
 ·simp only [List.length_set] at hk'
  by_cases hkk : k = k'
  ·subst hkk
   simp only [List.getElem_set_self, setCells_cells] at hj ⊢
   have hjs : j < s := by rw [hcl] at hj; exact hj
   have hjc : j < (els[k]).cells.length := by rw [h2 k hk]; exact hjs
   obtain ⟨q, hq, hl⟩ := hlf k hk j hjc
   refine ⟨q, hq, ?_⟩
   by_cases hc : off ≤ j ∧ j < off + pn.length
   ·rw [if_pos ⟨trivial, hc⟩]
    have hget : (setSeg (els[k]).cells off pn)[j] = pn[j - off]'(by omega) := by
     have := setSeg_get (cs := (els[k]).cells) (new := pn) (off := off) (by rw [h2 k hk]; exact hle) j
     rw [if_pos hc, List.getElem?_eq_getElem hj, List.getElem?_eq_getElem (by omega)] at this
     exact Option.some.inj this
    rw [hget]
    refine .inl ⟨?_, (gr (j - off) (by omega)).mono (fun _ h => h.elim) (fun _ h => h)⟩
    rcases hl with ⟨h0, _⟩ | ⟨l, hl, _⟩
    ·exact h0
    ·obtain ⟨y, hy⟩ := hval (j - off) (by omega)
     rw [show off + (j - off) = j by omega, getD_cell hjc, hl] at hy
     cases hy
   ·rw [if_neg (fun h => hc h.2)]
    have hget : (setSeg (els[k]).cells off pn)[j] = (els[k]).cells[j] := by
     have := setSeg_get (cs := (els[k]).cells) (new := pn) (off := off) (by rw [h2 k hk]; exact hle) j
     rw [if_neg hc, List.getElem?_eq_getElem hj, List.getElem?_eq_getElem hjc] at this
     exact Option.some.inj this
    rw [hget]
    exact hl.mono (fun c hc' => hold c (hugne q (List.mem_of_getElem? hq) c hc'))
  ·simp only [List.getElem_set_ne hkk] at hj ⊢
   rw [if_neg (fun h => hkk h.1.symm)]
   obtain ⟨q, hq, hl⟩ := hlf k' hk' j hj
   exact ⟨q, hq, hl.mono (fun c hc' => hold c (hugne q (List.mem_of_getElem? hq) c hc'))⟩

theorem Sim.loadTree (h : Sim S X w0 m0 st a w m) {i k off b s : Nat} {e et t : TypeId} {els : List PV} (hi : st.own[i]? = some (.tree e s et els)) (hb : tblk m i = some b) (hk : k < els.length) (ho : off < s) (hs : scal P t = true) (hag : isAggT P t = false) :
  ∃ u, (loadVar t ⟨b, k * s + off, none⟩).run P w = .ok u w ∧ u.oneCell' = true ∧ ((∃ v, cellAt els[k] off = .val v) ∨ cellAt els[k] off = .lst [] → ∀ N, Rep w N u (cellAt els[k] off)) ∧
   (∀ l, cellAt els[k] off = .lst l → l ≠ [] → RepF w (Nset S X w0.heap.size w m st.own) m u (.sub i s k off)) := by
 obtain ⟨⟨u, ug⟩, hu, hbu⟩ := tblk_spec hb
 obtain ⟨xs, f, hown, hs0, hx, h2, h1, hgl, hlf, hsp, htp⟩ := h.ownAt i _ _ hi rfl hu
 simp only at hown hbu hgl hlf hsp htp
 have hcells := hown.cells (g := b) (by
  rcases hown.2 with ⟨rfl, _⟩ | ⟨g, cap, cur, rfl, _⟩
  ·simp [blk] at hbu
  ·simpa [blk, Value.ownBlock] using hbu)
 have hc1 : P.cellsOf t = 1 := (scal_spec hs).2 hag
 have hjc : off < (els[k]).cells.length := by rw [h2 k hk]; exact ho
 have hrun := run_loadVar (P := P) (t := t) (w := w) (b := b) (o := k * s + off) (f := fun _ => f k off) hs (fun j hj => by
  obtain rfl : j = 0 := by omega
  have := hcells (k * s + off) _ (hx k off hk ho)
  rw [addr_add] at this
  simpa using this)
 rw [hag] at hrun
 obtain ⟨q, hq, hl⟩ := hlf k hk off hjc
 have hcell := getD_cell hjc
 refine ⟨f k off, by simpa using hrun, h1 k off, fun hv N => ?_, fun l hcl hne => ?_⟩
 ·rw [hcell] at hv ⊢
  rcases hl with ⟨_, h0⟩ | ⟨l, hl, rfl, hr⟩
  ·exact h0.mono (fun _ h => h.elim) (fun _ h => h.elim)
  ·rcases hv with ⟨v, hv⟩ | hv
   ·rw [hl] at hv; cases hv
   ·rw [hl] at hv ⊢
    cases hv
    rcases row_shape hr with ⟨h3, _⟩ | ⟨g, cap, h3⟩
    ·rw [h3]; exact .nil _ _
    ·rw [h3]; exact .nil _ _
 ·rw [hcell] at hcl
  rcases hl with ⟨_, h0⟩ | ⟨l', _, rfl, _⟩
  ·rw [hcl] at h0
   generalize f k off = fv at h0
   cases h0 with
   | nil => exact absurd rfl hne
   | lst b o c s els f hS => exact hS.elim
  ·exact .sub i s k off _ _ hu ho hq (h1 k off)

end
end Go.Pe

/- Trees: a row of a tree's handed to a function that turns it. -/
namespace Go.Pe
open Go Go.RowKit

section
variable {P : Program} {gl : List (Nat × Obj)} {S X : Nat → Prop} {w0 w w' : World} {m0 m : Nat → Option MV} {st : St} {a : Act}

theorem FX.sub (E : Env P gl S X w0) (h : Sim S X w0 m0 st a w m) {fid : FuncId} {i s k j : Nat} {e et : TypeId} {els l : List PV} {as args : List FV} {R : List Blk → FV → Prop} {g : Nat → Value}
  (hi : st.own[i]? = some (.tree e s et els)) (hk : k < els.length) (hcell : cellAt els[k] j = .lst l) (hne : l ≠ []) (has : mapO (renSub i s k j) args = some as)
  (hfx : FX P gl fid [.row et 1 l] as R) (hg : ∀ q (hq : q < args.length), RepF w (Nset S X w0.heap.size w m st.own) m (g q) args[q]) (hjs : j < s) {R' : Ending → World → Prop}
  (hn : ∀ v own' r w', R own' r → (∀ l' x, own' = [.row et 1 l'] → r = .pv (.val x) → valsL l' → Sim S X w0 m0 (st.setOwn i (.tree e s et (els.set k (setCells els[k] j [.lst l'])))) a w' m ∧ v = x ∧ free x = true) → R' (.returned v) w') :
  Calls P fid (vrange args.length g).toArray w R' := by
 have hlvi : lives st.own i := ⟨_, hi, rfl⟩
 obtain ⟨⟨u, ug⟩, hu, hok⟩ := h.ows.ok i _ hi rfl
 obtain ⟨xs, f, hown, hs0, hx, h2, h1, hgl, hlf, hsp, htp⟩ := id hok
 simp only at hown hgl hlf hsp htp
 have hjc : j < (els[k]).cells.length := by rw [h2 k hk]; exact hjs
 obtain ⟨q, hq, hleaf⟩ := hlf k hk j hjc
 have hc := getD_cell hjc
 rw [hc] at hcell
 have hrow : q = f k j ∧ RowOk w (fun _ => False) q et 1 l := by
  rcases hleaf with ⟨_, h0⟩ | ⟨l', hl', rfl, hr⟩
  ·exfalso
   rw [hcell] at h0
   generalize f k j = fv at h0
   cases h0 with
   | nil => exact hne rfl
   | lst b o c s els f hS => exact hS
  ·rw [hcell] at hl'; cases hl'
   exact ⟨rfl, hr⟩
 obtain ⟨hqf, hrow⟩ := hrow
 have hqm : q ∈ ug := List.mem_of_getElem? hq
 have hq1 : q.oneCell' = true := (h.ows.len i _ hu).2.2 q hqm
 obtain ⟨hal, haget⟩ := mapO_spec has
 let mX : Nat → Option MV := fun n => if n = 0 then some (q, []) else none
 have hmX0 : mX 0 = some (q, []) := rfl
 have hlv0 : ∀ n, lives [Blk.row et 1 l] n → n = 0 := by
  rintro n ⟨b, hb, _⟩
  cases n with
  | zero => rfl
  | succ n => simp at hb
 have hlvX : lives [Blk.row et 1 l] 0 := ⟨_, rfl, rfl⟩
 have hmbX : ∀ n b, mblk mX n b → blk q = some b := by
  rintro n b ⟨v, hv, hb⟩
  simp only [mX] at hv
  split at hv
  ·cases hv; exact hasB_one.1 hb
  ·cases hv
 have hX1 : ∀ b, (∃ n, lives [Blk.row et 1 l] n ∧ mblk mX n b) → blk q = some b := fun b ⟨n, _, hb⟩ => hmbX n b hb
 have hqB : ∀ b, blk q = some b → mblk m i b := fun b hb => mblk_of hu (.inr ⟨q, hqm, hb⟩)
 have hows : OwnS w (Nset S X w0.heap.size w m st.own) mX [.row et 1 l] := by
  refine ⟨fun n v hv => ?_, fun n b hb hl => ?_, fun n n' b hne hp hq hbp hbq => ?_, fun n b hp hb => h.ows.lt i b hlvi (hqB b (hmbX n b hb)), fun n b hp hb => h.ows.out i b hlvi (hqB b (hmbX n b hb))⟩
  ·simp only [mX] at hv
   split at hv
   ·rename_i h0; cases hv; exact ⟨by simp [h0], hq1, fun _ h => by cases h⟩
   ·cases hv
  ·obtain rfl := hlv0 n ⟨b, hb, hl⟩
   simp only [List.getElem?_cons_zero, Option.some.injEq] at hb
   subst hb
   exact ⟨(q, []), rfl, rfl, hrow.mono (fun _ h => h.elim) (fun _ h => h.elim) (fun _ _ => rfl)⟩
  ·exact absurd ((hlv0 n hp).trans (hlv0 n' hq).symm) hne
 have hren : ∀ n (hn : n < as.length), RepF w (Nset S X w0.heap.size w m st.own) mX (g n) as[n] := by
  intro n hn'
  have h3 := haget n (by omega) hn'
  have h4 := hg n (by omega)
  generalize args[n]'(by omega) = x at h3 h4
  unfold renSub at h3
  split at h3
  ·simp only [Option.some.injEq] at h3
   rw [← h3]
   exact .pv _ _ h4.pvInv
  ·split at h3
   ·rename_i hcc
    obtain ⟨rfl, rfl, rfl, rfl⟩ := hcc
    simp only [Option.some.injEq] at h3
    rw [← h3]
    generalize g n = gn at h4
    cases h4 with | sub _ _ _ _ v' _ hv' _ hg' _ =>
    rw [hu] at hv'; cases hv'
    simp only at hg'
    rw [hq] at hg'; cases hg'
    exact .own 0 (q, []) rfl
   ·cases h3
  ·cases h3
 rw [hal]
 refine (hfx.2 w _ mX g (h.glob E) (fun b => Nset_lt E h) hows (fun n b hp hb x hx' => ?_) hren).mono ?_
 ·intro e'
  rcases h.bnd i b hlvi (hqB b (hmbX n b hb)) with h3 | h3
  ·have h0 := (Array.getElem?_eq_some_iff.1 (E.gl0 x hx')).1
   omega
  ·exact E.glX b h3 x hx' e'
 ·rintro en w' ⟨v, r, own', m', rfl, hR, hlen, hmm, hbx, hos, hbn, hrr⟩
  refine hn v own' r w' hR ?_
  rintro l' x rfl rfl hvl
  have hv : v = x ∧ free x = true := by
   have := hrr.pvInv
   cases this with | val _ hf => exact ⟨rfl, hf⟩
  have hm0 : m' 0 = some (q, []) := (hmm 0 (by simp)).trans hmX0
  obtain ⟨v2, hv2, hok2⟩ := hos.ok 0 _ rfl rfl
  rw [hm0] at hv2; cases hv2
  have hrow' : RowOk w' (fun _ => False) q et 1 l' := hok2.2.vals hvl
  have hblock : ∀ c, c < w.heap.size → blk q ≠ some c → w'.heap[c]? = w.heap[c]? := fun c hc' hne' => hbx.block c hc' (fun hX => hne' (hX1 c hX))
  have hlt : i < st.own.length := (List.getElem?_eq_some_iff.1 hi).1
  let T : Blk := .tree e s et (els.set k (setCells els[k] j [.lst l']))
  have hlv : ∀ n, lives (st.own.set i T) n ↔ lives st.own n := by
   intro n
   unfold lives
   by_cases hni : n = i
   ·subst hni
    simp only [List.getElem?_set_self hlt]
    exact ⟨fun _ => ⟨_, hi, rfl⟩, fun _ => ⟨_, rfl, rfl⟩⟩
   ·rw [List.getElem?_set_ne (fun e => hni e.symm)]
  have hN1 : ∀ c, Nset S X w0.heap.size w m st.own c → Nset S X w0.heap.size w' m (st.own.set i T) c := by
   rintro c (hc' | ⟨c1, c2, c3⟩)
   ·exact .inl hc'
   ·exact .inr ⟨c1, Nat.lt_of_lt_of_le c2 hbx.size, fun n hn' => c3 n ((hlv n).1 hn')⟩
  have hNb : ∀ c, Nset S X w0.heap.size w m st.own c → w'.heap[c]? = w.heap[c]? := fun c hc' => hblock c (Nset_lt E h hc') (fun e' => h.ows.out i c hlvi (hqB c e') hc')
  have hout : ∀ n c, lives st.own n → mblk m n c → ¬ Nset S X w0.heap.size w' m (st.own.set i T) c := by
   intro n c hn' hc' hN
   rcases hN with hN | ⟨_, _, c3⟩
   ·exact h.ows.out n c hn' hc' (.inl hN)
   ·exact c3 n ((hlv n).2 hn') hc'
  refine ⟨⟨⟨hbx.os.trans h.bel.os, hbx.tape.trans h.bel.tape, hbx.output.trans h.bel.output, Nat.le_trans h.bel.size hbx.size, fun c hc' hX => (hblock c (Nat.lt_of_lt_of_le hc' h.bel.size) fun e' => ?_).trans (h.bel.block c hc' hX)⟩,
   ⟨fun n v hv => ?_, fun n b hb hl => ?_, fun n n' b hne' hn1 hn2 => h.ows.sep n n' b hne' ((hlv n).1 hn1) ((hlv n').1 hn2), fun n b hn1 hb => Nat.lt_of_lt_of_le (h.ows.lt n b ((hlv n).1 hn1) hb) hbx.size, fun n b hn1 hb => hout n b ((hlv n).1 hn1) hb⟩,
   fun n b hn1 hb => h.bnd n b ((hlv n).1 hn1) hb, h.fix, by simpa [St.setOwn] using h.k0, h.nt, h.df, fun t => (h.slots t).mono hNb hN1 (fun _ _ => id)⟩, hv⟩
  ·rcases h.bnd i c hlvi (hqB c e') with h3 | h3
   ·omega
   ·exact hX h3
  ·have := h.ows.len n v hv
   simpa [St.setOwn] using this
  ·by_cases hni : n = i
   ·subst hni
    simp only [St.setOwn, List.getElem?_set_self hlt, Option.some.injEq] at hb
    subst hb
    refine ⟨(u, ug), hu, ?_⟩
    have hle : j + [PV.lst l'].length ≤ (els[k]).cells.length := by simp only [List.length_singleton]; omega
    have hcl : (setSeg (els[k]).cells j [PV.lst l']).length = s := by rw [setSeg_length hle]; exact h2 k hk
    have htop : ∀ c, blk u = some c → w'.heap[c]? = w.heap[c]? := fun c hc' => hblock c (h.ows.lt n c hlvi (mblk_of hu (.inl hc'))) (fun e' => htp q c hqm e' hc')
    have hgne : ∀ (n' : Nat) (g' : Value), n' ≠ k * s + j → ug[n']? = some g' → ∀ c, blk g' = some c → w'.heap[c]? = w.heap[c]? :=
     fun n' g' hne' hg' c hc' => hblock c (h.ows.lt n c hlvi (mblk_of hu (.inr ⟨g', List.mem_of_getElem? hg', hc'⟩))) (fun e' => hsp n' (k * s + j) g' q c hne' hg' hq hc' e')
    refine ⟨xs, f, by simpa using ownsRow_mono hown htop, hs0, by simpa using hx, fun k' hk' => ?_, h1, by simpa using hgl, fun k' hk' j' hj' => ?_, hsp, htp⟩
    ·simp only [List.length_set] at hk'
     rw [List.getElem_set]
     split
     ·exact hcl
     ·exact h2 k' hk'
    ·simp only [List.length_set] at hk'
     by_cases hkk : k = k'
     ·subst hkk
      simp only [List.getElem_set_self, setCells_cells] at hj' ⊢
      have hjs' : j' < s := by rw [hcl] at hj'; exact hj'
      have hjc' : j' < (els[k]).cells.length := by rw [h2 k hk]; exact hjs'
      by_cases hjj : j' = j
      ·subst hjj
       refine ⟨q, hq, ?_⟩
       have hget : (setSeg (els[k]).cells j' [PV.lst l'])[j'] = .lst l' := by
        have := setSeg_get (cs := (els[k]).cells) (new := [PV.lst l']) (off := j') hle j'
        rw [if_pos (by simp), List.getElem?_eq_getElem hj'] at this
        simpa using this
       rw [hget, ← hqf]
       exact .inr ⟨l', rfl, rfl, hrow'⟩
      ·obtain ⟨q', hq', hl'⟩ := hlf k hk j' hjc'
       refine ⟨q', hq', ?_⟩
       have hget : (setSeg (els[k]).cells j [PV.lst l'])[j'] = (els[k]).cells[j'] := by
        have := setSeg_get (cs := (els[k]).cells) (new := [PV.lst l']) (off := j) hle j'
        rw [if_neg (by simp; omega), List.getElem?_eq_getElem hj', List.getElem?_eq_getElem hjc'] at this
        exact Option.some.inj this
       rw [hget]
       exact hl'.mono (hgne _ q' (by omega) hq')
     ·simp only [List.getElem_set_ne hkk] at hj' ⊢
      obtain ⟨q', hq', hl'⟩ := hlf k' hk' j' hj'
      have hjs' : j' < s := by rw [h2 k' hk'] at hj'; exact hj'
      exact ⟨q', hq', hl'.mono (hgne _ q' (div_ne hjs' hjs (fun e => hkk e.symm)) hq')⟩
   ·simp only [St.setOwn] at hb
    rw [List.getElem?_set_ne (fun e => hni e.symm)] at hb
    obtain ⟨v2, hv2, hok'⟩ := h.ows.ok n b hb hl
    refine ⟨v2, hv2, hok'.mono hNb hN1 (fun _ _ => id) (fun c hc' => hblock c (h.ows.lt n c ⟨b, hb, hl⟩ (mblk_of hv2 hc')) fun e' => ?_)⟩
    exact h.ows.sep n i c hni ⟨b, hb, hl⟩ hlvi (mblk_of hv2 hc') (hqB c e')

end
end Go.Pe

/- One operation after the other. -/
namespace Go.Pe
open Go Go.RowKit

section
variable {P : Program} {gl : List (Nat × Obj)} {S X : Nat → Prop} {w0 w w' : World} {m0 m : Nat → Option MV} {st : St} {a : Act}

theorem Sim.putJunk (h : Sim S X w0 m0 st a w m) (dst : Option Nat) (v : Value) : Sim S X w0 m0 (st.put dst .junk) (a.put dst v) w m := h.put (.junk v)

theorem Sim.addOwns (E : Env P gl S X w0) (h : Sim S X w0 m0 st a w m) {own' : List Blk} {m' : Nat → Option MV} (hb : Below w.heap.size w w') (hos : OwnS w' (fun _ => False) m' own')
  (hbn : ∀ i b, lives own' i → mblk m' i b → w.heap.size ≤ b) (hplain : (own'.all plainB) = true) {v : Value} {r : FV} (hrr : RepF w' (fun _ => False) m' v r) :
  ∃ m2, Sim S X w0 m0 { st with own := st.own ++ own' } a w' m2 ∧ RepF w' (Nset S X w0.heap.size w' m2 (st.own ++ own')) m2 v (backR [] st.own.length r) := by
 let m2 : Nat → Option MV := fun j => if j < st.own.length then m j else m' (j - st.own.length)
 have hmold : ∀ j, j < st.own.length → m2 j = m j := fun j hj => by simp only [m2]; rw [if_pos hj]
 have hmnew : ∀ j, st.own.length ≤ j → m2 j = m' (j - st.own.length) := fun j hj => by simp only [m2]; rw [if_neg (by omega)]
 have hget : ∀ (j : Nat) (b : Blk), (st.own ++ own')[j]? = some b → (j < st.own.length ∧ st.own[j]? = some b) ∨ (st.own.length ≤ j ∧ own'[j - st.own.length]? = some b) := by
  intro j b hj
  rw [List.getElem?_append] at hj
  split at hj
  ·rename_i hl; exact .inl ⟨hl, hj⟩
  ·rename_i hl; exact .inr ⟨by omega, hj⟩
 have hblk2 : ∀ j, lives (st.own ++ own') j → ∀ b, mblk m2 j b →
   (j < st.own.length ∧ lives st.own j ∧ mblk m j b) ∨ (st.own.length ≤ j ∧ lives own' (j - st.own.length) ∧ mblk m' (j - st.own.length) b) := by
  rintro j ⟨c, hc, hl⟩ b hbj
  rcases hget j c hc with ⟨h1, h2⟩ | ⟨h1, h2⟩
  ·exact .inl ⟨h1, ⟨c, h2, hl⟩, by unfold mblk at *; rwa [hmold j h1] at hbj⟩
  ·exact .inr ⟨h1, ⟨c, h2, hl⟩, by unfold mblk at *; rwa [hmnew j h1] at hbj⟩
 have hN2 : ∀ q, Nset S X w0.heap.size w m st.own q → Nset S X w0.heap.size w' m2 (st.own ++ own') q := by
  intro q hNq
  have hlt := Nset_lt E h hNq
  rcases hNq with hq | ⟨q1, q2, q3⟩
  ·exact .inl hq
  ·refine .inr ⟨q1, Nat.lt_of_lt_of_le q2 hb.size, fun j hj hmj => ?_⟩
   rcases hblk2 j hj q hmj with ⟨_, h3, h4⟩ | ⟨_, h3, h4⟩
   ·exact q3 j h3 h4
   ·have := hbn _ q h3 h4; omega
 have hNb : ∀ q, Nset S X w0.heap.size w m st.own q → w'.heap[q]? = w.heap[q]? := fun q hq => hb.block q (Nset_lt E h hq)
 have hm2 : ∀ i v, m i = some v → m2 i = some v := fun i v hv => by rw [hmold i (h.ows.len i v hv).1]; exact hv
 have hNF : ∀ q, False → Nset S X w0.heap.size w' m2 (st.own ++ own') q := fun q hq => hq.elim
 refine ⟨m2, ⟨⟨hb.os.trans h.bel.os, hb.tape.trans h.bel.tape, hb.output.trans h.bel.output, Nat.le_trans h.bel.size hb.size, fun k hk hX => (hb.block k (Nat.lt_of_lt_of_le hk h.bel.size)).trans (h.bel.block k hk hX)⟩,
  ⟨fun j u hu => ?_, fun j b hj hl => ?_, fun j k b hne hj hk hbj hbk => ?_, fun j b hj hbj => ?_, fun j b hj hbj hq => ?_⟩, fun j b hj hbj => ?_, fun j hj => ?_, ?_, h.nt, h.df, fun t => (h.slots t).mono hNb hN2 hm2⟩, ?_⟩
 ·simp only [List.length_append]
  by_cases hj : j < st.own.length
  ·rw [hmold j hj] at hu
   have := h.ows.len j u hu
   exact ⟨by omega, this.2⟩
  ·rw [hmnew j (by omega)] at hu
   have := hos.len _ u hu
   exact ⟨by omega, this.2⟩
 ·rcases hget j b hj with ⟨h1, h2⟩ | ⟨h1, h2⟩
  ·obtain ⟨u, hu, hok⟩ := h.ows.ok j b h2 hl
   exact ⟨u, hm2 j u hu, hok.mono hNb hN2 hm2 (fun q hq => hb.block q (h.ows.lt j q ⟨b, h2, hl⟩ (mblk_of hu hq)))⟩
  ·obtain ⟨u, hu, hok⟩ := hos.ok _ b h2 hl
   have hpl := List.all_eq_true.1 hplain b (List.mem_of_getElem? h2)
   exact ⟨u, (hmnew j h1).trans hu, plainB_mono (m := m') hpl hok (fun _ _ => rfl) hNF (fun _ _ => rfl)⟩
 ·rcases hblk2 j hj b hbj with ⟨a1, a2, a3⟩ | ⟨a1, a2, a3⟩ <;> rcases hblk2 k hk b hbk with ⟨c1, c2, c3⟩ | ⟨c1, c2, c3⟩
  ·exact h.ows.sep j k b hne a2 c2 a3 c3
  ·have := h.ows.lt j b a2 a3; have := hbn _ b c2 c3; omega
  ·have := h.ows.lt k b c2 c3; have := hbn _ b a2 a3; omega
  ·exact hos.sep _ _ b (by omega) a2 c2 a3 c3
 ·rcases hblk2 j hj b hbj with ⟨a1, a2, a3⟩ | ⟨a1, a2, a3⟩
  ·exact Nat.lt_of_lt_of_le (h.ows.lt j b a2 a3) hb.size
  ·exact hos.lt _ b a2 a3
 ·rcases hq with hq | ⟨_, _, q3⟩
  ·rcases hblk2 j hj b hbj with ⟨a1, a2, a3⟩ | ⟨a1, a2, a3⟩
   ·exact h.ows.out j b a2 a3 (.inl hq)
   ·have := hbn _ b a2 a3; have := E.Slt b hq; have := h.bel.size; omega
  ·exact q3 j hj hbj
 ·rcases hblk2 j hj b hbj with ⟨a1, a2, a3⟩ | ⟨a1, a2, a3⟩
  ·exact h.bnd j b a2 a3
  ·exact .inl (Nat.le_trans h.bel.size (hbn _ b a2 a3))
 ·have : j < st.k0 := hj
  have := h.k0
  rw [hmold j (by omega)]
  exact h.fix j hj
 ·have := h.k0
  show st.k0 ≤ (st.own ++ own').length
  simp only [List.length_append]
  omega
 ·have hback : ∀ i u, m' i = some u → m2 (backI [] st.own.length i) = some u := by
   intro i u hu
   show m2 (st.own.length + i - 0) = some u
   rw [Nat.sub_zero, hmnew _ (by omega), Nat.add_sub_cancel_left]
   exact hu
  have hone : ∀ u x, RepF w' (fun _ => False) m' u x → RepF w' (Nset S X w0.heap.size w' m2 (st.own ++ own')) m2 u (backO [] st.own.length x) := by
   intro u x hx
   cases hx with
   | own i _ hv => exact .own _ _ (hback i _ hv)
   | pv _ p hp => exact .pv _ _ (hp.mono (fun _ _ => rfl) hNF)
   | _ => exact .junk _
  have htwo : ∀ u x, RepF w' (fun _ => False) m' u x → RepF w' (Nset S X w0.heap.size w' m2 (st.own ++ own')) m2 u (backP [] st.own.length x) := by
   intro u x hx
   cases hx with
   | own i _ hv => exact .own _ _ (hback i _ hv)
   | pv _ p hp => exact .pv _ _ (hp.mono (fun _ _ => rfl) hNF)
   | box i off b hb =>
    obtain ⟨u, hu, hbu⟩ := tblk_spec hb
    exact .box _ _ b (tblk_of (hback i u hu) hbu)
   | agg cs f h1 hr =>
    have := RepF.agg (w := w') (S := Nset S X w0.heap.size w' m2 (st.own ++ own')) (m := m2) (cs.map (backO [] st.own.length)) f h1 (fun j hj => by simp only [List.length_map] at hj; simp only [List.getElem_map]; exact hone _ _ (hr j hj))
    simp only [List.length_map] at this
    exact this
   | _ => exact .junk _
  cases hrr with
  | tup cs f hr =>
   have := RepF.tup (w := w') (S := Nset S X w0.heap.size w' m2 (st.own ++ own')) (m := m2) (cs.map (backP [] st.own.length)) f (fun j hj => by simp only [List.length_map] at hj; simp only [List.getElem_map]; exact htwo _ _ (hr j hj))
   simp only [List.length_map] at this
   exact this
  | own i _ hv => exact htwo _ _ (.own i _ hv)
  | pv _ p hp => exact htwo _ _ (.pv _ p hp)
  | box i off b hb => exact htwo _ _ (.box i off b hb)
  | agg cs f h1 hr => exact htwo _ _ (.agg cs f h1 hr)
  | _ => exact .junk _

theorem call_eff (E : Env P gl S X w0) (h : Sim S X w0 m0 st a w m) {o : Oper} {f : Operand} {args : Array Operand} {ts : Array TypeId} {fid : FuncId} {caps : List FV} {K : FV → St → Prop}
  (ho : o.op = .call { callee := .value f, args, argTypes := ts }) (hc : condsOk none st (f :: args.toList)) (hf : asFn (strip (st.ev f)) = some (fid, caps))
  (hv : callVC P gl st fid ((args.toList.map fun x => strip (st.ev x)) ++ caps) K) {next : Act → World → Prop} {Q : Exit → Act → World → Prop}
  (hn : ∀ v fv st' w' m', Sim S X w0 m0 st' a w' m' → RepF w' (Nset S X w0.heap.size w' m' st'.own) m' v fv → K fv st' → next (a.put o.dst v) w') : o.wp P a w next Q := by
 have hcv : ∀ q ∈ f :: args.toList, condOk none (st.ev q) := fun q hq => condsOk_mem (g := none) trivial hc q hq
 have hcall : callable P fid = true := by
  rcases hv with ⟨as, R, _, hfs, _⟩ | ⟨as, R, _, hfs, _⟩ | ⟨as, R, _, hfn, _⟩ | ⟨_, _, _, _, _, _, _, _, _, _, _, _, _, _, _, _, _, hfx, _⟩ | ⟨ds, bs, as, R, _, _, _, _, hfx, _⟩
  ·exact hfs.1
  ·exact hfs.1
  ·exact hfn.1
  ·exact hfx.1
  ·exact hfx.1
 obtain ⟨g, hrun, hrep⟩ := args_rep (P := P) (w := w) (S := Nset S X w0.heap.size w m st.own) (m := m) (a := a) ho hcv hf (fun q _ => h.evs q) hcall
 unfold Oper.wp
 rw [hrun]
 rcases hv with ⟨as, R, hs, hfs, hk⟩ | ⟨as, R, hs, hfs, hk⟩ | ⟨as, R, hs, hfn, hk⟩ | ⟨i, s, k, j, e, et, els, l, as, R, _, hi, hkl, hjs, hcell, hne, has, hfx, hk⟩ | ⟨ds, bs, as, R, hnd, hbs, hlv, has, hfx, hk⟩
 ·obtain ⟨hret, hsnap⟩ := h.retire (idsL st.own ((args.toList.map fun x => strip (st.ev x)) ++ caps))
  obtain ⟨hl, hsn⟩ := mapO_spec hs
  rw [hl]
  refine (hfs.2 w _ g (hret.glob E) (fun b => Nset_lt E hret) (fun j hj => hsnap 8 _ _ _ (hrep j (by omega)) (hsn j (by omega) hj))).mono ?_
  rintro e w' ⟨v, r, rfl, hR, hb, hr⟩
  refine hn v (.pv r) _ w' m (hret.below E hb) (.pv _ _ (hr.mono (fun _ _ => rfl) ?_)) (hk r hR)
  rintro b (hb' | ⟨h1, h2⟩)
  ·rcases hb' with hb' | ⟨h1, h2, h3⟩
   ·exact .inl hb'
   ·exact .inr ⟨h1, Nat.lt_of_lt_of_le h2 hb.size, h3⟩
  ·refine .inr ⟨.inl (Nat.le_trans h.bel.size h1), h2, fun i hl hm => ?_⟩
   have := hret.ows.lt i b hl hm
   omega
 ·obtain ⟨hl, hsn⟩ := mapO_spec hs
  rw [hl]
  refine (hfs.2 w (fun b => b < w.heap.size) g (h.glob E) (fun _ => id) (fun j hj => snapD_rep h.ownAt (fun b hb => Nset_lt E h hb) (fun i b _ hl hm => h.ows.lt i b hl hm) 8 _ _ _ (hrep j (by omega)) (hsn j (by omega) hj))).mono ?_
  rintro e w' ⟨v, r, rfl, hR, hb, hr⟩
  obtain ⟨⟨u, rfl⟩, hk⟩ := hk r hR
  refine hn v (.pv (.val u)) _ w' m (h.below E hb) (.pv _ _ ?_) hk
  cases hr with | val _ hf => exact .val _ hf
 ·obtain ⟨hl, hsn⟩ := mapO_spec hs
  rw [hl]
  refine (hfn.2 w g (h.glob E) (fun j hj => snapD_rep h.ownAt (fun b hb => Nset_lt E h hb) (fun i b _ hl hm => h.ows.lt i b hl hm) 8 _ _ _ (hrep j (by omega)) (hsn j (by omega) hj))).mono ?_
  rintro e w' ⟨v, r, own', m', rfl, hR, hb, hos, hbn, hrr⟩
  obtain ⟨hpl, hk⟩ := hk own' r hR
  obtain ⟨m2, h1, h2⟩ := h.addOwns E hb hos hbn hpl hrr
  exact hn v _ _ w' m2 h1 h2 hk
 ·have hd : els.getD k (.val (.bool false)) = els[k] := by simp [List.getD, List.getElem?_eq_getElem hkl]
  rw [hd] at hcell
  refine FX.sub E h hi hkl hcell hne has hfx hrep hjs fun v own' r w' hR hs => ?_
  obtain ⟨l', x, h1, h2, h3, h4⟩ := hk own' r hR
  rw [hd] at h4
  obtain ⟨h5, rfl, h6⟩ := hs l' x h1 h2 h3
  exact hn v _ _ w' m h5 (.pv _ _ (.val _ h6)) h4
 ·refine FX.step E h hnd hbs hlv has hfx hrep fun v r own' w' m2 hR hs => ?_
  obtain ⟨hpl, hk⟩ := hk own' r hR
  obtain ⟨h1, h2⟩ := hs hpl
  exact hn v _ _ w' m2 h1 h2 hk

theorem treeAt_spec {own : List Blk} {x : FV} {i s : Nat} {e et : TypeId} {els : List PV} (h : treeAt own x = some (i, e, s, et, els)) : x = .own i ∧ own[i]? = some (.tree e s et els) := by
 cases x with
 | own j =>
  simp only [treeAt] at h
  split at h
  ·rename_i hj
   simp only [Option.some.injEq, Prod.mk.injEq] at h
   obtain ⟨rfl, rfl, rfl, rfl, rfl⟩ := h
   exact ⟨rfl, hj⟩
  ·cases h
 | _ => simp [treeAt] at h

theorem store_run {o : Oper} {t : TypeId} {p x : Operand} (ho : o.op = .store t p x) {b off : Nat} {w1 : World} (hp : a.eval p = .pointer (some ⟨b, off, none⟩))
  (hr : (storeVar t ⟨b, off, none⟩ (a.eval x)).run P w = .ok () w1) : (execOp a.eval o).run P w = .ok .skip w1 := by
 simp [execOp, ho, hp, Instr.storeAt, Instr.sureAddr, hr]

theorem eff_sound (E : Env P gl S X w0) (h : Sim S X w0 m0 st a w m) {o : Oper} {K : St → Prop} (hv : effVC P gl o st K) {next : Act → World → Prop} {Q : Exit → Act → World → Prop}
  (hn : ∀ st' a' w' m', Sim S X w0 m0 st' a' w' m' → K st' → next a' w') : o.wp P a w next Q := by
 have dflt : qop P gl st none o (fun x => K (st.put o.dst x)) → o.wp P a w next Q := by
  intro hq
  obtain ⟨x, hk, hok⟩ := qop_spec hq
  exact quiet_step E h (hok trivial) (fun q _ => h.evs q) (fun v w' hs hr => hn _ _ w' m (hs.put hr) hk)
 generalize hop : o.op = op at hv
 unfold effVC at hv
 rw [hop] at hv
 cases op with
 | alloc t =>
  simp only at hv
  split at hv
  ·rename_i cs hz
   obtain ⟨i, z, f, hi, hzv, hcells, h1, hr⟩ := zeroF_spec (w := w) (S := Nset S X w0.heap.size w m st.own) (m := m) hz
   obtain ⟨m', hs⟩ := h.newBox E (t := t) h1 hr o.dst
   refine wp_value' (v := .pointer (some ⟨w.heap.size, 0, none⟩)) ?_ (hn _ _ _ m' hs hv)
   simp [execOp, hop, Instr.alloc, zeroValue, typeInfo, hi, hzv, run_newVar, hcells]
  ·exact hv.elim
 | binOp b t x y t' =>
  cases b with
  | eql =>
   cases y with
   | const c =>
    cases c with
    | slice p l q =>
     cases p with
     | none =>
      cases l with
      | zero =>
       cases q with
       | zero =>
        simp only at hv
        obtain ⟨hc, hv⟩ := hv
        split at hv
        ·rename_i e els he hxe
         have hx := strip_rep (h.evs x) hc
         rw [hxe] at hx
         have hp := hx.pvInv
         have hu := (elemT_spec he).1
         have fin : ∀ (p : Option Addr) (l q : Nat), a.eval x = .slice p l q → (p.isNone = true → els = []) → o.wp P a w next Q := by
          intro p l q hpv hn'
          refine wp_value' (v := .bool p.isNone) (w' := w) ?_ (hn _ _ w m (h.put (.pv _ _ (.val _ rfl))) (hv p.isNone hn'))
          have hk : a.eval (.const (.slice none 0 0)) = .slice none 0 0 := rfl
          have hb : (binOp .eql t (.slice p l q) (.slice none 0 0)).run P w = .ok (.bool p.isNone) w := by
           show (do pure (Value.bool (← Op.equal t (.slice p l q) (.slice none 0 0)))  : Sem Value).run P w = _
           simp only [Sem.run_bind, run_equal_slice_nil w t e p l q hu, Result.andThen_ok, Sem.run_pure]
          have hg : (eqGuard .eql t x (.const (.slice none 0 0)) (.slice p l q) (.slice none 0 0)).run P w = .ok () w := by
           simp [eqGuard]
          simp [execOp, hop, hpv, hk, hg, hb]
         generalize hav : a.eval x = av at hp
         cases hp with
         | nil p c => exact fin p 0 c hav (fun _ => rfl)
         | lst => exact fin _ _ _ hav (fun hq => by simp at hq)
        ·exact hv.elim
       | succ _ => exact dflt hv
      | succ _ => exact dflt hv
     | some _ => exact dflt hv
    | _ => exact dflt hv
   | _ => exact dflt hv
  | _ => exact dflt hv
 | box t x =>
  simp only at hv
  obtain ⟨hc, hv⟩ := hv
  split at hv
  ·rename_i cs hfc
   obtain ⟨f, hcells, h1, hr⟩ := fcells_rep (strip_rep (h.evs x) hc) hfc (fun i v hv => (h.ows.len i v hv).2.1)
   obtain ⟨m', hs⟩ := h.newBox E (t := t) h1 hr o.dst
   refine wp_value' (v := .pointer (some ⟨w.heap.size, 0, none⟩)) ?_ (hn _ _ _ m' hs hv)
   simp [execOp, hop, Instr.box, run_newVar, hcells]
  ·exact hv.elim
 | store t p x =>
  simp only at hv
  obtain ⟨hcp, hcx, hv⟩ := hv
  have hp := strip_rep (h.evs p) hcp
  have hx := strip_rep (h.evs x) hcx
  split at hv
  ·-- into a variable
   rename_i i off new hpe hfc
   split at hv
   ·rename_i cs hi
    obtain ⟨h1, h2, h3, hk⟩ := hv
    rw [hpe] at hp
    generalize hav : a.eval p = av at hp
    cases hp
    rename_i b hb
    obtain ⟨w1, hrun, hs⟩ := h.storeBox hi hb (fcells_rep hx hfc (fun i v hv => (h.ows.len i v hv).2.1)) h1 h2 h3
    exact wp_skip (store_run hop hav hrun) (hn _ _ w1 m (hs.putJunk o.dst undef) hk)
   ·exact hv.elim
  ·-- into a row
   rename_i i s k off new hpe hfc
   split at hv
   ·rename_i e s' els hi
    split at hv
    ·rename_i hse
     subst hse
     obtain ⟨hkl, h1, h2, hv⟩ := hv
     rw [hpe] at hp
     generalize hav : a.eval p = av at hp
     cases hp
     rename_i b hb
     have hd : els.getD k (.val (.bool false)) = els[k] := by simp [List.getD, List.getElem?_eq_getElem hkl]
     split at hv
     ·rename_i hc
      obtain ⟨hts, rfl⟩ := hc
      split at hv
      ·rename_i q hq
       obtain ⟨hok, hk⟩ := hv
       have hqr : Rep w (Nset S X w0.heap.size w m st.own) (a.eval x) q :=
        snapD_rep (own := []) (ds := []) (m := m) (fun i b v h => by simp at h) (fun _ => id) (fun i b h => by simp at h) 8 _ _ _ hx hq
       obtain ⟨g, hg, g1, gr⟩ := rep_cells hqr hok.2
       obtain ⟨w1, hrun, hs⟩ := h.storeRow (t := t) (p := q) (off := 0) (nn := q.cells.length) hi hb hg g1 (by rw [hok.1, hts]) h2 hkl (by rw [hok.1]; omega) hok.1
        (fun j hj _ _ => gr j hj) (fun j hj _ hno => absurd ⟨Nat.zero_le _, by omega⟩ hno)
       exact wp_skip (store_run hop hav hrun) (hn _ _ w1 m (hs.putJunk o.dst undef) hk)
      ·exact hv.elim
     ·split at hv
      ·rename_i pn hpn
       split at hv
       ·rename_i q hq
        obtain ⟨g, hg, g1, gr⟩ := fcells_rep hx hfc (fun i v hv => (h.ows.len i v hv).2.1)
        obtain ⟨hl, hsn⟩ := mapO_spec hpn
        obtain ⟨_, _, _, hok2, _⟩ := row_cells (h.ownAt i _ _ hi rfl (tblk_spec hb).choose_spec.1).2 (tblk_spec hb).choose_spec.2
        rw [hd] at hq
        have hcells : ∃ cs, els[k] = .agg cs ∧ off + pn.length ≤ cs.length ∧ q = .agg (setSeg cs off pn) := by
         unfold setEl at hq
         split at hq
         ·rename_i cs hcs
          split at hq
          ·rename_i hle
           simp only [Option.some.injEq] at hq
           exact ⟨cs, hcs, hle, hq.symm⟩
          ·cases hq
         ·cases hq
        obtain ⟨cs, hcs, hle, rfl⟩ := hcells
        have hlen := hok2 k hkl
        rw [hcs] at hlen
        simp only [PV.cells] at hlen
        obtain ⟨w1, hrun, hs⟩ := h.storeRow (t := t) (p := .agg (setSeg cs off pn)) (off := off) (nn := new.length) hi hb hg g1 h1 h2 hkl (by omega) (by simp only [PV.cells, setSeg]; simp; omega)
         (fun j hj q1 q2 => by
          simp only [PV.cells] at hj ⊢
          have e := List.getElem?_eq_getElem hj
          rw [setSeg_get hle, if_pos ⟨q1, by omega⟩, List.getElem?_eq_getElem (by omega)] at e
          simp only [Option.some.injEq] at e
          rw [← e]
          have := snapD_rep (own := []) (ds := []) (m := m) (w := w) (S := Nset S X w0.heap.size w m st.own) (S' := Nset S X w0.heap.size w m st.own) (fun i b v h => by simp at h) (fun _ => id) (fun i b h => by simp at h) 8 _ _ _ (gr (j - off) (by omega)) (hsn (j - off) (by omega) (by omega))
          exact this)
         (fun j hj hj' hno => by
          simp only [PV.cells] at hj ⊢
          have e := List.getElem?_eq_getElem hj
          rw [setSeg_get hle, if_neg (by omega)] at e
          simp only [hcs, PV.cells] at hj' ⊢
          rw [List.getElem?_eq_getElem hj'] at e
          simp only [Option.some.injEq] at e
          exact e.symm)
        exact wp_skip (store_run hop hav hrun) (hn _ _ w1 m (hs.putJunk o.dst undef) hv)
       ·exact hv.elim
      ·exact hv.elim
    ·exact hv.elim
   ·-- into a tree
    rename_i e s' et els hi
    unfold storeTVC at hv
    split at hv
    ·rename_i hse
     subst hse
     obtain ⟨hkl, h1, h2, hv⟩ := hv
     rw [hpe] at hp
     generalize hav : a.eval p = av at hp
     cases hp
     rename_i b hb
     have hd : els.getD k (.val (.bool false)) = els[k] := by simp [List.getD, List.getElem?_eq_getElem hkl]
     split at hv
     ·rename_i hc
      obtain ⟨hts, rfl⟩ := hc
      split at hv
      ·rename_i ps jl hl
       split at hv
       ·rename_i hc
        simp only [Bool.and_eq_true, Bool.not_eq_true', List.contains_eq_mem, decide_eq_false_iff_not, decide_eq_true_eq] at hc
        obtain ⟨⟨⟨c1, c2⟩, c3⟩, c4⟩ := hc
        obtain ⟨hva, hk⟩ := hv
        obtain ⟨w1, m1, hrun, hs⟩ := h.storeTree E (t := t) hi hb c4 (fcells_rep hx hfc (fun i v hv => (h.ows.len i v hv).2.1)) hl hva (nodupB_spec c1) c2 c3 h1 h2 hts hkl
        exact wp_skip (store_run hop hav hrun) (hn _ _ w1 m1 (hs.putJunk o.dst undef) hk)
       ·exact hv.elim
      ·exact hv.elim
     ·split at hv
      ·rename_i pn hpn
       split at hv
       ·rename_i hc
        simp only [Bool.and_eq_true, decide_eq_true_eq] at hc
        obtain ⟨hva, hk⟩ := hv
        rw [hd] at hva hk
        obtain ⟨g, hg, g1, gr⟩ := fcells_rep hx hfc (fun i v hv => (h.ows.len i v hv).2.1)
        obtain ⟨hl, hsn⟩ := mapO_spec hpn
        rw [hl] at hg
        obtain ⟨w1, hrun, hs⟩ := h.storeTreeCells (t := t) (pn := pn) (off := off) hi hb hg g1 (fun j hj => leafy_rep (snapD_rep (own := []) (ds := []) (m := m) (S' := Nset S X w0.heap.size w m st.own) (fun i b v h => by simp at h) (fun _ => id) (fun i b h => by simp at h) 8 _ _ _ (gr j (by omega)) (hsn j (by omega) hj))
         (List.all_eq_true.1 hc.2 _ (List.getElem_mem hj))) (by omega) h2 hkl hc.1 hva
        exact wp_skip (store_run hop hav hrun) (hn _ _ w1 m (hs.putJunk o.dst undef) hk)
       ·exact hv.elim
      ·exact hv.elim
    ·exact hv.elim
   ·exact hv.elim
  ·exact hv.elim
 | load t x =>
  simp only at hv
  split at hv
  ·rename_i i s k off hxe
   split at hv
   ·rename_i e s' et els hi
    obtain ⟨hc, hv⟩ := hv
    have hx := strip_rep (h.evs x) hc
    rw [hxe] at hx
    unfold loadTVC at hv
    split at hv
    ·rename_i hcc
     obtain ⟨rfl, ho, hs, hag⟩ := hcc
     obtain ⟨hkl, hv⟩ := hv
     have hd : els.getD k (.val (.bool false)) = els[k] := by simp [List.getD, List.getElem?_eq_getElem hkl]
     rw [hd] at hv
     generalize hav : a.eval x = av at hx
     cases hx
     rename_i b hb
     obtain ⟨u, hrun, hu1, hplain, hsub⟩ := h.loadTree (P := P) (t := t) hi hb hkl ho hs hag
     have fin : ∀ {fv : FV}, RepF w (Nset S X w0.heap.size w m st.own) m u fv → K (st.put o.dst fv) → o.wp P a w next Q := by
      intro fv hr hk
      refine wp_value' (v := u) (w' := w) ?_ (hn _ _ w m (h.put hr) hk)
      simp [execOp, hop, Instr.loadAt, hav, Instr.sureAddr, hrun]
     split at hv
     ·obtain ⟨h1, hk⟩ := hv
      have := hplain (.inl ⟨_, h1⟩) (Nset S X w0.heap.size w m st.own)
      rw [h1] at this
      exact fin (.pv _ _ this) hk
     ·obtain ⟨h1, hk⟩ := hv
      have := hplain (.inl ⟨_, h1⟩) (Nset S X w0.heap.size w m st.own)
      rw [h1] at this
      exact fin (.pv _ _ this) hk
     ·obtain ⟨⟨l, hl⟩, h1, h2⟩ := hv
      by_cases hne : l = []
      ·subst hne
       have := hplain (.inr hl) (Nset S X w0.heap.size w m st.own)
       rw [hl] at this
       exact fin (.pv _ _ this) (h1 hl)
      ·exact fin (hsub l hl hne) (h2 ⟨l, hne, hl⟩)
     ·exact hv.elim
    ·exact hv.elim
   ·exact dflt hv
  ·exact dflt hv
 | makeSlice t l c =>
  simp only at hv
  obtain ⟨hcl, hcc, hv⟩ := hv
  split at hv
  ·rename_i e he
   split at hv
   ·rename_i z k n k' n' hz hle hce
    split at hv
    ·rename_i hcond
     obtain ⟨h0, h1, h2, hk⟩ := hv
     have e1 := (hle ▸ strip_rep (h.evs l) hcl).valInv
     have e2 := (hce ▸ strip_rep (h.evs c) hcc).valInv
     exact makeSlice_ok E h hop he hz e1 e2 hcond.1 hcond.2 h0 h1 h2 (fun a' w' m' hs => hn _ _ _ m' hs hk)
    ·exact hv.elim
   ·exact hv.elim
  ·exact hv.elim
 | buildSlice t n parts =>
  simp only at hv
  obtain ⟨hc, hv⟩ := hv
  split at hv
  ·rename_i e els he hs
   split at hv
   ·rename_i hcond
    simp only [Bool.and_eq_true, beq_iff_eq, decide_eq_true_eq] at hcond
    exact buildOwn_ok E h hop hc he hs hcond.1.1.1 hcond.1.1.2 hcond.1.2 hcond.2 hv.1 (fun a' w' m' hs => hn _ _ _ m' hs hv.2)
   ·exact hv.elim
  ·rename_i e he hs
   unfold buildTVC at hv
   obtain ⟨parts⟩ := parts
   simp only at hv hc
   split at hv
   ·rename_i x hpx
    split at hv
    ·rename_i cs hfc
     split at hv
     ·rename_i et _
      split at hv
      ·rename_i ps jl hl
       split at hv
       ·rename_i hcc
        simp only [Bool.and_eq_true, beq_iff_eq, decide_eq_true_eq] at hcc
        obtain ⟨⟨⟨⟨c1, c2⟩, c3⟩, c4⟩, c5⟩ := hcc
        obtain ⟨hva, hk⟩ := hv
        exact buildTree_ok E h hop c1 hc.1 he hfc hl hva (nodupB_spec c5) c2 c3 c4 (fun a' w' m' hs => hn _ _ _ m' hs hk)
       ·exact hv.elim
      ·exact hv.elim
     ·exact hv.elim
    ·exact hv.elim
   ·exact hv.elim
  ·exact hv.elim
 | slice t x lo hi mx =>
  cases lo with
  | some _ => exact dflt (by simpa using hv)
  | none =>
  cases hi with
  | none => exact dflt (by simpa using hv)
  | some q =>
  cases mx with
  | some _ => exact dflt (by simpa using hv)
  | none =>
  simp only at hv
  split at hv
  ·rename_i i k hh hxi hqi
   obtain ⟨hcx, hcq, hv⟩ := hv
   have hx := strip_rep (h.evs x) hcx
   rw [hxi] at hx
   have hq := strip_rep (h.evs q) hcq
   rw [hqi] at hq
   exact cutOwn_ok E h hop hx hq.valInv hv (fun v fv st' w' m' hs hr hk => hn _ _ w' m' (hs.put hr) hk)
  ·exact dflt hv
 | call c =>
  obtain ⟨callee, args, ts⟩ := c
  cases callee with
  | value f =>
   simp only at hv
   obtain ⟨hc, hv⟩ := hv
   split at hv
   ·rename_i fid caps hf
    exact call_eff E h hop hc hf hv (fun v fv st' w' m' hs hr hk => hn _ _ w' m' (hs.put hr) hk)
   ·exact hv.elim
  | builtin b =>
   cases b with
   | append =>
    simp only at hv
    split at hv
    ·rename_i s x t t' ha ht
     split at hv
     ·exact dflt hv
     ·obtain ⟨hcs, hcx, hv⟩ := hv
      split at hv
      ·rename_i e he
       split at hv
       ·rename_i i e' s' et els hta
        split at hv
        ·rename_i htt
         subst htt
         obtain ⟨args⟩ := args
         obtain ⟨ts⟩ := ts
         have e1 := two_spec ha
         have e2 := two_spec ht
         simp only at e1 e2
         subst e1; subst e2
         obtain ⟨hsi, hi⟩ := treeAt_spec hta
         have hsr := strip_rep (h.evs s) hcs
         rw [hsi] at hsr
         have hxr := strip_rep (h.evs x) hcx
         unfold appendTVC at hv
         split at hv
         ·rename_i hc
          obtain ⟨rfl, rfl, c1, c2, c3⟩ := hc
          split at hv
          ·rename_i i2 e2 s2 et2 new hta2
           obtain ⟨hxi, hi2⟩ := treeAt_spec hta2
           split at hv
           ·rename_i hc2
            obtain ⟨d1, rfl, rfl, rfl⟩ := hc2
            rw [hxi] at hxr
            obtain ⟨ngs, hS⟩ := TSrc.tree h hi2 hxr
            exact appendTree_ok E h hop he hi c1 hsr c2 c3 (by simpa using fun e => d1 e.symm) hv.1 hS (fun v w' m' hs hr => hn _ _ w' m' (hs.put hr) hv.2)
           ·exact hv.elim
          ·split at hv
           ·rename_i new hsrc
            obtain ⟨g1, g2, g3, hk⟩ := hv
            have hs0 : 0 < P.cellsOf e' := Nat.pos_of_ne_zero (elemT_spec he).2
            have hS := TSrc.leafs (st := st) (m := m) (et := et) hs0 (src_spec hs0 h.ownAt hxr hsrc g1) g1 g2
            exact appendTree_ok E h hop he hi c1 hsr c2 c3 (by simp) g3 hS (fun v w' m' hs hr => hn _ _ w' m' (hs.put hr) hk)
           ·exact hv.elim
         ·exact hv.elim
        ·exact hv.elim
       ·split at hv
        ·rename_i htt
         subst htt
         obtain ⟨args⟩ := args
         obtain ⟨ts⟩ := ts
         have e1 := two_spec ha
         have e2 := two_spec ht
         simp only at e1 e2
         subst e1; subst e2
         exact append_ok E h hop he hcs hcx hv (fun v fv st' w' m' hs hr hk => hn _ _ w' m' (hs.put hr) hk)
        ·obtain ⟨args⟩ := args
         obtain ⟨ts⟩ := ts
         have e1 := two_spec ha
         have e2 := two_spec ht
         simp only at e1 e2
         subst e1; subst e2
         exact appendZ_ok E h hop he hcs hcx hv (fun v fv st' w' m' hs hr hk => hn _ _ w' m' (hs.put hr) hk)
      ·exact hv.elim
    ·exact hv.elim
   | _ => exact dflt hv
  | _ => exact dflt hv
 | _ => exact dflt hv

end
end Go.Pe

