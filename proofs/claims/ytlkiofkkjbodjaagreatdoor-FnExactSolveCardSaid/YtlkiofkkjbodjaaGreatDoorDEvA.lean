/- The evaluator over abstract values, its conditions for operations that only look, and that they are sound: no condition on the input. -/
import Derived.Below
import Derived.Laws.Append
import Derived.Laws.AppendOwn
import Derived.Laws.MakeOwn
import Derived.Laws.OwnMore
import Derived.Laws.CopyRow
import Derived.Laws.Rows
import Derived.Laws.Tables
import Derived.Orders
import Derived.Tactics
import Derived.WalkKit
import Derived.KernelRfl
set_option linter.unusedSimpArgs false
set_option linter.unusedVariables false
/- By-value abstract values of the Go model, and what it means that a value in a world reads as one. -/
namespace Go.Pe
open Go Go.RowKit

def free : Value → Bool
 | .bool _ => true
 | .int _ _ => true
 | .string _ => true
 | .nilFunc => true
 | .nilIface => true
 | .pointer none => true
 | .slice none 0 0 => true
 | _ => false

inductive PV where
 | val (v : Value)
 | lst (els : List PV)
 | agg (cs : List PV)
 | tup (vs : List PV)
 | fn (f : FuncId) (caps : List PV)
 | ptr (cs : List PV) (off : Nat)
 | elt (els : List PV) (k off : Nat)

def PV.cells : PV → List PV
 | .agg cs => cs
 | p => [p]

def PV.one : PV → Bool
 | .agg _ => false
 | .tup _ => false
 | _ => true

abbrev vrange (n : Nat) (f : Nat → Value) : List Value := (List.range n).map f

inductive Rep (w : World) (S : Nat → Prop) : Value → PV → Prop where
 | val (v : Value) : free v = true → Rep w S v (.val v)
 | nil (a : Option Addr) (c : Nat) : Rep w S (.slice a 0 c) (.lst [])
 | lst (b o c s : Nat) (els : List PV) (f : Nat → Nat → Value) : S b → els.length ≤ c →
   (∀ k (hk : k < els.length), (els[k]).cells.length = s) →
   (∀ k j, k < els.length → j < s → w.cell? ⟨b, o + k * s + j, none⟩ = some (f k j)) →
   (∀ k j, (f k j).oneCell' = true) →
   (∀ k (hk : k < els.length) j (hj : j < (els[k]).cells.length), Rep w S (f k j) ((els[k]).cells[j])) →
   Rep w S (.slice (some ⟨b, o, none⟩) els.length c) (.lst els)
 | agg (cs : List PV) (f : Nat → Value) : (∀ j, (f j).oneCell' = true) → (∀ j (hj : j < cs.length), Rep w S (f j) cs[j]) →
   Rep w S (.agg (vrange cs.length f).toArray) (.agg cs)
 | tup (cs : List PV) (f : Nat → Value) : (∀ j (hj : j < cs.length), Rep w S (f j) cs[j]) →
   Rep w S (.tuple (vrange cs.length f).toArray) (.tup cs)
 | fn (g : FuncId) (cs : List PV) (f : Nat → Value) : (∀ j (hj : j < cs.length), Rep w S (f j) cs[j]) →
   Rep w S (.func (.func g) #[] (vrange cs.length f).toArray) (.fn g cs)
 | ptr (b o off : Nat) (cs : List PV) (f : Nat → Value) : S b →
   (∀ j, j < cs.length → w.cell? ⟨b, o + j, none⟩ = some (f j)) →
   (∀ j, (f j).oneCell' = true) →
   (∀ j (hj : j < cs.length), Rep w S (f j) cs[j]) →
   Rep w S (.pointer (some ⟨b, o + off, none⟩)) (.ptr cs off)
 | elt (b o s k off : Nat) (els : List PV) (f : Nat → Nat → Value) : S b →
   (∀ k (hk : k < els.length), (els[k]).cells.length = s) →
   (∀ k j, k < els.length → j < s → w.cell? ⟨b, o + k * s + j, none⟩ = some (f k j)) →
   (∀ k j, (f k j).oneCell' = true) →
   (∀ k (hk : k < els.length) j (hj : j < (els[k]).cells.length), Rep w S (f k j) ((els[k]).cells[j])) →
   Rep w S (.pointer (some ⟨b, o + k * s + off, none⟩)) (.elt els k off)

theorem Rep.mono {w w' : World} {S S' : Nat → Prop} {v : Value} {p : PV} (h : Rep w S v p)
  (hw : ∀ b, S b → w'.heap[b]? = w.heap[b]?) (hS : ∀ b, S b → S' b) : Rep w' S' v p := by
 have hc : ∀ b i, S b → w'.cell? ⟨b, i, none⟩ = w.cell? ⟨b, i, none⟩ := fun b i hb => World.cell?_of_block (hw b hb)
 induction h with
 | val v h => exact .val v h
 | nil a c => exact .nil a c
 | lst b o c s els f hb h1 h2 h3 h4 _ ih => exact .lst b o c s els f (hS b hb) h1 h2 (fun k j hk hj => by rw [hc b _ hb]; exact h3 k j hk hj) h4 ih
 | agg cs f h1 _ ih => exact .agg cs f h1 ih
 | tup cs f _ ih => exact .tup cs f ih
 | fn g cs f _ ih => exact .fn g cs f ih
 | ptr b o off cs f hb h1 h2 _ ih => exact .ptr b o off cs f (hS b hb) (fun j hj => by rw [hc b _ hb]; exact h1 j hj) h2 ih
 | elt b o s k off els f hb h2 h3 h4 _ ih => exact .elt b o s k off els f (hS b hb) h2 (fun k j hk hj => by rw [hc b _ hb]; exact h3 k j hk hj) h4 ih

theorem Rep.one {w : World} {S : Nat → Prop} {v : Value} {p : PV} (h : Rep w S v p) (hp : p.one = true) : v.oneCell' = true := by
 cases h <;> first | rfl | (simp [PV.one] at hp; done) | skip
 rename_i h
 cases v <;> simp_all [free, Value.oneCell']

inductive FV where
 | pv (p : PV)
 | own (i : Nat)
 | box (i off : Nat)
 | agg (cs : List FV)
 | tup (vs : List FV)
 | fn (f : FuncId) (caps : List FV)
 | iff (c : Bool) (x : FV)
 | relt (i s k off : Nat)
 | xl (els : List PV)
 | sub (i s k j : Nat)
 | junk

def blk : Value → Option Nat
 | .slice (some a) _ _ => some a.block
 | .pointer (some a) => some a.block
 | _ => none

abbrev MV := Value × List Value

def hasB (v : MV) (b : Nat) : Prop := blk v.1 = some b ∨ ∃ u, u ∈ v.2 ∧ blk u = some b

theorem hasB_one {v : Value} {b : Nat} : hasB (v, []) b ↔ blk v = some b := by
 unfold hasB
 constructor
 ·rintro (h | ⟨u, hu, _⟩)
  ·exact h
  ·cases hu
 ·exact .inl

def tblk (m : Nat → Option MV) (i : Nat) : Option Nat := (m i).bind fun v => blk v.1

def mblk (m : Nat → Option MV) (i b : Nat) : Prop := ∃ v, m i = some v ∧ hasB v b

inductive RepF (w : World) (S : Nat → Prop) (m : Nat → Option MV) : Value → FV → Prop where
 | pv (v : Value) (p : PV) : Rep w S v p → RepF w S m v (.pv p)
 | own (i : Nat) (v : MV) : m i = some v → RepF w S m v.1 (.own i)
 | sub (i s k j : Nat) (v : MV) (u : Value) : m i = some v → j < s → v.2[k * s + j]? = some u → u.oneCell' = true → RepF w S m u (.sub i s k j)
 | box (i off b : Nat) : tblk m i = some b → RepF w S m (.pointer (some ⟨b, off, none⟩)) (.box i off)
 | agg (cs : List FV) (f : Nat → Value) : (∀ j, (f j).oneCell' = true) → (∀ j (hj : j < cs.length), RepF w S m (f j) cs[j]) →
   RepF w S m (.agg (vrange cs.length f).toArray) (.agg cs)
 | tup (cs : List FV) (f : Nat → Value) : (∀ j (hj : j < cs.length), RepF w S m (f j) cs[j]) →
   RepF w S m (.tuple (vrange cs.length f).toArray) (.tup cs)
 | fn (g : FuncId) (cs : List FV) (f : Nat → Value) : (∀ j (hj : j < cs.length), RepF w S m (f j) cs[j]) →
   RepF w S m (.func (.func g) #[] (vrange cs.length f).toArray) (.fn g cs)
 | iff (v : Value) (c : Bool) (x : FV) : (c = true → RepF w S m v x) → (c = false → v = undef) → RepF w S m v (.iff c x)
 | relt (i s k off b : Nat) : tblk m i = some b → RepF w S m (.pointer (some ⟨b, k * s + off, none⟩)) (.relt i s k off)
 | xl (a : Option Addr) (n : Nat) (els : List PV) : Rep w S (.slice a n n) (.lst els) → RepF w S m (.slice a n n) (.xl els)
 | junk (v : Value) : RepF w S m v .junk

theorem RepF.mono {w w' : World} {S S' : Nat → Prop} {m m' : Nat → Option MV} {v : Value} {p : FV} (h : RepF w S m v p)
  (hw : ∀ b, S b → w'.heap[b]? = w.heap[b]?) (hS : ∀ b, S b → S' b) (hm : ∀ i v, m i = some v → m' i = some v) : RepF w' S' m' v p := by
 have hb : ∀ i b, tblk m i = some b → tblk m' i = some b := by
  intro i b h
  unfold tblk at *
  cases hi : m i with
  | none => simp [hi] at h
  | some v => rw [hm i v hi]; rwa [hi] at h
 induction h with
 | pv v p h => exact .pv v p (h.mono hw hS)
 | own i v h => exact .own i v (hm i v h)
 | sub i s k j v u h h2 h3 h4 => exact .sub i s k j v u (hm i v h) h2 h3 h4
 | box i off b h => exact .box i off b (hb i b h)
 | agg cs f h1 _ ih => exact .agg cs f h1 ih
 | tup cs f _ ih => exact .tup cs f ih
 | fn g cs f _ ih => exact .fn g cs f ih
 | iff v c x _ h2 ih => exact .iff v c x ih h2
 | relt i s k off b h => exact .relt i s k off b (hb i b h)
 | xl a n els h => exact .xl a n els (h.mono hw hS)
 | junk v => exact .junk v

mutual
def FV.uses (i : Nat) : FV → Bool
 | .pv _ => false
 | .own j => j == i
 | .box j _ => j == i
 | .relt j _ _ _ => j == i
 | .sub j _ _ _ => j == i
 | .agg cs => usesL i cs
 | .tup cs => usesL i cs
 | .fn _ cs => usesL i cs
 | .iff _ x => x.uses i
 | .xl _ => false
 | .junk => false
def usesL (i : Nat) : List FV → Bool
 | [] => false
 | x :: r => x.uses i || usesL i r
end

theorem usesL_get {i : Nat} : ∀ {cs : List FV}, usesL i cs = false → ∀ j (hj : j < cs.length), (cs[j]).uses i = false
 | [], _, j, hj => by simp at hj
 | x :: r, h, 0, _ => by simp [usesL] at h; exact h.1
 | x :: r, h, j + 1, hj => by simp [usesL] at h; exact usesL_get h.2 j (by simpa using hj)

theorem RepF.remap {w : World} {S : Nat → Prop} {m m' : Nat → Option MV} {v : Value} {p : FV} (h : RepF w S m v p)
  (hm : ∀ i, p.uses i = true → m' i = m i) : RepF w S m' v p := by
 have hu : ∀ (cs : List FV), (∀ i, usesL i cs = true → m' i = m i) → ∀ j (hj : j < cs.length) i, (cs[j]).uses i = true → m' i = m i := by
  intro cs h j hj i hi
  refine h i ?_
  cases hq : usesL i cs with
  | true => rfl
  | false => rw [usesL_get hq j hj] at hi; cases hi
 induction h with
 | pv v p h => exact .pv v p h
 | own i v h => exact .own i v (by rw [hm i (by simp [FV.uses])]; exact h)
 | sub i s k j v u h h2 h3 h4 => exact .sub i s k j v u (by rw [hm i (by simp [FV.uses])]; exact h) h2 h3 h4
 | box i off b h => exact .box i off b (by unfold tblk; rw [hm i (by simp [FV.uses])]; exact h)
 | agg cs f h1 _ ih => exact .agg cs f h1 fun j hj => ih j hj (hu cs (fun i hi => hm i (by simpa [FV.uses] using hi)) j hj)
 | tup cs f _ ih => exact .tup cs f fun j hj => ih j hj (hu cs (fun i hi => hm i (by simpa [FV.uses] using hi)) j hj)
 | fn g cs f _ ih => exact .fn g cs f fun j hj => ih j hj (hu cs (fun i hi => hm i (by simpa [FV.uses] using hi)) j hj)
 | iff v c x _ h2 ih => exact .iff v c x (fun hc => ih hc fun i hi => hm i (by simpa [FV.uses] using hi)) h2
 | relt i s k off b h => exact .relt i s k off b (by unfold tblk; rw [hm i (by simp [FV.uses])]; exact h)
 | xl a n els h => exact .xl a n els h
 | junk v => exact .junk v

mutual
def FV.subs (i : Nat) : FV → Bool
 | .pv _ => false
 | .own _ => false
 | .box _ _ => false
 | .relt _ _ _ _ => false
 | .sub j _ _ _ => j == i
 | .agg cs => subsL i cs
 | .tup cs => subsL i cs
 | .fn _ cs => subsL i cs
 | .iff _ x => x.subs i
 | .xl _ => false
 | .junk => false
def subsL (i : Nat) : List FV → Bool
 | [] => false
 | x :: r => x.subs i || subsL i r
end

theorem subsL_get {i : Nat} : ∀ {cs : List FV}, subsL i cs = false → ∀ j (hj : j < cs.length), (cs[j]).subs i = false
 | [], _, j, hj => by simp at hj
 | x :: r, h, 0, _ => by simp [subsL] at h; exact h.1
 | x :: r, h, j + 1, hj => by simp [subsL] at h; exact subsL_get h.2 j (by simpa using hj)

theorem tblk_congr {m m' : Nat → Option MV} {i : Nat} (h : m' i = m i ∨ ∃ u u', m i = some u ∧ m' i = some u' ∧ u'.1 = u.1) : tblk m' i = tblk m i := by
 unfold tblk
 rcases h with h | ⟨u, u', h1, h2, h3⟩
 ·rw [h]
 ·rw [h1, h2]; simp only [Option.bind_some, h3]

theorem RepF.change {w : World} {S : Nat → Prop} {m m' : Nat → Option MV} {v : Value} {p : FV} (h : RepF w S m v p)
  (hm : ∀ i, p.uses i = true → m' i = m i ∨ ∃ u u', m i = some u ∧ m' i = some u' ∧ u'.1 = u.1 ∧ p.subs i = false) : RepF w S m' v p := by
 have hu : ∀ (cs : List FV), (∀ i, usesL i cs = true → m' i = m i ∨ ∃ u u', m i = some u ∧ m' i = some u' ∧ u'.1 = u.1 ∧ subsL i cs = false) →
   ∀ j (hj : j < cs.length) i, (cs[j]).uses i = true → m' i = m i ∨ ∃ u u', m i = some u ∧ m' i = some u' ∧ u'.1 = u.1 ∧ (cs[j]).subs i = false := by
  intro cs h j hj i hi
  rcases h i (by
   cases hq : usesL i cs with
   | true => rfl
   | false => rw [usesL_get hq j hj] at hi; cases hi) with h | ⟨u, u', h1, h2, h3, h4⟩
  ·exact .inl h
  ·exact .inr ⟨u, u', h1, h2, h3, subsL_get h4 j hj⟩
 have hw : ∀ i q, (q : FV).uses i = true → (m' i = m i ∨ ∃ u u', m i = some u ∧ m' i = some u' ∧ u'.1 = u.1 ∧ q.subs i = false) → m' i = m i ∨ ∃ u u', m i = some u ∧ m' i = some u' ∧ u'.1 = u.1 :=
  fun i q _ h => h.imp id (fun ⟨u, u', h1, h2, h3, _⟩ => ⟨u, u', h1, h2, h3⟩)
 induction h with
 | pv v p h => exact .pv v p h
 | own i v h =>
  rcases hm i (by simp [FV.uses]) with hq | ⟨u, u', h1, h2, h3, _⟩
  ·exact .own i v (by rw [hq]; exact h)
  ·rw [h] at h1; cases h1
   rw [← h3]; exact .own i u' h2
 | sub i s k j v u h h2 h3 h4 =>
  rcases hm i (by simp [FV.uses]) with hq | ⟨_, _, _, _, _, h5⟩
  ·exact .sub i s k j v u (by rw [hq]; exact h) h2 h3 h4
  ·simp [FV.subs] at h5
 | box i off b h => exact .box i off b (by rw [tblk_congr (hw i (.box i off) (by simp [FV.uses]) (hm i (by simp [FV.uses])))]; exact h)
 | agg cs f h1 _ ih => exact .agg cs f h1 fun j hj => ih j hj (hu cs (fun i hi => hm i (by simpa [FV.uses] using hi)) j hj)
 | tup cs f _ ih => exact .tup cs f fun j hj => ih j hj (hu cs (fun i hi => hm i (by simpa [FV.uses] using hi)) j hj)
 | fn g cs f _ ih => exact .fn g cs f fun j hj => ih j hj (hu cs (fun i hi => hm i (by simpa [FV.uses] using hi)) j hj)
 | iff v c x _ h2 ih => exact .iff v c x (fun hc => ih hc fun i hi => hm i (by simpa [FV.uses] using hi)) h2
 | relt i s k off b h => exact .relt i s k off b (by rw [tblk_congr (hw i (.relt i s k off) (by simp [FV.uses]) (hm i (by simp [FV.uses])))]; exact h)
 | xl a n els h => exact .xl a n els h
 | junk v => exact .junk v

inductive Blk where
 | gone
 | box (cs : List FV)
 | row (e : TypeId) (s : Nat) (els : List PV)
 | tree (e : TypeId) (s : Nat) (et : TypeId) (els : List PV)

def Blk.live : Blk → Bool
 | .gone => false
 | _ => true

def Blk.uses (i : Nat) : Blk → Bool
 | .box cs => usesL i cs
 | _ => false

def RowOk (w : World) (S : Nat → Prop) (v : Value) (e : TypeId) (s : Nat) (els : List PV) : Prop :=
 ∃ (xs : List Value) (f : Nat → Nat → Value), w.ownsRow 0 e s v els.length xs ∧ 0 < s ∧
   (∀ k j, k < els.length → j < s → xs[k * s + j]? = some (f k j)) ∧ (∀ k (hk : k < els.length), (els[k]).cells.length = s) ∧ (∀ k j, (f k j).oneCell' = true) ∧
   (∀ k (hk : k < els.length) j (hj : j < (els[k]).cells.length), Rep w S (f k j) ((els[k]).cells[j]))

def Leaf (w : World) (et : TypeId) (u g : Value) (p : PV) : Prop :=
 (blk g = none ∧ Rep w (fun _ => False) u p) ∨ ∃ l, p = .lst l ∧ g = u ∧ RowOk w (fun _ => False) u et 1 l

def TreeOk (w : World) (v : MV) (e : TypeId) (s : Nat) (et : TypeId) (els : List PV) : Prop :=
 ∃ (xs : List Value) (f : Nat → Nat → Value), w.ownsRow 0 e s v.1 els.length xs ∧ 0 < s ∧
   (∀ k j, k < els.length → j < s → xs[k * s + j]? = some (f k j)) ∧ (∀ k (hk : k < els.length), (els[k]).cells.length = s) ∧ (∀ k j, (f k j).oneCell' = true) ∧
   v.2.length = els.length * s ∧
   (∀ k (hk : k < els.length) j (hj : j < (els[k]).cells.length), ∃ g, v.2[k * s + j]? = some g ∧ Leaf w et (f k j) g ((els[k]).cells[j])) ∧
   (∀ (n n' : Nat) (g g' : Value) (b : Nat), n ≠ n' → v.2[n]? = some g → v.2[n']? = some g' → blk g = some b → blk g' ≠ some b) ∧
   (∀ (g : Value) (b : Nat), g ∈ v.2 → blk g = some b → blk v.1 ≠ some b)

def OwnOk (w : World) (S : Nat → Prop) (m : Nat → Option MV) (v : MV) : Blk → Prop
 | .gone => True
 | .box cs => v.2 = [] ∧ ∃ b T f, v.1 = .pointer (some ⟨b, 0, none⟩) ∧ w.heap[b]? = some (.cells (vrange cs.length f).toArray T (0, 0)) ∧
   (∀ j, (f j).oneCell' = true) ∧ ∀ j (hj : j < cs.length), RepF w S m (f j) cs[j]
 | .row e s els => v.2 = [] ∧ RowOk w S v.1 e s els
 | .tree e s et els => TreeOk w v e s et els

end Go.Pe

/- The evaluator over abstract values, and the conditions that it lays. -/
namespace Go.Pe
open Go Go.RowKit

structure St where
 slots : List (Nat × FV)
 own : List Blk
 nt : Nat
 k0 : Nat

def look : List (Nat × FV) → Nat → FV
 | [], _ => .junk
 | (k, x) :: r, t => if t = k then x else look r t

def St.get (st : St) (t : Nat) : FV := look st.slots t
def St.put (st : St) (t : Option Nat) (x : FV) : St :=
 match t with
 | none => st
 | some t => if t < st.nt then { st with slots := (t, x) :: st.slots } else st

def constFV : Value → FV
 | .agg cs => if cs.toList.all free then .agg (cs.toList.map fun v => .pv (.val v)) else .junk
 | v => if free v then .pv (.val v) else .junk

def St.ev (st : St) : Operand → FV
 | .tmp t => st.get t
 | .const v => constFV v
 | .func f => .pv (.fn f [])
 | .global _ => .junk

def strip : FV → FV
 | .iff _ (.xl els) => .pv (.lst els)
 | .iff _ x => x
 | .xl els => .pv (.lst els)
 | x => x

def imp (g : Option Bool) (p : Prop) : Prop :=
 match g with
 | none => p
 | some b => b = true → p

def condOk (g : Option Bool) : FV → Prop
 | .iff c _ => imp g (c = true)
 | _ => True

def condsOk (g : Option Bool) (st : St) : List Operand → Prop
 | [] => True
 | x :: r => condOk g (st.ev x) ∧ condsOk g st r

def mapO {α β : Type} (f : α → Option β) : List α → Option (List β)
 | [] => some []
 | x :: r => match f x, mapO f r with
  | some p, some q => some (p :: q)
  | _, _ => none

def normP : PV → PV
 | .val (.slice none 0 0) => .lst []
 | p => p

def snapD (own : List Blk) (ds : List Nat) : Nat → FV → Option PV
 | _, .pv p => some (normP p)
 | _, .own i => if ds.contains i then (match own[i]? with | some (.row _ _ els) => some (.lst els) | some (.tree _ _ _ els) => some (.lst els) | _ => none) else none
 | _, .relt i s k off => if ds.contains i then (match own[i]? with | some (.row _ s' els) => if s' = s then some (.elt els k off) else none | _ => none) else none
 | n + 1, .box i off => if ds.contains i then (match own[i]? with | some (.box cs) => (mapO (snapD own ds n) cs).map (.ptr · off) | _ => none) else none
 | n + 1, .agg cs => (mapO (snapD own ds n) cs).map .agg
 | n + 1, .tup cs => (mapO (snapD own ds n) cs).map .tup
 | n + 1, .fn f cs => (mapO (snapD own ds n) cs).map (.fn f)
 | _, _ => none

def snapL (own : List Blk) (ds : List Nat) (xs : List FV) : Option (List PV) := mapO (snapD own ds 8) xs

def idsOf (own : List Blk) : Nat → FV → List Nat
 | _, .own i => [i]
 | _, .relt i _ _ _ => [i]
 | _, .sub i _ _ _ => [i]
 | n + 1, .box i _ => i :: (match own[i]? with | some (.box cs) => cs.flatMap (idsOf own n) | _ => [])
 | 0, .box i _ => [i]
 | n + 1, .agg cs => cs.flatMap (idsOf own n)
 | n + 1, .tup cs => cs.flatMap (idsOf own n)
 | n + 1, .fn _ cs => cs.flatMap (idsOf own n)
 | _, _ => []

def idsL (own : List Blk) (xs : List FV) : List Nat := xs.flatMap (idsOf own 8)

def usesAny (ds : List Nat) (x : FV) : Bool := ds.any (fun i => x.uses i)

def frzF (own : List Blk) (ds : List Nat) (x : FV) : FV :=
 if usesAny ds x then (match snapD own ds 8 x with | some p => .pv p | none => .junk) else x

def frzB (own : List Blk) (ds : List Nat) : Blk → Blk
 | .box cs => .box (cs.map (frzF own ds))
 | b => b

def goneAt (ds : List Nat) : Nat → List Blk → List Blk
 | _, [] => []
 | n, b :: r => (if ds.contains n then .gone else b) :: goneAt ds (n + 1) r

def St.retire (st : St) (ds : List Nat) : St :=
 match ds with
 | [] => st
 | ds => { st with slots := st.slots.map fun (t, x) => (t, frzF st.own ds x), own := goneAt ds 0 (st.own.map (frzB st.own ds)) }

def dropF (i : Nat) (x : FV) : FV := if x.uses i then .junk else x
def dropB (i : Nat) : Blk → Blk
 | .box cs => .box (cs.map (dropF i))
 | b => b
def St.drop (st : St) (i : Nat) : St :=
 { st with slots := st.slots.map fun (t, x) => (t, dropF i x), own := st.own.map (dropB i) }

end Go.Pe

/- Contracts; the operations; the conditions of a body. -/
namespace Go.Pe
open Go Go.RowKit

def Glob (gl : List (Nat × Obj)) (w : World) : Prop := ∀ x ∈ gl, w.heap[x.1]? = some x.2

def callable (P : Program) (f : FuncId) : Bool :=
 match P.funcs[f]? with
 | some fn => fn.body.isSome && !(fn.name == "runtime.NumGoroutine")
 | none => false

def FS (P : Program) (gl : List (Nat × Obj)) (f : FuncId) (args : List PV) (R : PV → Prop) : Prop :=
 callable P f = true ∧ ∀ (w : World) (S : Nat → Prop) (vs : Nat → Value), Glob gl w → (∀ b, S b → b < w.heap.size) →
  (∀ j (hj : j < args.length), Rep w S (vs j) args[j]) →
  Calls P f (vrange args.length vs).toArray w fun e w' => ∃ v r, e = .returned v ∧ R r ∧ Below w.heap.size w w' ∧
   Rep w' (fun b => S b ∨ (w.heap.size ≤ b ∧ b < w'.heap.size)) v r

structure BelowX (X : Nat → Prop) (w w' : World) : Prop where
 os : w'.os = w.os
 tape : w'.tape = w.tape
 output : w'.output = w.output
 size : w.heap.size ≤ w'.heap.size
 block : ∀ k, k < w.heap.size → ¬ X k → w'.heap[k]? = w.heap[k]?

def lives (own : List Blk) (i : Nat) : Prop := ∃ b, own[i]? = some b ∧ b.live = true

def Nset (S X : Nat → Prop) (B : Nat) (w : World) (m : Nat → Option MV) (own : List Blk) (b : Nat) : Prop :=
 S b ∨ ((B ≤ b ∨ X b) ∧ b < w.heap.size ∧ ∀ i, lives own i → ¬ mblk m i b)

structure OwnS (w : World) (S : Nat → Prop) (m : Nat → Option MV) (own : List Blk) : Prop where
 len : ∀ i v, m i = some v → i < own.length ∧ v.1.oneCell' = true ∧ ∀ u, u ∈ v.2 → u.oneCell' = true
 ok : ∀ i b, own[i]? = some b → b.live = true → ∃ v, m i = some v ∧ OwnOk w S m v b
 sep : ∀ i j b, i ≠ j → lives own i → lives own j → mblk m i b → ¬ mblk m j b
 lt : ∀ i b, lives own i → mblk m i b → b < w.heap.size
 out : ∀ i b, lives own i → mblk m i b → ¬ S b

def FX (P : Program) (gl : List (Nat × Obj)) (f : FuncId) (own : List Blk) (args : List FV) (R : List Blk → FV → Prop) : Prop :=
 callable P f = true ∧ ∀ (w : World) (S : Nat → Prop) (m : Nat → Option MV) (vs : Nat → Value), Glob gl w → (∀ b, S b → b < w.heap.size) → OwnS w S m own →
  (∀ i b, lives own i → mblk m i b → ∀ x ∈ gl, x.1 ≠ b) →
  (∀ j (hj : j < args.length), RepF w S m (vs j) args[j]) →
  Calls P f (vrange args.length vs).toArray w fun e w' => ∃ v r own' m', e = .returned v ∧ R own' r ∧ own.length ≤ own'.length ∧ (∀ i, i < own.length → m' i = m i) ∧
   BelowX (fun b => ∃ i, lives own i ∧ mblk m i b) w w' ∧
   OwnS w' (Nset S (fun b => ∃ i, lives own i ∧ mblk m i b) w.heap.size w' m' own') m' own' ∧
   (∀ i b, lives own' i → mblk m' i b → w.heap.size ≤ b ∨ ∃ i, lives own i ∧ mblk m i b) ∧
   RepF w' (Nset S (fun b => ∃ i, lives own i ∧ mblk m i b) w.heap.size w' m' own') m' v r

def FN (P : Program) (gl : List (Nat × Obj)) (f : FuncId) (args : List PV) (R : List Blk → FV → Prop) : Prop :=
 callable P f = true ∧ ∀ (w : World) (vs : Nat → Value), Glob gl w →
  (∀ j (hj : j < args.length), Rep w (fun b => b < w.heap.size) (vs j) args[j]) →
  Calls P f (vrange args.length vs).toArray w fun e w' => ∃ v r own' m', e = .returned v ∧ R own' r ∧ Below w.heap.size w w' ∧
   OwnS w' (fun _ => False) m' own' ∧ (∀ i b, lives own' i → mblk m' i b → w.heap.size ≤ b) ∧ RepF w' (fun _ => False) m' v r

def isAggT (P : Program) (t : TypeId) : Bool :=
 match P.underlying t with
 | some (.struct _) => true
 | some (.array _ _) => true
 | _ => false

def scal (P : Program) (t : TypeId) : Bool := isAggT P t || (P.cellsOf t == 1 && (P.underlying t).isSome)

def fieldT (P : Program) (s : TypeId) (f : Nat) : Option Nat :=
 match P.underlying s with
 | some (.struct fs) => match fs[f]? with
  | some fd => if P.cellsOf fd.type = 0 then none else some fd.offset
  | none => none
 | _ => none

def elemT (P : Program) (t : TypeId) : Option TypeId :=
 match P.underlying t with
 | some (.slice e) => if P.cellsOf e = 0 then none else some e
 | _ => none

def isBoolT (P : Program) (t : TypeId) : Bool :=
 match P.underlying t with
 | some .bool => true
 | _ => false

def intT (P : Program) (t : TypeId) : Option IntKind :=
 match P.underlying t with
 | some (.int k) => some k
 | _ => none

def partP (ag : Bool) (off size : Nat) (cs : List PV) : PV :=
 if ag then .agg ((cs.drop off).take size) else cs.getD off (.val (.bool false))

def partF (ag : Bool) (off size : Nat) (cs : List FV) : FV :=
 if ag then .agg ((cs.drop off).take size) else cs.getD off .junk

def cmpV (op : BinOp) (a b : Int) : Option Bool :=
 match op with
 | .eql => some (a == b)
 | .neq => some (a != b)
 | .lss => some (decide (a < b))
 | .leq => some (decide (a ≤ b))
 | .gtr => some (decide (a > b))
 | .geq => some (decide (a ≥ b))
 | _ => none

def bitV (op : BinOp) (k : IntKind) (a b : Int) : Option Int :=
 match op with
 | .and => some (k.wrap (BitVec.ofInt k.bits a &&& BitVec.ofInt k.bits b).toNat)
 | .or => some (k.wrap (BitVec.ofInt k.bits a ||| BitVec.ofInt k.bits b).toNat)
 | .xor => some (k.wrap (BitVec.ofInt k.bits a ^^^ BitVec.ofInt k.bits b).toNat)
 | _ => none

def binV (P : Program) (op : BinOp) (t : TypeId) (x y : FV) : Option (Prop × FV) :=
 match x, y with
 | .pv (.val (.int k a)), .pv (.val (.int k' b)) =>
  match op with
  | .shl => some (0 ≤ b, .pv (.val (.int k (k.wrap (a * 2 ^ (min b.toNat k.bits))))))
  | .shr => some (0 ≤ b, .pv (.val (.int k (a.fdiv (2 ^ (min b.toNat k.bits))))))
  | op => if k ≠ k' then none else
   match op with
   | .add => some (True, .pv (.val (.int k (k.wrap (a + b)))))
   | .sub => some (True, .pv (.val (.int k (k.wrap (a - b)))))
   | .mul => some (True, .pv (.val (.int k (k.wrap (a * b)))))
   | .quo => some (b ≠ 0, .pv (.val (.int k (k.wrap (a.tdiv b)))))
   | .rem => some (b ≠ 0, .pv (.val (.int k (a.tmod b))))
   | op => match cmpV op a b, bitV op k a b with
    | some c, _ => some (True, .pv (.val (.bool c)))
    | none, some n => some (True, .pv (.val (.int k n)))
    | none, none => none
 | .pv (.val (.bool a)), .pv (.val (.bool b)) =>
  if isBoolT P t then
   match op with
   | .eql => some (True, .pv (.val (.bool (a == b))))
   | .neq => some (True, .pv (.val (.bool (!(a == b)))))
   | _ => none
  else none
 | _, _ => none

def lenV (own : List Blk) : FV → Option Nat
 | .pv (.lst els) => some els.length
 | .pv (.val (.slice none 0 0)) => some 0
 | .own i => match own[i]? with
  | some (.row _ _ els) => some els.length
  | some (.tree _ _ _ els) => some els.length
  | _ => none
 | _ => none

def setSeg {α : Type} (cs : List α) (off : Nat) (new : List α) : List α := cs.take off ++ new ++ cs.drop (off + new.length)

def fcells : FV → Option (List FV)
 | .agg cs => some cs
 | .pv (.agg cs) => some (cs.map .pv)
 | .tup _ => none
 | .pv (.tup _) => none
 | .iff _ _ => none
 | .junk => none
 | .sub _ _ _ _ => none
 | x => some [x]

def buildF (P : Program) (t : TypeId) (ev : Operand → FV) : List (Nat × Operand) → List FV → Option (List FV)
 | [], cs => some cs
 | (i, x) :: r, cs => match P.underlying t with
  | some (.struct fs) => match fs[i]?, fcells (ev x) with
   | some fd, some new => if new.length = P.cellsOf fd.type ∧ fd.offset + new.length ≤ cs.length then buildF P t ev r (setSeg cs fd.offset new) else none
   | _, _ => none
  | _ => none

def zeroF (P : Program) (t : TypeId) : Option (List FV) :=
 match P.info? t with
 | some i => match i.zero with
  | some z => if z.cells.toList.all free then some (z.cells.toList.map fun v => .pv (.val v)) else none
  | none => none
 | none => none

def PV.isTup : PV → Bool
 | .tup _ => true
 | _ => false

def okEl (s : Nat) (p : PV) : Prop := p.cells.length = s ∧ p.isTup = false

def hasZero (P : Program) (t : TypeId) : Bool :=
 match P.info? t with
 | some i => match i.zero with
  | some z => z.cells.size == i.size
  | none => false
 | none => false

def inOrder : Nat → List (Nat × Operand) → Bool
 | _, [] => true
 | n, (i, _) :: r => i == n && inOrder (n + 1) r

inductive CK where
 | int (k : IntKind)
 | bool
 | sl
 | other

def flat (P : Program) : Nat → TypeId → List CK
 | 0, _ => []
 | n + 1, t => match P.underlying t with
  | some (.int k) => [.int k]
  | some .bool => [.bool]
  | some (.slice _) => [.sl]
  | some (.struct fs) => fs.toList.flatMap fun f => flat P n f.type
  | _ => [.other]

def cellAt (p : PV) (j : Nat) : PV := p.cells.getD j (.val (.bool false))
def getI (p : PV) (j : Nat) : Int :=
 match cellAt p j with
 | .val (.int _ n) => n
 | _ => 0
def getB (p : PV) (j : Nat) : Bool :=
 match cellAt p j with
 | .val (.bool b) => b
 | _ => false
def getL (p : PV) (j : Nat) : List PV :=
 match cellAt p j with
 | .lst l => l
 | _ => []

def mkC (c : CK) (p : PV) (j : Nat) : PV :=
 match c with
 | .int k => .val (.int k (getI p j))
 | .bool => .val (.bool (getB p j))
 | .sl => .lst (getL p j)
 | .other => cellAt p j

def mkCs (p : PV) : List CK → Nat → List PV
 | [], _ => []
 | c :: r, j => mkC c p j :: mkCs p r (j + 1)

def partX (ag : Bool) (cks : List CK) (off : Nat) (p : PV) : PV :=
 if ag then .agg (mkCs p cks off) else mkC (cks.headD .other) p off

def pop (P : Program) (own : List Blk) (ev : Operand → FV) : Op → Option (Prop × FV)
 | .move x => some (True, ev x)
 | .assign x => some (True, ev x)
 | .load t x => match ev x with
  | .box i off => match own[i]? with
   | some (.box cs) => some (off + P.cellsOf t ≤ cs.length  ∧ scal P t = true, partF (isAggT P t) off (P.cellsOf t) cs)
   | _ => none
  | .relt i s k off => match own[i]? with
   | some (.row _ s' els) => if s' = s then some (k < els.length ∧ off + P.cellsOf t ≤ s ∧ scal P t = true ∧ partP (isAggT P t) off (P.cellsOf t) (els.getD k (.val (.bool false))).cells = partX (isAggT P t) (flat P 6 t) off (els.getD k (.val (.bool false))),
    .pv (partX (isAggT P t) (flat P 6 t) off (els.getD k (.val (.bool false))))) else none
   | _ => none
  | .pv (.ptr cs off) => some (off + P.cellsOf t ≤ cs.length  ∧ scal P t = true, .pv (partP (isAggT P t) off (P.cellsOf t) cs))
  | .pv (.elt els k off) => some (k < els.length ∧ off + P.cellsOf t ≤ (els.getD k (.val (.bool false))).cells.length ∧ scal P t = true ∧ partP (isAggT P t) off (P.cellsOf t) (els.getD k (.val (.bool false))).cells = partX (isAggT P t) (flat P 6 t) off (els.getD k (.val (.bool false))),
    .pv (partX (isAggT P t) (flat P 6 t) off (els.getD k (.val (.bool false)))))
  | _ => none
 | .fieldAddr s x f => match fieldT P s f, ev x with
  | some o, .box i off => some (True, .box i (off + o))
  | some o, .relt i s k off => some (True, .relt i s k (off + o))
  | some o, .pv (.ptr cs off) => some (True, .pv (.ptr cs (off + o)))
  | some o, .pv (.elt els k off) => some (True, .pv (.elt els k (off + o)))
  | _, _ => none
 | .indexAddr t x i => match elemT P t, ev i with
  | some e, .pv (.val (.int _ n)) => match ev x with
   | .pv (.lst els) => some (0 ≤ n ∧ n < els.length ∧ (els.getD n.toNat (.val (.bool false))).cells.length = P.cellsOf e, .pv (.elt els n.toNat 0))
   | .own j => match own[j]? with
    | some (.row _ s els) => if s = P.cellsOf e then some (0 ≤ n ∧ n < els.length, .relt j s n.toNat 0) else none
    | some (.tree _ s _ els) => if s = P.cellsOf e then some (0 ≤ n ∧ n < els.length, .relt j s n.toNat 0) else none
    | _ => none
   | _ => none
  | _, _ => none
 | .binOp op t x y _ => binV P op t (ev x) (ev y)
 | .unOp .not _ x => match ev x with
  | .pv (.val (.bool b)) => some (True, .pv (.val (.bool (!b))))
  | _ => none
 | .unOp .neg _ x => match ev x with
  | .pv (.val (.int k n)) => some (True, .pv (.val (.int k (k.wrap (0 - n)))))
  | _ => none
 | .convert s d x => match ev x, intT P s, intT P d with
  | .pv (.val (.int _ n)), some _, some k => some (True, .pv (.val (.int k (k.wrap n))))
  | _, _, _ => none
 | .extract x i => match ev x with
  | .pv (.tup vs) => some (i < vs.length, .pv (vs.getD i (.val (.bool false))))
  | .tup vs => some (i < vs.length, vs.getD i .junk)
  | _ => none
 | .build t parts => match P.underlying t, zeroF P t with
  | some (.struct fs), some z => if fs.toList.all (fun f => (P.info? f.type).isSome) then
    match buildF P t ev parts.toList z with
    | some cs => some (True, .agg cs)
    | none => none
   else none
  | _, _ => none
 | .makeFunc (.func f) first caps => if first.size = 0 then some (True, .fn f (caps.toList.map ev)) else none
 | .call { callee := .builtin .len, args, argTypes } => match args.toList, argTypes.toList with
  | [x], [t] => match elemT P t, lenV own (ev x) with
   | some _, some n => some (True, .pv (.val (.int .i64 n)))
   | _, _ => none
  | _, _ => none
 | .call { callee := .builtin .max, args, .. } => match args.toList with
  | [x, y] => match ev x, ev y with
   | .pv (.val (.int k a)), .pv (.val (.int _ b)) => some (True, .pv (.val (.int k (if b > a then b else a))))
   | _, _ => none
  | _ => none
 | .call { callee := .builtin .min, args, .. } => match args.toList with
  | [x, y] => match ev x, ev y with
   | .pv (.val (.int k a)), .pv (.val (.int _ b)) => some (True, .pv (.val (.int k (if b < a then b else a))))
   | _, _ => none
  | _ => none
 | .nilCheck x => match ev x with
  | .box i off => some (True, .box i off)
  | .pv (.ptr cs off) => some (True, .pv (.ptr cs off))
  | _ => none
 | .slice t x lo hi none => match elemT P t, ev x with
  | some e, .pv (.lst els) =>
   match (match lo with | none => some 0 | some o => match ev o with | .pv (.val (.int _ n)) => some n | _ => none),
      (match hi with | none => some (els.length : Int) | some o => match ev o with | .pv (.val (.int _ n)) => some n | _ => none) with
   | some l, some h => some (0 ≤ l ∧ l ≤ h ∧ h ≤ els.length ∧ (∀ p ∈ els, p.cells.length = P.cellsOf e), .pv (.lst ((els.take h.toNat).drop l.toNat)))
   | _, _ => none
  | _, _ => none
 | _ => none

def pickV (c : Bool) (a b : FV) : Option FV :=
 match a, b with
 | .pv (.val (.bool x)), .pv (.val (.bool y)) => some (.pv (.val (.bool (bif c then x else y))))
 | _, _ => none

def asFn : FV → Option (FuncId × List FV)
 | .pv (.fn f cs) => some (f, cs.map .pv)
 | .fn f cs => some (f, cs)
 | _ => none

def popK (g : Option Bool) (K : FV → Prop) : Option (Prop × FV) → Prop
 | some (ob, x) => imp g ob ∧ K x
 | none => False

def zeroP (P : Program) (t : TypeId) : Option PV :=
 match P.info? t with
 | some i => match i.zero with
  | some (.agg cs) => if cs.toList.all (fun v => free v) then some (.agg (cs.toList.map fun v => normP (.val v))) else none
  | some v => if free v then some (normP (.val v)) else none
  | none => none
 | none => none

def srcEls (own : List Blk) : FV → Option (List PV)
 | .pv (.lst els) => some els
 | .pv (.val (.slice none 0 0)) => some []
 | .own j => match own[j]? with
  | some (.row _ _ els) => some els
  | _ => none
 | _ => none

def two {α : Type} : List α → Option (α × α)
 | [x, y] => some (x, y)
 | _ => none

def flatV : PV → Bool
 | .val _ => true
 | _ => false
def flatA : PV → Bool
 | .val _ => true
 | .agg cs => cs.all flatV
 | _ => false
def flatO : PV → Option PV
 | .val v => some (.val v)
 | .agg cs => if cs.all flatV = true then some (.agg cs) else none
 | .tup cs => if cs.all flatA = true then some (.tup cs) else none
 | _ => none

theorem flatV_rep {w w' : World} {S S' : Nat → Prop} {v : Value} {r : PV} (h : flatV r = true) (hr : Rep w S v r) : Rep w' S' v r := by
 cases r with
 | val u => cases hr with | val _ hf => exact .val _ hf
 | _ => exact absurd h (by simp [flatV])

theorem flatA_rep {w w' : World} {S S' : Nat → Prop} {v : Value} {r : PV} (h : flatA r = true) (hr : Rep w S v r) : Rep w' S' v r := by
 cases r with
 | val u => cases hr with | val _ hf => exact .val _ hf
 | agg cs =>
  cases hr with
  | agg _ f h1 h2 => exact .agg cs f h1 (fun j hj => flatV_rep (List.all_eq_true.1 h _ (List.getElem_mem hj)) (h2 j hj))
 | _ => exact absurd h (by simp [flatA])

theorem flatO_rep {w w' : World} {S S' : Nat → Prop} {v : Value} {r x : PV} (h : flatO r = some x) (hr : Rep w S v r) : Rep w' S' v r := by
 cases r with
 | val u => exact flatA_rep (r := .val u) rfl hr
 | agg cs =>
  by_cases hc : cs.all flatV = true
  ·exact flatA_rep (r := .agg cs) hc hr
  ·have : flatO (.agg cs) = none := by show (if cs.all flatV = true then some (PV.agg cs) else none) = none; rw [if_neg hc]
   rw [this] at h; exact absurd h (by simp)
 | tup cs =>
  by_cases hc : cs.all flatA = true
  ·cases hr with
   | tup _ f h2 => exact .tup cs f (fun j hj => flatA_rep (List.all_eq_true.1 hc _ (List.getElem_mem hj)) (h2 j hj))
  ·have : flatO (.tup cs) = none := by show (if cs.all flatA = true then some (PV.tup cs) else none) = none; rw [if_neg hc]
   rw [this] at h; exact absurd h (by simp)
 | _ => exact absurd h (by simp [flatO])

def qop (P : Program) (gl : List (Nat × Obj)) (st : St) (g : Option Bool) (o : Oper) (K : FV → Prop) : Prop :=
 match o.op with
 | .pick c a b => match st.ev c with
  | .pv (.val (.bool t)) => match pickV t (strip (st.ev a)) (strip (st.ev b)) with
   | some x => imp g (t = true → condOk none (st.ev a)) ∧ imp g (t = false → condOk none (st.ev b)) ∧ K x
   | none => False
  | .iff c (.pv (.val (.bool t))) => match pickV t (strip (st.ev a)) (strip (st.ev b)) with
   | some x => imp g (c = true) ∧ imp g (t = true → condOk none (st.ev a)) ∧ imp g (t = false → condOk none (st.ev b)) ∧ K x
   | none => False
  | _ => False
 | .call { callee := .value f, args, .. } => condsOk g st (f :: args.toList) ∧
  match asFn (strip (st.ev f)) with
  | some (fid, caps) => match snapL [] [] ((args.toList.map fun x => strip (st.ev x)) ++ caps) with
   | some as => ∃ r, imp g (FS P gl fid as (fun r' => r' = r)) ∧ K (.pv r)
   | none => match snapL st.own (idsL st.own ((args.toList.map fun x => strip (st.ev x)) ++ caps)) ((args.toList.map fun x => strip (st.ev x)) ++ caps) with
    | some as => ∃ r, imp g (FS P gl fid as (fun r' => r' = r)) ∧ (∃ x, flatO r = some x) ∧ K (.pv r)
    | none => False
  | none => False
 | .buildSlice t n parts => condsOk g st (parts.toList.map (·.2)) ∧
  match elemT P t, snapL [] [] (parts.toList.map fun x => strip (st.ev x.2)) with
  | some e, some els => if inOrder 0 parts.toList && n == parts.size && n * P.cellsOf e < 65536 && hasZero P e then (∀ p ∈ els, okEl (P.cellsOf e) p) ∧ K (.xl els) else False
  | _, _ => False
 | .makeSlice t l c => condsOk g st [l, c] ∧ match elemT P t with
  | some e => match zeroP P e, strip (st.ev l), strip (st.ev c) with
   | some z, .pv (.val (.int _ n)), .pv (.val (.int _ n')) =>
    if P.bytesOf e ≤ 1000 ∧ z.cells.length = P.cellsOf e then
     imp g (0 ≤ n ∧ n' = n ∧ n ≤ 1000000000) ∧ K (.xl (List.replicate n.toNat z))
    else False
   | _, _, _ => False
  | none => False
 | .call { callee := .builtin .append, args, argTypes } => match two args.toList, two argTypes.toList with
  | some (s, x), some (t, t') => condsOk g st [s, x] ∧ match elemT P t with
   | some e => match st.ev s, srcEls st.own (strip (st.ev x)) with
    | .xl els, some new => if t' = t ∧ P.bytesOf e ≤ 1000 ∧ hasZero P e = true then
      imp g ((∀ p ∈ els, okEl (P.cellsOf e) p) ∧ (∀ p ∈ new, okEl (P.cellsOf e) p) ∧ els.length + new.length ≤ 1000000000) ∧ K (.pv (.lst (els ++ new)))
     else False
    | _, _ => False
   | none => False
  | _, _ => False
 | op => condsOk g st op.operands.toList ∧ popK g K (pop P st.own (fun x => strip (st.ev x)) op)

end Go.Pe

/- The operations that only look are met by the machine. -/
namespace Go.Pe
open Go Go.RowKit

theorem cellsOf_info {P : Program} {t : TypeId} (h : P.cellsOf t ≠ 0) : ∃ i, P.info? t = some i ∧ i.size = P.cellsOf t := by
 unfold Program.cellsOf at *
 cases hi : P.info? t with
 | none => simp [hi] at h
 | some i => exact ⟨i, rfl, by simp⟩

theorem info_of_underlying {P : Program} {t : TypeId} {d : TypeDesc} (h : P.underlying t = some d) : ∃ i, P.info? t = some i ∧ i.size = P.cellsOf t := by
 unfold Program.underlying at h
 unfold Program.cellsOf
 cases hi : P.info? t with
 | none => simp [hi] at h
 | some i => exact ⟨i, rfl, by simp⟩

theorem run_isAgg {P : Program} {t : TypeId} (h : (P.underlying t).isSome = true) (w : World) : (isAgg t).run P w = .ok (isAggT P t) w := by
 obtain ⟨d, hd⟩ := Option.isSome_iff_exists.1 h
 unfold isAggT
 simp only [isAgg, Sem.run_bind, run_underlying hd, Result.andThen_ok, hd]
 cases d <;> rfl

theorem scal_spec {P : Program} {t : TypeId} (h : scal P t = true) : (P.underlying t).isSome = true ∧ (isAggT P t = false → P.cellsOf t = 1) := by
 unfold scal at h
 cases ha : isAggT P t with
 | true =>
  unfold isAggT at ha
  cases hu : P.underlying t with
  | none => simp [hu] at ha
  | some d => exact ⟨rfl, by simp⟩
 | false => simp [ha] at h; exact ⟨h.2, fun _ => h.1⟩

theorem run_sizeOf {P : Program} {t : TypeId} {i : TypeInfo} (h : P.info? t = some i) (w : World) : (sizeOf t).run P w = .ok i.size w := by
 simp [sizeOf, typeInfo, h]

theorem addr_add (b o n : Nat) : (⟨b, o, none⟩ : Addr).add n = ⟨b, o + n, none⟩ := by
 unfold Addr.add; split <;> simp_all

theorem run_loadVar {P : Program} {t : TypeId} {w : World} {b o : Nat} {f : Nat → Value} (hs : scal P t = true)
  (hc : ∀ j, j < P.cellsOf t → w.cell? ⟨b, o + j, none⟩ = some (f j)) :
  (loadVar t ⟨b, o, none⟩).run P w = .ok (if isAggT P t then .agg (vrange (P.cellsOf t) f).toArray else f 0) w := by
 obtain ⟨hu, h1⟩ := scal_spec hs
 obtain ⟨d, hd⟩ := Option.isSome_iff_exists.1 hu
 obtain ⟨i, hi, hsz⟩ := info_of_underlying hd
 cases ha : isAggT P t with
 | true =>
  have hl := run_loadCells (P := P) w ⟨b, o, none⟩ (P.cellsOf t) f (fun j hj => by rw [addr_add]; exact hc j hj)
  simp only [loadVar, Sem.run_bind, run_isAgg hu, Result.andThen_ok, ha, if_true, run_sizeOf hi, hsz, hl, Sem.run_pure, vrange]
 | false =>
  have h0 := hc 0 (by rw [h1 ha]; omega)
  simp only [Nat.add_zero] at h0
  simp only [loadVar, Sem.run_bind, run_isAgg hu, Result.andThen_ok, ha, Bool.false_eq_true, if_false, run_load, h0]

theorem vrange_get {n : Nat} {f : Nat → Value} {j : Nat} : (vrange n f)[j]? = if j < n then some (f j) else none := by
 simp only [vrange, List.getElem?_map]
 split
 ·rename_i h; rw [List.getElem?_range h]; rfl
 ·rename_i h; rw [List.getElem?_eq_none (by simpa using h)]; rfl

theorem part_rep {w : World} {S : Nat → Prop} {cs : List PV} {f : Nat → Value} {ag : Bool} {off n : Nat} (h1 : ∀ j, (f j).oneCell' = true)
  (hr : ∀ j (hj : j < cs.length), Rep w S (f j) cs[j]) (hn : off + n ≤ cs.length) (hsc : ag = false → n = 1) :
  Rep w S (if ag then .agg (vrange n fun j => f (off + j)).toArray else f (off + 0)) (partP ag off n cs) := by
 unfold partP
 cases ag with
 | true =>
  have hl : ((cs.drop off).take n).length = n := by simp; omega
  have := Rep.agg (w := w) (S := S) ((cs.drop off).take n) (fun j => f (off + j)) (fun j => h1 _) (fun j hj => by
   have hj' : j < n := by rw [hl] at hj; exact hj
   have := hr (off + j) (by omega)
   simpa [List.getElem_take, List.getElem_drop] using this)
  rw [hl] at this
  simpa using this
 | false =>
  have := hsc rfl
  subst this
  have h0 : off < cs.length := by omega
  simp only [Bool.false_eq_true, if_false, Nat.add_zero]
  have := hr off h0
  simpa [List.getD, List.getElem?_eq_getElem h0] using this

theorem partF_rep {w : World} {S : Nat → Prop} {m : Nat → Option MV} {cs : List FV} {f : Nat → Value} {ag : Bool} {off n : Nat} (h1 : ∀ j, (f j).oneCell' = true)
  (hr : ∀ j (hj : j < cs.length), RepF w S m (f j) cs[j]) (hn : off + n ≤ cs.length) (hsc : ag = false → n = 1) :
  RepF w S m (if ag then .agg (vrange n fun j => f (off + j)).toArray else f (off + 0)) (partF ag off n cs) := by
 unfold partF
 cases ag with
 | true =>
  have hl : ((cs.drop off).take n).length = n := by simp; omega
  have := RepF.agg (w := w) (S := S) (m := m) ((cs.drop off).take n) (fun j => f (off + j)) (fun j => h1 _) (fun j hj => by
   have hj' : j < n := by rw [hl] at hj; exact hj
   have := hr (off + j) (by omega)
   simpa [List.getElem_take, List.getElem_drop] using this)
  rw [hl] at this
  simpa using this
 | false =>
  have := hsc rfl
  subst this
  have h0 : off < cs.length := by omega
  simp only [Bool.false_eq_true, if_false, Nat.add_zero]
  have := hr off h0
  simpa [List.getD, List.getElem?_eq_getElem h0] using this

theorem run_fieldAt {P : Program} {s : TypeId} {f o : Nat} (h : fieldT P s f = some o) (b a : Nat) (w : World) :
  (Instr.fieldAt s (.pointer (some ⟨b, a, none⟩)) f).run P w = .ok (.pointer (some ⟨b, a + o, none⟩)) w := by
 unfold fieldT at h
 cases hu : P.underlying s with
 | none => simp [hu] at h
 | some d =>
  cases d <;> simp only [hu] at h <;> try (cases h; done)
  rename_i fs
  cases hf : fs[f]? with
  | none => simp [hf] at h
  | some fd =>
   simp only [hf] at h
   split at h
   ·cases h
   ·rename_i hne
    simp only [Option.some.injEq] at h
    subst h
    obtain ⟨i, hi, hsz⟩ := cellsOf_info hne
    have hne' : i.size ≠ 0 := by rw [hsz]; exact hne
    simp [Instr.fieldAt, run_underlying hu, hf, Instr.sureAddr, fieldPlace, run_sizeOf hi, hne', addr_add]

theorem elemT_spec {P : Program} {t e : TypeId} (h : elemT P t = some e) : P.underlying t = some (.slice e) ∧ P.cellsOf e ≠ 0 := by
 unfold elemT at h
 cases hu : P.underlying t with
 | none => simp [hu] at h
 | some d =>
  cases d <;> simp only [hu] at h <;> try (cases h; done)
  split at h
  ·cases h
  ·rename_i hne; simp only [Option.some.injEq] at h; subst h; exact ⟨rfl, hne⟩

theorem run_indexAt {P : Program} {t e : TypeId} (h : elemT P t = some e) {i : TypeInfo} (hi : P.info? e = some i) (b o n c : Nat) (k : IntKind) (x : Int) (h0 : 0 ≤ x) (hn : x < n) (w : World) :
  (Instr.indexAt t (.slice (some ⟨b, o, none⟩) n c) (.int k x)).run P w = .ok (.pointer (some ⟨b, o + x.toNat * i.size, none⟩)) w := by
 unfold elemT at h
 cases hu : P.underlying t with
 | none => simp [hu] at h
 | some d =>
  cases d <;> simp only [hu] at h <;> try (cases h; done)
  rename_i e'
  split at h
  ·cases h
  simp only [Option.some.injEq] at h
  subst h
  simp [Instr.indexAt, asIntOf, run_underlying hu, h0, hn, run_sizeOf hi, addr_add]

end Go.Pe

/- 'pop' is met by the machine. -/
namespace Go.Pe
open Go Go.RowKit

section
variable {P : Program} {own : List Blk} {w : World} {S : Nat → Prop} {m : Nat → Option MV}

theorem RepF.pvInv {v : Value} {p : PV} (h : RepF w S m v (.pv p)) : Rep w S v p := by cases h; assumption
theorem RepF.valInv {v u : Value} (h : RepF w S m v (.pv (.val u))) : v = u := by cases h; rename_i h; cases h; rfl

theorem tblk_spec {i b : Nat} (h : tblk m i = some b) : ∃ v, m i = some v ∧ blk v.1 = some b := by
 unfold tblk at h
 cases hi : m i with
 | none => simp [hi] at h
 | some v => exact ⟨v, rfl, by simpa [hi] using h⟩

theorem row_cells {e : TypeId} {s : Nat} {els : List PV} {v : Value} {b : Nat} (h : RowOk w S v e s els) (hb : blk v = some b) :
  ∃ f : Nat → Nat → Value, (∀ k j, k < els.length → j < s → w.cell? ⟨b, k * s + j, none⟩ = some (f k j)) ∧ 0 < s ∧
   (∀ k (hk : k < els.length), (els[k]).cells.length = s) ∧ (∀ k j, (f k j).oneCell' = true) ∧
   (∀ k (hk : k < els.length) j (hj : j < (els[k]).cells.length), Rep w S (f k j) ((els[k]).cells[j])) := by
 obtain ⟨xs, f, hown, hs, hx, h1, h2, h3⟩ := h
 refine ⟨f, fun k j hk hj => ?_, hs, h1, h2, h3⟩
 have hg : v.ownBlock = some b := by
  rcases hown.2 with ⟨rfl, _⟩ | ⟨g, cap, cur, rfl, _⟩
  ·simp [blk] at hb
  ·simpa [blk, Value.ownBlock] using hb
 have := hown.cells hg (k * s + j) _ (hx k j hk hj)
 rw [addr_add] at this
 simpa using this

theorem row_shape {e : TypeId} {s : Nat} {els : List PV} {v : Value} (h : RowOk w S v e s els) :
  (v = .slice none 0 0 ∧ els = []) ∨ ∃ g cap, v = .slice (some ⟨g, 0, none⟩) els.length cap := by
 obtain ⟨xs, f, hown, _⟩ := h
 rcases hown.2 with ⟨rfl, h0⟩ | ⟨g, cap, cur, rfl, _⟩
 ·exact .inl ⟨rfl, List.eq_nil_of_length_eq_zero h0⟩
 ·exact .inr ⟨g, cap, rfl⟩

theorem row_rep {w : World} {S S' : Nat → Prop} {v : Value} {e : TypeId} {s : Nat} {els : List PV} (h : RowOk w S v e s els) (hS : ∀ b, S b → S' b) (hb : ∀ b, blk v = some b → S' b) : Rep w S' v (.lst els) := by
 rcases row_shape h with ⟨h1, rfl⟩ | ⟨g, cap, h1⟩
 ·rw [h1]; exact .nil _ _
 ·obtain ⟨f, hc, hs, h2, h3, h4⟩ := row_cells h (b := g) (by rw [h1]; rfl)
  have hcap : els.length ≤ cap := by
   obtain ⟨xs, f', hown', _⟩ := h
   rcases hown'.2 with ⟨h5, _⟩ | ⟨g', cap', cur, h5, _, _, h6, _⟩
   ·rw [h1] at h5; cases h5
   ·rw [h1] at h5; cases h5; exact h6
  rw [h1]
  exact .lst g 0 cap s els f (hb g (by rw [h1]; rfl)) hcap h2 (fun k j hk hj => by rw [Nat.zero_add]; exact hc k j hk hj) h3 (fun k hk j hj => (h4 k hk j hj).mono (fun _ _ => rfl) hS)

theorem leaf_rep {w : World} {S' : Nat → Prop} {et : TypeId} {u g : Value} {p : PV} (h : Leaf w et u g p) (hb : ∀ b, blk g = some b → S' b) : Rep w S' u p := by
 rcases h with ⟨_, h⟩ | ⟨l, rfl, rfl, h⟩
 ·exact h.mono (fun _ h => h.elim) (fun _ h => h.elim)
 ·exact row_rep h (fun _ h => h.elim) hb

theorem tree_row {w : World} {S' : Nat → Prop} {v : MV} {e : TypeId} {s : Nat} {et : TypeId} {els : List PV} (h : TreeOk w v e s et els) (hb : ∀ b, hasB v b → S' b) : RowOk w S' v.1 e s els := by
 obtain ⟨xs, f, h1, h2, h3, h4, h5, h6, h7, _, _⟩ := h
 refine ⟨xs, f, h1, h2, h3, h4, h5, fun k hk j hj => ?_⟩
 obtain ⟨g, hg, hl⟩ := h7 k hk j hj
 exact leaf_rep hl (fun b h => hb b (.inr ⟨g, List.mem_of_getElem? hg, h⟩))

theorem box_cells {cs : List FV} {v : MV} {b : Nat} (h : OwnOk w S m v (.box cs)) (hb : blk v.1 = some b) :
  ∃ f : Nat → Value, (∀ j, j < cs.length → w.cell? ⟨b, j, none⟩ = some (f j)) ∧ (∀ j, (f j).oneCell' = true) ∧ (∀ j (hj : j < cs.length), RepF w S m (f j) cs[j]) := by
 obtain ⟨_, b', T, f, hv, hh, h1, h2⟩ := h
 rw [hv] at hb
 simp [blk] at hb
 subst hb
 refine ⟨f, fun j hj => ?_, h1, h2⟩
 rw [cell_of_row w b' j _ T (0, 0) hh]
 simp [hj]

theorem pop_load {ev : Operand → FV} {t : TypeId} {x : Operand} {ob : Prop} {fv : FV} {a : Act} {o : Oper} (ho : o.op = .load t x)
  (hown : ∀ i b v, own[i]? = some b → b.live = true → m i = some v → OwnOk w S m v b) (hx : RepF w S m (a.eval x) (ev x))
  (h : pop P own ev (.load t x) = some (ob, fv)) (hob : ob) : ∃ v, (execOp a.eval o).run P w = .ok (.value v) w ∧ RepF w S m v fv := by
 have fin : ∀ (b q : Nat) (f : Nat → Value), a.eval x = .pointer (some ⟨b, q, none⟩) → scal P t = true → (∀ j, j < P.cellsOf t → w.cell? ⟨b, q + j, none⟩ = some (f j)) →
   (execOp a.eval o).run P w = .ok (.value (if isAggT P t then .agg (vrange (P.cellsOf t) f).toArray else f 0)) w := by
  intro b q f he hs hc
  simp [execOp, ho, Instr.loadAt, he, Instr.sureAddr, run_loadVar hs hc]
 simp only [pop] at h
 cases hxe : ev x <;> simp only [hxe] at h hx <;> try (cases h; done)
 case pv p =>
  have hp := hx.pvInv
  cases p <;> simp only at h <;> try (cases h; done)
  case ptr cs off =>
   simp only [Option.some.injEq, Prod.mk.injEq] at h
   obtain ⟨rfl, rfl⟩ := h
   obtain ⟨hn, hs⟩ := hob
   generalize hav : a.eval x = av at hp
   cases hp with | ptr b o' _ _ f hS hc h1 hr =>
   refine ⟨_, fin b (o' + off) (fun j => f (off + j)) hav hs (fun j hj => ?_), .pv _ _ (part_rep h1 hr hn (scal_spec hs).2)⟩
   rw [Nat.add_assoc]; exact hc (off + j) (by omega)
  case elt els k off =>
   simp only [Option.some.injEq, Prod.mk.injEq] at h
   obtain ⟨rfl, rfl⟩ := h
   obtain ⟨hk, hn, hs, hpx⟩ := hob
   rw [← hpx]
   have hd : els.getD k (.val (.bool false)) = els[k] := by simp [List.getD, List.getElem?_eq_getElem hk]
   rw [hd] at hn ⊢
   generalize hav : a.eval x = av at hp
   cases hp with | elt b o' s _ _ _ f hS h2 hc h1 hr =>
   refine ⟨_, fin b (o' + k * s + off) (fun j => f k (off + j)) hav hs (fun j hj => ?_), .pv _ _ (part_rep (h1 k) (fun j hj => hr k hk j hj) hn (scal_spec hs).2)⟩
   have := h2 k hk
   rw [Nat.add_assoc]; exact hc k (off + j) hk (by omega)
 case box i off =>
  cases hi : own[i]? with
  | none => simp [hi] at h
  | some bl =>
   simp only [hi] at h
   cases bl <;> simp only at h <;> try (cases h; done)
   rename_i cs
   simp only [Option.some.injEq, Prod.mk.injEq] at h
   obtain ⟨rfl, rfl⟩ := h
   obtain ⟨hn, hs⟩ := hob
   generalize hav : a.eval x = av at hx
   cases hx
   rename_i b hb
   obtain ⟨vi, hvi, hb⟩ := tblk_spec hb
   obtain ⟨f, hc, h1, hr⟩ := box_cells (hown i _ _ hi rfl hvi) hb
   exact ⟨_, fin b off (fun j => f (off + j)) hav hs (fun j hj => hc (off + j) (by omega)), partF_rep h1 hr hn (scal_spec hs).2⟩
 case relt i s k off =>
  cases hi : own[i]? with
  | none => simp [hi] at h
  | some bl =>
   simp only [hi] at h
   cases bl <;> simp only at h <;> try (cases h; done)
   rename_i e s' els
   split at h
   ·rename_i hse
    subst hse
    simp only [Option.some.injEq, Prod.mk.injEq] at h
    obtain ⟨rfl, rfl⟩ := h
    obtain ⟨hk, hn, hs, hpx⟩ := hob
    rw [← hpx]
    have hd : els.getD k (.val (.bool false)) = els[k] := by simp [List.getD, List.getElem?_eq_getElem hk]
    rw [hd]
    generalize hav : a.eval x = av at hx
    cases hx
    rename_i b hb
    obtain ⟨vi, hvi, hb⟩ := tblk_spec hb
    obtain ⟨f, hc, _, h2, h1, hr⟩ := row_cells (hown i _ _ hi rfl hvi).2 hb
    have := h2 k hk
    refine ⟨_, fin b (k * s' + off) (fun j => f k (off + j)) hav hs (fun j hj => ?_), .pv _ _ (part_rep (h1 k) (fun j hj => hr k hk j hj) (by omega) (scal_spec hs).2)⟩
    rw [Nat.add_assoc]; exact hc k (off + j) hk (by omega)
   ·cases h

theorem pop_fieldAddr {ev : Operand → FV} {s : TypeId} {x : Operand} {f : Nat} {ob : Prop} {fv : FV} {a : Act} {o : Oper} (ho : o.op = .fieldAddr s x f)
  (hx : RepF w S m (a.eval x) (ev x))
  (h : pop P own ev (.fieldAddr s x f) = some (ob, fv)) : ∃ v, (execOp a.eval o).run P w = .ok (.value v) w ∧ RepF w S m v fv := by
 simp only [pop] at h
 cases hf : fieldT P s f with
 | none => simp [hf] at h
 | some off =>
  have fin : ∀ (b q : Nat), a.eval x = .pointer (some ⟨b, q, none⟩) → (execOp a.eval o).run P w = .ok (.value (.pointer (some ⟨b, q + off, none⟩))) w := by
   intro b q he
   simp [execOp, ho, he, run_fieldAt hf]
  simp only [hf] at h
  cases hxe : ev x <;> simp only [hxe] at h hx <;> try (cases h; done)
  case pv p =>
   have hp := hx.pvInv
   cases p <;> simp only at h <;> try (cases h; done)
   case ptr cs q =>
    simp only [Option.some.injEq, Prod.mk.injEq] at h
    obtain ⟨rfl, rfl⟩ := h
    generalize hav : a.eval x = av at hp
    cases hp with | ptr b o' _ _ g hS hc h1 hr =>
    exact ⟨_, fin _ _ hav, .pv _ _ (by rw [Nat.add_assoc]; exact .ptr b o' (q + off) cs g hS hc h1 hr)⟩
   case elt els k q =>
    simp only [Option.some.injEq, Prod.mk.injEq] at h
    obtain ⟨rfl, rfl⟩ := h
    generalize hav : a.eval x = av at hp
    cases hp with | elt b o' s _ _ _ f hS h2 hc h1 hr =>
    exact ⟨_, fin _ _ hav, .pv _ _ (by rw [Nat.add_assoc]; exact .elt b o' s k (q + off) els f hS h2 hc h1 hr)⟩
  case box i q =>
   simp only [Option.some.injEq, Prod.mk.injEq] at h
   obtain ⟨rfl, rfl⟩ := h
   generalize hav : a.eval x = av at hx
   cases hx
   rename_i b hb
   exact ⟨_, fin _ _ hav, .box i _ b hb⟩
  case relt i s k q =>
   simp only [Option.some.injEq, Prod.mk.injEq] at h
   obtain ⟨rfl, rfl⟩ := h
   generalize hav : a.eval x = av at hx
   cases hx
   rename_i b hb
   exact ⟨_, fin _ _ hav, by rw [Nat.add_assoc]; exact .relt i s k _ b hb⟩

theorem pop_indexAddr {ev : Operand → FV} {t : TypeId} {x i : Operand} {ob : Prop} {fv : FV} {a : Act} {o : Oper} (ho : o.op = .indexAddr t x i)
  (hown : ∀ i b v, own[i]? = some b → b.live = true → m i = some v → OwnOk w S m v b) (hx : RepF w S m (a.eval x) (ev x)) (hi : RepF w S m (a.eval i) (ev i))
  (h : pop P own ev (.indexAddr t x i) = some (ob, fv)) (hob : ob) : ∃ v, (execOp a.eval o).run P w = .ok (.value v) w ∧ RepF w S m v fv := by
 simp only [pop] at h
 cases he : elemT P t with
 | none => simp [he] at h
 | some e =>
  simp only [he] at h
  cases hie : ev i <;> simp only [hie] at h hi <;> try (cases h; done)
  rename_i p
  cases p <;> (try simp only at h) <;> try (cases h; done)
  rename_i pv
  cases pv <;> simp only at h <;> try (cases h; done)
  rename_i kk n
  have hiv := hi.valInv
  have fin : ∀ (b q len c : Nat) (hs : P.cellsOf e ≠ 0), a.eval x = .slice (some ⟨b, q, none⟩) len c → 0 ≤ n → n < len → (execOp a.eval o).run P w = .ok (.value (.pointer (some ⟨b, q + n.toNat * P.cellsOf e, none⟩))) w := by
   intro b q len c hs hav h0 hl
   obtain ⟨ti, hti, hsz⟩ := cellsOf_info hs
   simp [execOp, ho, hav, hiv, run_indexAt he hti b q len c kk n h0 hl, hsz]
  cases hxe : ev x <;> simp only [hxe] at h hx <;> try (cases h; done)
  case pv p =>
   have hp := hx.pvInv
   cases p <;> simp only at h <;> try (cases h; done)
   rename_i els
   simp only [Option.some.injEq, Prod.mk.injEq] at h
   obtain ⟨rfl, rfl⟩ := h
   obtain ⟨h0, hl, hc⟩ := hob
   have hk : n.toNat < els.length := by omega
   have hd : els.getD n.toNat (.val (.bool false)) = els[n.toNat] := by simp [List.getD, List.getElem?_eq_getElem hk]
   rw [hd] at hc
   generalize hav : a.eval x = av at hp
   cases hp with
   | nil a' c' => exact absurd hk (by simp)
   | lst b q c s _ f hS hle h2 hcell h1 hr =>
    have hs := h2 n.toNat hk
    rw [hs] at hc
    have h00 := (elemT_spec he).2
    refine ⟨_, fin b q _ c h00 hav h0 hl, .pv _ _ ?_⟩
    have := Rep.elt (w := w) (S := S) b q s n.toNat 0 els f hS h2 hcell h1 hr
    rw [← hc]; simpa using this
  case own j =>
   cases hj : own[j]? with
   | none => simp [hj] at h
   | some bl =>
    simp only [hj] at h
    have two : ∀ (e' s : Nat) (els : List PV), (∀ v : MV, m j = some v → ∃ S', RowOk w S' v.1 e' s els) →
      (if s = P.cellsOf e then some (0 ≤ n ∧ n < els.length, FV.relt j s n.toNat 0) else none) = some (ob, fv) → ∃ v, (execOp a.eval o).run P w = .ok (.value v) w ∧ RepF w S m v fv := by
     intro e' s els hrow h
     split at h
     ·rename_i hse
      subst hse
      simp only [Option.some.injEq, Prod.mk.injEq] at h
      obtain ⟨rfl, rfl⟩ := h
      obtain ⟨h0, hl⟩ := hob
      generalize hav : a.eval x = av at hx
      cases hx with | own _ _ hvi =>
      obtain ⟨S', hok⟩ := hrow _ hvi
      rcases row_shape hok with ⟨_, rfl⟩ | ⟨g, cap, hm⟩
      ·simp at hl; omega
      ·obtain ⟨_, _, hs, _⟩ := row_cells hok (b := g) (by rw [hm]; rfl)
       refine ⟨_, fin g 0 _ cap (by omega) (hav.trans hm) h0 hl, ?_⟩
       have := RepF.relt (w := w) (S := S) (m := m) j (P.cellsOf e) n.toNat 0 g (by unfold tblk; rw [hvi]; show blk _ = _; rw [hm]; rfl)
       simpa using this
     ·cases h
    cases bl <;> simp only at h <;> try (cases h; done)
    ·exact two _ _ _ (fun v hv => ⟨_, (hown j _ _ hj rfl hv).2⟩) h
    ·exact two _ _ _ (fun v hv => ⟨fun _ => True, tree_row (hown j _ _ hj rfl hv) (fun _ _ => trivial)⟩) h

end
end Go.Pe

/- 'pop' is met by the machine: numbers, structs, builtins. -/
namespace Go.Pe
open Go Go.RowKit

section
variable {P : Program} {own : List Blk} {w : World} {S : Nat → Prop} {m : Nat → Option MV}

theorem repVal {v : Value} (h : free v = true) : RepF w S m v (.pv (.val v)) := .pv _ _ (.val v h)

theorem run_eqGuard_int (P : Program) (op : BinOp) (t : TypeId) (x y : Operand) (k k' : IntKind) (a b : Int) (w : World) :
  (eqGuard op t x y (.int k a) (.int k' b)).run P w = .ok () w := by
 unfold eqGuard
 cases op <;> rfl

theorem run_eqGuard_bool (P : Program) (op : BinOp) (t : TypeId) (x y : Operand) (a b : Bool) (w : World) :
  (eqGuard op t x y (.bool a) (.bool b)).run P w = .ok () w := by
 unfold eqGuard
 cases op <;> rfl

theorem run_equal_bool {t : TypeId} (hu : P.underlying t = some .bool) (a b : Bool) : (Op.equal t (.bool a) (.bool b)).run P w = .ok (a == b) w := by
 show (Op.equalIn (9999 + 1) t (.bool a) (.bool b)).run P w = _
 rw [Op.equalIn]
 simp only [Sem.run_bind, run_underlying hu, Result.andThen_ok, Sem.run_pure]

theorem run_binOp_eql {t : TypeId} (hu : P.underlying t = some .bool) (a b : Bool) : (binOp .eql t (.bool a) (.bool b)).run P w = .ok (.bool (a == b)) w := by
 show (do pure (Value.bool (← Op.equal t (.bool a) (.bool b)))  : Sem Value).run P w = _
 simp only [Sem.run_bind, run_equal_bool hu, Result.andThen_ok, Sem.run_pure]

theorem run_binOp_neq {t : TypeId} (hu : P.underlying t = some .bool) (a b : Bool) : (binOp .neq t (.bool a) (.bool b)).run P w = .ok (.bool (!(a == b))) w := by
 show (do pure (Value.bool (!(← Op.equal t (.bool a) (.bool b))))  : Sem Value).run P w = _
 simp only [Sem.run_bind, run_equal_bool hu, Result.andThen_ok, Sem.run_pure]

theorem pop_binOp {ev : Operand → FV} {op : BinOp} {t t' : TypeId} {x y : Operand} {ob : Prop} {fv : FV} {a : Act} {o : Oper} (ho : o.op = .binOp op t x y t')
  (hx : RepF w S m (a.eval x) (ev x)) (hy : RepF w S m (a.eval y) (ev y))
  (h : pop P own ev (.binOp op t x y t') = some (ob, fv)) (hob : ob) : ∃ v, (execOp a.eval o).run P w = .ok (.value v) w ∧ RepF w S m v fv := by
 simp only [pop, binV] at h
 split at h
 ·rename_i k n k' n' hex hey
  rw [hex] at hx; rw [hey] at hy
  have h1 := hx.valInv; have h2 := hy.valInv
  have hg := run_eqGuard_int P op t x y k k' n n' w
  have fin : ∀ v, (binOp op t (.int k n) (.int k' n')).run P w = .ok v w → (execOp a.eval o).run P w = .ok (.value v) w := by
   intro v hv
   simp [execOp, ho, h1, h2, hg, hv]
  split at h
  ·simp only [Option.some.injEq, Prod.mk.injEq] at h
   obtain ⟨rfl, rfl⟩ := h
   exact ⟨_, fin _ (by simp [binOp, Op.shift, Int.not_lt.2 hob]), repVal rfl⟩
  ·simp only [Option.some.injEq, Prod.mk.injEq] at h
   obtain ⟨rfl, rfl⟩ := h
   exact ⟨_, fin _ (by simp [binOp, Op.shift, Int.not_lt.2 hob]), repVal rfl⟩
  ·rename_i hns1 hns2
   split at h
   ·cases h
   rename_i hk
   have hk : k = k' := Classical.byContradiction hk
   subst hk
   cases op <;> simp only [cmpV, bitV] at h <;> try (cases h; done)
   all_goals first
    | (exact absurd rfl hns1)
    | (exact absurd rfl hns2)
    | (simp only [Option.some.injEq, Prod.mk.injEq] at h
       obtain ⟨rfl, rfl⟩ := h
       refine ⟨_, fin _ ?_, repVal rfl⟩
       simp [binOp, Op.intArith, Op.intDiv, Op.intBits, Op.intCmp, hob])
 ·rename_i b b' hex hey
  rw [hex] at hx; rw [hey] at hy
  have h1 := hx.valInv; have h2 := hy.valInv
  have hg := run_eqGuard_bool P op t x y b b' w
  have fin : ∀ v, (binOp op t (.bool b) (.bool b')).run P w = .ok v w → (execOp a.eval o).run P w = .ok (.value v) w := by
   intro v hv
   simp [execOp, ho, h1, h2, hg, hv]
  split at h
  ·rename_i hb
   have hu : P.underlying t = some .bool := by
    unfold isBoolT at hb
    split at hb
    ·assumption
    ·cases hb
   cases op <;> simp only at h <;> try (cases h; done)
   all_goals
    simp only [Option.some.injEq, Prod.mk.injEq] at h
    obtain ⟨rfl, rfl⟩ := h
    first
     | exact ⟨_, fin _ (run_binOp_eql hu _ _), repVal rfl⟩
     | exact ⟨_, fin _ (run_binOp_neq hu _ _), repVal rfl⟩
  ·cases h
 ·cases h

theorem pop_unOp {ev : Operand → FV} {op : UnOp} {t : TypeId} {x : Operand} {ob : Prop} {fv : FV} {a : Act} {o : Oper} (ho : o.op = .unOp op t x)
  (hx : RepF w S m (a.eval x) (ev x))
  (h : pop P own ev (.unOp op t x) = some (ob, fv)) : ∃ v, (execOp a.eval o).run P w = .ok (.value v) w ∧ RepF w S m v fv := by
 cases op <;> simp only [pop] at h <;> try (cases h; done)
 case not =>
  split at h
  ·rename_i b hb
   rw [hb] at hx
   have h1 := hx.valInv
   simp only [Option.some.injEq, Prod.mk.injEq] at h
   obtain ⟨rfl, rfl⟩ := h
   exact ⟨.bool (!b), by simp [execOp, ho, h1, Op.unary], repVal rfl⟩
  ·cases h
 case neg =>
  split at h
  ·rename_i k n hb
   rw [hb] at hx
   have h1 := hx.valInv
   simp only [Option.some.injEq, Prod.mk.injEq] at h
   obtain ⟨rfl, rfl⟩ := h
   exact ⟨.int k (k.wrap (0 - n)), by simp [execOp, ho, h1, Op.unary, Op.intArith], repVal rfl⟩
  ·cases h

theorem intT_spec {t : TypeId} {k : IntKind} (h : intT P t = some k) : P.underlying t = some (.int k) := by
 unfold intT at h
 split at h
 ·simp_all
 ·cases h

theorem pop_convert {ev : Operand → FV} {s d : TypeId} {x : Operand} {ob : Prop} {fv : FV} {a : Act} {o : Oper} (ho : o.op = .convert s d x)
  (hx : RepF w S m (a.eval x) (ev x))
  (h : pop P own ev (.convert s d x) = some (ob, fv)) : ∃ v, (execOp a.eval o).run P w = .ok (.value v) w ∧ RepF w S m v fv := by
 simp only [pop] at h
 split at h
 ·rename_i k0 n k1 k2 hb hs hd
  rw [hb] at hx
  have h1 := hx.valInv
  simp only [Option.some.injEq, Prod.mk.injEq] at h
  obtain ⟨rfl, rfl⟩ := h
  exact ⟨.int k2 (k2.wrap n), by simp [execOp, ho, h1, convert, run_underlying (intT_spec hs), run_underlying (intT_spec hd), Conv.intToInt], repVal rfl⟩
 ·cases h

theorem pop_extract {ev : Operand → FV} {x : Operand} {i : Nat} {ob : Prop} {fv : FV} {a : Act} {o : Oper} (ho : o.op = .extract x i)
  (hx : RepF w S m (a.eval x) (ev x))
  (h : pop P own ev (.extract x i) = some (ob, fv)) (hob : ob) : ∃ v, (execOp a.eval o).run P w = .ok (.value v) w ∧ RepF w S m v fv := by
 simp only [pop] at h
 split at h
 ·rename_i vs hb
  rw [hb] at hx
  have hp := hx.pvInv
  simp only [Option.some.injEq, Prod.mk.injEq] at h
  obtain ⟨rfl, rfl⟩ := h
  generalize hav : a.eval x = av at hp
  cases hp with | tup _ f hr =>
  refine ⟨f i, by simp [execOp, ho, hav, Instr.extract, hob], .pv _ _ ?_⟩
  have := hr i hob
  simpa [List.getD, List.getElem?_eq_getElem hob] using this
 ·rename_i vs hb
  rw [hb] at hx
  simp only [Option.some.injEq, Prod.mk.injEq] at h
  obtain ⟨rfl, rfl⟩ := h
  generalize hav : a.eval x = av at hx
  cases hx with | tup _ f hr =>
  refine ⟨f i, by simp [execOp, ho, hav, Instr.extract, hob], ?_⟩
  have := hr i hob
  simpa [List.getD, List.getElem?_eq_getElem hob] using this
 ·cases h

theorem pop_len {ev : Operand → FV} {args : Array Operand} {ts : Array TypeId} {ob : Prop} {fv : FV} {a : Act} {o : Oper} (ho : o.op = .call { callee := .builtin .len, args, argTypes := ts })
  (hown : ∀ i b v, own[i]? = some b → b.live = true → m i = some v → OwnOk w S m v b)
  (hx : ∀ x ∈ args, RepF w S m (a.eval x) (ev x))
  (h : pop P own ev (.call { callee := .builtin .len, args, argTypes := ts }) = some (ob, fv)) : ∃ v, (execOp a.eval o).run P w = .ok (.value v) w ∧ RepF w S m v fv := by
 simp only [pop] at h
 obtain ⟨args⟩ := args
 obtain ⟨ts⟩ := ts
 split at h
 ·rename_i x t hb ht
  simp only at hb ht
  subst hb; subst ht
  split at h
  ·rename_i e n he hl
   simp only [Option.some.injEq, Prod.mk.injEq] at h
   obtain ⟨rfl, rfl⟩ := h
   have hx := hx x (by simp)
   have hu := (elemT_spec he).1
   have fin : ∀ ad c, a.eval x = .slice ad n c → (execOp a.eval o).run P w = .ok (.value (.int .i64 n)) w := by
    intro ad c hav
    simp [execOp, ho, resolve, invoke, builtin, hav, Builtin.len_, run_underlying hu, goInt]
   refine ⟨.int .i64 n, ?_, repVal rfl⟩
   unfold lenV at hl
   split at hl
   ·rename_i els hb
    rw [hb] at hx
    have hp := hx.pvInv
    simp only [Option.some.injEq] at hl
    subst hl
    generalize hav : a.eval x = av at hp
    cases hp <;> exact fin _ _ hav
   ·rename_i hb
    rw [hb] at hx
    simp only [Option.some.injEq] at hl
    subst hl
    exact fin _ _ hx.valInv
   ·rename_i i hb
    rw [hb] at hx
    split at hl
    ·rename_i e' s els hi
     simp only [Option.some.injEq] at hl
     subst hl
     generalize hav : a.eval x = av at hx
     cases hx with | own _ _ hvi =>
     rcases row_shape (hown i _ _ hi rfl hvi).2 with ⟨h1, rfl⟩ | ⟨g, cap, h1⟩
     ·exact fin _ _ (hav.trans h1)
     ·exact fin _ _ (hav.trans h1)
    ·rename_i e' s et els hi
     simp only [Option.some.injEq] at hl
     subst hl
     generalize hav : a.eval x = av at hx
     cases hx with | own _ _ hvi =>
     rcases row_shape (tree_row (S' := fun _ => True) (hown i _ _ hi rfl hvi) (fun _ _ => trivial)) with ⟨h1, rfl⟩ | ⟨g, cap, h1⟩
     ·exact fin _ _ (hav.trans h1)
     ·exact fin _ _ (hav.trans h1)
    ·cases hl
   ·cases hl
  ·cases h
 ·cases h

theorem pop_max {ev : Operand → FV} {args : Array Operand} {ts : Array TypeId} {ob : Prop} {fv : FV} {a : Act} {o : Oper} (ho : o.op = .call { callee := .builtin .max, args, argTypes := ts })
  (hx : ∀ x ∈ args, RepF w S m (a.eval x) (ev x))
  (h : pop P own ev (.call { callee := .builtin .max, args, argTypes := ts }) = some (ob, fv)) : ∃ v, (execOp a.eval o).run P w = .ok (.value v) w ∧ RepF w S m v fv := by
 simp only [pop] at h
 obtain ⟨args⟩ := args
 split at h
 ·rename_i x y hb
  simp only at hb
  subst hb
  split at h
  ·rename_i k n k' n' h1 h2
   have a1 := (h1 ▸ hx x (by simp)).valInv
   have a2 := (h2 ▸ hx y (by simp)).valInv
   simp only [Option.some.injEq, Prod.mk.injEq] at h
   obtain ⟨rfl, rfl⟩ := h
   exact ⟨_, by simp [execOp, ho, resolve, invoke, builtin, a1, a2, Builtin.max_, Builtin.max2], repVal rfl⟩
  ·cases h
 ·cases h

theorem pop_min {ev : Operand → FV} {args : Array Operand} {ts : Array TypeId} {ob : Prop} {fv : FV} {a : Act} {o : Oper} (ho : o.op = .call { callee := .builtin .min, args, argTypes := ts })
  (hx : ∀ x ∈ args, RepF w S m (a.eval x) (ev x))
  (h : pop P own ev (.call { callee := .builtin .min, args, argTypes := ts }) = some (ob, fv)) : ∃ v, (execOp a.eval o).run P w = .ok (.value v) w ∧ RepF w S m v fv := by
 simp only [pop] at h
 obtain ⟨args⟩ := args
 split at h
 ·rename_i x y hb
  simp only at hb
  subst hb
  split at h
  ·rename_i k n k' n' h1 h2
   have a1 := (h1 ▸ hx x (by simp)).valInv
   have a2 := (h2 ▸ hx y (by simp)).valInv
   simp only [Option.some.injEq, Prod.mk.injEq] at h
   obtain ⟨rfl, rfl⟩ := h
   exact ⟨_, by simp [execOp, ho, resolve, invoke, builtin, a1, a2, Builtin.min_, Builtin.min2], repVal rfl⟩
  ·cases h
 ·cases h

theorem mapList_rep {ev : Operand → FV} {a : Act} (l : List Operand) (hx : ∀ x ∈ l, RepF w S m (a.eval x) (ev x)) :
  ∃ f : Nat → Value, l.map a.eval = vrange (l.map ev).length f ∧ ∀ j (hj : j < (l.map ev).length), RepF w S m (f j) (l.map ev)[j] := by
 refine ⟨fun j => a.eval (l.getD j (.const undef)), ?_, fun j hj => ?_⟩
 ·apply List.ext_getElem?
  intro j
  rw [vrange_get]
  simp only [List.length_map, List.getElem?_map]
  split
  ·rename_i hj; simp [List.getD, List.getElem?_eq_getElem hj]
  ·rename_i hj; simp [List.getElem?_eq_none (Nat.le_of_not_lt hj)]
 ·simp only [List.length_map] at hj
  have := hx l[j] (by simp)
  simpa [List.getD, List.getElem?_eq_getElem hj] using this

theorem pop_makeFunc {ev : Operand → FV} {fn : Fn} {first caps : Array Operand} {ob : Prop} {fv : FV} {a : Act} {o : Oper} (ho : o.op = .makeFunc fn first caps)
  (hx : ∀ x ∈ caps, RepF w S m (a.eval x) (ev x))
  (h : pop P own ev (.makeFunc fn first caps) = some (ob, fv)) : ∃ v, (execOp a.eval o).run P w = .ok (.value v) w ∧ RepF w S m v fv := by
 cases fn <;> simp only [pop] at h <;> try (cases h; done)
 rename_i f
 split at h
 ·rename_i h0
  simp only [Option.some.injEq, Prod.mk.injEq] at h
  obtain ⟨rfl, rfl⟩ := h
  obtain ⟨caps⟩ := caps
  obtain ⟨first⟩ := first
  have : first = [] := by simpa using h0
  subst this
  obtain ⟨g, hg, hr⟩ := mapList_rep (a := a) (w := w) (S := S) (m := m) caps (fun x hx' => hx x (by simpa using hx'))
  refine ⟨.func (.func f) #[] (caps.map a.eval).toArray, by simp [execOp, ho, Instr.makeFunc], ?_⟩
  rw [hg]
  exact .fn f (caps.map ev) g hr
 ·cases h

theorem pop_nilCheck {ev : Operand → FV} {x : Operand} {ob : Prop} {fv : FV} {a : Act} {o : Oper} (ho : o.op = .nilCheck x)
  (hx : RepF w S m (a.eval x) (ev x))
  (h : pop P own ev (.nilCheck x) = some (ob, fv)) : ∃ v, (execOp a.eval o).run P w = .ok (.value v) w ∧ RepF w S m v fv := by
 simp only [pop] at h
 split at h
 ·rename_i i off hb
  rw [hb] at hx
  simp only [Option.some.injEq, Prod.mk.injEq] at h
  obtain ⟨rfl, rfl⟩ := h
  generalize hav : a.eval x = av at hx
  cases hx
  rename_i b hb
  exact ⟨_, by simp [execOp, ho, hav], .box i off b hb⟩
 ·rename_i cs off hb
  rw [hb] at hx
  simp only [Option.some.injEq, Prod.mk.injEq] at h
  obtain ⟨rfl, rfl⟩ := h
  have hp := hx.pvInv
  generalize hav : a.eval x = av at hp
  cases hp with | ptr b o' _ _ f hS hc h1 hr =>
  exact ⟨_, by simp [execOp, ho, hav], .pv _ _ (.ptr b o' off cs f hS hc h1 hr)⟩
 ·cases h

end
end Go.Pe

/- 'pop' is met by the machine: struct values, slices of slices. -/
namespace Go.Pe
open Go Go.RowKit

theorem foldl_set (off : Nat) : ∀ (vs : List Value) (k : Nat) (cells : Array Value) (q : Nat),
  ((vs.zipIdx k).foldl (fun cs (p : Value × Nat) => cs.setIfInBounds (off + p.2) p.1) cells)[q]? =
   if off + k ≤ q ∧ q < off + k + vs.length ∧ q < cells.size then vs[q - (off + k)]? else cells[q]?
 | [], k, cells, q => by simp; omega
 | v :: vs, k, cells, q => by
  rw [List.zipIdx_cons, List.foldl_cons, foldl_set off vs (k + 1)]
  simp only [Array.size_setIfInBounds, List.length_cons, Array.getElem?_setIfInBounds]
  by_cases h1 : q = off + k
  ·subst h1
   by_cases h2 : off + k < cells.size
   ·simp [h2]; intro h; omega
   ·simp [h2]
  ·by_cases h2 : off + k ≤ q
   ·by_cases h3 : q < off + k + (vs.length + 1) ∧ q < cells.size
    ·rw [if_pos (by omega), if_pos (by omega)]
     rw [show q - (off + k) = (q - (off + (k + 1))) + 1 by omega]
     simp
    ·rw [if_neg (by omega), if_neg (by omega), if_neg (by omega)]
   ·rw [if_neg (by omega), if_neg (by omega), if_neg (by omega)]

theorem foldl_set_size (off : Nat) : ∀ (vs : List Value) (k : Nat) (cells : Array Value),
  ((vs.zipIdx k).foldl (fun cs (p : Value × Nat) => cs.setIfInBounds (off + p.2) p.1) cells).size = cells.size
 | [], k, cells => rfl
 | v :: vs, k, cells => by rw [List.zipIdx_cons, List.foldl_cons, foldl_set_size off vs (k + 1)]; simp

section
variable {P : Program} {own : List Blk} {w : World} {S : Nat → Prop} {m : Nat → Option MV}

theorem fcells_rep {v : Value} {x : FV} {cs : List FV} (h : RepF w S m v x) (hc : fcells x = some cs) (hm : ∀ i v, m i = some v → v.1.oneCell' = true) :
  ∃ f : Nat → Value, v.cells = (vrange cs.length f).toArray ∧ (∀ j, (f j).oneCell' = true) ∧ ∀ j (hj : j < cs.length), RepF w S m (f j) cs[j] := by
 have single : ∀ {v : Value} {x : FV}, RepF w S m v x → v.oneCell' = true →
   ∃ f : Nat → Value, v.cells = (vrange 1 f).toArray ∧ (∀ j, (f j).oneCell' = true) ∧ ∀ j (hj : j < [x].length), RepF w S m (f j) [x][j] := by
  intro v x h h1
  refine ⟨fun _ => v, ?_, fun _ => h1, fun j hj => by simp at hj; subst hj; exact h⟩
  cases v <;> first | rfl | (simp [Value.oneCell'] at h1)
 cases x with
 | pv p =>
  cases p with
  | agg q =>
   simp only [fcells, Option.some.injEq] at hc
   subst hc
   have hp := h.pvInv
   cases hp with | agg _ f h1 hr =>
   refine ⟨f, by simp [Value.cells], h1, fun j hj => ?_⟩
   simp only [List.length_map] at hj
   simpa using RepF.pv (m := m) _ _ (hr j hj)
  | tup q => simp [fcells] at hc
  | _ =>
   simp only [fcells, Option.some.injEq] at hc
   subst hc
   exact single h (h.pvInv.one rfl)
 | agg q =>
  simp only [fcells, Option.some.injEq] at hc
  subst hc
  cases h with | agg _ f h1 hr =>
  exact ⟨f, rfl, h1, hr⟩
 | tup q => simp [fcells] at hc
 | iff c x => simp [fcells] at hc
 | junk => simp [fcells] at hc
 | sub i s k j => simp [fcells] at hc
 | own i =>
  simp only [fcells, Option.some.injEq] at hc
  subst hc
  exact single h (by cases h with | own _ _ hvi => exact hm i _ hvi)
 | _ =>
  simp only [fcells, Option.some.injEq] at hc
  subst hc
  exact single h (by cases h <;> rfl)

theorem setSeg_get {α : Type} {cs new : List α} {off : Nat} (hn : off + new.length ≤ cs.length) (j : Nat) :
  (setSeg cs off new)[j]? = if off ≤ j ∧ j < off + new.length then new[j - off]? else cs[j]? := by
 unfold setSeg
 rw [List.getElem?_append, List.getElem?_append]
 simp only [List.length_append, List.length_take, List.getElem?_take, List.getElem?_drop]
 rw [Nat.min_eq_left (by omega)]
 by_cases h1 : j < off
 ·rw [if_pos (by omega), if_pos h1, if_pos h1, if_neg (by omega)]
 ·by_cases h2 : j < off + new.length
  ·rw [if_pos h2, if_neg h1, if_pos (by omega)]
  ·rw [if_neg h2, if_neg (by omega)]
   congr 1
   omega

theorem setSeg_rep {cs new : List FV} {off : Nat} {f g : Nat → Value} (hf : ∀ j (hj : j < cs.length), RepF w S m (f j) cs[j])
  (hg : ∀ j (hj : j < new.length), RepF w S m (g j) new[j]) (hn : off + new.length ≤ cs.length) :
  (setSeg cs off new).length = cs.length ∧ ∀ j (hj : j < (setSeg cs off new).length), RepF w S m (if off ≤ j ∧ j < off + new.length then g (j - off) else f j) (setSeg cs off new)[j] := by
 have hl : (setSeg cs off new).length = cs.length := by simp [setSeg]; omega
 refine ⟨hl, fun j hj => ?_⟩
 have hx := List.getElem?_eq_getElem hj
 rw [setSeg_get hn] at hx
 generalize (setSeg cs off new)[j] = x at hx
 rw [hl] at hj
 by_cases h : off ≤ j ∧ j < off + new.length
 ·rw [if_pos h] at hx ⊢
  rw [List.getElem?_eq_getElem (by omega)] at hx
  simp only [Option.some.injEq] at hx
  subst hx
  exact hg _ _
 ·rw [if_neg h] at hx ⊢
  rw [List.getElem?_eq_getElem hj] at hx
  simp only [Option.some.injEq] at hx
  subst hx
  exact hf _ _

theorem places_get {fs : List Field} : ∀ {places : List (Nat × Nat)}, fs.mapM (fun f => (P.info? f.type).map fun i => (f.offset, i.size)) = some places →
  ∀ (i : Nat) (fd : Field), fs[i]? = some fd → places[i]? = some (fd.offset, P.cellsOf fd.type) := by
 induction fs with
 | nil => intro places h i fd hi; simp at hi
 | cons f fs ih =>
  intro places h i fd hi
  simp only [List.mapM_cons, Option.bind_eq_bind, Option.pure_def] at h
  cases hinf : P.info? f.type with
  | none => simp [hinf] at h
  | some inf =>
   cases hr : fs.mapM (fun f => (P.info? f.type).map fun i => (f.offset, i.size)) with
   | none => simp [hinf, hr] at h
   | some rest =>
    simp [hinf, hr] at h
    subst h
    cases i with
    | zero => simp at hi; subst hi; simp [Program.cellsOf, hinf]
    | succ i => simp at hi; simpa using ih hr i fd hi

theorem places_some {fs : List Field} (h : fs.all (fun f => (P.info? f.type).isSome) = true) : ∃ places, fs.mapM (fun f => (P.info? f.type).map fun i => (f.offset, i.size)) = some places := by
 induction fs with
 | nil => exact ⟨[], rfl⟩
 | cons f fs ih =>
  simp only [List.all_cons, Bool.and_eq_true] at h
  obtain ⟨i, hi⟩ := Option.isSome_iff_exists.1 h.1
  obtain ⟨r, hr⟩ := ih h.2
  exact ⟨_, by simp [List.mapM_cons, hi, hr]; rfl⟩

theorem fill_rep {t : TypeId} {fs : Array Field} {places : List (Nat × Nat)} (hu : P.underlying t = some (.struct fs)) {ev : Operand → FV} {a : Act} (hm : ∀ i v, m i = some v → v.1.oneCell' = true)
  (hpl : ∀ (i : Nat) (fd : Field), fs[i]? = some fd → places[i]? = some (fd.offset, P.cellsOf fd.type)) :
  ∀ (parts : List (Nat × Operand)) (cs out : List FV) (f : Nat → Value), (∀ x ∈ parts, RepF w S m (a.eval x.2) (ev x.2)) →
   (∀ j, (f j).oneCell' = true) → (∀ j (hj : j < cs.length), RepF w S m (f j) cs[j]) → buildF P t ev parts cs = some out →
   ∃ g : Nat → Value, Instr.fill (places.toArray[·]?) (vrange cs.length f).toArray (parts.map fun (i, x) => (i, a.eval x)) = some (vrange out.length g).toArray ∧
    (∀ j, (g j).oneCell' = true) ∧ ∀ j (hj : j < out.length), RepF w S m (g j) out[j]
 | [], cs, out, f, _, h1, hr, h => by
  simp only [buildF, Option.some.injEq] at h
  subst h
  exact ⟨f, rfl, h1, hr⟩
 | (i, x) :: r, cs, out, f, hx, h1, hr, h => by
  simp only [buildF, hu] at h
  cases hfd : fs[i]? with
  | none => simp [hfd] at h
  | some fd =>
   cases hfc : fcells (ev x) with
   | none => simp [hfd, hfc] at h
   | some new =>
    simp only [hfd, hfc] at h
    split at h
    ·rename_i hc
     obtain ⟨g, hg, hg1, hgr⟩ := fcells_rep (hx (i, x) (by simp)) hfc hm
     obtain ⟨hl, hs⟩ := setSeg_rep (off := fd.offset) hr hgr hc.2
     have ih := fill_rep hu hm hpl r (setSeg cs fd.offset new) out (fun j => if fd.offset ≤ j ∧ j < fd.offset + new.length then g (j - fd.offset) else f j)
      (fun y hy => hx y (by simp [hy])) (fun j => by split <;> simp [hg1, h1]) hs h
     obtain ⟨g', hg', r1, r2⟩ := ih
     refine ⟨g', ?_, r1, r2⟩
     simp only [List.map_cons, Instr.fill]
     have hp : places.toArray[i]? = some (fd.offset, P.cellsOf fd.type) := by simpa using hpl i fd hfd
     rw [hp]
     simp only [hg]
     have hsz : (vrange new.length g).toArray.size = new.length := by simp
     rw [if_neg (by simp [hc.1]; have := hc.2; omega)]
     rw [← hg']
     congr 1
     rw [← Array.foldl_toList]
     apply Array.ext_getElem?
     intro q
     have e := foldl_set fd.offset (vrange new.length g) 0 (vrange cs.length f).toArray q
     simp only [Nat.add_zero] at e
     have e2 : ((vrange new.length g).toArray.zipIdx).toList = (vrange new.length g).zipIdx 0 := by simp
     rw [e2, e, hl]
     simp only [List.getElem?_toArray, vrange_get, List.size_toArray, List.length_map, List.length_range]
     by_cases h2 : fd.offset ≤ q ∧ q < fd.offset + new.length
     ·rw [if_pos (by omega), if_pos (by omega), if_pos (by omega), if_pos h2]
     ·rw [if_neg (by omega)]
      by_cases h3 : q < cs.length
      ·rw [if_pos h3, if_pos h3, if_neg h2]
      ·rw [if_neg h3, if_neg h3]
    ·cases h

theorem zeroF_spec {t : TypeId} {cs : List FV} (h : zeroF P t = some cs) : ∃ (i : TypeInfo) (z : Value) (f : Nat → Value), P.info? t = some i ∧ i.zero = some z ∧
  z.cells = (vrange cs.length f).toArray ∧ (∀ j, (f j).oneCell' = true) ∧ ∀ j (hj : j < cs.length), RepF w S m (f j) cs[j] := by
 unfold zeroF at h
 split at h
 ·rename_i i hi
  split at h
  ·rename_i z hz
   split at h
   ·rename_i hall
    simp only [Option.some.injEq] at h
    subst h
    refine ⟨i, z, fun j => z.cells.toList.getD j (.bool false), hi, hz, ?_, fun j => ?_, fun j hj => ?_⟩
    ·apply Array.ext'
     apply List.ext_getElem?
     intro q
     simp only [List.length_map, vrange_get]
     split
     ·rename_i hq; simp [List.getD, List.getElem?_eq_getElem hq]
     ·rename_i hq; exact List.getElem?_eq_none (Nat.le_of_not_lt hq)
    ·by_cases hj : j < z.cells.toList.length
     ·have := List.all_eq_true.1 hall _ (List.getElem_mem hj)
      have e : z.cells.toList.getD j (.bool false) = z.cells.toList[j] := by simp [List.getD, List.getElem?_eq_getElem hj]
      simp only [e]
      generalize z.cells.toList[j] = v at this
      cases v <;> simp_all [free, Value.oneCell']
     ·have e : z.cells.toList.getD j (.bool false) = .bool false := by simp [List.getD, List.getElem?_eq_none (Nat.le_of_not_lt hj)]
      simp only [e]; rfl
    ·simp only [List.length_map] at hj
     have := List.all_eq_true.1 hall _ (List.getElem_mem hj)
     have e : z.cells.toList.getD j (.bool false) = z.cells.toList[j] := by simp [List.getD, List.getElem?_eq_getElem hj]
     simp only [e, List.getElem_map]
     exact repVal this
   ·cases h
  ·cases h
 ·cases h

theorem pop_build {ev : Operand → FV} {t : TypeId} {parts : Array (Nat × Operand)} {ob : Prop} {fv : FV} {a : Act} {o : Oper} (ho : o.op = .build t parts)
  (hm : ∀ i v, m i = some v → v.1.oneCell' = true) (hx : ∀ x ∈ parts, RepF w S m (a.eval x.2) (ev x.2))
  (h : pop P own ev (.build t parts) = some (ob, fv)) : ∃ v, (execOp a.eval o).run P w = .ok (.value v) w ∧ RepF w S m v fv := by
 simp only [pop] at h
 split at h
 ·rename_i fs z hu hz
  split at h
  ·rename_i hall
   split at h
   ·rename_i cs hb
    simp only [Option.some.injEq, Prod.mk.injEq] at h
    obtain ⟨rfl, rfl⟩ := h
    obtain ⟨it, zv, f, hit, hzv, hcells, h1, hr⟩ := zeroF_spec (w := w) (S := S) (m := m) hz
    obtain ⟨places, hp⟩ := places_some hall
    obtain ⟨parts⟩ := parts
    obtain ⟨g, hg, g1, gr⟩ := fill_rep (w := w) (S := S) (m := m) (a := a) hu hm (fun i fd hfd => places_get hp i fd (by simpa using hfd)) parts z cs f (fun x hx' => hx x (by simpa using hx')) h1 hr hb
    refine ⟨.agg (vrange cs.length g).toArray, ?_, .agg cs g g1 gr⟩
    have hb' : P.built t (parts.map fun (i, x) => (i, a.eval x)) = some (vrange cs.length g).toArray := by
     unfold Program.built
     simp only [hit, hu, hzv, hp, hcells, hg]
    have := run_build w t (parts.map fun (i, x) => (i, a.eval x)).toArray _ (by simpa using hb')
    simp [execOp, ho, this]
   ·cases h
  ·cases h
 ·cases h

end
end Go.Pe

/- A slice cut out of a slice; snapshots of own blocks; 'qop' is met by the machine. -/
namespace Go.Pe
open Go Go.RowKit

section
variable {P : Program} {own : List Blk} {w : World} {S : Nat → Prop} {m : Nat → Option MV}

theorem run_cut {t e : TypeId} (he : elemT P t = some e) (a : Option Addr) (n c l h : Nat) (lo hi : Option Value) (hl : l ≤ h) (hh : h ≤ n) (hc : n ≤ c)
  (hlo : (lo = none ∧ l = 0) ∨ ∃ k, lo = some (.int k l)) (hhi : (hi = none ∧ h = n) ∨ ∃ k, hi = some (.int k h)) :
  (Instr.sliceAt t (.slice a n c) lo hi none).run P w = .ok (.slice (if c = l then a else a.map (·.add (l * P.cellsOf e))) (h - l) (c - l)) w := by
 obtain ⟨hu, hne⟩ := elemT_spec he
 obtain ⟨i, hi', hsz⟩ := cellsOf_info hne
 have hb : ∀ (lo hi : Option Value), ((lo = none ∧ l = 0) ∨ ∃ k, lo = some (.int k l)) → ((hi = none ∧ h = n) ∨ ∃ k, hi = some (.int k h)) →
   (Instr.sliceBounds true n c lo hi none).run P w = .ok (l, h, c) w := by
  intro lo hi hlo hhi
  rcases hhi with ⟨rfl, rfl⟩ | ⟨k, rfl⟩ <;> rcases hlo with ⟨rfl, rfl⟩ | ⟨k', rfl⟩ <;>
   simp [Instr.sliceBounds, Instr.sliceBound, asIntOf, Int.ofNat_le] <;> (try omega)
  all_goals simp [show h ≤ c by omega, hl, Int.ofNat_le]
  all_goals (try simp [show (h : Int) ≤ c by omega, show (l : Int) ≤ h by omega])
 simp [Instr.sliceAt, run_underlying hu, Instr.slice, hb lo hi hlo hhi, run_sizeOf hi', hsz]

theorem pop_slice {ev : Operand → FV} {t : TypeId} {x : Operand} {lo hi mx : Option Operand} {ob : Prop} {fv : FV} {a : Act} {o : Oper} (ho : o.op = .slice t x lo hi mx)
  (hx : RepF w S m (a.eval x) (ev x)) (hlo : ∀ q, lo = some q → RepF w S m (a.eval q) (ev q)) (hhi : ∀ q, hi = some q → RepF w S m (a.eval q) (ev q))
  (h : pop P own ev (.slice t x lo hi mx) = some (ob, fv)) (hob : ob) : ∃ v, (execOp a.eval o).run P w = .ok (.value v) w ∧ RepF w S m v fv := by
 cases mx with
 | some q => simp [pop] at h
 | none =>
 simp only [pop] at h
 split at h
 ·rename_i e els he hxe
  split at h
  ·rename_i l h' hl hh
   simp only [Option.some.injEq, Prod.mk.injEq] at h
   obtain ⟨rfl, rfl⟩ := h
   obtain ⟨h0, h1, h2, hcl⟩ := hob
   obtain ⟨l, rfl⟩ : ∃ n : Nat, l = n := ⟨l.toNat, by omega⟩
   obtain ⟨h', rfl⟩ : ∃ n : Nat, h' = n := ⟨h'.toNat, by omega⟩
   simp only [Int.toNat_natCast]
   have hlo' : (lo.map a.eval = none ∧ l = 0) ∨ ∃ k, lo.map a.eval = some (.int k l) := by
    cases lo with
    | none => simp at hl; exact .inl ⟨rfl, by omega⟩
    | some q =>
     simp only at hl
     split at hl
     ·rename_i k n hq
      simp only [Option.some.injEq] at hl
      subst hl
      have := (hq ▸ hlo q rfl).valInv
      exact .inr ⟨k, by simp [this]⟩
     ·cases hl
   have hhi' : (hi.map a.eval = none ∧ h' = els.length) ∨ ∃ k, hi.map a.eval = some (.int k h') := by
    cases hi with
    | none => simp only [Option.some.injEq] at hh; exact .inl ⟨rfl, by omega⟩
    | some q =>
     simp only at hh
     split at hh
     ·rename_i k n hq
      simp only [Option.some.injEq] at hh
      subst hh
      have := (hq ▸ hhi q rfl).valInv
      exact .inr ⟨k, by simp [this]⟩
     ·cases hh
   have fin : ∀ ad c, els.length ≤ c → a.eval x = .slice ad els.length c → (execOp a.eval o).run P w = .ok (.value (.slice (if c = l then ad else ad.map (·.add (l * P.cellsOf e))) (h' - l) (c - l))) w := by
    intro ad c hc hav
    simp [execOp, ho, hav, run_cut he ad els.length c l h' (lo.map a.eval) (hi.map a.eval) (by omega) (by omega) hc hlo' hhi']
   rw [hxe] at hx
   have hp := hx.pvInv
   generalize hav : a.eval x = av at hp
   have hlen : ((els.take h').drop l).length = h' - l := by simp; omega
   cases hp with
   | nil ad c =>
    simp only [List.length_nil] at h2
    have : h' = 0 := by omega
    have : l = 0 := by omega
    subst h' l
    exact ⟨_, fin ad c (by simp) hav, .pv _ _ (by simpa using Rep.nil _ _)⟩
   | lst b q c s _ f hS hle hsl hcell h1' hr =>
    refine ⟨_, fin _ c hle hav, .pv _ _ ?_⟩
    by_cases hz : h' = l
    ·subst hz
     have e0 : (els.take h').drop h' = [] := List.eq_nil_of_length_eq_zero (by rw [hlen]; omega)
     rw [e0, Nat.sub_self]
     exact Rep.nil _ _
    ·have hne : c ≠ l := by omega
     have hs : s = P.cellsOf e := by rw [← hsl 0 (by omega)]; exact hcl _ (List.getElem_mem _)
     rw [if_neg hne]
     simp only [Option.map_some, addr_add]
     rw [← hlen, ← hs]
     refine Rep.lst b (q + l * s) (c - l) s _ (fun k j => f (k + l) j) hS (by rw [hlen]; omega) (fun k hk => ?_) (fun k j hk hj => ?_) (fun k j => h1' _ _) (fun k hk j hj => ?_)
     ·have hk' : k + l < els.length := by rw [hlen] at hk; omega
      have := hsl (k + l) hk'
      simpa [List.getElem_drop, List.getElem_take, Nat.add_comm l k] using this
     ·rw [hlen] at hk
      have := hcell (k + l) j (by omega) hj
      rw [← this]
      congr 2
      rw [Nat.add_mul]; omega
     ·have hk' : k + l < els.length := by rw [hlen] at hk; omega
      have e1 : ((els.take h').drop l)[k] = els[k + l] := by simp [List.getElem_drop, List.getElem_take, Nat.add_comm l k]
      have := hr (k + l) hk' j (by rw [← e1]; exact hj)
      simpa [e1] using this
  ·cases h
 ·cases h

end

theorem mapO_spec {α β : Type} {f : α → Option β} : ∀ {l : List α} {r : List β}, mapO f l = some r → l.length = r.length ∧ ∀ j (hj : j < l.length) (hj' : j < r.length), f l[j] = some r[j]
 | [], r, h => by simp [mapO] at h; subst h; exact ⟨rfl, fun j hj => by simp at hj⟩
 | x :: l, r, h => by
  simp only [mapO] at h
  split at h
  ·rename_i p q hp hq
   simp only [Option.some.injEq] at h
   subst h
   obtain ⟨h1, h2⟩ := mapO_spec hq
   refine ⟨by simp [h1], fun j hj hj' => ?_⟩
   cases j with
   | zero => simpa using hp
   | succ j => simpa using h2 j (by simpa using hj) (by simpa using hj')
  ·cases h

theorem normP_rep {w : World} {S : Nat → Prop} {v : Value} {p : PV} (h : Rep w S v p) : Rep w S v (normP p) := by
 unfold normP
 split
 ·cases h; exact .nil _ _
 ·exact h

theorem snapD_rep {own : List Blk} {ds : List Nat} {w : World} {S S' : Nat → Prop} {m : Nat → Option MV} (hown : ∀ i b v, own[i]? = some b → b.live = true → m i = some v → OwnOk w S m v b)
  (hS : ∀ b, S b → S' b) (hds : ∀ i b, i ∈ ds → lives own i → mblk m i b → S' b) :
  ∀ (n : Nat) (x : FV) (v : Value) (p : PV), RepF w S m v x → snapD own ds n x = some p → Rep w S' v p := by
 intro n
 induction n with
 | zero =>
  intro x v p h hp
  cases x <;> simp only [snapD] at hp <;> try (cases hp; done)
  case pv q => simp only [Option.some.injEq] at hp; subst hp; exact (normP_rep h.pvInv).mono (fun _ _ => rfl) hS
  case own i =>
   split at hp
   ·rename_i hd
    split at hp
    ·rename_i e s els hi
     simp only [Option.some.injEq] at hp
     subst hp
     cases h with | own _ _ hvi =>
     have hok := hown i _ _ hi rfl hvi
     exact row_rep hok.2 hS (fun b h => hds i b (by simpa using hd) ⟨_, hi, rfl⟩ ⟨_, hvi, .inl h⟩)
    ·rename_i e s et els hi
     simp only [Option.some.injEq] at hp
     subst hp
     cases h with | own _ _ hvi =>
     have hok := hown i _ _ hi rfl hvi
     exact row_rep (S := S') (tree_row hok (fun b h => hds i b (by simpa using hd) ⟨_, hi, rfl⟩ ⟨_, hvi, h⟩)) (fun _ h => h) (fun b h => hds i b (by simpa using hd) ⟨_, hi, rfl⟩ ⟨_, hvi, .inl h⟩)
    ·cases hp
   ·cases hp
  case relt i s k off =>
   split at hp
   ·rename_i hd
    split at hp
    ·rename_i e s' els hi
     split at hp
     ·rename_i hse
      subst hse
      simp only [Option.some.injEq] at hp
      subst hp
      cases h
      rename_i b hb
      obtain ⟨vi, hvi, hbv⟩ := tblk_spec hb
      obtain ⟨f, hc, hs, h2, h3, h4⟩ := row_cells (hown i _ _ hi rfl hvi).2 hbv
      have := Rep.elt (w := w) (S := S') b 0 s' k off els f (hds i b (by simpa using hd) ⟨_, hi, rfl⟩ ⟨_, hvi, .inl hbv⟩) h2 (fun k j hk hj => by rw [Nat.zero_add]; exact hc k j hk hj) h3 (fun k hk j hj => (h4 k hk j hj).mono (fun _ _ => rfl) hS)
      simpa using this
     ·cases hp
    ·cases hp
   ·cases hp
 | succ n ih =>
  intro x v p h hp
  cases x <;> simp only [snapD] at hp <;> try (cases hp; done)
  case pv q => simp only [Option.some.injEq] at hp; subst hp; exact (normP_rep h.pvInv).mono (fun _ _ => rfl) hS
  case own i =>
   split at hp
   ·rename_i hd
    split at hp
    ·rename_i e s els hi
     simp only [Option.some.injEq] at hp
     subst hp
     cases h with | own _ _ hvi =>
     have hok := hown i _ _ hi rfl hvi
     exact row_rep hok.2 hS (fun b h => hds i b (by simpa using hd) ⟨_, hi, rfl⟩ ⟨_, hvi, .inl h⟩)
    ·rename_i e s et els hi
     simp only [Option.some.injEq] at hp
     subst hp
     cases h with | own _ _ hvi =>
     have hok := hown i _ _ hi rfl hvi
     exact row_rep (S := S') (tree_row hok (fun b h => hds i b (by simpa using hd) ⟨_, hi, rfl⟩ ⟨_, hvi, h⟩)) (fun _ h => h) (fun b h => hds i b (by simpa using hd) ⟨_, hi, rfl⟩ ⟨_, hvi, .inl h⟩)
    ·cases hp
   ·cases hp
  case relt i s k off =>
   split at hp
   ·rename_i hd
    split at hp
    ·rename_i e s' els hi
     split at hp
     ·rename_i hse
      subst hse
      simp only [Option.some.injEq] at hp
      subst hp
      cases h
      rename_i b hb
      obtain ⟨vi, hvi, hbv⟩ := tblk_spec hb
      obtain ⟨f, hc, hs, h2, h3, h4⟩ := row_cells (hown i _ _ hi rfl hvi).2 hbv
      have := Rep.elt (w := w) (S := S') b 0 s' k off els f (hds i b (by simpa using hd) ⟨_, hi, rfl⟩ ⟨_, hvi, .inl hbv⟩) h2 (fun k j hk hj => by rw [Nat.zero_add]; exact hc k j hk hj) h3 (fun k hk j hj => (h4 k hk j hj).mono (fun _ _ => rfl) hS)
      simpa using this
     ·cases hp
    ·cases hp
   ·cases hp
  case box i off =>
   split at hp
   ·rename_i hd
    split at hp
    ·rename_i cs hi
     cases hq : mapO (snapD own ds n) cs with
     | none => simp [hq] at hp
     | some q =>
      simp only [hq, Option.map_some, Option.some.injEq] at hp
      subst hp
      cases h
      rename_i b hb
      obtain ⟨vi, hvi, hbv⟩ := tblk_spec hb
      obtain ⟨f, hc, h1, hr⟩ := box_cells (hown i _ _ hi rfl hvi) hbv
      obtain ⟨hl, hq⟩ := mapO_spec hq
      have := Rep.ptr (w := w) (S := S') b 0 off q f (hds i b (by simpa using hd) ⟨_, hi, rfl⟩ ⟨_, hvi, .inl hbv⟩) (fun j hj => by rw [Nat.zero_add]; exact hc j (by omega)) h1
       (fun j hj => ih _ _ _ (hr j (by omega)) (hq j (by omega) hj))
      simpa using this
    ·cases hp
   ·cases hp
  case agg cs =>
   cases hq : mapO (snapD own ds n) cs with
   | none => simp [hq] at hp
   | some q =>
    simp only [hq, Option.map_some, Option.some.injEq] at hp
    subst hp
    cases h with | agg _ f h1 hr =>
    obtain ⟨hl, hq⟩ := mapO_spec hq
    rw [hl]
    exact .agg q f h1 (fun j hj => ih _ _ _ (hr j (by omega)) (hq j (by omega) hj))
  case tup cs =>
   cases hq : mapO (snapD own ds n) cs with
   | none => simp [hq] at hp
   | some q =>
    simp only [hq, Option.map_some, Option.some.injEq] at hp
    subst hp
    cases h with | tup _ f hr =>
    obtain ⟨hl, hq⟩ := mapO_spec hq
    rw [hl]
    exact .tup q f (fun j hj => ih _ _ _ (hr j (by omega)) (hq j (by omega) hj))
  case fn g cs =>
   cases hq : mapO (snapD own ds n) cs with
   | none => simp [hq] at hp
   | some q =>
    simp only [hq, Option.map_some, Option.some.injEq] at hp
    subst hp
    cases h with | fn _ _ f hr =>
    obtain ⟨hl, hq⟩ := mapO_spec hq
    rw [hl]
    exact .fn g q f (fun j hj => ih _ _ _ (hr j (by omega)) (hq j (by omega) hj))

end Go.Pe

/- 'qop' is met by the machine, in whatever state its operands read as told. -/
namespace Go.Pe
open Go Go.RowKit

def gtrue : Option Bool → Prop
 | none => True
 | some b => b = true

theorem imp_iff {g : Option Bool} {p : Prop} : imp g p ↔ (gtrue g → p) := by
 cases g <;> simp [imp, gtrue]

def QOk (P : Program) (gl : List (Nat × Obj)) (own : List Blk) (ev : Operand → FV) (o : Oper) (x : FV) : Prop :=
 ∀ (w : World) (S : Nat → Prop) (m : Nat → Option MV) (a : Act) (next : Act → World → Prop) (Q : Exit → Act → World → Prop),
  Glob gl w → (∀ b, S b → b < w.heap.size) → (∀ i b v, own[i]? = some b → b.live = true → m i = some v → OwnOk w S m v b) →
  (∀ i v, m i = some v → v.1.oneCell' = true) → (∀ q ∈ o.op.operands.toList, RepF w S m (a.eval q) (ev q)) →
  (∀ v w', Below w.heap.size w w' → RepF w' (fun b => S b ∨ (w.heap.size ≤ b ∧ b < w'.heap.size)) m v x → next (a.put o.dst v) w') →
  o.wp P a w next Q

theorem strip_rep {w : World} {S : Nat → Prop} {m : Nat → Option MV} {v : Value} {x : FV} (h : RepF w S m v x) (hc : condOk none x) : RepF w S m v (strip x) := by
 cases x with
 | iff c x =>
  cases h with | iff _ _ _ h _ =>
  have h := h hc
  cases x with
  | xl els => cases h with | xl a n _ h => exact .pv _ _ h
  | _ => exact h
 | xl els => cases h with | xl a n _ h => exact .pv _ _ h
 | _ => exact h

theorem condsOk_mem {g : Option Bool} {st : St} (hg : gtrue g) : ∀ {l : List Operand}, condsOk g st l → ∀ q ∈ l, condOk none (st.ev q)
 | [], _, q, hq => by cases hq
 | x :: r, h, q, hq => by
  simp only [condsOk] at h
  rcases List.mem_cons.1 hq with rfl | hq
  ·have := h.1
   unfold condOk at *
   split at this
   ·exact imp_iff.1 this hg
   ·trivial
  ·exact condsOk_mem hg h.2 q hq

theorem wp_value {P : Program} {o : Oper} {a : Act} {w : World} {v : Value} {next : Act → World → Prop} {Q : Exit → Act → World → Prop}
  (h : (execOp a.eval o).run P w = .ok (.value v) w) (hn : next (a.put o.dst v) w) : o.wp P a w next Q := by
 unfold Oper.wp
 rw [h]
 exact hn

theorem repF_old {w : World} {S : Nat → Prop} {m : Nat → Option MV} {v : Value} {x : FV} (h : RepF w S m v x) :
  RepF w (fun b => S b ∨ (w.heap.size ≤ b ∧ b < w.heap.size)) m v x := h.mono (fun _ _ => rfl) (fun _ => .inl) (fun _ _ => id)

theorem operands_call (f : Operand) (args : Array Operand) (ts : Array TypeId) : (Op.call { callee := .value f, args, argTypes := ts }).operands.toList = f :: args.toList := by
 simp [Op.operands, Call.operands]

theorem pop_run {P : Program} {own : List Blk} {ev : Operand → FV} {o : Oper} {ob : Prop} {x : FV} {w : World} {S : Nat → Prop} {m : Nat → Option MV} {a : Act}
  (h : pop P own ev o.op = some (ob, x)) (hob : ob) (hown : ∀ i b v, own[i]? = some b → b.live = true → m i = some v → OwnOk w S m v b) (hm : ∀ i v, m i = some v → v.1.oneCell' = true)
  (hev' : ∀ q ∈ o.op.operands.toList, RepF w S m (a.eval q) (ev q)) : ∃ v, (execOp a.eval o).run P w = .ok (.value v) w ∧ RepF w S m v x := by
 generalize ho : o.op = op at h hev'
 cases op with
 | move q =>
  simp only [pop, Option.some.injEq, Prod.mk.injEq] at h
  obtain ⟨_, rfl⟩ := h
  exact ⟨_, by simp [execOp, ho], hev' q (by simp [Op.operands])⟩
 | assign q =>
  simp only [pop, Option.some.injEq, Prod.mk.injEq] at h
  obtain ⟨_, rfl⟩ := h
  exact ⟨_, by simp [execOp, ho], hev' q (by simp [Op.operands])⟩
 | load t q => exact pop_load ho hown (hev' q (by simp [Op.operands])) h hob
 | fieldAddr s q f => exact pop_fieldAddr ho (hev' q (by simp [Op.operands])) h
 | indexAddr t q i => exact pop_indexAddr ho hown (hev' q (by simp [Op.operands])) (hev' i (by simp [Op.operands])) h hob
 | binOp op t q r t' => exact pop_binOp ho (hev' q (by simp [Op.operands])) (hev' r (by simp [Op.operands])) h hob
 | unOp op t q => exact pop_unOp ho (hev' q (by simp [Op.operands])) h
 | convert s d q => exact pop_convert ho (hev' q (by simp [Op.operands])) h
 | extract q i => exact pop_extract ho (hev' q (by simp [Op.operands])) h hob
 | build t parts => exact pop_build ho hm (fun y hy => hev' y.2 (by simp only [Op.operands]; simp; exact ⟨y.1, by simpa using hy⟩)) h
 | makeFunc fn first caps => exact pop_makeFunc ho (fun y hy => hev' y (by simp [Op.operands, hy])) h
 | nilCheck q => exact pop_nilCheck ho (hev' q (by simp [Op.operands])) h
 | slice t q lo hi mx => exact pop_slice ho (hev' q (by simp [Op.operands])) (fun y hy => hev' y (by simp [Op.operands, hy])) (fun y hy => hev' y (by simp [Op.operands, hy])) h hob
 | call c =>
  obtain ⟨callee, args, ts⟩ := c
  have hargs : ∀ y ∈ args, RepF w S m (a.eval y) (ev y) := fun y hy => hev' y (by simp [Op.operands, Call.operands, hy])
  cases callee with
  | builtin b =>
   cases b <;> first
    | exact pop_len ho hown hargs h
    | exact pop_max ho hargs h
    | exact pop_min ho hargs h
    | (simp only [pop] at h; cases h)
  | _ => simp only [pop] at h; cases h
 | _ => simp only [pop] at h; cases h

theorem pop_ok {P : Program} {gl : List (Nat × Obj)} {st : St} {g : Option Bool} {o : Oper} {ob : Prop} {x : FV}
  (h : pop P st.own (fun q => strip (st.ev q)) o.op = some (ob, x)) (hc : gtrue g → condsOk g st o.op.operands.toList) (hob : gtrue g → ob) : gtrue g → QOk P gl st.own st.ev o x := by
 intro hg w S m a next Q _ hS hown hm hev hn
 have hev' : ∀ q ∈ o.op.operands.toList, RepF w S m (a.eval q) (strip (st.ev q)) := fun q hq => strip_rep (hev q hq) (condsOk_mem hg (hc hg) q hq)
 obtain ⟨v, hr, hv⟩ := pop_run h (hob hg) hown hm hev'
 exact wp_value hr (hn v w (Below.refl _ _) (repF_old hv))

theorem pickV_spec {c : Bool} {A B x : FV} (h : pickV c A B = some x) : ∃ y z, A = .pv (.val (.bool y)) ∧ B = .pv (.val (.bool z)) ∧ x = .pv (.val (.bool (bif c then y else z))) := by
 unfold pickV at h
 split at h
 ·rename_i y z
  simp only [Option.some.injEq] at h
  exact ⟨y, z, rfl, rfl, h.symm⟩
 ·cases h

theorem pick_ok {P : Program} {gl : List (Nat × Obj)} {own : List Blk} {ev : Operand → FV} {o : Oper} {c p q : Operand} {t : Bool} {x : FV} (ho : o.op = .pick c p q)
  (hc : strip (ev c) = .pv (.val (.bool t))) (hcc : condOk none (ev c)) (hp : pickV t (strip (ev p)) (strip (ev q)) = some x)
  (h1 : t = true → condOk none (ev p)) (h2 : t = false → condOk none (ev q)) : QOk P gl own ev o x := by
 intro w S m a next Q _ hS hown hm hev hn
 obtain ⟨y, z, hy, hz, rfl⟩ := pickV_spec hp
 have e0 := (hc ▸ strip_rep (hev c (by simp [ho, Op.operands])) hcc).valInv
 cases t with
 | true =>
  have e1 := (hy ▸ strip_rep (hev p (by simp [ho, Op.operands])) (h1 rfl)).valInv
  exact wp_value (v := .bool y) (by simp [execOp, ho, e0, e1, asBool]) (hn _ w (Below.refl _ _) (repVal rfl))
 | false =>
  have e1 := (hz ▸ strip_rep (hev q (by simp [ho, Op.operands])) (h2 rfl)).valInv
  exact wp_value (v := .bool z) (by simp [execOp, ho, e0, e1, asBool]) (hn _ w (Below.refl _ _) (repVal rfl))

theorem asFn_spec {w : World} {S : Nat → Prop} {m : Nat → Option MV} {v : Value} {x : FV} {f : FuncId} {caps : List FV} (h : RepF w S m v x) (hx : asFn x = some (f, caps)) :
  ∃ g : Nat → Value, v = .func (.func f) #[] (vrange caps.length g).toArray ∧ ∀ j (hj : j < caps.length), RepF w S m (g j) caps[j] := by
 unfold asFn at hx
 split at hx
 ·rename_i f' cs
  simp only [Option.some.injEq, Prod.mk.injEq] at hx
  obtain ⟨rfl, rfl⟩ := hx
  have hp := h.pvInv
  cases hp with | fn _ _ g hr =>
  exact ⟨g, by simp, fun j hj => by simp only [List.length_map] at hj; simpa using RepF.pv (m := m) _ _ (hr j hj)⟩
 ·simp only [Option.some.injEq, Prod.mk.injEq] at hx
  obtain ⟨rfl, rfl⟩ := hx
  cases h with | fn _ _ g hr =>
  exact ⟨g, rfl, hr⟩
 ·cases hx

theorem vrange_append (n k : Nat) (f g : Nat → Value) : vrange n f ++ vrange k g = vrange (n + k) fun j => if j < n then f j else g (j - n) := by
 apply List.ext_getElem?
 intro j
 rw [List.getElem?_append, vrange_get, vrange_get, vrange_get]
 simp only [vrange, List.length_map, List.length_range]
 by_cases h1 : j < n
 ·rw [if_pos h1, if_pos h1, if_pos (by omega), if_pos h1]
 ·rw [if_neg h1, if_neg h1]
  by_cases h2 : j - n < k
  ·rw [if_pos h2, if_pos (by omega)]
  ·rw [if_neg h2, if_neg (by omega)]

theorem args_rep {P : Program} {w : World} {S : Nat → Prop} {m : Nat → Option MV} {a : Act} {o : Oper} {st : St} {f : Operand} {args : Array Operand} {ts : Array TypeId} {fid : FuncId} {caps : List FV}
  (ho : o.op = .call { callee := .value f, args, argTypes := ts }) (hcv : ∀ q ∈ f :: args.toList, condOk none (st.ev q))
  (hf : asFn (strip (st.ev f)) = some (fid, caps)) (hev : ∀ q ∈ o.op.operands.toList, RepF w S m (a.eval q) (st.ev q)) (hcall : callable P fid = true) :
  ∃ g : Nat → Value, (execOp a.eval o).run P w = .ok (.enter fid (vrange ((args.toList.map fun x => strip (st.ev x)) ++ caps).length g).toArray) w ∧
   ∀ j (hj : j < ((args.toList.map fun x => strip (st.ev x)) ++ caps).length), RepF w S m (g j) ((args.toList.map fun x => strip (st.ev x)) ++ caps)[j] := by
 obtain ⟨fn, hfn, c, hb, hnr⟩ : ∃ fn, P.funcs[fid]? = some fn ∧ ∃ c, fn.body = some c ∧ fn.name ≠ "runtime.NumGoroutine" := by
  unfold callable at hcall
  split at hcall
  ·rename_i fn hfn
   simp only [Bool.and_eq_true, Bool.not_eq_true', beq_eq_false_iff_ne] at hcall
   obtain ⟨c, hc⟩ := Option.isSome_iff_exists.1 hcall.1
   exact ⟨fn, hfn, c, hc, hcall.2⟩
  ·cases hcall
 have hops := operands_call f args ts
 rw [ho, hops] at hev
 obtain ⟨g1, h1, r1⟩ := asFn_spec (strip_rep (hev f (by simp)) (hcv f (by simp))) hf
 obtain ⟨g2, h2, r2⟩ := mapList_rep (w := w) (S := S) (m := m) (a := a) (ev := fun x => strip (st.ev x)) args.toList (fun x hx => strip_rep (hev x (by simp [hx])) (hcv x (by simp [hx])))
 refine ⟨fun j => if j < args.toList.length then g2 j else g1 (j - args.toList.length), ?_, fun j hj => ?_⟩
 ·have e : args.map a.eval ++ (vrange caps.length g1).toArray = (vrange ((args.toList.map fun x => strip (st.ev x)) ++ caps).length fun j => if j < args.toList.length then g2 j else g1 (j - args.toList.length)).toArray := by
   apply Array.ext'
   simp only [Array.toList_append, Array.toList_map, h2]
   rw [vrange_append]
   simp
  rw [← e]
  simp [execOp, ho, resolve, h1, Deferred.ofValue, invoke, callFunc, hfn, hb, hnr]
 ·by_cases hj1 : j < args.toList.length
  ·simp only [if_pos hj1]
   have := r2 j (by simpa using hj1)
   rw [List.getElem_append_left (by simpa using hj1)]
   exact this
  ·simp only [if_neg hj1]
   have hj2 : j - args.toList.length < caps.length := by simp at hj ⊢; simp at hj1; omega
   have := r1 (j - args.toList.length) hj2
   rw [List.getElem_append_right (by simpa using hj1)]
   simpa using this

end Go.Pe

/- Slices made and appended to, by value. -/
namespace Go.Pe
open Go Go.RowKit

def zeroFits (P : Program) (t : TypeId) : Bool :=
 match P.info? t with
 | some i => match i.zero with
  | some z => z.cells.size == i.size
  | none => false
 | none => false

theorem mul_lt {k n s j : Nat} (hk : k < n) (hj : j < s) : k * s + j < n * s := by
 have : (k + 1) * s ≤ n * s := Nat.mul_le_mul_right _ hk
 rw [Nat.add_mul, Nat.one_mul] at this
 omega

theorem two_spec {α : Type} {l : List α} {x y : α} (h : two l = some (x, y)) : l = [x, y] := by
 unfold two at h
 split at h
 ·simp only [Option.some.injEq, Prod.mk.injEq] at h
  obtain ⟨rfl, rfl⟩ := h
  rfl
 ·cases h

theorem cell_new (w : World) (A : Array Value) (e : TypeId) (q : Nat) : (w.alloc (.cells A e)).cell? ⟨w.heap.size, q, none⟩ = A[q]? := by simp

theorem below_alloc (w : World) (o : Obj) : Below w.heap.size w (w.alloc o) := (Below.refl _ _).alloc (Nat.le_refl _) o

theorem wp_value' {P : Program} {o : Oper} {a : Act} {w w' : World} {v : Value} {next : Act → World → Prop} {Q : Exit → Act → World → Prop}
  (h : (execOp a.eval o).run P w = .ok (.value v) w') (hn : next (a.put o.dst v) w') : o.wp P a w next Q := by
 unfold Oper.wp
 rw [h]
 exact hn

theorem allFree_rep {w : World} {m : Nat → Option MV} {N : Nat → Prop} {cs : Array Value} (hall : cs.toList.all free = true) :
  ∃ f : Nat → Value, cs = (vrange (cs.toList.map fun v => FV.pv (.val v)).length f).toArray ∧ (∀ j, (f j).oneCell' = true) ∧
   ∀ j (hj : j < (cs.toList.map fun v => FV.pv (.val v)).length), RepF w N m (f j) (cs.toList.map fun v => FV.pv (.val v))[j] := by
 refine ⟨fun j => cs.toList.getD j (.bool false), ?_, fun j => ?_, fun j hj => ?_⟩
 ·apply Array.ext'
  apply List.ext_getElem?
  intro q
  simp only [List.length_map, vrange_get]
  split
  ·rename_i hq; simp [List.getD, List.getElem?_eq_getElem hq]
  ·rename_i hq; exact List.getElem?_eq_none (Nat.le_of_not_lt hq)
 ·by_cases hj : j < cs.toList.length
  ·have := List.all_eq_true.1 hall _ (List.getElem_mem hj)
   have e : cs.toList.getD j (.bool false) = cs.toList[j] := by simp [List.getD, List.getElem?_eq_getElem hj]
   simp only [e]
   generalize cs.toList[j] = v at this
   cases v <;> simp_all [free, Value.oneCell']
  ·have e : cs.toList.getD j (.bool false) = .bool false := by simp [List.getD, List.getElem?_eq_none (Nat.le_of_not_lt hj)]
   simp only [e]; rfl
 ·simp only [List.length_map] at hj
  have := List.all_eq_true.1 hall _ (List.getElem_mem hj)
  have e : cs.toList.getD j (.bool false) = cs.toList[j] := by simp [List.getD, List.getElem?_eq_getElem hj]
  simp only [e, List.getElem_map]
  exact repVal this

theorem zeroP_spec {P : Program} {w : World} {N : Nat → Prop} {t : TypeId} {p : PV} (h : zeroP P t = some p) : ∃ (i : TypeInfo) (z : Value) (f : Nat → Value), P.info? t = some i ∧ i.zero = some z ∧
  z.cells = (vrange p.cells.length f).toArray ∧ (∀ j, (f j).oneCell' = true) ∧ ∀ j (hj : j < p.cells.length), Rep w N (f j) p.cells[j] := by
 unfold zeroP at h
 split at h
 ·rename_i i hi
  split at h
  ·rename_i cs hz
   split at h
   ·rename_i hall
    simp only [Option.some.injEq] at h
    subst h
    obtain ⟨f, hf, h1, hr⟩ := allFree_rep (w := w) (m := fun _ => none) (N := N) (cs := cs) hall
    simp only [List.length_map] at hf hr
    refine ⟨i, .agg cs, f, hi, hz, by simpa [Value.cells, PV.cells] using hf, h1, fun j hj => ?_⟩
    simp only [PV.cells, List.length_map] at hj
    have := hr j hj
    simp only [List.getElem_map] at this
    simpa [PV.cells] using normP_rep this.pvInv
   ·cases h
  ·rename_i v hne hz
   split at h
   ·rename_i hf
    simp only [Option.some.injEq] at h
    subst h
    have hc : (normP (.val v)).cells = [normP (.val v)] := by
     unfold normP; split <;> rfl
    have hv1 : v.oneCell' = true := by cases v <;> simp_all [free, Value.oneCell']
    refine ⟨i, v, fun _ => v, hi, hz, ?_, fun _ => hv1, ?_⟩
    ·rw [hc]
     cases v <;> first | rfl | (simp [Value.oneCell'] at hv1)
    ·rw [hc]
     intro j hj
     simp at hj
     subst hj
     exact normP_rep (.val v hf)
   ·cases h
  ·cases h
 ·cases h

theorem bytes_info {P : Program} {e : TypeId} {i : TypeInfo} (hi : P.info? e = some i) : i.bytes = P.bytesOf e := by
 simp [Program.bytesOf, hi]

theorem zero_info {P : Program} {e : TypeId} (h : hasZero P e = true) : ∃ i z, P.info? e = some i ∧ i.zero = some z := by
 unfold hasZero at h
 cases hi : P.info? e with
 | none => simp [hi] at h
 | some i =>
  cases hz : i.zero with
  | none => simp [hi, hz] at h
  | some z => exact ⟨i, z, rfl, hz⟩

def Src (w : World) (N : Nat → Prop) (s : Nat) (new : List PV) (xv : Value) : Prop :=
 (∃ c, xv = .slice none 0 c ∧ new = []) ∨
 ∃ (ad : Addr) (c : Nat) (news : List Value) (f : Nat → Nat → Value), xv = .slice (some ad) new.length c ∧ news.length = new.length * s ∧ (∀ j u, news[j]? = some u → w.cell? (ad.add j) = some u) ∧ (∀ u ∈ news, u.oneCell' = true) ∧
  (∀ k j, k < new.length → j < s → news[k * s + j]? = some (f k j)) ∧ (∀ k j, (f k j).oneCell' = true) ∧ (∀ k (hk : k < new.length) j (hj : j < (new[k]).cells.length), Rep w N (f k j) (new[k]).cells[j])

theorem src_spec {w : World} {st : St} {m : Nat → Option MV} {N : Nat → Prop} {x : FV} {new : List PV} {xv : Value} {s : Nat} (hs : 0 < s) (hown : ∀ i b v, st.own[i]? = some b → b.live = true → m i = some v → OwnOk w N m v b)
  (hx : RepF w N m xv x) (h : srcEls st.own x = some new) (hok : ∀ p ∈ new, okEl s p) : Src w N s new xv := by
 unfold srcEls at h
 split at h
 ·rename_i els
  simp only [Option.some.injEq] at h
  subst h
  cases hx.pvInv with
  | nil ad c =>
   cases ad with
   | none => exact Or.inl ⟨c, rfl, rfl⟩
   | some ad => exact Or.inr ⟨ad, c, [], fun _ _ => .bool false, rfl, by simp, fun j u hu => by simp at hu, fun u hu => by simp at hu, fun k j hk => by simp at hk, fun _ _ => rfl, fun k hk => by simp at hk⟩
  | lst b o c s' _ f hS hle h2 hcell h1 hr =>
   by_cases h0 : els.length = 0
   ·have : els = [] := List.eq_nil_of_length_eq_zero h0
    subst this
    exact Or.inr ⟨⟨b, o, none⟩, c, [], fun _ _ => .bool false, rfl, by simp, fun j u hu => by simp at hu, fun u hu => by simp at hu, fun k j hk => by simp at hk, fun _ _ => rfl, fun k hk => by simp at hk⟩
   ·have hss : s' = s := by rw [← h2 0 (by omega)]; exact (hok _ (List.getElem_mem _)).1
    subst hss
    refine Or.inr ⟨⟨b, o, none⟩, c, vrange (els.length * s') (fun q => f (q / s') (q % s')), f, rfl, by simp, fun j u hu => ?_, fun u hu => ?_, fun k j hk hj => ?_, h1, hr⟩
    ·rw [vrange_get] at hu
     split at hu
     ·rename_i hj
      simp only [Option.some.injEq] at hu
      subst hu
      rw [addr_add]
      have hk : j / s' < els.length := Nat.div_lt_of_lt_mul (by rw [Nat.mul_comm]; exact hj)
      have := hcell (j / s') (j % s') hk (Nat.mod_lt _ hs)
      rw [show o + j / s' * s' + j % s' = o + j by rw [Nat.add_assoc, Nat.mul_comm, Nat.div_add_mod]] at this
      exact this
     ·cases hu
    ·simp only [vrange, List.mem_map] at hu
     obtain ⟨q, _, rfl⟩ := hu
     exact h1 _ _
    ·rw [vrange_get, if_pos (mul_lt hk hj)]
     congr 2
     ·rw [Nat.mul_comm, Nat.mul_add_div hs, Nat.div_eq_of_lt hj, Nat.add_zero]
     ·rw [Nat.mul_comm, Nat.mul_add_mod, Nat.mod_eq_of_lt hj]
 ·simp only [Option.some.injEq] at h
  subst h
  have := hx.valInv
  subst this
  exact Or.inl ⟨0, rfl, rfl⟩
 ·rename_i i
  split at h
  ·rename_i e s' els hi
   simp only [Option.some.injEq] at h
   subst h
   cases hx with | own _ _ hv =>
   obtain ⟨xs, f, hown', hs', hxs, h2, h1, hr⟩ := (hown i _ _ hi rfl hv).2
   generalize Prod.fst _ = vv at hown' ⊢
   rcases hown'.2 with ⟨rfl, h0⟩ | ⟨g, cap, cur, rfl, hb0, hg, hnc, hcm, hcs, htake⟩
   ·exact Or.inl ⟨0, rfl, List.eq_nil_of_length_eq_zero h0⟩
   ·have hcells := hown'.cells (g := g) rfl
    by_cases h0 : els.length = 0
    ·have : els = [] := List.eq_nil_of_length_eq_zero h0
     subst this
     exact Or.inr ⟨⟨g, 0, none⟩, cap, [], fun _ _ => .bool false, rfl, by simp, fun j u hu => by simp at hu, fun u hu => by simp at hu, fun k j hk => by simp at hk, fun _ _ => rfl, fun k hk => by simp at hk⟩
    ·have hss : s' = s := by rw [← h2 0 (by omega)]; exact (hok _ (List.getElem_mem _)).1
     subst hss
     refine Or.inr ⟨⟨g, 0, none⟩, cap, xs, f, rfl, hown'.1, hcells, fun u hu => ?_, hxs, h1, hr⟩
     obtain ⟨q, hq, rfl⟩ := List.getElem_of_mem hu
     rw [hown'.1] at hq
     have hk : q / s' < els.length := Nat.div_lt_of_lt_mul (by rw [Nat.mul_comm]; exact hq)
     have := hxs (q / s') (q % s') hk (Nat.mod_lt _ hs)
     rw [show q / s' * s' + q % s' = q by rw [Nat.mul_comm, Nat.div_add_mod], List.getElem?_eq_getElem (by rw [hown'.1]; exact hq)] at this
     simp only [Option.some.injEq] at this
     rw [this]
     exact h1 _ _
  ·cases h
 ·cases h

theorem makeXl_ok {P : Program} {gl : List (Nat × Obj)} {st : St} {g : Option Bool} {o : Oper} {t e : TypeId} {l c : Operand} {z : PV} {k k' : IntKind} {n n' : Int} (ho : o.op = .makeSlice t l c)
  (hc : condsOk g st [l, c]) (hg : gtrue g) (he : elemT P t = some e) (hz : zeroP P e = some z) (hl : strip (st.ev l) = .pv (.val (.int k n))) (hcc : strip (st.ev c) = .pv (.val (.int k' n')))
  (hby : P.bytesOf e ≤ 1000) (hzl : z.cells.length = P.cellsOf e) (hn : 0 ≤ n ∧ n' = n ∧ n ≤ 1000000000) : QOk P gl st.own st.ev o (.xl (List.replicate n.toNat z)) := by
 intro w S m a next Q _ hS hown hm hev hnx
 obtain ⟨h0, rfl, h2⟩ := hn
 obtain ⟨hu, hne⟩ := elemT_spec he
 have hav : a.eval l = .int k n' := by
  have := strip_rep (hev l (by simp [ho, Op.operands])) (condsOk_mem hg hc l (by simp))
  rw [hl] at this; exact this.valInv
 have hcv : a.eval c = .int k' n' := by
  have := strip_rep (hev c (by simp [ho, Op.operands])) (condsOk_mem hg hc c (by simp))
  rw [hcc] at this; exact this.valInv
 obtain ⟨i, zv, f, hi, hzv, hcells, f1, fr⟩ := zeroP_spec (w := w) (N := S) hz
 have hsz : i.size = P.cellsOf e := by simp [Program.cellsOf, hi]
 have hb : (i.bytes : Int) * n' ≤ 281474976710656 := by
  rw [bytes_info hi]
  have : (P.bytesOf e : Int) * n' ≤ 1000 * 1000000000 := Int.mul_le_mul (by omega) h2 (by omega) (by omega)
  omega
 have hrun := run_make (P := P) w t e i zv hu hi hzv k k' n' n' h0 (Int.le_refl _) hb (by omega)
 have hzs : zv.cells.size = P.cellsOf e := by rw [hcells]; simpa using hzl
 have hs0 : 0 < P.cellsOf e := Nat.pos_of_ne_zero hne
 refine wp_value' (v := .slice (some ⟨w.heap.size, 0, none⟩) n'.toNat n'.toNat) (w' := w.alloc (.cells (madeCells zv.cells (n'.toNat * i.size)) e)) (by simp [execOp, ho, hav, hcv, hrun]) (hnx _ _ (below_alloc w _) (.xl _ _ _ ?_))
 have hrep : Rep (w.alloc (.cells (madeCells zv.cells (n'.toNat * i.size)) e)) (fun b => S b ∨ (w.heap.size ≤ b ∧ b < (w.alloc (.cells (madeCells zv.cells (n'.toNat * i.size)) e)).heap.size))
   (.slice (some ⟨w.heap.size, 0, none⟩) (List.replicate n'.toNat z).length n'.toNat) (.lst (List.replicate n'.toNat z)) := by
  refine .lst w.heap.size 0 n'.toNat (P.cellsOf e) _ (fun _ j => f j) (.inr ⟨Nat.le_refl _, by simp⟩) (by simp) (fun q hq => by simp [hzl]) (fun q j hq hj => ?_) (fun _ j => f1 j) (fun q hq j hj => ?_)
  ·rw [Nat.zero_add, cell_new]
   simp only [List.length_replicate] at hq
   have hlt : q * P.cellsOf e + j < n'.toNat * i.size := by rw [hsz]; exact mul_lt hq hj
   simp only [madeCells]
   rw [Array.getElem?_eq_getElem (by simpa using hlt)]
   simp only [Array.getElem_map, Array.getElem_range, hzs]
   rw [Nat.mul_comm, Nat.mul_add_mod, Nat.mod_eq_of_lt hj]
   rw [getElem!_pos zv.cells j (by rw [hzs]; exact hj)]
   congr 1
   simp only [hcells]
   simp [vrange]
  ·simp only [List.getElem_replicate] at hj ⊢
   exact (fr j hj).mono (fun b hb => heap_alloc_old w _ (hS b hb)) (fun _ => .inl)
 rw [List.length_replicate] at hrep
 exact hrep

theorem append_zero {P : Program} (w : World) (t ty e : TypeId) (i : TypeInfo) (ht : P.underlying t = some (.slice e)) (hi : P.info? e = some i) (b a : Option Addr) (n c : Nat) :
  (Builtin.append_ #[t, t] ty #[.slice b n n, .slice a 0 c]).run P w = .ok (.slice b n n) w := by
 cases b <;> cases a <;> simp [Builtin.append_, run_underlying ht, sizeOf, typeInfo, hi, Builtin.lenOf, Builtin.firstCells, loadCells, loadCellsFrom, storeCells]

theorem appendXl_ok {P : Program} {gl : List (Nat × Obj)} {st : St} {g : Option Bool} {o : Oper} {t e : TypeId} {args : Array Operand} {ts : Array TypeId} {s x : Operand} {els new : List PV} (ho : o.op = .call { callee := .builtin .append, args, argTypes := ts })
  (hs : two args.toList = some (s, x)) (ht : two ts.toList = some (t, t)) (hc : condsOk g st [s, x]) (hg : gtrue g) (he : elemT P t = some e) (hse : st.ev s = .xl els) (hsx : srcEls st.own (strip (st.ev x)) = some new)
  (hby : P.bytesOf e ≤ 1000) (hz : hasZero P e = true) (hob : (∀ p ∈ els, okEl (P.cellsOf e) p) ∧ (∀ p ∈ new, okEl (P.cellsOf e) p) ∧ els.length + new.length ≤ 1000000000)
  : QOk P gl st.own st.ev o (.pv (.lst (els ++ new))) := by
 intro w S m a next Q _ hS hown hm hev hnx
 obtain ⟨hel, hnew, hlen⟩ := hob
 obtain ⟨hu, hne⟩ := elemT_spec he
 have hs0 : 0 < P.cellsOf e := Nat.pos_of_ne_zero hne
 obtain ⟨args⟩ := args
 obtain ⟨ts⟩ := ts
 have ha := two_spec hs
 have hts := two_spec ht
 simp only at ha hts
 subst ha; subst hts
 have es := hev s (by simp [ho, Op.operands, Call.operands])
 rw [hse] at es
 have ex := strip_rep (hev x (by simp [ho, Op.operands, Call.operands])) (condsOk_mem hg hc x (by simp))
 obtain ⟨ti, z, hti, hzz⟩ := zero_info hz
 have htsz : ti.size = P.cellsOf e := by simp [Program.cellsOf, hti]
 have hX := src_spec hs0 hown ex hsx hnew
 generalize hsv : a.eval s = sv at es
 cases es with | xl ad n _ hr =>
 have hY := src_spec (st := st) (x := .pv (.lst els)) hs0 hown (.pv _ _ hr) rfl hel
 have hbytes : (els.length + new.length) * ti.bytes ≤ 140737488355328 := by
  rw [bytes_info hti]
  have : (els.length + new.length) * P.bytesOf e ≤ 1000000000 * 1000 := Nat.mul_le_mul hlen hby
  omega
 by_cases hn0 : new = []
 ·subst hn0
  have hxv : ∃ b c, a.eval x = .slice b 0 c := by
   rcases hX with ⟨c, h, _⟩ | ⟨ad, c, news, f, h, _⟩
   ·exact ⟨_, _, h⟩
   ·exact ⟨_, _, h⟩
  obtain ⟨b, c, hxv⟩ := hxv
  refine wp_value' (v := .slice ad n n) (w' := w) (by simp [execOp, ho, resolve, invoke, builtin, hsv, hxv, append_zero w t o.type e ti hu hti]) (hnx _ _ (Below.refl _ _) (.pv _ _ ?_))
  rw [List.append_nil]
  exact hr.mono (fun _ _ => rfl) (fun _ => .inl)
 ·have hnl : 0 < new.length := List.length_pos_iff.2 hn0
  rcases hX with ⟨c, _, h⟩ | ⟨ax, c, news, g, hxv, hnl2, hnc, hn1, hng, g1, gr⟩
  ·exact absurd h hn0
  have fin : ∀ (olds : List Value) (f : Nat → Nat → Value) (cap : Nat) (A : Array Value), olds.length = els.length * P.cellsOf e → els.length + new.length ≤ cap →
    (∀ q, q < (olds ++ news).length → A[q]? = (olds ++ news)[q]?) →
    (∀ k j, k < els.length → j < P.cellsOf e → olds[k * P.cellsOf e + j]? = some (f k j)) → (∀ k j, (f k j).oneCell' = true) →
    (∀ k (hk : k < els.length) j (hj : j < (els[k]).cells.length), Rep w S (f k j) (els[k]).cells[j]) →
    Rep (w.drew.alloc (.cells A e)) (fun b => S b ∨ (w.heap.size ≤ b ∧ b < (w.drew.alloc (.cells A e)).heap.size)) (.slice (some ⟨w.heap.size, 0, none⟩) (els.length + new.length) cap) (.lst (els ++ new)) := by
   intro olds f cap A hol hcap hA hf f1 fr
   have hll : (els ++ new).length = els.length + new.length := List.length_append
   rw [← hll]
   refine .lst w.heap.size 0 cap (P.cellsOf e) _ (fun k j => if k < els.length then f k j else g (k - els.length) j) (.inr ⟨Nat.le_refl _, by simp⟩) (by rw [hll]; exact hcap) (fun k hk => ?_) (fun k j hk hj => ?_) (fun k j => by split <;> simp [f1, g1]) (fun k hk j hj => ?_)
   ·rw [List.getElem_append]
    split
    ·exact (hel _ (List.getElem_mem _)).1
    ·exact (hnew _ (List.getElem_mem _)).1
   ·rw [hll] at hk
    have hsz : (w.drew.heap.size) = w.heap.size := rfl
    rw [Nat.zero_add]
    have hcn : (w.drew.alloc (.cells A e)).cell? ⟨w.heap.size, k * P.cellsOf e + j, none⟩ = A[k * P.cellsOf e + j]? := cell_new w.drew A e _
    rw [hcn]
    have hlt : k * P.cellsOf e + j < (olds ++ news).length := by
     rw [List.length_append, hol, hnl2, ← Nat.add_mul]
     exact mul_lt hk hj
    rw [hA _ hlt, List.getElem?_append, hol]
    by_cases hkk : k < els.length
    ·rw [if_pos (mul_lt hkk hj)]
     simp only [hkk, if_true]
     exact hf k j hkk hj
    ·have hle : els.length * P.cellsOf e ≤ k * P.cellsOf e := Nat.mul_le_mul_right _ (by omega)
     rw [if_neg (by omega)]
     simp only [hkk, if_false]
     rw [← hng (k - els.length) j (by omega) hj]
     congr 1
     rw [Nat.sub_mul]
     omega
   ·rw [hll] at hk
    have hmo : ∀ {v p}, Rep w S v p → Rep (w.drew.alloc (.cells A e)) (fun b => S b ∨ (w.heap.size ≤ b ∧ b < (w.drew.alloc (.cells A e)).heap.size)) v p := fun h => h.mono (fun b hb => heap_alloc_old w.drew _ (hS b hb)) (fun _ => .inl)
    by_cases hkk : k < els.length
    ·simp only [hkk, if_true]
     simp only [List.getElem_append_left hkk] at hj ⊢
     exact hmo (fr k hkk j hj)
    ·simp only [hkk, if_false]
     have hkk' : els.length ≤ k := by omega
     simp only [List.getElem_append_right hkk'] at hj ⊢
     exact hmo (gr (k - els.length) (by omega) j hj)
  have hbel : ∀ ob, Below w.heap.size w (w.drew.alloc ob) := fun ob => ⟨rfl, rfl, rfl, by simp, fun k hk => Go.heap_alloc_old w.drew _ hk⟩
  rcases hY with ⟨c0, hs1, rfl⟩ | ⟨ay, c0, olds, f, hs1, hol, hoc, ho1, hof, f1, fr⟩
  ·-- onto nil
   have hr2 := run_append_nil (P := P) w t o.type e ti z hu hti hzz ax new.length c news (by rw [hnl2, htsz]) hnc hnl (by omega) (by simp at hbytes; omega)
   cases hs1
   refine wp_value' (v := .slice (some ⟨w.heap.size, 0, none⟩) new.length (grownCap w new.length 0 e)) (w' := w.drew.alloc (.cells (news.toArray ++ Builtin.zeroCells z.cells (grownCap w new.length 0 e - new.length)) e)) (by simp [execOp, ho, resolve, invoke, builtin, hsv, hxv, hr2]) (hnx _ _ (hbel _) (.pv _ _ ?_))
   have := fin [] (fun _ _ => .bool false) (grownCap w new.length 0 e) (news.toArray ++ Builtin.zeroCells z.cells (grownCap w new.length 0 e - new.length)) (by simp) (by have := grownCap_ge w new.length 0 e; simp; omega) (fun q hq => by
    simp only [List.nil_append] at hq ⊢
    rw [Array.getElem?_append_left (by simpa using hq)]
    simp) (fun k j hk => by simp at hk) (fun _ _ => rfl) (fun k hk => by simp at hk)
   simpa using this
  ·cases hs1
   have hr2 := run_append_grow (P := P) w t o.type e ti z hu hti hzz ay els.length els.length olds (by rw [hol, htsz]) hoc ax new.length c news (by rw [hnl2, htsz]) hnc (by omega) (by omega) (growslice_fits (by omega) hbytes)
   refine wp_value' (v := .slice (some ⟨w.heap.size, 0, none⟩) (els.length + new.length) (grownCap w (els.length + new.length) els.length e)) (w' := w.drew.alloc (.cells (olds.toArray ++ news.toArray ++ Builtin.zeroCells z.cells (grownCap w (els.length + new.length) els.length e - (els.length + new.length))) e)) (by simp [execOp, ho, resolve, invoke, builtin, hsv, hxv, hr2]) (hnx _ _ (hbel _) (.pv _ _ ?_))
   exact fin olds f (grownCap w (els.length + new.length) els.length e) _ hol (grownCap_ge w (els.length + new.length) els.length e) (fun q hq => by
    rw [Array.getElem?_append_left (by simpa using hq)]
    simp [← List.getElem?_toArray, ← List.append_toArray]) hof f1 fr

end Go.Pe

/- 'qop' is met by the machine: the calls, the slices that are written out. -/
namespace Go.Pe
open Go Go.RowKit

theorem rep_cells {w : World} {S : Nat → Prop} {v : Value} {p : PV} (h : Rep w S v p) (ht : p.isTup = false) :
  ∃ f : Nat → Value, v.cells = (vrange p.cells.length f).toArray ∧ (∀ j, (f j).oneCell' = true) ∧ ∀ j (hj : j < p.cells.length), Rep w S (f j) p.cells[j] := by
 have single : ∀ {v : Value} {p : PV}, Rep w S v p → p.cells = [p] → v.oneCell' = true →
   ∃ f : Nat → Value, v.cells = (vrange p.cells.length f).toArray ∧ (∀ j, (f j).oneCell' = true) ∧ ∀ j (hj : j < p.cells.length), Rep w S (f j) p.cells[j] := by
  intro v p h hc h1
  refine ⟨fun _ => v, ?_, fun _ => h1, ?_⟩
  ·rw [hc]
   cases v <;> first | rfl | (simp [Value.oneCell'] at h1)
  ·rw [hc]
   intro j hj
   simp at hj
   subst hj
   exact h
 cases p with
 | agg cs => cases h with | agg _ f h1 hr => exact ⟨f, by simp [Value.cells, PV.cells], h1, hr⟩
 | tup _ => simp [PV.isTup] at ht
 | _ => exact single h rfl (h.one rfl)

theorem fill_row {s : Nat} : ∀ (l : List (Nat × Value)) (n : Nat) (f : Nat → Nat → Value) (A : Array Value), (n + l.length) * s ≤ A.size →
  (∀ k (hk : k < l.length), (l[k]).1 = n + k ∧ (l[k]).2.cells = (vrange s (f (n + k))).toArray) →
  ∃ A', Instr.fill (fun i => some (i * s, s)) A l = some A' ∧ A'.size = A.size ∧ (∀ k j, n ≤ k → k < n + l.length → j < s → A'[k * s + j]? = some (f k j)) ∧ (∀ q, q < n * s → A'[q]? = A[q]?)
 | [], n, f, A, _, _ => ⟨A, rfl, rfl, fun k j h1 h2 _ => by simp at h2; omega, fun _ _ => rfl⟩
 | (i, v) :: r, n, f, A, hsz, hl => by
  have h0 := hl 0 (by simp)
  simp only [List.getElem_cons_zero, Nat.add_zero] at h0
  obtain ⟨rfl, hv⟩ := h0
  have hb : (i + 1 + r.length) * s ≤ A.size := by simpa [Nat.add_assoc, Nat.add_comm 1] using hsz
  have hmul : i * s + s ≤ A.size := by
   have : (i + 1) * s ≤ (i + 1 + r.length) * s := Nat.mul_le_mul_right _ (by omega)
   rw [Nat.add_mul, Nat.one_mul] at this
   omega
  let A1 := (vrange s (f i)).zipIdx.foldl (fun cs (p : Value × Nat) => cs.setIfInBounds (i * s + p.2) p.1) A
  have hs1 : A1.size = A.size := foldl_set_size (i * s) _ 0 A
  have hg1 : ∀ q, A1[q]? = if i * s ≤ q ∧ q < i * s + s then (vrange s (f i))[q - i * s]? else A[q]? := by
   intro q
   have := foldl_set (i * s) (vrange s (f i)) 0 A q
   simp only [Nat.add_zero, List.length_map, List.length_range] at this
   rw [show A1[q]? = _ from this]
   by_cases h : i * s ≤ q ∧ q < i * s + s
   ·rw [if_pos h, if_pos (by omega)]
   ·rw [if_neg h, if_neg (by omega)]
  obtain ⟨A', h1, h2, h3, h4⟩ := fill_row r (i + 1) f A1 (by rw [hs1]; exact hb) (fun k hk => by
   have := hl (k + 1) (by simpa using hk)
   simp only [List.getElem_cons_succ] at this
   refine ⟨by omega, ?_⟩
   rw [this.2]
   congr 3
   omega)
  refine ⟨A', ?_, by rw [h2, hs1], fun k j hk1 hk2 hj => ?_, fun q hq => ?_⟩
  ·simp only [Instr.fill, hv]
   rw [if_neg (by simp; omega)]
   rw [← h1]
   congr 1
   rw [← Array.foldl_toList]
   simp [A1]
  ·by_cases hk : k = i
   ·subst hk
    rw [h4 _ (by rw [Nat.add_mul, Nat.one_mul]; omega), hg1, if_pos (by omega), vrange_get, if_pos (by omega)]
    congr 2
    omega
   ·exact h3 k j (by omega) (by simp at hk2; omega) hj
  ·rw [h4 _ (by rw [Nat.add_mul]; omega), hg1, if_neg (by omega)]

theorem inOrder_get : ∀ {n : Nat} {l : List (Nat × Operand)}, inOrder n l = true → ∀ k (hk : k < l.length), (l[k]).1 = n + k
 | n, [], _, k, hk => by simp at hk
 | n, (i, x) :: r, h, 0, _ => by simp [inOrder] at h; simpa using h.1
 | n, (i, x) :: r, h, k + 1, hk => by
  simp [inOrder] at h
  have := inOrder_get h.2 k (by simpa using hk)
  simp only [List.getElem_cons_succ]
  omega

theorem run_buildSlice {P : Program} {t e : TypeId} (he : elemT P t = some e) (hz : hasZero P e = true) {n : Nat} (hn : n * P.cellsOf e < 65536) (l : List (Nat × Value)) (hl : l.length = n)
  (f : Nat → Nat → Value) (h : ∀ k (hk : k < l.length), (l[k]).1 = k ∧ (l[k]).2.cells = (vrange (P.cellsOf e) (f k)).toArray) (w : World) :
  ∃ A : Array Value, (Instr.buildSlice t n l.toArray).run P w = .ok (.slice (some ⟨w.heap.size, 0, none⟩) n n) (w.alloc (.cells A e)) ∧ A.size = n * P.cellsOf e ∧
   ∀ k j, k < n → j < P.cellsOf e → A[k * P.cellsOf e + j]? = some (f k j) := by
 obtain ⟨hu, hne⟩ := elemT_spec he
 obtain ⟨i, hi, hsz⟩ := cellsOf_info hne
 obtain ⟨z, hzz⟩ : ∃ z, i.zero = some z := by
  unfold hasZero at hz
  rw [hi] at hz
  cases hzi : i.zero with
  | none => simp [hzi] at hz
  | some z => exact ⟨z, rfl⟩
 have hbig : ¬ (n * i.size > 2 ^ 24) := by rw [hsz]; omega
 have fin : ∀ (zc : Array Value), ∃ A : Array Value, Instr.fill (fun q => some (q * i.size, i.size)) ((Array.range (n * i.size)).map fun x => zc[x % zc.size]!) l = some A ∧ A.size = n * P.cellsOf e ∧
   ∀ k j, k < n → j < P.cellsOf e → A[k * P.cellsOf e + j]? = some (f k j) := by
  intro zc
  rw [hsz]
  obtain ⟨A, h1, h2, h3, _⟩ := fill_row (s := P.cellsOf e) l 0 f ((Array.range (n * P.cellsOf e)).map fun x => zc[x % zc.size]!) (by simp [hl]) (fun k hk => by simpa using h k hk)
  exact ⟨A, h1, by simp [h2], fun k j hk hj => h3 k j (Nat.zero_le _) (by omega) hj⟩
 by_cases h0 : n * i.size = 0
 ·obtain ⟨A, h1, h2, h3⟩ := fin #[]
  refine ⟨A, ?_, h2, h3⟩
  rw [h0] at h1
  simp [Instr.buildSlice, run_underlying hu, run_sizeOf hi, h0, newRow]
  simp at h1
  rw [h1]
  simp
 ·obtain ⟨A, h1, h2, h3⟩ := fin z.cells
  refine ⟨A, ?_, h2, h3⟩
  simp [Instr.buildSlice, run_underlying hu, run_sizeOf hi, h0, hbig, newRow, zeroValue, typeInfo, hi, hzz]
  rw [h1]
  simp

theorem buildSlice_ok {P : Program} {gl : List (Nat × Obj)} {st : St} {g : Option Bool} {o : Oper} {t e : TypeId} {n : Nat} {parts : Array (Nat × Operand)} {els : List PV} (ho : o.op = .buildSlice t n parts)
  (hc : condsOk g st (parts.toList.map (·.2))) (he : elemT P t = some e) (hs : snapL [] [] (parts.toList.map fun x => strip (st.ev x.2)) = some els)
  (hin : inOrder 0 parts.toList = true) (hn : n = parts.size) (hsz : n * P.cellsOf e < 65536) (hz : hasZero P e = true) (hel : ∀ p ∈ els, okEl (P.cellsOf e) p) :
  gtrue g → QOk P gl st.own st.ev o (.xl els) := by
 intro hg w S m a next Q _ hS hown hm hev hn'
 obtain ⟨parts⟩ := parts
 simp only at hc hs hin
 simp only [List.size_toArray] at hn
 obtain ⟨hl, hsn⟩ := mapO_spec hs
 simp only [List.length_map] at hl
 have hops : o.op.operands.toList = parts.map (·.2) := by rw [ho]; simp [Op.operands]
 have hrep : ∀ k (hk : k < els.length), Rep w S (a.eval (parts[k]'(by omega)).2) els[k] := by
  intro k hk
  have hq : (parts[k]'(by omega)).2 ∈ parts.map (·.2) := List.mem_map.2 ⟨_, List.getElem_mem _, rfl⟩
  have h1 := strip_rep (hev _ (by rw [hops]; exact hq)) (condsOk_mem hg hc _ hq)
  have h2 := hsn k (by simp; omega) hk
  simp only [List.getElem_map] at h2
  exact snapD_rep (own := []) (ds := []) (m := m) (fun i b v h => by simp at h) (fun _ => id) (fun i b h => by simp at h) 8 _ _ _ h1 h2
 have hcs : ∀ k, ∃ f : Nat → Value, (∀ (hk : k < els.length), (a.eval (parts[k]'(by omega)).2).cells = (vrange (P.cellsOf e) f).toArray ∧ ∀ j (hj : j < (els[k]).cells.length), Rep w S (f j) (els[k]).cells[j]) ∧ ∀ j, (f j).oneCell' = true := by
  intro k
  by_cases hk : k < els.length
  ·have hok := hel _ (List.getElem_mem hk)
   obtain ⟨f, h1, h2, h3⟩ := rep_cells (hrep k hk) hok.2
   exact ⟨f, fun _ => ⟨by rw [← hok.1]; exact h1, h3⟩, h2⟩
  ·exact ⟨fun _ => .bool false, fun h => absurd h hk, fun _ => rfl⟩
 let F : Nat → Nat → Value := fun k => Classical.choose (hcs k)
 have hF := fun k => Classical.choose_spec (hcs k)
 obtain ⟨A, hrun, hA, hget⟩ := run_buildSlice he hz (n := n) hsz (parts.map fun (i, x) => (i, a.eval x)) (by simp [hn]) F (fun k hk => by
  simp only [List.length_map] at hk
  have h1 := inOrder_get hin k hk
  simp only [List.getElem_map]
  exact ⟨by omega, ((hF k).1 (by omega)).1⟩) w
 have hne := (elemT_spec he).2
 refine wp_value' (v := .slice (some ⟨w.heap.size, 0, none⟩) n n) (w' := w.alloc (.cells A e)) (by simp [execOp, ho, hrun]) (hn' _ _ (below_alloc w _) (.xl _ _ _ ?_))
 have hln : n = els.length := by omega
 rw [hln]
 refine .lst w.heap.size 0 els.length (P.cellsOf e) els F (.inr ⟨Nat.le_refl _, by simp⟩) (Nat.le_refl _) (fun k hk => (hel _ (List.getElem_mem hk)).1) (fun k j hk hj => ?_) (fun k j => (hF k).2 j) (fun k hk j hj => ?_)
 ·rw [Nat.zero_add, cell_new]; exact hget k j (by omega) hj
 ·exact (((hF k).1 hk).2 j hj).mono (fun b hb => heap_alloc_old w _ (hS b hb)) (fun _ => .inl)

theorem call_ok {P : Program} {gl : List (Nat × Obj)} {st : St} {g : Option Bool} {o : Oper} {f : Operand} {args : Array Operand} {ts : Array TypeId} {fid : FuncId} {caps : List FV} {as : List PV} {r : PV}
  (ho : o.op = .call { callee := .value f, args, argTypes := ts }) (hc : condsOk g st (f :: args.toList))
  (hf : asFn (strip (st.ev f)) = some (fid, caps)) (hs : snapL [] [] ((args.toList.map fun x => strip (st.ev x)) ++ caps) = some as)
  (hfs : gtrue g → FS P gl fid as (fun r' => r' = r)) : gtrue g → QOk P gl st.own st.ev o (.pv r) := by
 intro hg w S m a next Q hgl hS hown hm hev hn
 obtain ⟨hcall, hfs⟩ := hfs hg
 obtain ⟨gv, hrun, hrep⟩ := args_rep (P := P) ho (fun q hq => condsOk_mem hg hc q hq) hf hev hcall
 obtain ⟨hl, hsn⟩ := mapO_spec hs
 unfold Oper.wp
 rw [hrun, hl]
 refine (hfs w S gv hgl hS (fun j hj => ?_)).mono ?_
 ·exact snapD_rep (own := []) (ds := []) (m := m) (fun i b v h => by simp at h) (fun _ => id) (fun i b h => by simp at h) 8 _ _ _ (hrep j (by omega)) (hsn j (by omega) hj)
 ·rintro e w' ⟨v, r', rfl, rfl, hb, hr⟩
  exact hn v w' hb (.pv _ _ hr)

theorem row_lt {w : World} {S : Nat → Prop} {v : Value} {e : TypeId} {s : Nat} {els : List PV} {b : Nat} (h : RowOk w S v e s els) (hb : blk v = some b) : b < w.heap.size := by
 obtain ⟨xs, f, hown, _⟩ := h
 rcases hown.2 with ⟨rfl, _⟩ | ⟨g, cap, cur, rfl, _, hk, _⟩
 ·simp [blk] at hb
 ·simp only [blk, Option.some.injEq] at hb
  subst hb
  rcases Nat.lt_or_ge g w.heap.size with h1 | h1
  ·exact h1
  ·rw [Array.getElem?_eq_none h1] at hk; cases hk

theorem tree_leaf {w : World} {v : MV} {e : TypeId} {s : Nat} {et : TypeId} {els : List PV} (h : TreeOk w v e s et els) {n b : Nat} {g : Value} (hn : v.2[n]? = some g) (hb : blk g = some b) :
  ∃ k j, n = k * s + j ∧ j < s ∧ ∃ (hk : k < els.length) (hj : j < (els[k]).cells.length), ∃ l, (els[k]).cells[j] = .lst l ∧ RowOk w (fun _ => False) g et 1 l := by
 obtain ⟨xs, f, _, h2, _, h4, _, h6, h7, _, _⟩ := h
 have hlt : n < v.2.length := (List.getElem?_eq_some_iff.1 hn).1
 rw [h6] at hlt
 have hk : n / s < els.length := (Nat.div_lt_iff_lt_mul h2).2 hlt
 have hj : n % s < s := Nat.mod_lt _ h2
 have e1 : n = n / s * s + n % s := by rw [Nat.mul_comm]; exact (Nat.div_add_mod n s).symm
 refine ⟨n / s, n % s, e1, hj, hk, by rw [h4 _ hk]; exact hj, ?_⟩
 obtain ⟨g', hg', hl⟩ := h7 (n / s) hk (n % s) (by rw [h4 _ hk]; exact hj)
 rw [← e1, hn] at hg'
 cases hg'
 rcases hl with ⟨h0, _⟩ | ⟨l, hl, rfl, hr⟩
 ·rw [h0] at hb; cases hb
 ·exact ⟨l, hl, hr⟩

theorem own_lt {w : World} {S : Nat → Prop} {m : Nat → Option MV} {v : MV} {bl : Blk} {b : Nat} (h : OwnOk w S m v bl) (hl : bl.live = true) (hb : hasB v b) : b < w.heap.size := by
 have fin : ∀ {k : Nat} {o : Obj}, w.heap[k]? = some o → k < w.heap.size := by
  intro k o hk
  rcases Nat.lt_or_ge k w.heap.size with h1 | h1
  ·exact h1
  ·rw [Array.getElem?_eq_none h1] at hk; cases hk
 obtain ⟨v, gs⟩ := v
 cases bl with
 | gone => cases hl
 | box cs =>
  obtain ⟨h0, k, T, f, h1, hk, _⟩ := h
  rcases hb with hb | ⟨u, hu, _⟩
  ·rw [h1] at hb
   simp only [blk, Option.some.injEq] at hb
   subst hb
   exact fin hk
  ·rw [h0] at hu; cases hu
 | row e s els =>
  rcases hb with hb | ⟨u, hu, _⟩
  ·exact row_lt h.2 hb
  ·rw [h.1] at hu; cases hu
 | tree e s et els =>
  rcases hb with hb | ⟨u, hu, hb⟩
  ·obtain ⟨xs, f, hown, _⟩ := h
   rcases hown.2 with ⟨h5, _⟩ | ⟨g, cap, cur, h5, _, hk, _⟩
   ·simp only at h5; rw [h5] at hb; simp [blk] at hb
   ·simp only at h5; rw [h5] at hb
    simp only [blk, Option.some.injEq] at hb
    subst hb
    exact fin hk
  ·obtain ⟨n, hn⟩ := List.getElem?_of_mem hu
   obtain ⟨_, _, _, _, _, _, l, _, hr⟩ := tree_leaf h hn hb
   exact row_lt hr hb

theorem call_ok2 {P : Program} {gl : List (Nat × Obj)} {st : St} {g : Option Bool} {o : Oper} {f : Operand} {args : Array Operand} {ts : Array TypeId} {fid : FuncId} {caps : List FV} {as : List PV} {r : PV} {u : PV}
  (ho : o.op = .call { callee := .value f, args, argTypes := ts }) (hc : condsOk g st (f :: args.toList))
  (hf : asFn (strip (st.ev f)) = some (fid, caps)) (hs : snapL st.own (idsL st.own ((args.toList.map fun x => strip (st.ev x)) ++ caps)) ((args.toList.map fun x => strip (st.ev x)) ++ caps) = some as)
  (hfs : gtrue g → FS P gl fid as (fun r' => r' = r)) (hr : flatO r = some u) : gtrue g → QOk P gl st.own st.ev o (.pv r) := by
 intro hg w S m a next Q hgl hS hown hm hev hn
 obtain ⟨hcall, hfs⟩ := hfs hg
 obtain ⟨gv, hrun, hrep⟩ := args_rep (P := P) ho (fun q hq => condsOk_mem hg hc q hq) hf hev hcall
 obtain ⟨hl, hsn⟩ := mapO_spec hs
 unfold Oper.wp
 rw [hrun, hl]
 generalize hds : idsL st.own ((args.toList.map fun x => strip (st.ev x)) ++ caps) = ds at hs hsn
 refine (hfs w (fun b => S b ∨ ∃ i, i ∈ ds ∧ lives st.own i ∧ mblk m i b) gv hgl (fun b hb => ?_) (fun j hj => ?_)).mono ?_
 ·rcases hb with hb | ⟨i, _, ⟨bl, hi, hlv⟩, hb⟩
  ·exact hS b hb
  ·obtain ⟨v, hmi, hb⟩ := hb
   exact own_lt (hown i bl v hi hlv hmi) hlv hb
 ·exact snapD_rep (own := st.own) (ds := ds) (m := m) hown (fun _ => .inl) (fun i b hi hlv hb => .inr ⟨i, hi, hlv, hb⟩) 8 _ _ _ (hrep j (by omega)) (hsn j (by omega) hj)
 ·rintro e w' ⟨v, r', rfl, rfl, hb, hrr⟩
  refine hn v w' hb ?_
  exact .pv _ _ (flatO_rep hr hrr)

theorem qop_spec {P : Program} {gl : List (Nat × Obj)} {st : St} {g : Option Bool} {o : Oper} {K : FV → Prop} (h : qop P gl st g o K) :
  ∃ x, K x ∧ (gtrue g → QOk P gl st.own st.ev o x) := by
 have dflt : ∀ op, o.op = op → (condsOk g st op.operands.toList ∧ popK g K (pop P st.own (fun x => strip (st.ev x)) op)) → ∃ x, K x ∧ (gtrue g → QOk P gl st.own st.ev o x) := by
  rintro op rfl ⟨hc, h⟩
  unfold popK at h
  split at h
  ·rename_i ob x hp
   exact ⟨x, h.2, pop_ok hp (fun _ => hc) (imp_iff.1 h.1)⟩
  ·exact h.elim
 generalize hop : o.op = op at h
 unfold qop at h
 rw [hop] at h
 cases op with
 | pick c p q =>
  simp only at h
  split at h
  ·rename_i t hc
   split at h
   ·rename_i x hx
    obtain ⟨h1, h2, hk⟩ := h
    exact ⟨x, hk, fun hg => pick_ok hop (by rw [hc]; rfl) (by rw [hc]; trivial) hx (imp_iff.1 h1 hg) (imp_iff.1 h2 hg)⟩
   ·exact h.elim
  ·rename_i c' t hc
   split at h
   ·rename_i x hx
    obtain ⟨h0, h1, h2, hk⟩ := h
    exact ⟨x, hk, fun hg => pick_ok hop (by rw [hc]; rfl) (by rw [hc]; exact imp_iff.1 h0 hg) hx (imp_iff.1 h1 hg) (imp_iff.1 h2 hg)⟩
   ·exact h.elim
  ·exact h.elim
 | buildSlice t n parts =>
  simp only at h
  obtain ⟨hc, h⟩ := h
  split at h
  ·rename_i e els he hs
   split at h
   ·rename_i hcond
    simp only [Bool.and_eq_true, beq_iff_eq, decide_eq_true_eq] at hcond
    exact ⟨_, h.2, buildSlice_ok hop hc he hs hcond.1.1.1 hcond.1.1.2 hcond.1.2 hcond.2 h.1⟩
   ·exact h.elim
  ·exact h.elim
 | makeSlice t l c =>
  simp only at h
  obtain ⟨hc, h⟩ := h
  split at h
  ·rename_i e he
   split at h
   ·rename_i z k1 n k2 n' hz hl hcc
    split at h
    ·rename_i hcond
     exact ⟨_, h.2, fun hg => makeXl_ok hop (hc := hc) hg he hz hl hcc hcond.1 hcond.2 (imp_iff.1 h.1 hg)⟩
    ·exact h.elim
   ·exact h.elim
  ·exact h.elim
 | call c =>
  obtain ⟨callee, args, ts⟩ := c
  cases callee with
  | builtin b =>
   cases b with
   | append =>
    simp only at h
    split at h
    ·rename_i s x t t' hs ht
     obtain ⟨hc, h⟩ := h
     split at h
     ·rename_i e he
      split at h
      ·rename_i els new hse hsx
       split at h
       ·rename_i hcond
        obtain ⟨rfl, hby, hz⟩ := hcond
        exact ⟨_, h.2, fun hg => appendXl_ok hop hs ht hc hg he hse hsx hby hz (imp_iff.1 h.1 hg)⟩
       ·exact h.elim
      ·exact h.elim
     ·exact h.elim
    ·exact h.elim
   | _ => exact dflt _ hop (by simpa using h)
  | value f =>
   simp only at h
   obtain ⟨hc, h⟩ := h
   split at h
   ·rename_i fid caps hf
    split at h
    ·rename_i as hs
     obtain ⟨r, hfs, hk⟩ := h
     exact ⟨_, hk, call_ok hop hc hf hs (imp_iff.1 hfs)⟩
    ·split at h
     ·rename_i as hs
      obtain ⟨r, hfs, ⟨u, hu⟩, hk⟩ := h
      exact ⟨_, hk, call_ok2 hop hc hf hs (imp_iff.1 hfs) hu⟩
     ·exact h.elim
   ·exact h.elim
  | _ => exact dflt _ hop (by simpa using h)
 | _ => exact dflt _ hop (by simpa using h)

end Go.Pe

