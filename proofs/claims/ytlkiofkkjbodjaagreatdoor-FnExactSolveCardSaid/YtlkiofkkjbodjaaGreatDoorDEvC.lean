/- Regions, in the order of the text and in whatever order: the conditions of a region are sound: no condition on the input. -/
import Derived.Test.YtlkiofkkjbodjaaGreatDoorDEvB
import Derived.Deep.LoopGhost
set_option linter.unusedSimpArgs false
set_option linter.unusedVariables false
/- A region, in the order of its text, or in whatever order its edges allow. -/
namespace Go.Pe
open Go Go.RowKit

section
variable {P : Program} {gl : List (Nat × Obj)} {S X : Nat → Prop} {w0 w w' : World} {m0 m : Nat → Option MV} {st : St} {a : Act}

theorem wanted_none {o : Oper} (h : o.guard = none) (y : Nat → Option Bool) : Region.wanted o y = true := by
 unfold Region.wanted; rw [h]

theorem step_sound (E : Env P gl S X w0) (h : Sim S X w0 m0 st a w m) {ops : Array Oper} {o : Oper} {K : St → Prop} (hv : stepVC P gl ops.toList o st K) {next : Act → World → Prop} {Q : Exit → Act → World → Prop}
  (hn : ∀ st' a' w' m', Sim S X w0 m0 st' a' w' m' → K st' → next a' w') :
  if Region.wanted o (yielded ops a.tmps) then o.wp P a w next Q ∨ (o.asks P a w ∧ LetsOut Q) else next (a.put o.dst undef) w := by
 unfold stepVC at hv
 cases hg : o.guard with
 | none =>
  rw [hg] at hv
  rw [if_pos (wanted_none hg _)]
  exact .inl (eff_sound E h hv hn)
 | some jw =>
  obtain ⟨j, want⟩ := jw
  rw [hg] at hv
  simp only at hv
  split at hv
  ·rename_i g hgc
   rw [gcond_spec h hg hgc]
   obtain ⟨x, hk, hok⟩ := qop_spec hv
   cases g with
   | true =>
    rw [if_pos rfl]
    exact .inl (quiet_step E h (hok rfl) (fun q _ => h.evs q) (fun v w' hs hr => hn _ _ w' m (hs.put (.iff _ _ _ (fun _ => hr) (fun e => by cases e))) hk))
   | false =>
    rw [if_neg (by simp)]
    exact hn _ _ w m (h.put (.iff _ _ _ (fun e => by cases e) (fun _ => rfl))) hk
  ·exact hv.elim

theorem step_sound1 (E : Env P gl S X w0) (h : Sim S X w0 m0 st a w m) {ops : Array Oper} {o : Oper} {K : St → Prop} (hv : stepVC P gl ops.toList o st K) {next : Act → World → Prop} {Q : Exit → Act → World → Prop}
  (hn : ∀ st' a' w' m', Sim S X w0 m0 st' a' w' m' → K st' → next a' w') :
  if Region.wanted o (yielded ops a.tmps) then o.wp P a w next Q else next (a.put o.dst undef) w := by
 unfold stepVC at hv
 cases hg : o.guard with
 | none =>
  rw [hg] at hv
  rw [if_pos (wanted_none hg _)]
  exact eff_sound E h hv hn
 | some jw =>
  obtain ⟨j, want⟩ := jw
  rw [hg] at hv
  simp only at hv
  split at hv
  ·rename_i g hgc
   rw [gcond_spec h hg hgc]
   obtain ⟨x, hk, hok⟩ := qop_spec hv
   cases g with
   | true =>
    rw [if_pos rfl]
    exact (quiet_step E h (hok rfl) (fun q _ => h.evs q) (fun v w' hs hr => hn _ _ w' m (hs.put (.iff _ _ _ (fun _ => hr) (fun e => by cases e))) hk))
   | false =>
    rw [if_neg (by simp)]
    exact hn _ _ w m (h.put (.iff _ _ _ (fun e => by cases e) (fun _ => rfl))) hk
  ·exact hv.elim

theorem seq_sound (E : Env P gl S X w0) {ops : Array Oper} {Q : Exit → Act → World → Prop} {K : St → Prop} (hK : ∀ st a w m, Sim S X w0 m0 st a w m → K st → Q .normal a w) :
  ∀ (l : List Oper) (st : St) (a : Act) (w : World) (m : Nat → Option MV), Sim S X w0 m0 st a w m → seqVC P gl ops.toList l st K → wpList P ops Q l a w
 | [], st, a, w, m, h, hv => hK st a w m h hv
 | o :: r, st, a, w, m, h, hv => by
  unfold wpList
  have := step_sound E h (ops := ops) (o := o) (Q := Q) hv (next := wpList P ops Q r) (fun st' a' w' m' hs hk => seq_sound E hK r st' a' w' m' hs hk)
  split
  ·rename_i hw; rw [if_pos hw] at this; exact this
  ·rename_i hw; rw [if_neg hw] at this; exact this

def stE (E : Nat → Bool) : Nat → List (Option Tmp × FV) → St → St
 | _, [], st => st
 | i, d :: r, st => stE E (i + 1) r (if E i then st.put d.1 d.2 else st)

theorem put_own (st : St) (t : Option Nat) (x : FV) : (st.put t x).own = st.own ∧ (st.put t x).nt = st.nt ∧ (st.put t x).k0 = st.k0 := by
 unfold St.put
 split
 ·exact ⟨rfl, rfl, rfl⟩
 ·split <;> exact ⟨rfl, rfl, rfl⟩

theorem put_get (st : St) (t : Option Nat) (x : FV) (q : Nat) : (st.put t x).get q = if t = some q ∧ q < st.nt then x else st.get q := by
 unfold St.put
 cases t with
 | none => simp
 | some t =>
  simp only [Option.some.injEq]
  split
  ·rename_i ht
   simp only [St.get, look_put]
   by_cases he : q = t
   ·subst he; rw [if_pos rfl, if_pos ⟨rfl, ht⟩]
   ·rw [if_neg he, if_neg (fun h => he h.1.symm)]
  ·rename_i ht
   rw [if_neg (fun h => ht (by rw [h.1]; exact h.2))]

theorem stE_own (E : Nat → Bool) : ∀ (l : List (Option Tmp × FV)) (i : Nat) (st : St), (stE E i l st).own = st.own ∧ (stE E i l st).nt = st.nt ∧ (stE E i l st).k0 = st.k0
 | [], i, st => ⟨rfl, rfl, rfl⟩
 | d :: r, i, st => by
  obtain ⟨h1, h2, h3⟩ := stE_own E r (i + 1) (if E i then st.put d.1 d.2 else st)
  simp only [stE]
  rw [h1, h2, h3]
  split
  ·exact put_own st d.1 d.2
  ·exact ⟨rfl, rfl, rfl⟩

theorem stE_none {E : Nat → Bool} : ∀ {l : List (Option Tmp × FV)} {i : Nat} {st : St} {t : Nat}, (∀ k (hk : k < l.length), E (i + k) = true → (l[k]).1 ≠ some t) → (stE E i l st).get t = st.get t
 | [], i, st, t, _ => rfl
 | d :: r, i, st, t, h => by
  simp only [stE]
  rw [stE_none (fun k hk he => by have := h (k + 1) (by simpa using hk) (by rw [show i + (k + 1) = i + 1 + k by omega]; exact he); simpa using this)]
  split
  ·rename_i hE
   rw [put_get, if_neg]
   intro hc
   exact h 0 (by simp) (by simpa using hE) (by simpa using hc.1)
  ·rfl

theorem stE_some {E : Nat → Bool} : ∀ {l : List (Option Tmp × FV)} {i : Nat} {st : St} {t : Nat} (k : Nat) (hk : k < l.length), E (i + k) = true → (l[k]).1 = some t → t < st.nt →
  (∀ q (hq : q < l.length), q ≠ k → (l[q]).1 ≠ some t) → (stE E i l st).get t = (l[k]).2
 | d :: r, i, st, t, 0, hk, hE, hd, hnt, hu => by
  simp only [List.getElem_cons_zero] at hd ⊢
  simp only [stE]
  rw [stE_none (fun k hk' _ => by have := hu (k + 1) (by simpa using hk') (by omega); simpa using this)]
  rw [if_pos (by simpa using hE), put_get, if_pos ⟨hd, hnt⟩]
 | d :: r, i, st, t, k + 1, hk, hE, hd, hnt, hu => by
  simp only [List.getElem_cons_succ] at hd ⊢
  simp only [stE]
  refine stE_some k (by simpa using hk) (by rw [show i + 1 + k = i + (k + 1) by omega]; exact hE) hd ?_ (fun q hq hne => by have := hu (q + 1) (by simpa using hq) (by omega); simpa using this)
  split
  ·rw [(put_own st d.1 d.2).2.1]; exact hnt
  ·exact hnt

theorem Sim.congr (h : Sim S X w0 m0 st a w m) {st' : St} (h1 : st'.own = st.own) (h2 : st'.nt = st.nt) (h3 : st'.k0 = st.k0) (hg : ∀ t, st'.get t = st.get t) : Sim S X w0 m0 st' a w m := by
 refine ⟨h.bel, by rw [h1]; exact h.ows, by rw [h1]; exact h.bnd, by rw [h3]; exact h.fix, by rw [h3, h1]; exact h.k0, by rw [h2]; exact h.nt, h.df, fun t => by rw [h1, hg]; exact h.slots t⟩

inductive Quiet (P : Program) (gl : List (Nat × Obj)) (L : List Oper) : Nat → List Oper → St → List (Option Tmp × FV) → Prop
 | nil (c : Nat) (st : St) : Quiet P gl L c [] st []
 | plain (c : Nat) (o : Oper) (r : List Oper) (st : St) (x : FV) (l : List (Option Tmp × FV)) : allocOf P o = none → o.guard = none → QOk P gl st.own st.ev o x → Quiet P gl L c r (st.put o.dst x) l → Quiet P gl L c (o :: r) st ((o.dst, x) :: l)
 | guard (c : Nat) (o : Oper) (r : List Oper) (st : St) (x : FV) (l : List (Option Tmp × FV)) (j : Nat) (want g : Bool) : allocOf P o = none → o.guard = some (j, want) → gcond L st j want = some g → (g = true → QOk P gl st.own st.ev o x) →
   Quiet P gl L c r (st.put o.dst (.iff g x)) l → Quiet P gl L c (o :: r) st ((o.dst, .iff g x) :: l)
 | alloc (c : Nat) (o : Oper) (r : List Oper) (st : St) (cs : List FV) (l : List (Option Tmp × FV)) : allocOf P o = some cs → Quiet P gl L (c + 1) r (st.put o.dst (.box c 0)) l → Quiet P gl L c (o :: r) st ((o.dst, .box c 0) :: l)

theorem quiet_spec {L : List Oper} {K : St → Prop} : ∀ {r : List Oper} {c : Nat} {st : St}, quietVC P gl L c r st K → ∃ l, Quiet P gl L c r st l ∧ K (stE (fun _ => true) 0 l st)
 | [], c, st, h => ⟨[], .nil c st, h⟩
 | o :: r, c, st, h => by
  have shift : ∀ (l : List (Option Tmp × FV)) (i : Nat) (st : St), stE (fun _ => true) i l st = stE (fun _ => true) 0 l st := by
   intro l
   induction l with
   | nil => intro i st; rfl
   | cons d l ih => intro i st; simp only [stE]; rw [ih, ih 1]
  simp only [quietVC, quietVC1] at h
  cases ha : allocOf P o with
  | some cs =>
   rw [ha] at h
   simp only at h
   obtain ⟨l, hl, hK⟩ := quiet_spec h
   refine ⟨_, .alloc c o r st cs l ha hl, ?_⟩
   simp only [stE, if_true]
   rw [shift]
   exact hK
  | none =>
  rw [ha] at h
  simp only at h
  cases hg : o.guard with
  | none =>
   rw [hg] at h
   obtain ⟨x, hk, hok⟩ := qop_spec h
   obtain ⟨l, hl, hK⟩ := quiet_spec hk
   refine ⟨_, .plain c o r st x l ha hg (hok trivial) hl, ?_⟩
   simp only [stE, if_true]
   rw [shift]
   exact hK
  | some jw =>
   obtain ⟨j, want⟩ := jw
   rw [hg] at h
   simp only at h
   split at h
   ·rename_i g hgc
    obtain ⟨x, hk, hok⟩ := qop_spec h
    obtain ⟨l, hl, hK⟩ := quiet_spec hk
    refine ⟨_, .guard c o r st x l j want g ha hg hgc (fun e => hok e) hl, ?_⟩
    simp only [stE, if_true]
    rw [shift]
    exact hK
   ·exact h.elim

theorem fillsOf_mem : ∀ {r : List Oper} {i0 c i c' : Nat} {cs : List FV}, (i, c', cs) ∈ fillsOf P i0 c r → i0 ≤ i ∧ c ≤ c' ∧ c' < c + (fillsOf P i0 c r).length ∧ ∃ hi : i - i0 < r.length, allocOf P (r[i - i0]) = some cs
 | [], i0, c, i, c', cs, h => by simp [fillsOf] at h
 | o :: r, i0, c, i, c', cs, h => by
  simp only [fillsOf] at h ⊢
  split at h
  ·rename_i cs0 ha
   simp only [List.length_cons]
   rcases List.mem_cons.1 h with he | h
   ·simp only [Prod.mk.injEq] at he
    obtain ⟨rfl, rfl, rfl⟩ := he
    have e : i - i = 0 := Nat.sub_self i
    exact ⟨Nat.le_refl _, Nat.le_refl _, by omega, by rw [e]; exact Nat.succ_pos _, by simp only [e, List.getElem_cons_zero]; exact ha⟩
   ·obtain ⟨h1, h2, h3, h4, h5⟩ := fillsOf_mem h
    have hlt : i - i0 < (o :: r).length := by simp only [List.length_cons]; omega
    refine ⟨by omega, by omega, by omega, hlt, ?_⟩
    have e : i - i0 = (i - (i0 + 1)) + 1 := by omega
    simp only [e, List.getElem_cons_succ]
    exact h5
  ·rename_i ha
   obtain ⟨h1, h2, h3, h4, h5⟩ := fillsOf_mem h
   have hlt : i - i0 < (o :: r).length := by simp only [List.length_cons]; omega
   refine ⟨by omega, h2, h3, hlt, ?_⟩
   have e : i - i0 = (i - (i0 + 1)) + 1 := by omega
   simp only [e, List.getElem_cons_succ]
   exact h5

theorem Quiet.at {L : List Oper} : ∀ {c : Nat} {r : List Oper} {st : St} {l : List (Option Tmp × FV)}, Quiet P gl L c r st l → ∀ i0 : Nat, l.length = r.length ∧ ∀ i (hi : i < r.length) (hi' : i < l.length),
  (l[i]).1 = (r[i]).dst ∧ ((allocOf P r[i] = none ∧ (r[i]).guard = none ∧ QOk P gl st.own (stE (fun k => decide (k < i)) 0 l st).ev r[i] (l[i]).2) ∨
   (∃ j want g x, allocOf P r[i] = none ∧ (r[i]).guard = some (j, want) ∧ gcond L (stE (fun k => decide (k < i)) 0 l st) j want = some g ∧ (l[i]).2 = .iff g x ∧ (g = true → QOk P gl st.own (stE (fun k => decide (k < i)) 0 l st).ev r[i] x)) ∨
   ∃ c' cs, allocOf P r[i] = some cs ∧ (l[i]).2 = .box c' 0 ∧ (i0 + i, c', cs) ∈ fillsOf P i0 c r) := by
 have zero : ∀ (l : List (Option Tmp × FV)) (i : Nat) (st : St), stE (fun k => decide (k < 0)) i l st = st := by
  intro l
  induction l with
  | nil => intro i st; rfl
  | cons d l ih => intro i st; simp only [stE, Nat.not_lt_zero, decide_false, Bool.false_eq_true, if_false]; simpa using ih (i + 1) st
 have shift : ∀ (l : List (Option Tmp × FV)) (i n : Nat) (st : St), stE (fun k => decide (k < n + 1)) (i + 1) l st = stE (fun k => decide (k < n)) i l st := by
  intro l
  induction l with
  | nil => intro i n st; rfl
  | cons d l ih => intro i n st; simp only [stE]; rw [ih]; congr 1; simp
 intro c r st l h
 induction h with
 | nil c st => exact fun i0 => ⟨rfl, fun i hi => by simp at hi⟩
 | plain c o r st x l ha hg hok _ ih =>
  intro i0
  have ih := ih (i0 + 1)
  refine ⟨by simp [ih.1], fun i hi hi' => ?_⟩
  cases i with
  | zero =>
   simp only [List.getElem_cons_zero]
   exact ⟨trivial, .inl ⟨ha, hg, by rw [zero]; exact hok⟩⟩
  | succ i =>
   simp only [List.getElem_cons_succ]
   have := ih.2 i (by simpa using hi) (by simpa using hi')
   simp only [stE, shift, fillsOf, ha]
   rw [show (if decide (0 < i + 1) = true then st.put o.dst x else st) = st.put o.dst x by simp]
   rw [(put_own st o.dst x).1] at this
   rw [show i0 + (i + 1) = i0 + 1 + i by omega]
   exact this
 | guard c o r st x l j want g ha hg hgc hok _ ih =>
  intro i0
  have ih := ih (i0 + 1)
  refine ⟨by simp [ih.1], fun i hi hi' => ?_⟩
  cases i with
  | zero =>
   simp only [List.getElem_cons_zero]
   exact ⟨trivial, .inr (.inl ⟨j, want, g, x, ha, hg, by rw [zero]; exact hgc, rfl, by rw [zero]; exact hok⟩)⟩
  | succ i =>
   simp only [List.getElem_cons_succ]
   have := ih.2 i (by simpa using hi) (by simpa using hi')
   simp only [stE, shift, fillsOf, ha]
   rw [show (if decide (0 < i + 1) = true then st.put o.dst (.iff g x) else st) = st.put o.dst (.iff g x) by simp]
   rw [(put_own st o.dst (.iff g x)).1] at this
   rw [show i0 + (i + 1) = i0 + 1 + i by omega]
   exact this
 | alloc c o r st cs l ha _ ih =>
  intro i0
  have ih := ih (i0 + 1)
  refine ⟨by simp [ih.1], fun i hi hi' => ?_⟩
  cases i with
  | zero =>
   simp only [List.getElem_cons_zero]
   exact ⟨trivial, .inr (.inr ⟨c, cs, ha, rfl, by simp [fillsOf, ha]⟩)⟩
  | succ i =>
   simp only [List.getElem_cons_succ]
   have := ih.2 i (by simpa using hi) (by simpa using hi')
   simp only [stE, shift, fillsOf, ha]
   rw [show (if decide (0 < i + 1) = true then st.put o.dst (.box c 0) else st) = st.put o.dst (.box c 0) by simp]
   rw [(put_own st o.dst (.box c 0)).1] at this
   rw [show i0 + (i + 1) = i0 + 1 + i by omega]
   refine ⟨this.1, this.2.imp id (fun h => h.imp id ?_)⟩
   rintro ⟨c', cs', h1, h2, h3⟩
   exact ⟨c', cs', h1, h2, List.mem_cons_of_mem _ h3⟩

end
end Go.Pe

/- A region that draws its order: quiet operations in any order, then the others in the order of the text. -/
namespace Go.Pe
open Go Go.RowKit

theorem ancs_prefix : ∀ (r : List Oper) (acc : List (List Nat)) (k : Nat), k < acc.length → (ancs acc r).getD k [] = acc.getD k []
 | [], acc, k, _ => rfl
 | o :: r, acc, k, hk => by
  simp only [ancs]
  rw [ancs_prefix r _ k (by simp; omega)]
  simp [List.getD, List.getElem?_append_left hk]

theorem ancs_spec : ∀ (r : List Oper) (acc : List (List Nat)) (k : Nat) (hk : acc.length ≤ k) (hk' : k < acc.length + r.length) (j : Nat), j ∈ (ancs acc r).getD k [] →
  ∃ e ∈ (r[k - acc.length]'(by omega)).after.toList, Region.binds .any e = true ∧ (j = e.on ∨ (e.on < k ∧ j ∈ (ancs acc r).getD e.on []))
 | [], acc, k, hk, hk', j, h => by simp at hk'; omega
 | o :: r, acc, k, hk, hk', j, h => by
  by_cases he : k = acc.length
  ·subst he
   simp only [ancs] at h ⊢
   rw [ancs_prefix r _ _ (by simp)] at h
   simp only [List.getD, List.getElem?_append_right (Nat.le_refl _), Nat.sub_self, List.getElem?_cons_zero, Option.getD_some, List.mem_flatMap] at h
   obtain ⟨e, hm, hj⟩ := h
   split at hj
   ·rename_i hb
    refine ⟨e, by simpa using hm, hb, ?_⟩
    rcases List.mem_cons.1 hj with rfl | hj
    ·exact .inl rfl
    ·right
     have hlt : e.on < acc.length := by
      by_cases hlt : e.on < acc.length
      ·exact hlt
      ·rw [List.getElem?_eq_none (by omega)] at hj; simp at hj
     refine ⟨hlt, ?_⟩
     rw [ancs_prefix r _ _ (by simp; omega)]
     simp only [List.getD, List.getElem?_append_left hlt]
     exact hj
   ·simp at hj
  ·simp only [ancs] at h ⊢
   have := ancs_spec r _ k (by simp; omega) (by simp at hk' ⊢; omega) j h
   obtain ⟨e, hm, hb, hj⟩ := this
   refine ⟨e, ?_, hb, hj⟩
   have e1 : (o :: r)[k - acc.length]'(by simp at hk' ⊢; omega) = r[k - (acc ++ [o.after.toList.flatMap fun e => if Region.binds .any e then e.on :: acc.getD e.on [] else []]).length]'(by simp at hk' ⊢; omega) := by
    simp only [List.length_append, List.length_singleton]
    rw [List.getElem_cons]
    rw [dif_neg (by omega)]
    congr 1
   rw [e1]
   exact hm

theorem splitFrom_le (an : List (List Nat)) : ∀ n, splitFrom an n ≤ n
 | 0 => Nat.le_refl _
 | n + 1 => by
  unfold splitFrom
  split
  ·have := splitFrom_le an n; omega
  ·exact Nat.le_refl _

theorem splitFrom_full (an : List (List Nat)) : ∀ n k, splitFrom an n ≤ k → k < n → fullAt an k = true
 | 0, k, _, h => by omega
 | n + 1, k, h1, h2 => by
  unfold splitFrom at h1
  split at h1
  ·rename_i hf
   by_cases he : k = n
   ·subst he; exact hf
   ·exact splitFrom_full an n k h1 (by omega)
  ·omega

section
variable {P : Program} {gl : List (Nat × Obj)} {S X : Nat → Prop} {w0 w w' : World} {m0 m : Nat → Option MV} {st : St} {a : Act}

theorem ready_spec {ops : Array Oper} {listed : Array Bool} (hsz : listed.size = ops.size) {i : Nat} (h : i ∈ Region.ready .any ops listed) :
  ∃ hi : i < ops.size, listed[i]? = some false ∧ ∀ e ∈ (ops[i]).after.toList, Region.binds .any e = true → listed[e.on]? = some true := by
 unfold Region.ready at h
 simp only [List.mem_filter, List.mem_range, Bool.and_eq_true, Bool.not_eq_true'] at h
 obtain ⟨hi, h1, h2⟩ := h
 refine ⟨hi, ?_, fun e he hb => ?_⟩
 ·rw [Array.getD_eq_getD_getElem?] at h1
  cases hq : listed[i]? with
  | none => simp [hq] at h1
  | some b => simp [hq] at h1; rw [h1]
 ·rw [Array.getElem?_eq_getElem hi] at h2
  simp only [Option.map_some, Option.getD_some, Array.all_eq_true] at h2
  obtain ⟨q, hq, rfl⟩ := List.getElem_of_mem he
  have := h2 q (by simpa using hq)
  simp only [Array.getElem_toList] at hb
  simp only [hb, Bool.not_true, Bool.false_or] at this
  rw [Array.getD_eq_getD_getElem?] at this
  cases hl : listed[(ops[i].after[q]'(by simpa using hq)).on]? with
  | none => simp [hl] at this
  | some b => simp [hl] at this; simp [hl, this]

theorem ready_mem {ops : Array Oper} {listed : Array Bool} {i : Nat} (hi : i < ops.size) (h1 : listed[i]? = some false) (h2 : ∀ e ∈ (ops[i]).after.toList, Region.binds .any e = true → listed[e.on]? = some true) :
  i ∈ Region.ready .any ops listed := by
 unfold Region.ready
 simp only [List.mem_filter, List.mem_range, Bool.and_eq_true, Bool.not_eq_true']
 refine ⟨hi, by rw [Array.getD_eq_getD_getElem?, h1]; rfl, ?_⟩
 rw [Array.getElem?_eq_getElem hi]
 simp only [Option.map_some, Option.getD_some, Array.all_eq_true]
 intro q hq
 have := h2 (ops[i].after[q]) (by simp)
 cases hb : Region.binds .any (ops[i].after[q]) with
 | false => rfl
 | true =>
  simp only [Bool.not_true, Bool.false_or]
  rw [Array.getD_eq_getD_getElem?, this hb]
  rfl

structure Orderly (ops : Array Oper) (an : List (List Nat)) (p : Nat) : Prop where
 le : p ≤ ops.size
 back : ∀ i (hi : i < ops.size), ∀ e ∈ (ops[i]).after.toList, Region.binds .any e = true → e.on < i
 full : ∀ k, p ≤ k → k < ops.size → ∀ j, j < k → j ∈ an.getD k []
 apart : ∀ i j, i < p → j < p → i ≠ j → ∀ t, dstOf ops.toList i = some t → dstOf ops.toList j ≠ some t
 reads : ∀ i j (hi : i < ops.size), i < p → j < p → ∀ t ∈ readsT ops.toList ops[i], dstOf ops.toList j = some t → j ∈ an.getD i [] ∧ j < i
 anc : ∀ k (hk : k < ops.size) j, j ∈ an.getD k [] → ∃ e ∈ (ops[k]).after.toList, Region.binds .any e = true ∧ (j = e.on ∨ (e.on < k ∧ j ∈ an.getD e.on []))

theorem orderly_of {ops : Array Oper} (h : quietOk ops.toList (ancs [] ops.toList) (splitFrom (ancs [] ops.toList) ops.toList.length) = true) :
  Orderly ops (ancs [] ops.toList) (splitFrom (ancs [] ops.toList) ops.toList.length) := by
 unfold quietOk at h
 simp only [Bool.and_eq_true, List.all_eq_true, List.mem_range, Bool.or_eq_true, Bool.not_eq_true', beq_iff_eq, decide_eq_true_eq] at h
 obtain ⟨h1, h2⟩ := h
 have hgd : ∀ i (hi : i < ops.size), ops.toList.getD i default = ops[i] := by
  intro i hi
  simp [List.getD, hi]
 refine ⟨by simpa using splitFrom_le (ancs [] ops.toList) ops.toList.length, fun i hi e he hb => ?_, fun k hpk hk j hj => ?_, fun i j hi hj hne t ht => ?_, fun i j his hi hj t ht hd => ?_, fun k hk j hj => ?_⟩
 ·have := h1 i (by simpa using hi) e (by rw [hgd i hi]; exact he)
  rw [hb] at this
  simpa using this
 ·have := splitFrom_full (ancs [] ops.toList) ops.toList.length k hpk (by simpa using hk)
  unfold fullAt at this
  simp only [List.all_eq_true, List.mem_range] at this
  simpa using this j hj
 ·intro hj'
  rcases (h2 i hi j hj).1 with (h3 | h3) | h3
  ·exact hne h3
  ·rw [ht] at h3; cases h3
  ·rw [ht, hj'] at h3; simp at h3
 ·have := (h2 i hi j hj).2 t (by rw [hgd i his]; exact ht)
  rcases this with h3 | ⟨h3, h4⟩
  ·rw [hd] at h3; simp at h3
  ·exact ⟨by simpa using h3, h4⟩
 ·obtain ⟨e, hm, hb, hj'⟩ := ancs_spec ops.toList [] k (Nat.zero_le _) (by simpa using hk) j hj
  exact ⟨e, by simpa using hm, hb, hj'⟩

def done (listed : Array Bool) (i : Nat) : Bool := listed.getD i false

theorem done_iff {listed : Array Bool} {i : Nat} : done listed i = true ↔ listed[i]? = some true := by
 unfold done
 rw [Array.getD_eq_getD_getElem?]
 cases listed[i]? <;> simp

theorem anc_done {ops : Array Oper} {an : List (List Nat)} {p : Nat} (O : Orderly ops an p) {listed : Array Bool} (hcl : ∀ i (_ : i < ops.size), listed[i]? = some true → ∀ j ∈ an.getD i [], listed[j]? = some true)
  {i : Nat} (hi : i < ops.size) (hr : ∀ e ∈ (ops[i]).after.toList, Region.binds .any e = true → listed[e.on]? = some true) : ∀ j ∈ an.getD i [], listed[j]? = some true := by
 intro j hj
 obtain ⟨e, he, hb, hj'⟩ := O.anc i hi j hj
 rcases hj' with rfl | ⟨hlt, hj'⟩
 ·exact hr e he hb
 ·exact hcl e.on (by omega) (hr e he hb) j hj'

theorem set_get {listed : Array Bool} {i j : Nat} (hi : i < listed.size) : (listed.setIfInBounds i true)[j]? = if j = i then some true else listed[j]? := by
 rw [Array.getElem?_setIfInBounds]
 by_cases h : i = j
 ·subst h; simp [hi]
 ·rw [if_neg h, if_neg (fun e => h e.symm)]

theorem ev_congr {st1 st2 : St} {q : Operand} (h : ∀ t, q = .tmp t → st1.get t = st2.get t) : st1.ev q = st2.ev q := by
 cases q with
 | tmp t => exact h t rfl
 | _ => rfl

theorem Sim.fillOwn (E : Env P gl S X w0) (h : Sim S X w0 m0 st a w m) {c : Nat} (hc : st.own[c]? = some .gone) (hmc : m c = none) (hkc : st.k0 ≤ c) {v : Value} {bl : Blk} (hb : Below w.heap.size w w') (hv1 : v.oneCell' = true)
  (hblk : ∀ b, blk v = some b → w.heap.size ≤ b ∧ b < w'.heap.size)
  (hok : ∀ (N' : Nat → Prop) (m' : Nat → Option MV), (∀ b, Nset S X w0.heap.size w m st.own b → N' b) → (∀ i v, m i = some v → m' i = some v) → OwnOk w' N' m' (v, []) bl) :
  Sim S X w0 m0 (st.setOwn c bl) a w' (fun i => if i = c then some (v, []) else m i) ∧ (∀ b, Nset S X w0.heap.size w m st.own b → Nset S X w0.heap.size w' (fun i => if i = c then some (v, []) else m i) (st.setOwn c bl).own b) := by
 let m' : Nat → Option MV := fun i => if i = c then some (v, []) else m i
 have hcl : c < st.own.length := (List.getElem?_eq_some_iff.1 hc).1
 have hm : ∀ i v, m i = some v → m' i = some v := by
  intro i u hu
  simp only [m']
  rw [if_neg (fun e => by subst e; rw [hmc] at hu; cases hu)]
  exact hu
 have hget : ∀ i b, (st.own.set c bl)[i]? = some b → (i = c ∧ b = bl) ∨ (i ≠ c ∧ st.own[i]? = some b) := by
  intro i b hib
  rw [List.getElem?_set] at hib
  split at hib
  ·rename_i he
   subst he
   cases hib
   exact .inl ⟨rfl, rfl⟩
  ·rename_i he
   exact .inr ⟨fun e => he e.symm, hib⟩
 have hlv : ∀ i, lives (st.own.set c bl) i → i = c ∨ (i ≠ c ∧ lives st.own i) := by
  rintro i ⟨b, hib, hbl⟩
  rcases hget i b hib with ⟨h1, _⟩ | ⟨h1, h2⟩
  ·exact .inl h1
  ·exact .inr ⟨h1, b, h2, hbl⟩
 have hold : ∀ i b, i ≠ c → mblk m' i b → mblk m i b := by
  intro i b hi hb
  unfold mblk at *
  simp only [m'] at hb
  rwa [if_neg hi] at hb
 have hnew : ∀ b, mblk m' c b → w.heap.size ≤ b ∧ b < w'.heap.size := by
  intro b hb
  obtain ⟨u, hu, hb⟩ := hb
  simp only [m', if_true, Option.some.injEq] at hu
  subst hu
  exact hblk b (hasB_one.1 hb)
 have hN : ∀ b, Nset S X w0.heap.size w m st.own b → Nset S X w0.heap.size w' m' (st.own.set c bl) b := by
  intro b hNb
  have hlt := Nset_lt E h hNb
  rcases hNb with hb' | ⟨h1, h2, h3⟩
  ·exact .inl hb'
  ·refine .inr ⟨h1, Nat.lt_of_lt_of_le h2 hb.size, fun i hi hmb => ?_⟩
   rcases hlv i hi with he | ⟨hne, hi'⟩
   ·subst he; have := hnew b hmb; omega
   ·exact h3 i hi' (hold i b hne hmb)
 have hw : ∀ b, Nset S X w0.heap.size w m st.own b → w'.heap[b]? = w.heap[b]? := fun b hb' => hb.block b (Nset_lt E h hb')
 refine ⟨⟨⟨hb.os.trans h.bel.os, hb.tape.trans h.bel.tape, hb.output.trans h.bel.output, Nat.le_trans h.bel.size hb.size, fun k hk hX => (hb.block k (Nat.lt_of_lt_of_le hk h.bel.size)).trans (h.bel.block k hk hX)⟩, ⟨fun i u hu => ?_, fun i b hi hbl => ?_, fun i j b hne hi hj hbi hbj => ?_, fun i b hi hmb => ?_, fun i b hi hmb => ?_⟩, fun i b hi hmb => ?_, fun i hi => ?_, ?_, h.nt, h.df, fun t => (h.slots t).mono hw hN hm⟩, hN⟩
 ·change (if i = c then some (v, []) else m i) = some u at hu
  simp only [St.setOwn, List.length_set]
  split at hu
  ·rename_i he; cases hu; subst he; exact ⟨hcl, hv1, fun _ h => by cases h⟩
  ·exact h.ows.len i u hu
 ·rcases hget i b hi with ⟨h1, h2⟩ | ⟨h1, h2⟩
  ·subst h1; subst h2
   exact ⟨(v, []), if_pos rfl, hok _ _ hN hm⟩
  ·obtain ⟨u, hu, hok'⟩ := h.ows.ok i b h2 hbl
   exact ⟨u, hm i u hu, hok'.mono hw hN hm (fun b' hbv => hb.block b' (h.ows.lt i b' ⟨b, h2, hbl⟩ (mblk_of hu hbv)))⟩
 ·rcases hlv i hi with hei | ⟨hei, hi'⟩
  ·rcases hlv j hj with hej | ⟨hej, hj'⟩
   ·exact hne (hei.trans hej.symm)
   ·subst hei
    have h1 := hnew b hbi
    have h2 := h.ows.lt j b hj' (hold j b hej hbj)
    omega
  ·rcases hlv j hj with hej | ⟨hej, hj'⟩
   ·subst hej
    have h1 := hnew b hbj
    have h2 := h.ows.lt i b hi' (hold i b hei hbi)
    omega
   ·exact h.ows.sep i j b hne hi' hj' (hold i b hei hbi) (hold j b hej hbj)
 ·rcases hlv i hi with hei | ⟨hei, hi'⟩
  ·subst hei; exact (hnew b hmb).2
  ·exact Nat.lt_of_lt_of_le (h.ows.lt i b hi' (hold i b hei hmb)) hb.size
 ·rcases hlv i hi with hei | ⟨hei, hi'⟩
  ·subst hei
   have h1 := hnew b hmb
   rintro (hS | ⟨_, _, h3⟩)
   ·have := E.Slt b hS
    have := h.bel.size
    omega
   ·exact h3 i hi hmb
  ·have h1 := h.ows.out i b hi' (hold i b hei hmb)
   rintro (hS | ⟨_, _, h3⟩)
   ·exact h1 (.inl hS)
   ·exact h3 i hi hmb
 ·rcases hlv i hi with hei | ⟨hei, hi'⟩
  ·subst hei
   have h1 := hnew b hmb
   have := h.bel.size
   exact .inl (by omega)
  ·exact h.bnd i b hi' (hold i b hei hmb)
 ·have h1 : i < st.k0 := hi
  change (if i = c then some (v, []) else m i) = m0 i
  rw [if_neg (by omega)]
  exact h.fix i h1
 ·have := h.k0
  simpa [St.setOwn] using this
theorem ovl_length (D : Nat → Bool) : ∀ (F : List (Nat × Nat × List FV)) (own : List Blk), (ovl D F own).length = own.length
 | [], own => rfl
 | (i, c, cs) :: r, own => by
  simp only [ovl]
  rw [ovl_length D r]
  split <;> simp

theorem ovl_not (D : Nat → Bool) : ∀ (F : List (Nat × Nat × List FV)) (own : List Blk) (j : Nat), (∀ f ∈ F, D f.1 = true → f.2.1 ≠ j) → (ovl D F own)[j]? = own[j]?
 | [], own, j, h => rfl
 | (i, c, cs) :: r, own, j, h => by
  simp only [ovl]
  rw [ovl_not D r _ j (fun f hf => h f (List.mem_cons_of_mem _ hf))]
  split
  ·rename_i hD
   rw [List.getElem?_set_ne (h (i, c, cs) (by simp) hD)]
  ·rfl

theorem ovl_at (D : Nat → Bool) : ∀ (F : List (Nat × Nat × List FV)) (own : List Blk) (f : Nat × Nat × List FV), (∀ f ∈ F, ∀ f' ∈ F, f.2.1 = f'.2.1 → f = f') → f ∈ F → D f.1 = true → f.2.1 < own.length → (ovl D F own)[f.2.1]? = some (.box f.2.2)
 | [], own, f, _, h, _, _ => by simp at h
 | (i, c, cs) :: r, own, f, hu, h, hD, hl => by
  simp only [ovl]
  by_cases hr : f ∈ r
  ·exact ovl_at D r _ f (fun a ha b hb => hu a (List.mem_cons_of_mem _ ha) b (List.mem_cons_of_mem _ hb)) hr hD (by split <;> simpa using hl)
  ·have he : f = (i, c, cs) := by
    rcases List.mem_cons.1 h with h | h
    ·exact h
    ·exact absurd h hr
   subst he
   rw [if_pos hD, ovl_not D r _ c (fun f' hf' _ e => hr (by have := hu (i, c, cs) (by simp) f' (List.mem_cons_of_mem _ hf') e.symm; rw [this]; exact hf'))]
   rw [List.getElem?_set_self hl]

theorem ovl_congr {D D' : Nat → Bool} : ∀ (F : List (Nat × Nat × List FV)) (own : List Blk), (∀ f ∈ F, D f.1 = D' f.1) → ovl D F own = ovl D' F own
 | [], own, _ => rfl
 | (i, c, cs) :: r, own, h => by
  simp only [ovl]
  have h1 : D i = D' i := h (i, c, cs) (by simp)
  rw [h1]
  exact ovl_congr r _ (fun f hf => h f (List.mem_cons_of_mem _ hf))

theorem fillsOf_uniq : ∀ {r : List Oper} {i0 c : Nat} {f f' : Nat × Nat × List FV}, f ∈ fillsOf P i0 c r → f' ∈ fillsOf P i0 c r → (f.2.1 = f'.2.1 → f = f') ∧ (f.1 = f'.1 → f = f')
 | [], i0, c, f, f', h, _ => by simp [fillsOf] at h
 | o :: r, i0, c, f, f', h, h' => by
  simp only [fillsOf] at h h'
  cases ha : allocOf P o with
  | none =>
   rw [ha] at h h'
   exact fillsOf_uniq h h'
  | some cs =>
   rw [ha] at h h'
   rcases List.mem_cons.1 h with h | h
   ·rcases List.mem_cons.1 h' with h' | h'
    ·rw [h, h']; exact ⟨fun _ => rfl, fun _ => rfl⟩
    ·obtain ⟨h1, h2, _⟩ := fillsOf_mem (i := f'.1) (c' := f'.2.1) (cs := f'.2.2) h'
     subst h
     exact ⟨fun e => by simp only at e; omega, fun e => by simp only at e; omega⟩
   ·rcases List.mem_cons.1 h' with h' | h'
    ·obtain ⟨h1, h2, _⟩ := fillsOf_mem (i := f.1) (c' := f.2.1) (cs := f.2.2) h
     subst h'
     exact ⟨fun e => by simp only at e; omega, fun e => by simp only at e; omega⟩
    ·exact fillsOf_uniq h h'

theorem ovl_set {D D' : Nat → Bool} {F : List (Nat × Nat × List FV)} {own : List Blk} {i c : Nat} {cs : List FV} (hu : ∀ f ∈ F, ∀ f' ∈ F, f.2.1 = f'.2.1 → f = f') (hm : (i, c, cs) ∈ F) (hD : ∀ q, D' q = if q = i then true else D q) (hc : c < own.length)
  (hl : ∀ f ∈ F, f.2.1 < own.length) (hi : ∀ f ∈ F, f.1 = i → f = (i, c, cs)) : ovl D' F own = (ovl D F own).set c (.box cs) := by
 apply List.ext_getElem?
 intro j
 by_cases hj : j = c
 ·subst hj
  rw [ovl_at D' F own (i, j, cs) hu hm (by rw [hD]; simp) hc, List.getElem?_set_self (by rw [ovl_length]; exact hc)]
 ·rw [List.getElem?_set_ne (fun e => hj e.symm)]
  by_cases hex : ∃ f ∈ F, D f.1 = true ∧ f.2.1 = j
  ·obtain ⟨f, hf, hd, he⟩ := hex
   subst he
   rw [ovl_at D F own f hu hf hd (hl f hf), ovl_at D' F own f hu hf (by rw [hD]; split <;> simp [hd]) (hl f hf)]
  ·rw [ovl_not D F own j (fun f hf hd he => hex ⟨f, hf, hd, he⟩), ovl_not D' F own j (fun f hf hd he => ?_)]
   rw [hD] at hd
   split at hd
   ·rename_i hfi
    have := hi f hf hfi
    subst this
    exact hj he.symm
   ·exact hex ⟨f, hf, hd, he⟩

theorem any_sound (E : Env P gl S X w0) {ops : Array Oper} {an : List (List Nat)} {p : Nat} (O : Orderly ops an p) {items : List (Option Tmp × FV)} {n0 : Nat} (hq : Quiet P gl ops.toList n0 (ops.toList.take p) st items)
  {F : List (Nat × Nat × List FV)} (hFd : F = fillsOf P 0 n0 (ops.toList.take p)) (hgone : ∀ f ∈ F, st.own[f.2.1]? = some .gone ∧ st.k0 ≤ f.2.1)
  {K : St → Prop} {Q : Exit → Act → World → Prop} (hK : ∀ st a w m, Sim S X w0 m0 st a w m → K st → Q .normal a w) :
  ∀ (fuel : Nat) (listed : Array Bool) (a : Act) (w : World) (m : Nat → Option MV), listed.size = ops.size → (List.range ops.size).countP (fun i => done listed i) + fuel = ops.size →
   (∀ i (_ : i < ops.size), listed[i]? = some true → ∀ j ∈ an.getD i [], listed[j]? = some true) →
   ((∀ i, listed[i]? = some true → i < p) ∧ Sim S X w0 m0 ((stE (done listed) 0 items st).over (done listed) F) a w m ∧ (∀ f ∈ F, done listed f.1 = false → m f.2.1 = none) ∧ seqVC P gl ops.toList (ops.toList.drop p) ((stE (fun _ => true) 0 items st).over (fun _ => true) F) K
    ∨ ∃ k st', p ≤ k ∧ k ≤ ops.size ∧ (∀ i, i < ops.size → (listed[i]? = some true ↔ i < k)) ∧ Sim S X w0 m0 st' a w m ∧ seqVC P gl ops.toList (ops.toList.drop k) st' K) →
   wpAny P .any ops Q fuel listed a w := by
 obtain ⟨hlen, hat⟩ := hq.at 0
 simp only [Nat.zero_add] at hat
 rw [← hFd] at hat
 have hFm : ∀ f ∈ F, ∃ hi : f.1 < (ops.toList.take p).length, allocOf P (ops.toList.take p)[f.1] = some f.2.2 := by
  intro f hf
  rw [hFd] at hf
  obtain ⟨_, _, _, h4, h5⟩ := fillsOf_mem (i := f.1) (c' := f.2.1) (cs := f.2.2) hf
  exact ⟨h4, h5⟩
 have hFu : ∀ f ∈ F, ∀ f' ∈ F, f.2.1 = f'.2.1 → f = f' := fun f hf f' hf' => (fillsOf_uniq (by rw [← hFd]; exact hf) (by rw [← hFd]; exact hf')).1
 have hFi : ∀ f ∈ F, ∀ f' ∈ F, f.1 = f'.1 → f = f' := fun f hf f' hf' => (fillsOf_uniq (by rw [← hFd]; exact hf) (by rw [← hFd]; exact hf')).2
 have hlive : ∀ (D : Nat → Bool) (i : Nat) (b : Blk), st.own[i]? = some b → b.live = true → (ovl D F st.own)[i]? = some b := by
  intro D i b hb hl
  rw [ovl_not D F _ i (fun f hf _ e => by subst e; rw [(hgone f hf).1] at hb; cases hb; cases hl)]
  exact hb
 have hlen' : items.length = p := by rw [hlen]; simp; have := O.le; omega
 have hsm : ∀ (listed : Array Bool), listed.size = ops.size → ∀ i, i < ops.size → listed[i]? = some true ∨ listed[i]? = some false := by
  intro listed hsz i hi
  rw [Array.getElem?_eq_getElem (by omega)]
  cases listed[i]'(by omega) <;> simp
 have hitem : ∀ i (hi : i < p), ((items[i]'(by omega)).1 = dstOf ops.toList i) := by
  intro i hi
  have := (hat i (by simp; have := O.le; omega) (by omega)).1
  rw [this]
  have := O.le
  simp [dstOf, show i < ops.size by omega]
 have hagree : ∀ (listed : Array Bool) i (hi : i < ops.size), i < p → (∀ j ∈ an.getD i [], listed[j]? = some true) → ∀ t ∈ readsT ops.toList ops[i], (stE (done listed) 0 items st).get t = (stE (fun k => decide (k < i)) 0 items st).get t := by
  intro listed i hi hip hanc t ht
  by_cases hex : ∃ k, ∃ hk : k < items.length, (items[k]).1 = some t
  ·obtain ⟨k, hk, hkt⟩ := hex
   have hkp : k < p := by omega
   have hd : dstOf ops.toList k = some t := by rw [← hitem k hkp]; exact hkt
   obtain ⟨ha, hlt⟩ := O.reads i k hi hip hkp t ht hd
   have hu : ∀ q (hq : q < items.length), q ≠ k → (items[q]).1 ≠ some t := by
    intro q hq hne
    rw [hitem q (by omega)]
    exact O.apart k q hkp (by omega) (fun e => hne e.symm) t hd
   by_cases hnt : t < st.nt
   ·rw [stE_some k hk (by rw [Nat.zero_add]; exact done_iff.2 (hanc k ha)) hkt hnt hu, stE_some k hk (by simpa using hlt) hkt hnt hu]
   ·have key : ∀ (E : Nat → Bool) (l : List (Option Tmp × FV)) (i : Nat) (st : St), ¬ t < st.nt → (stE E i l st).get t = st.get t := by
     intro E l
     induction l with
     | nil => intro i st _; rfl
     | cons d l ih =>
      intro i st hnt
      simp only [stE]
      have hnt' : ¬ t < (if E i then st.put d.1 d.2 else st).nt := by
       split
       ·rw [(put_own st d.1 d.2).2.1]; exact hnt
       ·exact hnt
      rw [ih _ _ hnt']
      split
      ·rw [put_get, if_neg (fun h => hnt h.2)]
      ·rfl
    rw [key _ _ _ _ hnt, key _ _ _ _ hnt]
  ·have hno : ∀ k (hk : k < items.length), (items[k]).1 ≠ some t := fun k hk e => hex ⟨k, hk, e⟩
   rw [stE_none (fun k hk _ => hno k hk), stE_none (fun k hk _ => hno k hk)]
 intro fuel
 induction fuel with
 | zero =>
  intro listed a w m hsz hcnt hcl hinv
  have hall : ∀ i, i < ops.size → listed[i]? = some true := by
   intro i hi
   have h1 : (List.range ops.size).countP (fun i => done listed i) = (List.range ops.size).length := by simp at hcnt ⊢; omega
   have := List.countP_eq_length.1 h1 i (by simpa using hi)
   exact done_iff.1 this
  have hready : Region.ready .any ops listed = [] := by
   apply List.eq_nil_iff_forall_not_mem.2
   intro i hi
   obtain ⟨hi', h1, _⟩ := ready_spec hsz hi
   rw [hall i hi'] at h1
   cases h1
  refine ⟨hready, ?_⟩
  rcases hinv with ⟨h1, hs, hno, hv⟩ | ⟨k, st', hpk, hk, hiff, hs, hv⟩
  ·have hp : p = ops.size := by
    have := O.le
    by_cases hz : ops.size = 0
    ·omega
    ·have := h1 (ops.size - 1) (hall _ (by omega)); omega
   have hdrop : ops.toList.drop p = [] := List.drop_eq_nil_of_le (by simp; omega)
   rw [hdrop] at hv
   refine hK _ a w m (hs.congr ?_ ?_ ?_ (fun t => ?_)) hv
   ·simp only [St.over]
    rw [(stE_own _ items 0 st).1, (stE_own _ items 0 st).1]
    refine (ovl_congr F _ (fun f hf => ?_)).symm
    obtain ⟨hi, _⟩ := hFm f hf
    exact done_iff.2 (hall f.1 (by simp at hi; omega))
   ·simp only [St.over]
    rw [(stE_own _ items 0 st).2.1, (stE_own _ items 0 st).2.1]
   ·simp only [St.over]
    rw [(stE_own _ items 0 st).2.2, (stE_own _ items 0 st).2.2]
   ·show (stE (fun _ => true) 0 items st).get t = (stE (done listed) 0 items st).get t
    have key : ∀ (l : List (Option Tmp × FV)) (i : Nat) (st : St), i + l.length ≤ ops.size → stE (done listed) i l st = stE (fun _ => true) i l st := by
     intro l
     induction l with
     | nil => intro i st _; rfl
     | cons d l ih =>
      intro i st hle
      simp only [List.length_cons] at hle
      have e := done_iff.2 (hall i (by omega))
      simp only [stE, e, if_true]
      exact ih _ _ (by omega)
    rw [key items 0 st (by have := O.le; omega)]
  ·have hkk : k = ops.size := by
    by_cases hz : ops.size = 0
    ·omega
    ·have := (hiff (ops.size - 1) (by omega)).1 (hall _ (by omega)); omega
   rw [List.drop_eq_nil_of_le (by simp; omega)] at hv
   exact hK _ a w m hs hv
 | succ fuel ih =>
  intro listed a w m hsz hcnt hcl hinv
  have hsome : Region.ready .any ops listed ≠ [] := by
   intro hnil
   have hall : ∀ i, i < ops.size → listed[i]? = some true := by
    intro i
    induction i using Nat.strongRecOn with
    | _ i ihs =>
     intro hi
     rcases hsm listed hsz i hi with h | h
     ·exact h
     ·exfalso
      have : i ∈ Region.ready .any ops listed := ready_mem hi h (fun e he hb => by
       have hlt := O.back i hi e he hb
       exact ihs e.on hlt (by omega))
      rw [hnil] at this
      cases this
   have : (List.range ops.size).countP (fun i => done listed i) = (List.range ops.size).length := List.countP_eq_length.2 (fun i hi => done_iff.2 (hall i (by simpa using hi)))
   simp at this
   omega
  refine ⟨fun h => absurd h hsome, fun i hi => ?_⟩
  obtain ⟨hi', hfal, hrd⟩ := ready_spec hsz hi
  have hanc := anc_done O hcl hi' hrd
  have hcl' : ∀ i' (_ : i' < ops.size), (listed.setIfInBounds i true)[i']? = some true → ∀ j ∈ an.getD i' [], (listed.setIfInBounds i true)[j]? = some true := by
   intro i' hi'' hl j hj
   rw [set_get (by omega)] at hl ⊢
   split
   ·rfl
   ·by_cases he : i' = i
    ·subst he; exact hanc j hj
    ·rw [if_neg he] at hl; exact hcl i' hi'' hl j hj
  have hcnt' : (List.range ops.size).countP (fun q => done (listed.setIfInBounds i true) q) + fuel = ops.size := by
   have key : ∀ (n : Nat), (List.range n).countP (fun q => done (listed.setIfInBounds i true) q) = (List.range n).countP (fun q => done listed q) + if i < n then 1 else 0 := by
    intro n
    induction n with
    | zero => simp
    | succ n ihn =>
     rw [List.range_succ, List.countP_append, List.countP_append, ihn]
     have hdn : done (listed.setIfInBounds i true) n = if n = i then true else done listed n := by
      unfold done
      rw [Array.getD_eq_getD_getElem?, set_get (by omega), Array.getD_eq_getD_getElem?]
      split <;> rfl
     simp only [List.countP_cons, List.countP_nil, hdn, Nat.zero_add]
     by_cases he : n = i
     ·subst he
      have hdf : done listed n = false := by
       unfold done; rw [Array.getD_eq_getD_getElem?, hfal]; rfl
      simp [hdf]
     ·rw [if_neg he]
      by_cases hlt : i < n
      ·rw [if_pos hlt, if_pos (show i < n + 1 by omega)]; omega
      ·rw [if_neg hlt, if_neg (show ¬ i < n + 1 by omega)]; omega
   rw [key ops.size, if_pos hi']
   omega
  have hgo : ops[i]? = some ops[i] := Array.getElem?_eq_getElem hi'
  unfold wpOp
  rw [hgo]
  simp only
  have phase2 : ∀ st' , (∀ q, q < ops.size → (listed[q]? = some true ↔ q < i)) → p ≤ i → Sim S X w0 m0 st' a w m → seqVC P gl ops.toList (ops.toList.drop i) st' K →
    if Region.wanted ops[i] (yielded ops a.tmps) = true then (ops[i]).wp P a w (wpAny P .any ops Q fuel (listed.setIfInBounds i true)) Q ∨ (ops[i]).asks P a w ∧ LetsOut Q
    else wpAny P .any ops Q fuel (listed.setIfInBounds i true) (a.put (ops[i]).dst undef) w := by
   intro st' hiff hpi hs hv
   have hdrop : ops.toList.drop i = ops[i] :: ops.toList.drop (i + 1) := by
    rw [List.drop_eq_getElem_cons (by simpa using hi')]
    simp
   rw [hdrop] at hv
   exact step_sound E hs (Q := Q) hv (fun st2 a2 w2 m2 hs2 hk2 => ih _ a2 w2 m2 (by simpa using hsz) hcnt' hcl' (.inr ⟨i + 1, st2, by omega, by omega, fun q hq => by
    rw [set_get (by omega)]
    by_cases he : q = i
    ·subst he; simp
    ·rw [if_neg he, hiff q hq]; omega, hs2, hk2⟩))
  rcases hinv with ⟨h1, hs, hno, hv⟩ | ⟨k, st', hpk, hk, hiff, hs, hv⟩
  ·by_cases hip : i < p
   ·-- a quiet one
    have hag := hagree listed i hi' hip hanc
    obtain ⟨hdst, hcase⟩ := hat i (by simp; omega) (by omega)
    have hops : (ops.toList.take p)[i]'(by simp; omega) = ops[i] := by simp
    rw [hops] at hdst hcase
    have hown := (stE_own (done listed) items 0 st).1
    have hevs : ∀ q ∈ (ops[i]).op.operands.toList, RepF w (Nset S X w0.heap.size w m ((stE (done listed) 0 items st).over (done listed) F).own) m (a.eval q) ((stE (fun k => decide (k < i)) 0 items st).ev q) := by
     intro q hq
     rw [← ev_congr (st1 := stE (done listed) 0 items st) (fun t ht => hag t ?_)]
     ·have := hs.evs q
      have e : ((stE (done listed) 0 items st).over (done listed) F).ev q = (stE (done listed) 0 items st).ev q := ev_congr (fun t _ => rfl)
      rw [e] at this
      exact this
     ·subst ht
      unfold readsT
      refine List.mem_append_left _ (List.mem_filterMap.2 ⟨_, hq, rfl⟩)
    have hput0 : ∀ v w' (m : Nat → Option MV) (D : Nat → Bool) (hs' : Sim S X w0 m0 ((stE (done listed) 0 items st).over D F) a w' m), (∀ f ∈ F, D f.1 = done (listed.setIfInBounds i true) f.1) → (∀ f ∈ F, done (listed.setIfInBounds i true) f.1 = false → m f.2.1 = none) →
      RepF w' (Nset S X w0.heap.size w' m ((stE (done listed) 0 items st).over D F).own) m v (items[i]'(by omega)).2 →
      wpAny P .any ops Q fuel (listed.setIfInBounds i true) (a.put (ops[i]).dst v) w' := by
     intro v w' m D hs' hD hno' hr
     refine ih _ _ w' m (by simpa using hsz) hcnt' hcl' (.inl ⟨fun q hq => ?_, ?_, hno', hv⟩)
     ·rw [set_get (by omega)] at hq
      split at hq
      ·rename_i he; subst he; exact hip
      ·exact h1 q hq
     ·have hp := hs'.put (dst := (ops[i]).dst) hr
      refine hp.congr ?_ ?_ ?_ (fun t => ?_)
      ·rw [(put_own _ _ _).1]
       simp only [St.over]
       rw [(stE_own _ items 0 st).1, (stE_own _ items 0 st).1]
       exact (ovl_congr F _ hD).symm
      ·rw [(put_own _ _ _).2.1]
       simp only [St.over]
       rw [(stE_own _ items 0 st).2.1, (stE_own _ items 0 st).2.1]
      ·rw [(put_own _ _ _).2.2]
       simp only [St.over]
       rw [(stE_own _ items 0 st).2.2, (stE_own _ items 0 st).2.2]
      ·show (stE (done (listed.setIfInBounds i true)) 0 items st).get t = _
       rw [put_get]
       show _ = if (ops[i]).dst = some t ∧ t < (stE (done listed) 0 items st).nt then _ else (stE (done listed) 0 items st).get t
       rw [(stE_own _ items 0 st).2.1]
       by_cases hc : (ops[i]).dst = some t ∧ t < st.nt
       ·rw [if_pos hc]
        refine stE_some i (by omega) (by rw [Nat.zero_add]; exact done_iff.2 (by rw [set_get (by omega), if_pos rfl])) (by rw [hdst]; exact hc.1) hc.2 (fun q hq hne => ?_)
        rw [hitem q (by omega)]
        exact O.apart i q hip (by omega) (fun e => hne e.symm) t (by rw [← hitem i hip, hdst]; exact hc.1)
       ·rw [if_neg hc]
        by_cases hnt : t < st.nt
        ·have hne : (ops[i]).dst ≠ some t := fun e => hc ⟨e, hnt⟩
         by_cases hex : ∃ k, ∃ hk : k < items.length, done listed k = true ∧ (items[k]).1 = some t
         ·obtain ⟨k, hk, hdk, hkt⟩ := hex
          have hu : ∀ q (hq : q < items.length), q ≠ k → (items[q]).1 ≠ some t := by
           intro q hq hne'
           rw [hitem q (by omega)]
           exact O.apart k q (by omega) (by omega) (fun e => hne' e.symm) t (by rw [← hitem k (by omega)]; exact hkt)
          have e1 : (stE (done listed) 0 items st).get t = (items[k]).2 := stE_some k hk (by rw [Nat.zero_add]; exact hdk) hkt hnt hu
          have e2 : (stE (done (listed.setIfInBounds i true)) 0 items st).get t = (items[k]).2 := by
           refine stE_some k hk ?_ hkt hnt hu
           rw [Nat.zero_add]
           refine done_iff.2 ?_
           rw [set_get (by omega)]
           split
           ·rfl
           ·exact done_iff.1 hdk
          rw [e1, e2]
         ·rw [stE_none (E := done listed) (fun k hk hdk hkt => hex ⟨k, hk, by rw [Nat.zero_add] at hdk; exact hdk, hkt⟩)]
          refine stE_none (fun k hk hdk hkt => ?_)
          rw [Nat.zero_add] at hdk
          have := done_iff.1 hdk
          rw [set_get (by omega)] at this
          split at this
          ·rename_i he
           subst he
           rw [hdst] at hkt
           exact hne hkt
          ·exact hex ⟨k, hk, done_iff.2 this, hkt⟩
        ·have key : ∀ (E : Nat → Bool) (l : List (Option Tmp × FV)) (i : Nat) (st : St), ¬ t < st.nt → (stE E i l st).get t = st.get t := by
          intro E l
          induction l with
          | nil => intro i st _; rfl
          | cons d l ih =>
           intro i st hnt
           simp only [stE]
           have hnt' : ¬ t < (if E i then st.put d.1 d.2 else st).nt := by
            split
            ·rw [(put_own st d.1 d.2).2.1]; exact hnt
            ·exact hnt
           rw [ih _ _ hnt']
           split
           ·rw [put_get, if_neg (fun h => hnt h.2)]
           ·rfl
         rw [key _ _ _ _ hnt, key _ _ _ _ hnt]
    have hdone : ∀ q, done (listed.setIfInBounds i true) q = if q = i then true else done listed q := by
     intro q
     unfold done
     rw [Array.getD_eq_getD_getElem?, set_get (by omega), Array.getD_eq_getD_getElem?]
     split <;> rfl
    have hput : allocOf P ops[i] = none → ∀ v w' (hs' : Sim S X w0 m0 ((stE (done listed) 0 items st).over (done listed) F) a w' m), RepF w' (Nset S X w0.heap.size w' m ((stE (done listed) 0 items st).over (done listed) F).own) m v (items[i]'(by omega)).2 →
      wpAny P .any ops Q fuel (listed.setIfInBounds i true) (a.put (ops[i]).dst v) w' := by
     intro hna v w' hs' hr
     have hne : ∀ f ∈ F, f.1 ≠ i := by
      intro f hf e
      obtain ⟨hi, hal⟩ := hFm f hf
      have : (ops.toList.take p)[f.1] = ops[i] := by subst e; simp
      rw [this, hna] at hal
      cases hal
     refine hput0 v w' m (done listed) hs' (fun f hf => ?_) (fun f hf hd => ?_) hr
     ·rw [hdone, if_neg (hne f hf)]
     ·rw [hdone, if_neg (hne f hf)] at hd
      exact hno f hf hd
    rcases hcase with ⟨hna, hgd, hok⟩ | ⟨j, want, g, x, hna, hgd, hgc, hx, hok⟩ | ⟨c, cs, hal, hx, hmem⟩
    ·rw [if_pos (wanted_none hgd _)]
     refine .inl (quiet_step E hs (x := (items[i]'(by omega)).2) (fun w S m a next Q b1 b2 b3 b4 b5 b6 => hok w S m a next Q b1 b2 (fun i' b' v' hb' hl' hm' => b3 i' b' v' (by simp only [St.over]; rw [hown]; exact hlive _ _ _ hb' hl') hl' hm') b4 ?_ b6) (fun q _ => hs.evs q) (hput hna))
     intro q hq
     rw [← ev_congr (st1 := stE (done listed) 0 items st) (fun t ht => hag t (by subst ht; unfold readsT; exact List.mem_append_left _ (List.mem_filterMap.2 ⟨_, hq, rfl⟩)))]
     exact b5 q hq
    ·have hgc' : gcond ops.toList (stE (done listed) 0 items st) j want = some g := by
      rw [← hgc]
      unfold gcond
      cases hdj : (ops.toList[j]?).bind (·.dst) with
      | none => rfl
      | some t =>
       simp only
       rw [hag t (by unfold readsT; refine List.mem_append_right _ ?_; rw [hgd]; simp only; rw [hdj]; simp)]
     rw [gcond_spec hs hgd hgc']
     cases g with
     | true =>
      rw [if_pos rfl]
      refine .inl (quiet_step E hs (x := x) (fun w S m a next Q b1 b2 b3 b4 b5 b6 => hok rfl w S m a next Q b1 b2 (fun i' b' v' hb' hl' hm' => b3 i' b' v' (by simp only [St.over]; rw [hown]; exact hlive _ _ _ hb' hl') hl' hm') b4 ?_ b6) (fun q _ => hs.evs q) (fun v w' hs' hr => hput hna v w' hs' (by rw [hx]; exact .iff _ _ _ (fun _ => hr) (fun e => by cases e))))
      intro q hq
      rw [← ev_congr (st1 := stE (done listed) 0 items st) (fun t ht => hag t (by subst ht; unfold readsT; exact List.mem_append_left _ (List.mem_filterMap.2 ⟨_, hq, rfl⟩)))]
      exact b5 q hq
     | false =>
      rw [if_neg (by simp)]
      exact hput hna undef w hs (by rw [hx]; exact .iff _ _ _ (fun e => by cases e) (fun _ => rfl))
    ·-- a variable made
     unfold allocOf at hal
     split at hal
     ·rename_i t hgd hop
      rw [if_pos (wanted_none hgd _)]
      refine .inl ?_
      obtain ⟨hg1, hg2⟩ := hgone _ hmem
      have hfd : done listed i = false := by
       unfold done; rw [Array.getD_eq_getD_getElem?, hfal]; rfl
      have hmc : m c = none := hno _ hmem hfd
      have hcl : c < st.own.length := (List.getElem?_eq_some_iff.1 hg1).1
      have hown' : ((stE (done listed) 0 items st).over (done listed) F).own = ovl (done listed) F st.own := by simp only [St.over]; rw [hown]
      have hgc : ((stE (done listed) 0 items st).over (done listed) F).own[c]? = some .gone := by
       rw [hown', ovl_not _ F _ c (fun f hf hd he => by
        have := hFu f hf _ hmem he
        subst this
        rw [hfd] at hd; cases hd)]
       exact hg1
      have hk0 : ((stE (done listed) 0 items st).over (done listed) F).k0 ≤ c := by
       simp only [St.over]
       rw [(stE_own _ items 0 st).2.2]
       exact hg2
      obtain ⟨iz, z, f, hi, hzv, hcells, hf1, hfr⟩ := zeroF_spec (w := w) (S := Nset S X w0.heap.size w m ((stE (done listed) 0 items st).over (done listed) F).own) (m := m) hal
      obtain ⟨hs2, _⟩ := hs.fillOwn E hgc hmc hk0 (v := .pointer (some ⟨w.heap.size, 0, none⟩)) (bl := .box cs) (below_alloc w (.cells (vrange cs.length f).toArray t)) rfl
       (fun b hb => by simp [blk] at hb; subst hb; simp) (fun N' m' hN hm => ⟨rfl, w.heap.size, t, f, rfl, Go.heap_alloc_new w _, hf1, fun j hj => (hfr j hj).mono (fun b hb => heap_alloc_old w _ (Nset_lt E hs hb)) hN hm⟩)
      have hs3 := hs2.congr (st' := (stE (done listed) 0 items st).over (done (listed.setIfInBounds i true)) F) (by
       show ovl _ F (stE (done listed) 0 items st).own = (ovl (done listed) F (stE (done listed) 0 items st).own).set c (.box cs)
       rw [hown]
       exact ovl_set hFu hmem hdone hcl (fun f hf => (List.getElem?_eq_some_iff.1 (hgone f hf).1).1) (fun f hf he => hFi f hf _ hmem he)) rfl rfl (fun _ => rfl)
      refine wp_value' (v := .pointer (some ⟨w.heap.size, 0, none⟩)) ?_ (hput0 _ _ _ (done (listed.setIfInBounds i true)) hs3 (fun _ _ => rfl) (fun f hf hd => ?_) ?_)
      ·simp [execOp, hop, Instr.alloc, zeroValue, typeInfo, hi, hzv, run_newVar, hcells]
      ·rw [hdone] at hd
       split at hd
       ·cases hd
       ·rename_i hne
        have hne' : f.2.1 ≠ c := fun e => hne (by have := hFu f hf _ hmem e; rw [this])
        show (if f.2.1 = c then some _ else m f.2.1) = none
        rw [if_neg hne']
        exact hno f hf hd
      ·rw [hx]
       exact .box c 0 w.heap.size (tblk_of (if_pos rfl) rfl)
     ·cases hal
   ·-- the first of the others
    have hfull := O.full i (by omega) hi'
    have hip' : i = p := by
     by_cases he : i = p
     ·exact he
     ·exfalso
      have := hanc p (hfull p (by omega))
      have := h1 p this
      omega
    have hiff : ∀ q, q < ops.size → (listed[q]? = some true ↔ q < i) := by
     intro q hq
     constructor
     ·intro hl; have := h1 q hl; omega
     ·intro hlt; exact hanc q (hfull q hlt)
    refine phase2 ((stE (fun _ => true) 0 items st).over (fun _ => true) F) hiff (by omega) (hs.congr ?_ ?_ ?_ (fun t => ?_)) (by rw [hip']; exact hv)
    ·simp only [St.over]
     rw [(stE_own _ items 0 st).1, (stE_own _ items 0 st).1]
     refine ovl_congr F _ (fun f hf => ?_)
     obtain ⟨hi, _⟩ := hFm f hf
     exact (done_iff.2 ((hiff f.1 (by simp at hi; omega)).2 (by simp at hi; omega))).symm
    ·simp only [St.over]
     rw [(stE_own _ items 0 st).2.1, (stE_own _ items 0 st).2.1]
    ·simp only [St.over]
     rw [(stE_own _ items 0 st).2.2, (stE_own _ items 0 st).2.2]
    ·show (stE (fun _ => true) 0 items st).get t = (stE (done listed) 0 items st).get t
     have key : ∀ (l : List (Option Tmp × FV)) (q : Nat) (st : St), q + l.length ≤ p → stE (done listed) q l st = stE (fun _ => true) q l st := by
      intro l
      induction l with
      | nil => intro q st _; rfl
      | cons d l ih =>
       intro q st hle
       simp only [List.length_cons] at hle
       have e := done_iff.2 ((hiff q (by omega)).2 (by omega))
       simp only [stE, e, if_true]
       exact ih _ _ (by omega)
     rw [key items 0 st (by omega)]
  ·-- among the others
   have hik : i = k := by
    by_cases hlt : i < k
    ·exfalso
     rw [(hiff i hi').2 hlt] at hfal
     cases hfal
    ·by_cases he : i = k
     ·exact he
     ·exfalso
      have := hanc k (O.full i (by omega) hi' k (by omega))
      have := (hiff k (by omega)).1 this
      omega
   subst hik
   exact phase2 st' hiff hpk hs hv

theorem ovl_none {D : Nat → Bool} {F : List (Nat × Nat × List FV)} {own : List Blk} (h : ∀ f ∈ F, D f.1 = false) : ovl D F own = own := by
 apply List.ext_getElem?
 intro j
 exact ovl_not D F own j (fun f hf hd => by rw [h f hf] at hd; cases hd)

theorem Sim.gones (h : Sim S X w0 m0 st a w m) (n : Nat) : Sim S X w0 m0 (st.gones n) a w m := by
 have hget : ∀ (i : Nat) (b : Blk), (st.gones n).own[i]? = some b → b.live = true → st.own[i]? = some b := by
  intro i b hb hl
  simp only [St.gones] at hb
  rw [List.getElem?_append] at hb
  split at hb
  ·exact hb
  ·rw [List.getElem?_replicate] at hb
   split at hb
   ·cases hb; cases hl
   ·cases hb
 have hlv : ∀ i, lives (st.gones n).own i → lives st.own i := fun i ⟨b, hb, hl⟩ => ⟨b, hget i b hb hl, hl⟩
 have hN : ∀ b, Nset S X w0.heap.size w m st.own b → Nset S X w0.heap.size w m (st.gones n).own b := by
  rintro b (hb | ⟨h1, h2, h3⟩)
  ·exact .inl hb
  ·exact .inr ⟨h1, h2, fun i hi => h3 i (hlv i hi)⟩
 refine ⟨h.bel, ⟨fun i v hv => ?_, fun i b hb hl => ?_, fun i j b hne hi hj => h.ows.sep i j b hne (hlv i hi) (hlv j hj), fun i b hi => h.ows.lt i b (hlv i hi), fun i b hi hm => ?_⟩, fun i b hi => h.bnd i b (hlv i hi), h.fix, ?_, h.nt, h.df, fun t => (h.slots t).mono (fun _ _ => rfl) hN (fun _ _ => id)⟩
 ·have := h.ows.len i v hv
  simp only [St.gones, List.length_append]
  exact ⟨by omega, this.2⟩
 ·obtain ⟨v, hv, hok⟩ := h.ows.ok i b (hget i b hb hl) hl
  exact ⟨v, hv, hok.mono (fun _ _ => rfl) hN (fun _ _ => id) (fun _ _ => rfl)⟩
 ·rintro (hS | ⟨_, _, h3⟩)
  ·exact h.ows.out i b (hlv i hi) hm (.inl hS)
  ·exact h3 i hi hm
 ·have := h.k0
  simp only [St.gones, List.length_append]
  omega

end
end Go.Pe

/- Regions in any order, some looks behind stores: before the first of the others. -/
namespace Go.Pe
open Go Go.RowKit

section
variable {P : Program} {gl : List (Nat × Obj)} {S X : Nat → Prop} {w0 w w' : World} {m0 m : Nat → Option MV} {st : St} {a : Act}

structure OrderlyL (ops : Array Oper) (an : List (List Nat)) (p : Nat) : Prop where
 le : p ≤ ops.size
 back : ∀ i (hi : i < ops.size), ∀ e ∈ (ops[i]).after.toList, Region.binds .any e = true → e.on < i
 full : ∀ k, p ≤ k → k < ops.size → ∀ j, j < k → j ∈ an.getD k [] ∨ (j < p ∧ lateOp (ops.toList.getD j default) = true)
 apart : ∀ i j, i < p → j < p → i ≠ j → ∀ t, dstOf ops.toList i = some t → dstOf ops.toList j ≠ some t
 reads : ∀ i j (hi : i < ops.size), i < p → j < p → ∀ t ∈ readsT ops.toList ops[i], dstOf ops.toList j = some t → j ∈ an.getD i [] ∧ j < i
 anc : ∀ k (hk : k < ops.size) j, j ∈ an.getD k [] → ∃ e ∈ (ops[k]).after.toList, Region.binds .any e = true ∧ (j = e.on ∨ (e.on < k ∧ j ∈ an.getD e.on []))
 rd : ∀ k (hk : k < ops.size), p ≤ k → ∀ j, j < p → j ∈ an.getD k [] ∨ ∀ t ∈ readsT ops.toList ops[k], dstOf ops.toList j ≠ some t

theorem anc_doneL {ops : Array Oper} {an : List (List Nat)} {p : Nat} (O : OrderlyL ops an p) {listed : Array Bool} (hcl : ∀ i (_ : i < ops.size), listed[i]? = some true → ∀ j ∈ an.getD i [], listed[j]? = some true)
  {i : Nat} (hi : i < ops.size) (hr : ∀ e ∈ (ops[i]).after.toList, Region.binds .any e = true → listed[e.on]? = some true) : ∀ j ∈ an.getD i [], listed[j]? = some true := by
 intro j hj
 obtain ⟨e, he, hb, hj'⟩ := O.anc i hi j hj
 rcases hj' with rfl | ⟨hlt, hj'⟩
 ·exact hr e he hb
 ·exact hcl e.on (by omega) (hr e he hb) j hj'

theorem any_late (E : Env P gl S X w0) {ops : Array Oper} {an : List (List Nat)} {p : Nat} (O : OrderlyL ops an p) {items : List (Option Tmp × FV)} {n0 : Nat} (hq : Quiet P gl ops.toList n0 (ops.toList.take p) st items)
  {F : List (Nat × Nat × List FV)} (hFd : F = fillsOf P 0 n0 (ops.toList.take p)) (hgone : ∀ f ∈ F, st.own[f.2.1]? = some .gone ∧ st.k0 ≤ f.2.1)
  {K : St → Prop} {Q : Exit → Act → World → Prop} (hK : ∀ st a w m, Sim S X w0 m0 st a w m → K st → Q .normal a w)
  (hfin : p = ops.size → K ((stE (fun _ => true) 0 items st).over (fun _ => true) F))
  (hsw : ∀ (fuel : Nat) (listed : Array Bool) (a : Act) (w : World) (m : Nat → Option MV), listed.size = ops.size → (List.range ops.size).countP (fun i => done listed i) + (fuel + 1) = ops.size →
   (∀ i (_ : i < ops.size), listed[i]? = some true → ∀ j ∈ an.getD i [], listed[j]? = some true) → (∀ i, listed[i]? = some true → i < p) →
   Sim S X w0 m0 ((stE (done listed) 0 items st).over (done listed) F) a w m → ∀ i, i ∈ Region.ready .any ops listed → p ≤ i → wpOp P ops Q i (wpAny P .any ops Q fuel (listed.setIfInBounds i true)) a w) :
  ∀ (fuel : Nat) (listed : Array Bool) (a : Act) (w : World) (m : Nat → Option MV), listed.size = ops.size → (List.range ops.size).countP (fun i => done listed i) + fuel = ops.size →
   (∀ i (_ : i < ops.size), listed[i]? = some true → ∀ j ∈ an.getD i [], listed[j]? = some true) →
   ((∀ i, listed[i]? = some true → i < p) ∧ Sim S X w0 m0 ((stE (done listed) 0 items st).over (done listed) F) a w m ∧ (∀ f ∈ F, done listed f.1 = false → m f.2.1 = none)) →
   wpAny P .any ops Q fuel listed a w := by
 obtain ⟨hlen, hat⟩ := hq.at 0
 simp only [Nat.zero_add] at hat
 rw [← hFd] at hat
 have hFm : ∀ f ∈ F, ∃ hi : f.1 < (ops.toList.take p).length, allocOf P (ops.toList.take p)[f.1] = some f.2.2 := by
  intro f hf
  rw [hFd] at hf
  obtain ⟨_, _, _, h4, h5⟩ := fillsOf_mem (i := f.1) (c' := f.2.1) (cs := f.2.2) hf
  exact ⟨h4, h5⟩
 have hFu : ∀ f ∈ F, ∀ f' ∈ F, f.2.1 = f'.2.1 → f = f' := fun f hf f' hf' => (fillsOf_uniq (by rw [← hFd]; exact hf) (by rw [← hFd]; exact hf')).1
 have hFi : ∀ f ∈ F, ∀ f' ∈ F, f.1 = f'.1 → f = f' := fun f hf f' hf' => (fillsOf_uniq (by rw [← hFd]; exact hf) (by rw [← hFd]; exact hf')).2
 have hlive : ∀ (D : Nat → Bool) (i : Nat) (b : Blk), st.own[i]? = some b → b.live = true → (ovl D F st.own)[i]? = some b := by
  intro D i b hb hl
  rw [ovl_not D F _ i (fun f hf _ e => by subst e; rw [(hgone f hf).1] at hb; cases hb; cases hl)]
  exact hb
 have hlen' : items.length = p := by rw [hlen]; simp; have := O.le; omega
 have hsm : ∀ (listed : Array Bool), listed.size = ops.size → ∀ i, i < ops.size → listed[i]? = some true ∨ listed[i]? = some false := by
  intro listed hsz i hi
  rw [Array.getElem?_eq_getElem (by omega)]
  cases listed[i]'(by omega) <;> simp
 have hitem : ∀ i (hi : i < p), ((items[i]'(by omega)).1 = dstOf ops.toList i) := by
  intro i hi
  have := (hat i (by simp; have := O.le; omega) (by omega)).1
  rw [this]
  have := O.le
  simp [dstOf, show i < ops.size by omega]
 have hagree : ∀ (listed : Array Bool) i (hi : i < ops.size), i < p → (∀ j ∈ an.getD i [], listed[j]? = some true) → ∀ t ∈ readsT ops.toList ops[i], (stE (done listed) 0 items st).get t = (stE (fun k => decide (k < i)) 0 items st).get t := by
  intro listed i hi hip hanc t ht
  by_cases hex : ∃ k, ∃ hk : k < items.length, (items[k]).1 = some t
  ·obtain ⟨k, hk, hkt⟩ := hex
   have hkp : k < p := by omega
   have hd : dstOf ops.toList k = some t := by rw [← hitem k hkp]; exact hkt
   obtain ⟨ha, hlt⟩ := O.reads i k hi hip hkp t ht hd
   have hu : ∀ q (hq : q < items.length), q ≠ k → (items[q]).1 ≠ some t := by
    intro q hq hne
    rw [hitem q (by omega)]
    exact O.apart k q hkp (by omega) (fun e => hne e.symm) t hd
   by_cases hnt : t < st.nt
   ·rw [stE_some k hk (by rw [Nat.zero_add]; exact done_iff.2 (hanc k ha)) hkt hnt hu, stE_some k hk (by simpa using hlt) hkt hnt hu]
   ·have key : ∀ (E : Nat → Bool) (l : List (Option Tmp × FV)) (i : Nat) (st : St), ¬ t < st.nt → (stE E i l st).get t = st.get t := by
     intro E l
     induction l with
     | nil => intro i st _; rfl
     | cons d l ih =>
      intro i st hnt
      simp only [stE]
      have hnt' : ¬ t < (if E i then st.put d.1 d.2 else st).nt := by
       split
       ·rw [(put_own st d.1 d.2).2.1]; exact hnt
       ·exact hnt
      rw [ih _ _ hnt']
      split
      ·rw [put_get, if_neg (fun h => hnt h.2)]
      ·rfl
    rw [key _ _ _ _ hnt, key _ _ _ _ hnt]
  ·have hno : ∀ k (hk : k < items.length), (items[k]).1 ≠ some t := fun k hk e => hex ⟨k, hk, e⟩
   rw [stE_none (fun k hk _ => hno k hk), stE_none (fun k hk _ => hno k hk)]
 intro fuel
 induction fuel with
 | zero =>
  intro listed a w m hsz hcnt hcl hinv
  have hall : ∀ i, i < ops.size → listed[i]? = some true := by
   intro i hi
   have h1 : (List.range ops.size).countP (fun i => done listed i) = (List.range ops.size).length := by simp at hcnt ⊢; omega
   have := List.countP_eq_length.1 h1 i (by simpa using hi)
   exact done_iff.1 this
  have hready : Region.ready .any ops listed = [] := by
   apply List.eq_nil_iff_forall_not_mem.2
   intro i hi
   obtain ⟨hi', h1, _⟩ := ready_spec hsz hi
   rw [hall i hi'] at h1
   cases h1
  refine ⟨hready, ?_⟩
  obtain ⟨h1, hs, hno⟩ := hinv
  ·have hp : p = ops.size := by
    have := O.le
    by_cases hz : ops.size = 0
    ·omega
    ·have := h1 (ops.size - 1) (hall _ (by omega)); omega
   refine hK _ a w m (hs.congr ?_ ?_ ?_ (fun t => ?_)) (hfin hp)
   ·simp only [St.over]
    rw [(stE_own _ items 0 st).1, (stE_own _ items 0 st).1]
    refine (ovl_congr F _ (fun f hf => ?_)).symm
    obtain ⟨hi, _⟩ := hFm f hf
    exact done_iff.2 (hall f.1 (by simp at hi; omega))
   ·simp only [St.over]
    rw [(stE_own _ items 0 st).2.1, (stE_own _ items 0 st).2.1]
   ·simp only [St.over]
    rw [(stE_own _ items 0 st).2.2, (stE_own _ items 0 st).2.2]
   ·show (stE (fun _ => true) 0 items st).get t = (stE (done listed) 0 items st).get t
    have key : ∀ (l : List (Option Tmp × FV)) (i : Nat) (st : St), i + l.length ≤ ops.size → stE (done listed) i l st = stE (fun _ => true) i l st := by
     intro l
     induction l with
     | nil => intro i st _; rfl
     | cons d l ih =>
      intro i st hle
      simp only [List.length_cons] at hle
      have e := done_iff.2 (hall i (by omega))
      simp only [stE, e, if_true]
      exact ih _ _ (by omega)
    rw [key items 0 st (by have := O.le; omega)]
 | succ fuel ih =>
  intro listed a w m hsz hcnt hcl hinv
  have hsome : Region.ready .any ops listed ≠ [] := by
   intro hnil
   have hall : ∀ i, i < ops.size → listed[i]? = some true := by
    intro i
    induction i using Nat.strongRecOn with
    | _ i ihs =>
     intro hi
     rcases hsm listed hsz i hi with h | h
     ·exact h
     ·exfalso
      have : i ∈ Region.ready .any ops listed := ready_mem hi h (fun e he hb => by
       have hlt := O.back i hi e he hb
       exact ihs e.on hlt (by omega))
      rw [hnil] at this
      cases this
   have : (List.range ops.size).countP (fun i => done listed i) = (List.range ops.size).length := List.countP_eq_length.2 (fun i hi => done_iff.2 (hall i (by simpa using hi)))
   simp at this
   omega
  refine ⟨fun h => absurd h hsome, fun i hi => ?_⟩
  by_cases hpi0 : p ≤ i
  ·obtain ⟨h1, hs, _⟩ := hinv
   exact hsw fuel listed a w m hsz hcnt hcl h1 hs i hi hpi0
  obtain ⟨hi', hfal, hrd⟩ := ready_spec hsz hi
  have hanc := anc_doneL O hcl hi' hrd
  have hcl' : ∀ i' (_ : i' < ops.size), (listed.setIfInBounds i true)[i']? = some true → ∀ j ∈ an.getD i' [], (listed.setIfInBounds i true)[j]? = some true := by
   intro i' hi'' hl j hj
   rw [set_get (by omega)] at hl ⊢
   split
   ·rfl
   ·by_cases he : i' = i
    ·subst he; exact hanc j hj
    ·rw [if_neg he] at hl; exact hcl i' hi'' hl j hj
  have hcnt' : (List.range ops.size).countP (fun q => done (listed.setIfInBounds i true) q) + fuel = ops.size := by
   have key : ∀ (n : Nat), (List.range n).countP (fun q => done (listed.setIfInBounds i true) q) = (List.range n).countP (fun q => done listed q) + if i < n then 1 else 0 := by
    intro n
    induction n with
    | zero => simp
    | succ n ihn =>
     rw [List.range_succ, List.countP_append, List.countP_append, ihn]
     have hdn : done (listed.setIfInBounds i true) n = if n = i then true else done listed n := by
      unfold done
      rw [Array.getD_eq_getD_getElem?, set_get (by omega), Array.getD_eq_getD_getElem?]
      split <;> rfl
     simp only [List.countP_cons, List.countP_nil, hdn, Nat.zero_add]
     by_cases he : n = i
     ·subst he
      have hdf : done listed n = false := by
       unfold done; rw [Array.getD_eq_getD_getElem?, hfal]; rfl
      simp [hdf]
     ·rw [if_neg he]
      by_cases hlt : i < n
      ·rw [if_pos hlt, if_pos (show i < n + 1 by omega)]; omega
      ·rw [if_neg hlt, if_neg (show ¬ i < n + 1 by omega)]; omega
   rw [key ops.size, if_pos hi']
   omega
  have hgo : ops[i]? = some ops[i] := Array.getElem?_eq_getElem hi'
  unfold wpOp
  rw [hgo]
  simp only
  obtain ⟨h1, hs, hno⟩ := hinv
  have hip : i < p := by omega
  have hag := hagree listed i hi' hip hanc
  obtain ⟨hdst, hcase⟩ := hat i (by simp; omega) (by omega)
  have hops : (ops.toList.take p)[i]'(by simp; omega) = ops[i] := by simp
  rw [hops] at hdst hcase
  have hown := (stE_own (done listed) items 0 st).1
  have hevs : ∀ q ∈ (ops[i]).op.operands.toList, RepF w (Nset S X w0.heap.size w m ((stE (done listed) 0 items st).over (done listed) F).own) m (a.eval q) ((stE (fun k => decide (k < i)) 0 items st).ev q) := by
   intro q hq
   rw [← ev_congr (st1 := stE (done listed) 0 items st) (fun t ht => hag t ?_)]
   ·have := hs.evs q
    have e : ((stE (done listed) 0 items st).over (done listed) F).ev q = (stE (done listed) 0 items st).ev q := ev_congr (fun t _ => rfl)
    rw [e] at this
    exact this
   ·subst ht
    unfold readsT
    refine List.mem_append_left _ (List.mem_filterMap.2 ⟨_, hq, rfl⟩)
  have hput0 : ∀ v w' (m : Nat → Option MV) (D : Nat → Bool) (hs' : Sim S X w0 m0 ((stE (done listed) 0 items st).over D F) a w' m), (∀ f ∈ F, D f.1 = done (listed.setIfInBounds i true) f.1) → (∀ f ∈ F, done (listed.setIfInBounds i true) f.1 = false → m f.2.1 = none) →
    RepF w' (Nset S X w0.heap.size w' m ((stE (done listed) 0 items st).over D F).own) m v (items[i]'(by omega)).2 →
    wpAny P .any ops Q fuel (listed.setIfInBounds i true) (a.put (ops[i]).dst v) w' := by
   intro v w' m D hs' hD hno' hr
   refine ih _ _ w' m (by simpa using hsz) hcnt' hcl' ⟨fun q hq => ?_, ?_, hno'⟩
   ·rw [set_get (by omega)] at hq
    split at hq
    ·rename_i he; subst he; exact hip
    ·exact h1 q hq
   ·have hp := hs'.put (dst := (ops[i]).dst) hr
    refine hp.congr ?_ ?_ ?_ (fun t => ?_)
    ·rw [(put_own _ _ _).1]
     simp only [St.over]
     rw [(stE_own _ items 0 st).1, (stE_own _ items 0 st).1]
     exact (ovl_congr F _ hD).symm
    ·rw [(put_own _ _ _).2.1]
     simp only [St.over]
     rw [(stE_own _ items 0 st).2.1, (stE_own _ items 0 st).2.1]
    ·rw [(put_own _ _ _).2.2]
     simp only [St.over]
     rw [(stE_own _ items 0 st).2.2, (stE_own _ items 0 st).2.2]
    ·show (stE (done (listed.setIfInBounds i true)) 0 items st).get t = _
     rw [put_get]
     show _ = if (ops[i]).dst = some t ∧ t < (stE (done listed) 0 items st).nt then _ else (stE (done listed) 0 items st).get t
     rw [(stE_own _ items 0 st).2.1]
     by_cases hc : (ops[i]).dst = some t ∧ t < st.nt
     ·rw [if_pos hc]
      refine stE_some i (by omega) (by rw [Nat.zero_add]; exact done_iff.2 (by rw [set_get (by omega), if_pos rfl])) (by rw [hdst]; exact hc.1) hc.2 (fun q hq hne => ?_)
      rw [hitem q (by omega)]
      exact O.apart i q hip (by omega) (fun e => hne e.symm) t (by rw [← hitem i hip, hdst]; exact hc.1)
     ·rw [if_neg hc]
      by_cases hnt : t < st.nt
      ·have hne : (ops[i]).dst ≠ some t := fun e => hc ⟨e, hnt⟩
       by_cases hex : ∃ k, ∃ hk : k < items.length, done listed k = true ∧ (items[k]).1 = some t
       ·obtain ⟨k, hk, hdk, hkt⟩ := hex
        have hu : ∀ q (hq : q < items.length), q ≠ k → (items[q]).1 ≠ some t := by
         intro q hq hne'
         rw [hitem q (by omega)]
         exact O.apart k q (by omega) (by omega) (fun e => hne' e.symm) t (by rw [← hitem k (by omega)]; exact hkt)
        have e1 : (stE (done listed) 0 items st).get t = (items[k]).2 := stE_some k hk (by rw [Nat.zero_add]; exact hdk) hkt hnt hu
        have e2 : (stE (done (listed.setIfInBounds i true)) 0 items st).get t = (items[k]).2 := by
         refine stE_some k hk ?_ hkt hnt hu
         rw [Nat.zero_add]
         refine done_iff.2 ?_
         rw [set_get (by omega)]
         split
         ·rfl
         ·exact done_iff.1 hdk
        rw [e1, e2]
       ·rw [stE_none (E := done listed) (fun k hk hdk hkt => hex ⟨k, hk, by rw [Nat.zero_add] at hdk; exact hdk, hkt⟩)]
        refine stE_none (fun k hk hdk hkt => ?_)
        rw [Nat.zero_add] at hdk
        have := done_iff.1 hdk
        rw [set_get (by omega)] at this
        split at this
        ·rename_i he
         subst he
         rw [hdst] at hkt
         exact hne hkt
        ·exact hex ⟨k, hk, done_iff.2 this, hkt⟩
      ·have key : ∀ (E : Nat → Bool) (l : List (Option Tmp × FV)) (i : Nat) (st : St), ¬ t < st.nt → (stE E i l st).get t = st.get t := by
        intro E l
        induction l with
        | nil => intro i st _; rfl
        | cons d l ih =>
         intro i st hnt
         simp only [stE]
         have hnt' : ¬ t < (if E i then st.put d.1 d.2 else st).nt := by
          split
          ·rw [(put_own st d.1 d.2).2.1]; exact hnt
          ·exact hnt
         rw [ih _ _ hnt']
         split
         ·rw [put_get, if_neg (fun h => hnt h.2)]
         ·rfl
       rw [key _ _ _ _ hnt, key _ _ _ _ hnt]
  have hdone : ∀ q, done (listed.setIfInBounds i true) q = if q = i then true else done listed q := by
   intro q
   unfold done
   rw [Array.getD_eq_getD_getElem?, set_get (by omega), Array.getD_eq_getD_getElem?]
   split <;> rfl
  have hput : allocOf P ops[i] = none → ∀ v w' (hs' : Sim S X w0 m0 ((stE (done listed) 0 items st).over (done listed) F) a w' m), RepF w' (Nset S X w0.heap.size w' m ((stE (done listed) 0 items st).over (done listed) F).own) m v (items[i]'(by omega)).2 →
    wpAny P .any ops Q fuel (listed.setIfInBounds i true) (a.put (ops[i]).dst v) w' := by
   intro hna v w' hs' hr
   have hne : ∀ f ∈ F, f.1 ≠ i := by
    intro f hf e
    obtain ⟨hi, hal⟩ := hFm f hf
    have : (ops.toList.take p)[f.1] = ops[i] := by subst e; simp
    rw [this, hna] at hal
    cases hal
   refine hput0 v w' m (done listed) hs' (fun f hf => ?_) (fun f hf hd => ?_) hr
   ·rw [hdone, if_neg (hne f hf)]
   ·rw [hdone, if_neg (hne f hf)] at hd
    exact hno f hf hd
  rcases hcase with ⟨hna, hgd, hok⟩ | ⟨j, want, g, x, hna, hgd, hgc, hx, hok⟩ | ⟨c, cs, hal, hx, hmem⟩
  ·rw [if_pos (wanted_none hgd _)]
   refine .inl (quiet_step E hs (x := (items[i]'(by omega)).2) (fun w S m a next Q b1 b2 b3 b4 b5 b6 => hok w S m a next Q b1 b2 (fun i' b' v' hb' hl' hm' => b3 i' b' v' (by simp only [St.over]; rw [hown]; exact hlive _ _ _ hb' hl') hl' hm') b4 ?_ b6) (fun q _ => hs.evs q) (hput hna))
   intro q hq
   rw [← ev_congr (st1 := stE (done listed) 0 items st) (fun t ht => hag t (by subst ht; unfold readsT; exact List.mem_append_left _ (List.mem_filterMap.2 ⟨_, hq, rfl⟩)))]
   exact b5 q hq
  ·have hgc' : gcond ops.toList (stE (done listed) 0 items st) j want = some g := by
    rw [← hgc]
    unfold gcond
    cases hdj : (ops.toList[j]?).bind (·.dst) with
    | none => rfl
    | some t =>
     simp only
     rw [hag t (by unfold readsT; refine List.mem_append_right _ ?_; rw [hgd]; simp only; rw [hdj]; simp)]
   rw [gcond_spec hs hgd hgc']
   cases g with
   | true =>
    rw [if_pos rfl]
    refine .inl (quiet_step E hs (x := x) (fun w S m a next Q b1 b2 b3 b4 b5 b6 => hok rfl w S m a next Q b1 b2 (fun i' b' v' hb' hl' hm' => b3 i' b' v' (by simp only [St.over]; rw [hown]; exact hlive _ _ _ hb' hl') hl' hm') b4 ?_ b6) (fun q _ => hs.evs q) (fun v w' hs' hr => hput hna v w' hs' (by rw [hx]; exact .iff _ _ _ (fun _ => hr) (fun e => by cases e))))
    intro q hq
    rw [← ev_congr (st1 := stE (done listed) 0 items st) (fun t ht => hag t (by subst ht; unfold readsT; exact List.mem_append_left _ (List.mem_filterMap.2 ⟨_, hq, rfl⟩)))]
    exact b5 q hq
   | false =>
    rw [if_neg (by simp)]
    exact hput hna undef w hs (by rw [hx]; exact .iff _ _ _ (fun e => by cases e) (fun _ => rfl))
  ·-- a variable made
   unfold allocOf at hal
   split at hal
   ·rename_i t hgd hop
    rw [if_pos (wanted_none hgd _)]
    refine .inl ?_
    obtain ⟨hg1, hg2⟩ := hgone _ hmem
    have hfd : done listed i = false := by
     unfold done; rw [Array.getD_eq_getD_getElem?, hfal]; rfl
    have hmc : m c = none := hno _ hmem hfd
    have hcl : c < st.own.length := (List.getElem?_eq_some_iff.1 hg1).1
    have hown' : ((stE (done listed) 0 items st).over (done listed) F).own = ovl (done listed) F st.own := by simp only [St.over]; rw [hown]
    have hgc : ((stE (done listed) 0 items st).over (done listed) F).own[c]? = some .gone := by
     rw [hown', ovl_not _ F _ c (fun f hf hd he => by
      have := hFu f hf _ hmem he
      subst this
      rw [hfd] at hd; cases hd)]
     exact hg1
    have hk0 : ((stE (done listed) 0 items st).over (done listed) F).k0 ≤ c := by
     simp only [St.over]
     rw [(stE_own _ items 0 st).2.2]
     exact hg2
    obtain ⟨iz, z, f, hi, hzv, hcells, hf1, hfr⟩ := zeroF_spec (w := w) (S := Nset S X w0.heap.size w m ((stE (done listed) 0 items st).over (done listed) F).own) (m := m) hal
    obtain ⟨hs2, _⟩ := hs.fillOwn E hgc hmc hk0 (v := .pointer (some ⟨w.heap.size, 0, none⟩)) (bl := .box cs) (below_alloc w (.cells (vrange cs.length f).toArray t)) rfl
     (fun b hb => by simp [blk] at hb; subst hb; simp) (fun N' m' hN hm => ⟨rfl, w.heap.size, t, f, rfl, Go.heap_alloc_new w _, hf1, fun j hj => (hfr j hj).mono (fun b hb => heap_alloc_old w _ (Nset_lt E hs hb)) hN hm⟩)
    have hs3 := hs2.congr (st' := (stE (done listed) 0 items st).over (done (listed.setIfInBounds i true)) F) (by
     show ovl _ F (stE (done listed) 0 items st).own = (ovl (done listed) F (stE (done listed) 0 items st).own).set c (.box cs)
     rw [hown]
     exact ovl_set hFu hmem hdone hcl (fun f hf => (List.getElem?_eq_some_iff.1 (hgone f hf).1).1) (fun f hf he => hFi f hf _ hmem he)) rfl rfl (fun _ => rfl)
    refine wp_value' (v := .pointer (some ⟨w.heap.size, 0, none⟩)) ?_ (hput0 _ _ _ (done (listed.setIfInBounds i true)) hs3 (fun _ _ => rfl) (fun f hf hd => ?_) ?_)
    ·simp [execOp, hop, Instr.alloc, zeroValue, typeInfo, hi, hzv, run_newVar, hcells]
    ·rw [hdone] at hd
     split at hd
     ·cases hd
     ·rename_i hne
      have hne' : f.2.1 ≠ c := fun e => hne (by have := hFu f hf _ hmem e; rw [this])
      show (if f.2.1 = c then some _ else m f.2.1) = none
      rw [if_neg hne']
      exact hno f hf hd
    ·rw [hx]
     exact .box c 0 w.heap.size (tblk_of (if_pos rfl) rfl)
   ·cases hal

end
end Go.Pe

/- Regions in any order, some looks behind stores. -/
namespace Go.Pe
open Go Go.RowKit

section
variable {P : Program} {gl : List (Nat × Obj)} {S X : Nat → Prop} {w0 w w' : World} {m0 m : Nat → Option MV} {st : St} {a : Act}

theorem wp_swap {o : Oper} {a b : Act} {w : World} {K K' : Act → World → Prop} {Q : Exit → Act → World → Prop} (he : execOp a.eval o = execOp b.eval o) (hk : ∀ v w', K (b.put o.dst v) w' → K' (a.put o.dst v) w')
  (hd : ∀ d w', ¬ K ({ b with defers := d :: b.defers }.put o.dst undef) w') (hh : o.wp P b w K (fun _ _ _ => False)) : o.wp P a w K' Q := by
 unfold Oper.wp at *
 rw [he]
 generalize (execOp b.eval o).run P w = r at *
 cases r with
 | ok n w' =>
  cases n <;> simp only [Oper.upon] at hh ⊢ <;>
   first
    | exact hk _ _ hh
    | exact (hd _ _ hh).elim
    | exact Calls.mono hh (fun e w'' he => by cases e <;> first | exact hk _ _ he | exact he.elim | exact (he.elim fun _ h => h.elim fun _ h => h.elim))
    | exact Rows.mono hh (fun _ _ he => hk _ _ he)
 | halt x w' => cases x <;> simp only [Oper.upon] at hh ⊢ <;> exact hh.elim

theorem orderlyL_of {ops : Array Oper} {p : Nat} (h : quietOkL ops.toList (ancs [] ops.toList) p = true) : OrderlyL ops (ancs [] ops.toList) p ∧ ∀ i (hi : i < ops.size), ∀ cs b, (ops[i]).op ≠ .select cs b := by
 unfold quietOkL at h
 simp only [Bool.and_eq_true] at h
 obtain ⟨⟨⟨⟨h0, hq⟩, hp⟩, hc⟩, hr⟩ := h
 unfold quietOk at hq
 unfold condP at hc
 simp only [Bool.and_eq_true, List.all_eq_true, List.mem_range, Bool.or_eq_true, Bool.not_eq_true', beq_iff_eq, decide_eq_true_eq] at hq hc hr hp h0
 obtain ⟨h1, h2⟩ := hq
 have hgd : ∀ i (hi : i < ops.size), ops.toList.getD i default = ops[i] := by
  intro i hi
  simp [List.getD, hi]
 refine ⟨⟨by simpa using hp, fun i hi e he hb => ?_, fun k hpk hk j hj => ?_, fun i j hi hj hne t ht => ?_, fun i j his hi hj t ht hd => ?_, fun k hk j hj => ?_, fun k hk hpk j hj => ?_⟩, fun i hi cs b e => ?_⟩
 ·have := h1 i (by simpa using hi) e (by rw [hgd i hi]; exact he)
  rw [hb] at this
  simpa using this
 ·rcases hc k (by simpa using hk) with h3 | h3
  ·omega
  ·rcases h3 j hj with h4 | h4
   ·exact .inl (by simpa using h4)
   ·exact .inr h4
 ·intro hj'
  rcases (h2 i hi j hj).1 with (h3 | h3) | h3
  ·exact hne h3
  ·rw [ht] at h3; cases h3
  ·rw [ht, hj'] at h3; simp at h3
 ·have := (h2 i hi j hj).2 t (by rw [hgd i his]; exact ht)
  rcases this with h3 | ⟨h3, h4⟩
  ·rw [hd] at h3; simp at h3
  ·exact ⟨by simpa using h3, h4⟩
 ·obtain ⟨e, hm, hb, hj'⟩ := ancs_spec ops.toList [] k (Nat.zero_le _) (by simpa using hk) j hj
  exact ⟨e, by simpa using hm, hb, hj'⟩
 ·rcases hr k (by simpa using hk) with h3 | h3
  ·omega
  ·rcases h3 j hj with h4 | h4
   ·exact .inl (by simpa using h4)
   ·refine .inr fun t ht => ?_
    have := h4 t (by rw [hgd k hk]; exact ht)
    intro e
    rw [e] at this
    simp at this
 ·have := h0 ops[i] (by simp)
  unfold noSelect at this
  rw [e] at this
  cases this

structure Off (ops : Array Oper) (PD : Nat → Prop) (a b : Act) : Prop where
 size : b.tmps.size = a.tmps.size
 defers : b.defers = a.defers
 slot : ∀ t, (∀ j, PD j → dstOf ops.toList j ≠ some t) → b.tmps.getD t undef = a.tmps.getD t undef

theorem Off.eval {ops : Array Oper} {PD : Nat → Prop} {a b : Act} (h : Off ops PD a b) {q : Operand} (hq : ∀ t, q = .tmp t → ∀ j, PD j → dstOf ops.toList j ≠ some t) : a.eval q = b.eval q := by
 cases q with
 | tmp t => exact (h.slot t (hq t rfl)).symm
 | _ => rfl

theorem Off.exec {ops : Array Oper} {PD : Nat → Prop} {a b : Act} (h : Off ops PD a b) {o : Oper} (hs : ∀ cs b, o.op ≠ .select cs b) (hr : ∀ t ∈ readsT ops.toList o, ∀ j, PD j → dstOf ops.toList j ≠ some t) :
  execOp a.eval o = execOp b.eval o := by
 refine execOp_congr o hs fun x hx => h.eval fun t ht j hj => hr t ?_ j hj
 subst ht
 exact List.mem_append_left _ (List.mem_filterMap.2 ⟨_, by simpa using hx, rfl⟩)

theorem Off.wanted {ops : Array Oper} {PD : Nat → Prop} {a b : Act} (h : Off ops PD a b) {o : Oper} (hr : ∀ t ∈ readsT ops.toList o, ∀ j, PD j → dstOf ops.toList j ≠ some t) :
  Region.wanted o (yielded ops a.tmps) = Region.wanted o (yielded ops b.tmps) := by
 unfold Region.wanted
 cases hg : o.guard with
 | none => rfl
 | some jw =>
  obtain ⟨j, want⟩ := jw
  simp only
  have e : yielded ops a.tmps j = yielded ops b.tmps j := by
   unfold yielded
   cases hd : (ops[j]?).bind (·.dst) with
   | none => rfl
   | some t =>
    simp only [Option.bind_some]
    have ht : t ∈ readsT ops.toList o := by
     unfold readsT
     refine List.mem_append_right _ ?_
     rw [hg]
     simp only
     have : (ops.toList[j]?).bind (·.dst) = some t := by simpa using hd
     rw [this]
     simp
    have := h.slot t (hr t ht)
    have e1 : a.tmps[t]? = b.tmps[t]? := by
     by_cases hlt : t < a.tmps.size
     ·rw [Array.getD_eq_getD_getElem?, Array.getD_eq_getD_getElem?, Array.getElem?_eq_getElem hlt, Array.getElem?_eq_getElem (by rw [h.size]; exact hlt)] at this
      simp only [Option.getD_some] at this
      rw [Array.getElem?_eq_getElem hlt, Array.getElem?_eq_getElem (by rw [h.size]; exact hlt), this]
     ·rw [Array.getElem?_eq_none (xs := a.tmps) (Nat.le_of_not_lt hlt), Array.getElem?_eq_none (xs := b.tmps) (by rw [h.size]; exact Nat.le_of_not_lt hlt)]
    rw [e1]
  rw [e]

theorem Off.put {ops : Array Oper} {PD : Nat → Prop} {a b : Act} (h : Off ops PD a b) (dst : Option Tmp) (v : Value) : Off ops PD (a.put dst v) (b.put dst v) := by
 cases dst with
 | none => exact h
 | some d =>
  refine ⟨by simpa [Act.put] using h.size, h.defers, fun t ht => ?_⟩
  have := h.slot t ht
  simp only [Act.put, Array.getD_eq_getD_getElem?, Array.getElem?_setIfInBounds] at this ⊢
  by_cases hd : d = t
  ·subst hd; simp [h.size]
  ·rw [if_neg hd, if_neg hd]; exact this

theorem Off.drop {ops : Array Oper} {PD : Nat → Prop} {a b : Act} {i : Nat} (h : Off ops PD a b) (v : Value) : Off ops (fun j => PD j ∧ j ≠ i) (a.put (dstOf ops.toList i) v) (b.put (dstOf ops.toList i) v) := by
 have hp := h.put (dstOf ops.toList i) v
 refine ⟨hp.size, hp.defers, fun t ht => ?_⟩
 by_cases hd : dstOf ops.toList i = some t
 ·rw [hd]
  simp only [Act.put, Array.getD_eq_getD_getElem?, Array.getElem?_setIfInBounds, if_true, h.size]
 ·refine hp.slot t fun j hj => ?_
  by_cases e : j = i
  ·subst e; exact hd
  ·exact ht j ⟨hj, e⟩

theorem recheck_mem {ops : List Oper} {st : St} : ∀ {l : List Nat}, recheck P ops st l → ∀ j ∈ l, recheck1 P ops st j
 | [], _, j, hj => by simp at hj
 | x :: r, h, j, hj => by
  rcases List.mem_cons.1 hj with rfl | hj
  ·exact h.1
  ·exact recheck_mem h.2 j hj

theorem late_run {ops : Array Oper} {st : St} {i : Nat} (hi : i < ops.size) (hr : recheck1 P ops.toList st i) {N : Nat → Prop} {a : Act}
  (hown : ∀ i b v, st.own[i]? = some b → b.live = true → m i = some v → OwnOk w N m v b) (hm : ∀ i v, m i = some v → v.1.oneCell' = true)
  (hev : ∀ q ∈ (ops[i]).op.operands.toList, RepF w N m (a.eval q) (st.ev q)) :
  ∃ v, (execOp a.eval ops[i]).run P w = .ok (.value v) w ∧ ∀ t, (ops[i]).dst = some t → RepF w N m v (st.get t) := by
 have hgd : ops.toList.getD i default = ops[i] := by simp [List.getD, hi]
 unfold recheck1 at hr
 rw [hgd] at hr
 obtain ⟨hc, hr⟩ := hr
 split at hr
 ·rename_i ob x hp
  obtain ⟨hob, hx⟩ := hr
  obtain ⟨v, h1, h2⟩ := pop_run (a := a) hp hob hown hm (fun q hq => strip_rep (hev q hq) (condsOk_mem (g := none) trivial hc q hq))
  refine ⟨v, h1, fun t ht => ?_⟩
  rw [ht] at hx
  simp only at hx
  rw [hx]
  exact h2
 ·exact hr.elim

theorem late_sound (E : Env P gl S X w0) {ops : Array Oper} {an : List (List Nat)} {p : Nat} {lt : List Nat} (O : OrderlyL ops an p) (hsel : ∀ i (hi : i < ops.size), ∀ cs b, (ops[i]).op ≠ .select cs b)
  {K : St → Prop} {Q : Exit → Act → World → Prop} (hK : ∀ st a w m, Sim S X w0 m0 st a w m → K st → Q .normal a w) :
  ∀ (fuel : Nat) (listed : Array Bool) (a b : Act) (w : World) (m : Nat → Option MV) (k : Nat) (st' : St) (PD : Nat → Prop), listed.size = ops.size → (List.range ops.size).countP (fun i => done listed i) + fuel = ops.size →
   (∀ i (_ : i < ops.size), listed[i]? = some true → ∀ j ∈ an.getD i [], listed[j]? = some true) →
   p ≤ k → k ≤ ops.size → (∀ i, i < ops.size → (listed[i]? = some true ↔ i < k ∧ ¬ PD i)) → (∀ i, PD i → i < p ∧ i ∈ lt ∧ lateOp (ops.toList.getD i default) = true) → Off ops PD a b →
   Sim S X w0 m0 st' b w m → (∀ i, PD i → recheck1 P ops.toList st' i) → seqL P gl ops.toList an lt k (ops.toList.drop k) st' K →
   wpAny P .any ops Q fuel listed a w := by
 have hsm : ∀ (listed : Array Bool), listed.size = ops.size → ∀ i, i < ops.size → listed[i]? = some true ∨ listed[i]? = some false := by
  intro listed hsz i hi
  rw [Array.getElem?_eq_getElem (by omega)]
  cases listed[i]'(by omega) <;> simp
 intro fuel
 induction fuel with
 | zero =>
  intro listed a b w m k st' PD hsz hcnt hcl hpk hkn hiff hPD hoff hs hrc hv
  have hall : ∀ i, i < ops.size → listed[i]? = some true := by
   intro i hi
   have h1 : (List.range ops.size).countP (fun i => done listed i) = (List.range ops.size).length := by simp at hcnt ⊢; omega
   have := List.countP_eq_length.1 h1 i (by simpa using hi)
   exact done_iff.1 this
  have hready : Region.ready .any ops listed = [] := by
   apply List.eq_nil_iff_forall_not_mem.2
   intro i hi
   obtain ⟨hi', h1, _⟩ := ready_spec hsz hi
   rw [hall i hi'] at h1
   cases h1
  refine ⟨hready, ?_⟩
  have hno : ∀ i, ¬ PD i := by
   intro i hi
   have := (hPD i hi).1
   have := O.le
   exact ((hiff i (by omega)).1 (hall i (by omega))).2 hi
  have hkk : k = ops.size := by
   by_cases hz : ops.size = 0
   ·omega
   ·have := ((hiff (ops.size - 1) (by omega)).1 (hall _ (by omega))).1; omega
  rw [List.drop_eq_nil_of_le (by simp; omega)] at hv
  have hs' : Sim S X w0 m0 st' a w m := by
   refine ⟨hs.bel, hs.ows, hs.bnd, hs.fix, hs.k0, by rw [← hoff.size]; exact hs.nt, by rw [← hoff.defers]; exact hs.df, fun t => ?_⟩
   rw [← hoff.slot t (fun j hj => absurd hj (hno j))]
   exact hs.slots t
  exact hK _ a w m hs' hv
 | succ fuel ih =>
  intro listed a b w m k st' PD hsz hcnt hcl hpk hkn hiff hPD hoff hs hrc hv
  have hsome : Region.ready .any ops listed ≠ [] := by
   intro hnil
   have hall : ∀ i, i < ops.size → listed[i]? = some true := by
    intro i
    induction i using Nat.strongRecOn with
    | _ i ihs =>
     intro hi
     rcases hsm listed hsz i hi with h | h
     ·exact h
     ·exfalso
      have : i ∈ Region.ready .any ops listed := ready_mem hi h (fun e he hb => by
       have hlt := O.back i hi e he hb
       exact ihs e.on hlt (by omega))
      rw [hnil] at this
      cases this
   have : (List.range ops.size).countP (fun i => done listed i) = (List.range ops.size).length := List.countP_eq_length.2 (fun i hi => done_iff.2 (hall i (by simpa using hi)))
   simp at this
   omega
  refine ⟨fun h => absurd h hsome, fun i hi => ?_⟩
  obtain ⟨hi', hfal, hrd⟩ := ready_spec hsz hi
  have hanc := anc_doneL O hcl hi' hrd
  have hcl' : ∀ i' (_ : i' < ops.size), (listed.setIfInBounds i true)[i']? = some true → ∀ j ∈ an.getD i' [], (listed.setIfInBounds i true)[j]? = some true := by
   intro i' hi'' hl j hj
   rw [set_get (by omega)] at hl ⊢
   split
   ·rfl
   ·by_cases he : i' = i
    ·subst he; exact hanc j hj
    ·rw [if_neg he] at hl; exact hcl i' hi'' hl j hj
  have hcnt' : (List.range ops.size).countP (fun q => done (listed.setIfInBounds i true) q) + fuel = ops.size := by
   have key : ∀ (n : Nat), (List.range n).countP (fun q => done (listed.setIfInBounds i true) q) = (List.range n).countP (fun q => done listed q) + if i < n then 1 else 0 := by
    intro n
    induction n with
    | zero => simp
    | succ n ihn =>
     rw [List.range_succ, List.countP_append, List.countP_append, ihn]
     have hdn : done (listed.setIfInBounds i true) n = if n = i then true else done listed n := by
      unfold done
      rw [Array.getD_eq_getD_getElem?, set_get (by omega), Array.getD_eq_getD_getElem?]
      split <;> rfl
     simp only [List.countP_cons, List.countP_nil, hdn, Nat.zero_add]
     by_cases he : n = i
     ·subst he
      have hdf : done listed n = false := by
       unfold done; rw [Array.getD_eq_getD_getElem?, hfal]; rfl
      simp [hdf]
     ·rw [if_neg he]
      by_cases hlt : i < n
      ·rw [if_pos hlt, if_pos (show i < n + 1 by omega)]; omega
      ·rw [if_neg hlt, if_neg (show ¬ i < n + 1 by omega)]; omega
   rw [key ops.size, if_pos hi']
   omega
  have hgo : ops[i]? = some ops[i] := Array.getElem?_eq_getElem hi'
  have hnl : ∀ j, PD j → j ∉ an.getD i [] := by
   intro j hj hm
   have := (hPD j hj).1
   have := O.le
   exact ((hiff j (by omega)).1 (hanc j hm)).2 hj
  have hdsti : dstOf ops.toList i = (ops[i]).dst := by simp [dstOf, hi']
  unfold wpOp
  rw [hgo]
  simp only
  by_cases hpd : PD i
  ·-- one that comes late
   obtain ⟨hip, hilt, hlo⟩ := hPD i hpd
   have hgd : ops.toList.getD i default = ops[i] := by simp [List.getD, hi']
   rw [hgd] at hlo
   have hg : (ops[i]).guard = none := by
    unfold lateOp at hlo
    split at hlo <;> first | assumption | cases hlo
   have hreads : ∀ t ∈ readsT ops.toList ops[i], ∀ j, PD j → dstOf ops.toList j ≠ some t := by
    intro t ht j hj e
    exact hnl j hj (O.reads i j hi' hip (hPD j hj).1 t ht e).1
   have hex := hoff.exec (hsel i hi') hreads
   obtain ⟨v, hrun, hrep⟩ := late_run (a := b) hi' (hrc i hpd) hs.ownAt (fun i v hv => (hs.ows.len i v hv).2.1) (fun q _ => hs.evs q)
   rw [if_pos (wanted_none hg _)]
   refine .inl (wp_value (v := v) (by rw [hex]; exact hrun) ?_)
   rw [← hdsti]
   refine ih _ _ (b.put (dstOf ops.toList i) v) w m k st' (fun j => PD j ∧ j ≠ i) (by simpa using hsz) hcnt' hcl' hpk hkn (fun q hq => ?_) (fun j hj => hPD j hj.1) (hoff.drop v) ?_ (fun j hj => hrc j hj.1) hv
   ·rw [set_get (by omega)]
    by_cases he : q = i
    ·subst he
     simp only [if_true, true_iff]
     exact ⟨by omega, fun h => h.2 rfl⟩
    ·rw [if_neg he, hiff q hq]
     constructor
     ·rintro ⟨h1, h2⟩; exact ⟨h1, fun h => h2 h.1⟩
     ·rintro ⟨h1, h2⟩; exact ⟨h1, fun h => h2 ⟨h, he⟩⟩
   ·rw [hdsti]
    cases hd : (ops[i]).dst with
    | none => exact hs
    | some t =>
     have hp := hs.put (dst := some t) (hrep t hd)
     refine hp.congr (put_own _ _ _).1.symm (put_own _ _ _).2.1.symm (put_own _ _ _).2.2.symm (fun q => ?_)
     rw [put_get]
     split
     ·rename_i h; obtain ⟨h1, _⟩ := h; cases h1; rfl
     ·rfl
  ·have hik : i = k := by
    rcases Nat.lt_trichotomy i k with hlt | heq | hgt
    ·exfalso
     rw [(hiff i hi').2 ⟨hlt, hpd⟩] at hfal
     cases hfal
    ·exact heq
    ·exfalso
     rcases O.full i (by omega) hi' k hgt with h | ⟨h, _⟩
     ·have := ((hiff k (by omega)).1 (hanc k h)).1
      omega
     ·omega
   subst hik
   have hreads : ∀ t ∈ readsT ops.toList ops[i], ∀ j, PD j → dstOf ops.toList j ≠ some t := by
    intro t ht j hj
    rcases O.rd i hi' hpk j (hPD j hj).1 with h | h
    ·exact absurd h (hnl j hj)
    ·exact h t ht
   have hex := hoff.exec (hsel i hi') hreads
   have hdrop : ops.toList.drop i = ops[i] :: ops.toList.drop (i + 1) := by
    rw [List.drop_eq_getElem_cons (by simpa using hi')]
    simp
   rw [hdrop] at hv
   unfold seqL at hv
   have hnext : ∀ a2 b2 w2 m2 st2, Off ops PD a2 b2 → Sim S X w0 m0 st2 b2 w2 m2 → (recheck P ops.toList st2 (lt.filter fun j => !(an.getD i []).contains j) ∧ seqL P gl ops.toList an lt (i + 1) (ops.toList.drop (i + 1)) st2 K) →
     wpAny P .any ops Q fuel (listed.setIfInBounds i true) a2 w2 := by
    intro a2 b2 w2 m2 st2 ho hs2 hk2
    refine ih _ _ b2 w2 m2 (i + 1) st2 PD (by simpa using hsz) hcnt' hcl' (by omega) (by omega) (fun q hq => ?_) hPD ho hs2 (fun j hj => ?_) hk2.2
    ·rw [set_get (by omega)]
     by_cases he : q = i
     ·subst he
      simp only [if_true, true_iff]
      exact ⟨by omega, hpd⟩
     ·rw [if_neg he, hiff q hq]
      constructor
      ·rintro ⟨h1, h2⟩; exact ⟨by omega, h2⟩
      ·rintro ⟨h1, h2⟩; exact ⟨by omega, h2⟩
    ·refine recheck_mem hk2.1 j (List.mem_filter.2 ⟨(hPD j hj).2.1, ?_⟩)
     have := hnl j hj
     simpa using this
   have hst := step_sound1 E hs (Q := fun _ _ _ => False) hv (next := fun b2 w2 => ∃ st2 m2, Sim S X w0 m0 st2 b2 w2 m2 ∧ recheck P ops.toList st2 (lt.filter fun j => !(an.getD i []).contains j) ∧ seqL P gl ops.toList an lt (i + 1) (ops.toList.drop (i + 1)) st2 K)
    (fun st2 b2 w2 m2 hs2 hk2 => ⟨st2, m2, hs2, hk2⟩)
   rw [hoff.wanted hreads]
   split
   ·rename_i hw
    rw [if_pos hw] at hst
    refine .inl (wp_swap hex (fun v w' h => ?_) (fun d w' h => ?_) hst)
    ·obtain ⟨st2, m2, hs2, hk2⟩ := h
     exact hnext _ _ _ _ _ (hoff.put _ v) hs2 hk2
    ·obtain ⟨st2, m2, hs2, _⟩ := h
     have := hs2.df
     cases hdd : (ops[i]).dst <;> simp [hdd, Act.put] at this
   ·rename_i hw
    rw [if_neg hw] at hst
    obtain ⟨st2, m2, hs2, hk2⟩ := hst
    exact hnext _ _ _ _ _ (hoff.put _ undef) hs2 hk2

end
end Go.Pe

/- Regions. -/
namespace Go.Pe
open Go Go.RowKit

section
variable {P : Program} {gl : List (Nat × Obj)} {S X : Nat → Prop} {w0 w w' : World} {m0 m : Nat → Option MV} {st : St} {a : Act}

theorem stE_congr {E E' : Nat → Bool} : ∀ {l : List (Option Tmp × FV)} {i : Nat} {st : St}, (∀ k, k < l.length → E (i + k) = E' (i + k)) → stE E i l st = stE E' i l st
 | [], _, _, _ => rfl
 | d :: l, i, st, h => by
  simp only [stE]
  rw [show E i = E' i by simpa using h 0 (by simp)]
  exact stE_congr fun k hk => by
   have := h (k + 1) (by simpa using hk)
   rw [show i + 1 + k = i + (k + 1) by omega]
   exact this

theorem late_switch (E : Env P gl S X w0) {ops : Array Oper} {an : List (List Nat)} {p : Nat} (O : OrderlyL ops an p) (hsel : ∀ i (hi : i < ops.size), ∀ cs b, (ops[i]).op ≠ .select cs b)
  {items : List (Option Tmp × FV)} {n0 : Nat} (hq : Quiet P gl ops.toList n0 (ops.toList.take p) st items)
  {F : List (Nat × Nat × List FV)} (hFd : F = fillsOf P 0 n0 (ops.toList.take p)) {K : St → Prop} {Q : Exit → Act → World → Prop} (hK : ∀ st a w m, Sim S X w0 m0 st a w m → K st → Q .normal a w)
  (hrc : recheck P ops.toList ((stE (fun _ => true) 0 items st).over (fun _ => true) F) (lateSet ops.toList an p))
  (hv : seqL P gl ops.toList an (lateSet ops.toList an p) p (ops.toList.drop p) ((stE (fun _ => true) 0 items st).over (fun _ => true) F) K)
  (fuel : Nat) (listed : Array Bool) (a : Act) (w : World) (m : Nat → Option MV) (hsz : listed.size = ops.size) (hcnt : (List.range ops.size).countP (fun i => done listed i) + (fuel + 1) = ops.size)
  (hcl : ∀ i (_ : i < ops.size), listed[i]? = some true → ∀ j ∈ an.getD i [], listed[j]? = some true) (h1 : ∀ i, listed[i]? = some true → i < p)
  (hs : Sim S X w0 m0 ((stE (done listed) 0 items st).over (done listed) F) a w m) (i : Nat) (hi : i ∈ Region.ready .any ops listed) (hpi : p ≤ i) :
  wpOp P ops Q i (wpAny P .any ops Q fuel (listed.setIfInBounds i true)) a w := by
 obtain ⟨hlen, hat⟩ := hq.at 0
 simp only [Nat.zero_add] at hat
 have hle := O.le
 have hlen' : items.length = p := by rw [hlen]; simp; omega
 have hitem : ∀ i (hi : i < p), ((items[i]'(by omega)).1 = dstOf ops.toList i) := by
  intro i hi
  have := (hat i (by simp; omega) (by omega)).1
  rw [this]
  simp [dstOf, show i < ops.size by omega]
 obtain ⟨hi', hfal, hrd⟩ := ready_spec hsz hi
 have hanc := anc_doneL O hcl hi' hrd
 have hip : i = p := by
  by_cases he : i = p
  ·exact he
  ·exfalso
   rcases O.full i hpi hi' p (by omega) with h | ⟨h, _⟩
   ·have := h1 p (hanc p h); omega
   ·omega
 subst hip
 let PD : Nat → Prop := fun j => j < i ∧ done listed j = false
 have hPD : ∀ j, PD j → j < i ∧ j ∈ lateSet ops.toList an i ∧ lateOp (ops.toList.getD j default) = true := by
  rintro j ⟨hj, hd⟩
  have hna : j ∉ an.getD i [] := by
   intro hm
   have := done_iff.2 (hanc j hm)
   rw [hd] at this; cases this
  refine ⟨hj, ?_, ?_⟩
  ·unfold lateSet
   refine List.mem_filter.2 ⟨by simpa using hj, ?_⟩
   simp only [List.any_eq_true, List.mem_range, Bool.and_eq_true, decide_eq_true_eq, Bool.not_eq_true']
   exact ⟨i, by simpa using hi', Nat.le_refl _, by simpa using hna⟩
  ·exact ((O.full i (Nat.le_refl _) hi' j hj).resolve_left hna).2
 have hFdone : ∀ f ∈ F, done listed f.1 = true := by
  intro f hf
  rw [hFd] at hf
  obtain ⟨_, _, _, h4, h5⟩ := fillsOf_mem (i := f.1) (c' := f.2.1) (cs := f.2.2) hf
  cases hd : done listed f.1 with
  | true => rfl
  | false =>
   exfalso
   have hlt : f.1 < i := by simp at h4; omega
   have hl := (hPD f.1 ⟨hlt, hd⟩).2.2
   have e : (ops.toList.take i)[f.1 - 0]'(by simpa using h4) = ops.toList.getD f.1 default := by
    simp [List.getD, show f.1 < ops.size by omega]
   have h5' : allocOf P (ops.toList.getD f.1 default) = some f.2.2 := by rw [← e]; exact h5
   generalize ops.toList.getD f.1 default = o at hl h5'
   unfold allocOf at h5'
   split at h5'
   ·rename_i t hg hop
    unfold lateOp at hl
    rw [hg, hop] at hl
    cases hl
   ·cases h5'
 let D : Nat → Nat → Bool := fun q j => done listed j || decide (j < q)
 have hagree : ∀ q (hq : q < i), ∀ t ∈ readsT ops.toList (ops[q]'(by omega)), (stE (D q) 0 items st).get t = (stE (fun _ => true) 0 items st).get t := by
  intro q hq t ht
  by_cases hex : ∃ k, ∃ hk : k < items.length, (items[k]).1 = some t
  ·obtain ⟨k, hk, hkt⟩ := hex
   have hkp : k < i := by omega
   have hd : dstOf ops.toList k = some t := by rw [← hitem k hkp]; exact hkt
   obtain ⟨_, hlt⟩ := O.reads q k (by omega) hq hkp t ht hd
   have hu : ∀ r (hr : r < items.length), r ≠ k → (items[r]).1 ≠ some t := by
    intro r hr hne
    rw [hitem r (by omega)]
    exact O.apart k r hkp (by omega) (fun e => hne e.symm) t hd
   by_cases hnt : t < st.nt
   ·rw [stE_some k hk (by simp only [D]; simp; exact .inr (by omega)) hkt hnt hu, stE_some k hk rfl hkt hnt hu]
   ·have key : ∀ (E : Nat → Bool) (l : List (Option Tmp × FV)) (i : Nat) (st : St), ¬ t < st.nt → (stE E i l st).get t = st.get t := by
     intro E l
     induction l with
     | nil => intro i st _; rfl
     | cons d l ih =>
      intro i st hnt
      simp only [stE]
      have hnt' : ¬ t < (if E i then st.put d.1 d.2 else st).nt := by
       split
       ·rw [(put_own st d.1 d.2).2.1]; exact hnt
       ·exact hnt
      rw [ih _ _ hnt']
      split
      ·rw [put_get, if_neg (fun h => hnt h.2)]
      ·rfl
    rw [key _ _ _ _ hnt, key _ _ _ _ hnt]
  ·have hno : ∀ k (hk : k < items.length), (items[k]).1 ≠ some t := fun k hk e => hex ⟨k, hk, e⟩
   rw [stE_none (fun k hk _ => hno k hk), stE_none (fun k hk _ => hno k hk)]
 have hownD : ∀ q, ((stE (D q) 0 items st).over (fun _ => true) F).own = ovl (fun _ => true) F st.own := fun q => by simp only [St.over]; rw [(stE_own _ items 0 st).1]
 have hfill : ∀ q, q ≤ i → ∃ b, Off ops (fun j => PD j ∧ j < q) a b ∧ Sim S X w0 m0 ((stE (D q) 0 items st).over (fun _ => true) F) b w m := by
  intro q
  induction q with
  | zero =>
   intro _
   refine ⟨a, ⟨rfl, rfl, fun _ _ => rfl⟩, hs.congr ?_ ?_ ?_ (fun t => ?_)⟩
   ·rw [hownD]
    simp only [St.over]
    rw [(stE_own _ items 0 st).1]
    exact ovl_congr F _ (fun f hf => (hFdone f hf).symm)
   ·simp only [St.over]; rw [(stE_own _ items 0 st).2.1, (stE_own _ items 0 st).2.1]
   ·simp only [St.over]; rw [(stE_own _ items 0 st).2.2, (stE_own _ items 0 st).2.2]
   ·show (stE (D 0) 0 items st).get t = (stE (done listed) 0 items st).get t
    rw [stE_congr (E := D 0) (E' := done listed) (fun k _ => by simp [D])]
  | succ q ih =>
   intro hqi
   obtain ⟨b, hoff, hb⟩ := ih (by omega)
   have hqs : q < ops.size := by omega
   by_cases hd : done listed q = true
   ·refine ⟨b, ⟨hoff.size, hoff.defers, fun t ht => hoff.slot t fun j hj => ht j ⟨hj.1, by omega⟩⟩, ?_⟩
    rw [stE_congr (E := D (q + 1)) (E' := D q) (fun k _ => by
     simp only [D, Nat.zero_add]
     by_cases he : k = q
     ·subst he; simp [hd]
     ·by_cases h : k < q
      ·simp [h, show k < q + 1 by omega]
      ·simp [h, show ¬ k < q + 1 by omega])]
    exact hb
   ·have hd : done listed q = false := by simpa using hd
    have hpd : PD q := ⟨by omega, hd⟩
    have hr := recheck_mem hrc q (hPD q hpd).2.1
    have hev : ∀ x ∈ (ops[q]).op.operands.toList, RepF w (Nset S X w0.heap.size w m ((stE (D q) 0 items st).over (fun _ => true) F).own) m (b.eval x) (((stE (fun _ => true) 0 items st).over (fun _ => true) F).ev x) := by
     intro x hx
     have := hb.evs x
     have e : ((stE (D q) 0 items st).over (fun _ => true) F).ev x = ((stE (fun _ => true) 0 items st).over (fun _ => true) F).ev x := ev_congr (fun t ht => hagree q (by omega) t (by
      subst ht
      exact List.mem_append_left _ (List.mem_filterMap.2 ⟨_, hx, rfl⟩)))
     rw [e] at this
     exact this
    have hownT : ((stE (fun _ => true) 0 items st).over (fun _ => true) F).own = ((stE (D q) 0 items st).over (fun _ => true) F).own := by
     rw [hownD]; simp only [St.over]; rw [(stE_own _ items 0 st).1]
    obtain ⟨v, _, hrep⟩ := late_run (a := b) hqs hr (by rw [hownT]; exact hb.ownAt) (fun i v hv => (hb.ows.len i v hv).2.1) hev
    have hdq : dstOf ops.toList q = (ops[q]).dst := by simp [dstOf, hqs]
    refine ⟨b.put (ops[q]).dst v, ⟨?_, ?_, fun t ht => ?_⟩, ?_⟩
    ·rw [← hoff.size]; cases (ops[q]).dst <;> simp [Act.put]
    ·rw [← hoff.defers]; cases (ops[q]).dst <;> rfl
    ·have hne : (ops[q]).dst ≠ some t := by rw [← hdq]; exact ht q ⟨hpd, by omega⟩
     rw [← hoff.slot t (fun j hj => ht j ⟨hj.1, by omega⟩)]
     cases hdd : (ops[q]).dst with
     | none => rfl
     | some d =>
      have : d ≠ t := fun e => hne (by rw [hdd, e])
      simp only [Act.put, Array.getD_eq_getD_getElem?, Array.getElem?_setIfInBounds]
      rw [if_neg this]
    ·cases hdd : (ops[q]).dst with
     | none =>
      rw [stE_congr (E := D (q + 1)) (E' := D (q + 1)) (fun _ _ => rfl)]
      refine (show Sim S X w0 m0 _ b w m from hb).congr ?_ ?_ ?_ (fun t => ?_)
      ·rw [hownD, hownD]
      ·simp only [St.over]; rw [(stE_own _ items 0 st).2.1, (stE_own _ items 0 st).2.1]
      ·simp only [St.over]; rw [(stE_own _ items 0 st).2.2, (stE_own _ items 0 st).2.2]
      ·show (stE (D (q + 1)) 0 items st).get t = (stE (D q) 0 items st).get t
       by_cases hex : ∃ k, ∃ hk : k < items.length, D q k = true ∧ (items[k]).1 = some t
       ·obtain ⟨k, hk, hdk, hkt⟩ := hex
        have hd : dstOf ops.toList k = some t := by rw [← hitem k (by omega)]; exact hkt
        have hu : ∀ r (hr : r < items.length), r ≠ k → (items[r]).1 ≠ some t := by
         intro r hr hne
         rw [hitem r (by omega)]
         exact O.apart k r (by omega) (by omega) (fun e => hne e.symm) t hd
        by_cases hnt : t < st.nt
        ·rw [stE_some k hk (by rw [Nat.zero_add]; simp only [D] at hdk ⊢; simp at hdk ⊢; rcases hdk with h | h; exact .inl h; exact .inr (by omega)) hkt hnt hu, stE_some k hk (by rw [Nat.zero_add]; exact hdk) hkt hnt hu]
        ·have key : ∀ (E : Nat → Bool) (l : List (Option Tmp × FV)) (i : Nat) (st : St), ¬ t < st.nt → (stE E i l st).get t = st.get t := by
          intro E l
          induction l with
          | nil => intro i st _; rfl
          | cons d l ih =>
           intro i st hnt
           simp only [stE]
           have hnt' : ¬ t < (if E i then st.put d.1 d.2 else st).nt := by
            split
            ·rw [(put_own st d.1 d.2).2.1]; exact hnt
            ·exact hnt
           rw [ih _ _ hnt']
           split
           ·rw [put_get, if_neg (fun h => hnt h.2)]
           ·rfl
         rw [key _ _ _ _ hnt, key _ _ _ _ hnt]
       ·rw [stE_none (E := D q) (fun k hk hdk hkt => hex ⟨k, hk, by rw [Nat.zero_add] at hdk; exact hdk, hkt⟩)]
        refine stE_none (fun k hk hdk hkt => ?_)
        rw [Nat.zero_add] at hdk
        by_cases he : k = q
        ·subst he
         rw [hitem k (by omega), hdq, hdd] at hkt
         cases hkt
        ·refine hex ⟨k, hk, ?_, hkt⟩
         simp only [D] at hdk ⊢
         simp at hdk ⊢
         rcases hdk with h | h
         ·exact .inl h
         ·exact .inr (by omega)
     | some d =>
      have hit : (items[q]'(by omega)).1 = some d := by rw [hitem q (by omega), hdq, hdd]
      have hp := hb.put (dst := some d) (v := v) (x := ((stE (fun _ => true) 0 items st).over (fun _ => true) F).get d) (by
       have := hrep d hdd
       exact this)
      refine hp.congr ?_ ?_ ?_ (fun t => ?_)
      ·rw [(put_own _ _ _).1, hownD, hownD]
      ·rw [(put_own _ _ _).2.1]; simp only [St.over]; rw [(stE_own _ items 0 st).2.1, (stE_own _ items 0 st).2.1]
      ·rw [(put_own _ _ _).2.2]; simp only [St.over]; rw [(stE_own _ items 0 st).2.2, (stE_own _ items 0 st).2.2]
      ·rw [put_get]
       show (stE (D (q + 1)) 0 items st).get t = if some d = some t ∧ t < (stE (D q) 0 items st).nt then (stE (fun _ => true) 0 items st).get d else (stE (D q) 0 items st).get t
       rw [(stE_own _ items 0 st).2.1]
       have hu : ∀ r (hr : r < items.length), r ≠ q → (items[r]).1 ≠ some d := by
        intro r hr hne
        rw [hitem r (by omega)]
        exact O.apart q r (by omega) (by omega) (fun e => hne e.symm) d (by rw [hdq, hdd])
       by_cases hc : some d = some t ∧ t < st.nt
       ·rw [if_pos hc]
        obtain ⟨hc1, hnt⟩ := hc
        cases hc1
        rw [stE_some q (by omega) (by rw [Nat.zero_add]; simp [D]) hit hnt hu, stE_some q (by omega) rfl hit hnt hu]
       ·rw [if_neg hc]
        by_cases hnt : t < st.nt
        ·have hne : d ≠ t := fun e => hc ⟨by rw [e], hnt⟩
         by_cases hex : ∃ k, ∃ hk : k < items.length, D q k = true ∧ (items[k]).1 = some t
         ·obtain ⟨k, hk, hdk, hkt⟩ := hex
          have hd : dstOf ops.toList k = some t := by rw [← hitem k (by omega)]; exact hkt
          have hu' : ∀ r (hr : r < items.length), r ≠ k → (items[r]).1 ≠ some t := by
           intro r hr hne
           rw [hitem r (by omega)]
           exact O.apart k r (by omega) (by omega) (fun e => hne e.symm) t hd
          rw [stE_some k hk (by rw [Nat.zero_add]; simp only [D] at hdk ⊢; simp at hdk ⊢; rcases hdk with h | h; exact .inl h; exact .inr (by omega)) hkt hnt hu', stE_some k hk (by rw [Nat.zero_add]; exact hdk) hkt hnt hu']
         ·rw [stE_none (E := D q) (fun k hk hdk hkt => hex ⟨k, hk, by rw [Nat.zero_add] at hdk; exact hdk, hkt⟩)]
          refine stE_none (fun k hk hdk hkt => ?_)
          rw [Nat.zero_add] at hdk
          by_cases he : k = q
          ·subst he
           rw [hit] at hkt
           cases hkt
           exact hne rfl
          ·refine hex ⟨k, hk, ?_, hkt⟩
           simp only [D] at hdk ⊢
           simp at hdk ⊢
           rcases hdk with h | h
           ·exact .inl h
           ·exact .inr (by omega)
        ·have key : ∀ (E : Nat → Bool) (l : List (Option Tmp × FV)) (i : Nat) (st : St), ¬ t < st.nt → (stE E i l st).get t = st.get t := by
          intro E l
          induction l with
          | nil => intro i st _; rfl
          | cons d l ih =>
           intro i st hnt
           simp only [stE]
           have hnt' : ¬ t < (if E i then st.put d.1 d.2 else st).nt := by
            split
            ·rw [(put_own st d.1 d.2).2.1]; exact hnt
            ·exact hnt
           rw [ih _ _ hnt']
           split
           ·rw [put_get, if_neg (fun h => hnt h.2)]
           ·rfl
         rw [key _ _ _ _ hnt, key _ _ _ _ hnt]
 obtain ⟨b, hoff, hb⟩ := hfill i (Nat.le_refl _)
 have hall : stE (D i) 0 items st = stE (fun _ => true) 0 items st := stE_congr (fun k hk => by simp only [D, Nat.zero_add]; simp; exact .inr (by omega))
 rw [hall] at hb
 have := late_sound (K := K) (Q := Q) E O hsel hK (fuel + 1) listed a b w m i ((stE (fun _ => true) 0 items st).over (fun _ => true) F) PD hsz hcnt hcl (Nat.le_refl _) (by omega) (fun j hj => ?_) hPD
  ⟨hoff.size, hoff.defers, fun t ht => hoff.slot t fun j hj => ht j hj.1⟩ hb (fun j hj => recheck_mem hrc j (hPD j hj).2.1) hv
 ·exact this.2 i hi
 ·constructor
  ·intro hl
   have := h1 j hl
   exact ⟨this, fun h => by have := done_iff.2 hl; rw [h.2] at this; cases this⟩
  ·rintro ⟨hj, hn⟩
   cases hd : done listed j with
   | true => exact done_iff.1 hd
   | false => exact absurd ⟨hj, hd⟩ hn

theorem drawn_any (E : Env P gl S X w0) {ops : Array Oper} {K : St → Prop} {Q : Exit → Act → World → Prop} (hK : ∀ st a w m, Sim S X w0 m0 st a w m → K st → Q .normal a w)
  (h : Sim S X w0 m0 st a w m) (hv : regionVC P gl ops.toList true st K) : wpAny P .any ops Q ops.size (Array.replicate ops.size false) a w := by
 unfold regionVC at hv
 simp only [if_true] at hv
 split at hv
 ·split at hv
  ·rename_i hok
   have O := orderly_of hok
   obtain ⟨items, hq, hv⟩ := quiet_spec hv
   generalize hF : fillsOf P 0 st.own.length (ops.toList.take (splitFrom (ancs [] ops.toList) ops.toList.length)) = F at hv hq
   have hpl : ∀ f ∈ F, st.own.length ≤ f.2.1 ∧ f.2.1 < st.own.length + F.length := by
    intro f hf
    rw [← hF] at hf ⊢
    obtain ⟨_, h2, h3, _⟩ := fillsOf_mem (i := f.1) (c' := f.2.1) (cs := f.2.2) hf
    exact ⟨h2, h3⟩
   have hfalse : ∀ i, done (Array.replicate ops.size false) i = false := by
    intro i
    unfold done
    rw [Array.getD_eq_getD_getElem?, Array.getElem?_replicate]
    split <;> rfl
   refine (any_sound (st := st.gones F.length) E O hq hF.symm (fun f hf => ?_) hK ops.size _ a _ m (by simp) ?_ (fun i hi hl => ?_) (.inl ⟨fun i hl => ?_, ?_, fun f hf _ => ?_, hv⟩))
   ·obtain ⟨h1, h2⟩ := hpl f hf
    refine ⟨?_, by have := h.k0; simp only [St.gones]; omega⟩
    simp only [St.gones]
    rw [List.getElem?_append_right h1, List.getElem?_replicate, if_pos (by omega)]
   ·have : (List.range ops.size).countP (fun i => done (Array.replicate ops.size false) i) = 0 := by
     rw [List.countP_eq_zero]
     intro i hi
     rw [hfalse]
     simp
    omega
   ·simp [hi] at hl
   ·rw [Array.getElem?_replicate] at hl
    split at hl <;> simp at hl
   ·have h'0 : Sim S X w0 m0 st a w m := h
    have h' := h'0.gones F.length
    refine h'.congr ?_ ?_ ?_ (fun t => ?_)
    ·simp only [St.over]
     rw [ovl_none (fun f _ => hfalse f.1), (stE_own _ items 0 _).1]
    ·simp only [St.over]
     rw [(stE_own _ items 0 _).2.1]
    ·simp only [St.over]
     rw [(stE_own _ items 0 _).2.2]
    ·exact stE_none (fun k hk hd => by rw [hfalse] at hd; cases hd)
   ·cases hm : m f.2.1 with
    | none => rfl
    | some v =>
     have := (h.ows.len _ v hm).1
     have := (hpl f hf).1
     omega
  ·exact hv.elim
 ·unfold lateVC at hv
  split at hv
  ·rename_i hok
   obtain ⟨O, hsel⟩ := orderlyL_of hok
   obtain ⟨items, hq, hrc, hv⟩ := quiet_spec hv
   generalize hF : fillsOf P 0 st.own.length (ops.toList.take (firstP ops.toList (ancs [] ops.toList))) = F at hv hq hrc
   have hpl : ∀ f ∈ F, st.own.length ≤ f.2.1 ∧ f.2.1 < st.own.length + F.length := by
    intro f hf
    rw [← hF] at hf ⊢
    obtain ⟨_, h2, h3, _⟩ := fillsOf_mem (i := f.1) (c' := f.2.1) (cs := f.2.2) hf
    exact ⟨h2, h3⟩
   have hfalse : ∀ i, done (Array.replicate ops.size false) i = false := by
    intro i
    unfold done
    rw [Array.getD_eq_getD_getElem?, Array.getElem?_replicate]
    split <;> rfl
   refine (any_late (st := st.gones F.length) E O hq hF.symm (fun f hf => ?_) hK (fun hp => ?_) (fun fuel listed a w m q1 q2 q3 q4 q5 i hi hpi => late_switch E O hsel hq hF.symm hK hrc hv fuel listed a w m q1 q2 q3 q4 q5 i hi hpi) ops.size _ a _ m (by simp) ?_ (fun i hi hl => ?_) ⟨fun i hl => ?_, ?_, fun f hf _ => ?_⟩)
   ·obtain ⟨h1, h2⟩ := hpl f hf
    refine ⟨?_, by have := h.k0; simp only [St.gones]; omega⟩
    simp only [St.gones]
    rw [List.getElem?_append_right h1, List.getElem?_replicate, if_pos (by omega)]
   ·rw [List.drop_eq_nil_of_le (by simp; omega)] at hv
    exact hv
   ·have : (List.range ops.size).countP (fun i => done (Array.replicate ops.size false) i) = 0 := by
     rw [List.countP_eq_zero]
     intro i hi
     rw [hfalse]
     simp
    omega
   ·simp [hi] at hl
   ·rw [Array.getElem?_replicate] at hl
    split at hl <;> simp at hl
   ·have h'0 : Sim S X w0 m0 st a w m := h
    have h' := h'0.gones F.length
    refine h'.congr ?_ ?_ ?_ (fun t => ?_)
    ·simp only [St.over]
     rw [ovl_none (fun f _ => hfalse f.1), (stE_own _ items 0 _).1]
    ·simp only [St.over]
     rw [(stE_own _ items 0 _).2.1]
    ·simp only [St.over]
     rw [(stE_own _ items 0 _).2.2]
    ·exact stE_none (fun k hk hd => by rw [hfalse] at hd; cases hd)
   ·cases hm : m f.2.1 with
    | none => rfl
    | some v =>
     have := (h.ows.len _ v hm).1
     have := (hpl f hf).1
     omega
  ·exact hv.elim

theorem region_sound (E : Env P gl S X w0) {id : Nat} {ops : Array Oper} {draw : Bool} {K : St → Prop} {Q : Exit → Act → World → Prop} (hK : ∀ st a w m, Sim S X w0 m0 st a w m → K st → Q .normal a w)
  (h : Sim S X w0 m0 st a w m) (hv : regionVC P gl ops.toList draw st K) : (Code.region id ops draw).wp P Q a w := by
 cases draw with
 | false =>
  unfold regionVC at hv
  simp only [Bool.false_eq_true, if_false] at hv
  exact wp_region_list (seq_sound E hK ops.toList st a w m h hv)
 | true => exact wp_region_any E.mix (drawn_any E hK (h.below E ⟨rfl, rfl, rfl, Nat.le_refl _, fun _ _ => rfl⟩) hv)

end
end Go.Pe

/- A region that draws its order, part by part: behind a barrier the rest runs as a region of its own. -/
namespace Go.Pe
open Go Go.RowKit

structure Cut (ops : Array Oper) (an : List (List Nat)) (c : Nat) : Prop where
 le : c ≤ ops.size
 back : ∀ i (hi : i < ops.size), ∀ e ∈ (ops[i]).after.toList, Region.binds .any e = true → e.on < i
 full : ∀ k, c ≤ k → k < ops.size → ∀ j, j < c → j ∈ an.getD k []
 anc : ∀ k (hk : k < ops.size) j, j ∈ an.getD k [] → ∃ e ∈ (ops[k]).after.toList, Region.binds .any e = true ∧ (j = e.on ∨ (e.on < k ∧ j ∈ an.getD e.on []))
 gl : ∀ i (hi : i < ops.size), i < c → ∀ g b, (ops[i]).guard = some (g, b) → g < c
 gr : ∀ i (hi : i < ops.size), c ≤ i → ∀ g b, (ops[i]).guard = some (g, b) → c ≤ g

theorem cut_of {ops : Array Oper} {c : Nat} (hc : c ≤ ops.size) (h : barrier ops.toList (ancs [] ops.toList) c = true) : Cut ops (ancs [] ops.toList) c := by
 unfold barrier at h
 simp only [Bool.and_eq_true, List.all_eq_true, List.mem_range, Bool.or_eq_true, Bool.not_eq_true', decide_eq_true_eq] at h
 obtain ⟨h1, h2⟩ := h
 have hgd : ∀ i (hi : i < ops.size), ops.toList.getD i default = ops[i] := by
  intro i hi
  simp [List.getD, hi]
 refine ⟨hc, fun i hi e he hb => ?_, fun k hk hk' j hj => ?_, fun k hk j hj => ?_, fun i hi hic g b hg => ?_, fun i hi hic g b hg => ?_⟩
 ·have := (h1 i (by simpa using hi)).1 e (by rw [hgd i hi]; exact he)
  rw [hb] at this
  simpa using this
 ·rcases h2 k (by simpa using hk') with h3 | h3
  ·omega
  ·simpa using h3 j hj
 ·obtain ⟨e, hm, hb, hj'⟩ := ancs_spec ops.toList [] k (Nat.zero_le _) (by simpa using hk) j hj
  exact ⟨e, by simpa using hm, hb, hj'⟩
 ·have := (h1 i (by simpa using hi)).2
  rw [hgd i hi, hg] at this
  simpa [hic] using this
 ·have := (h1 i (by simpa using hi)).2
  rw [hgd i hi, hg] at this
  simpa [Nat.not_lt.2 hic] using this

theorem least {p : Nat → Prop} : ∀ n, p n → ∃ i, i ≤ n ∧ p i ∧ ∀ j, j < i → ¬p j := by
 intro n
 induction n using Nat.strongRecOn with
 | _ n ih =>
  intro hn
  by_cases h : ∃ j, j < n ∧ p j
  ·obtain ⟨j, hj, hp⟩ := h
   obtain ⟨i, h1, h2, h3⟩ := ih j hj hp
   exact ⟨i, by omega, h2, h3⟩
  ·exact ⟨n, Nat.le_refl _, hn, fun j hj hp => h ⟨j, hj, hp⟩⟩

def thenQ (Q : Exit → Act → World → Prop) (K : Act → World → Prop) : Exit → Act → World → Prop
 | .normal, a, w => K a w
 | e, a, w => Q e a w

section
variable {P : Program} {Q : Exit → Act → World → Prop} {Kc : Act → World → Prop}

theorem wp_thenQ {o : Oper} {a : Act} {w : World} {K : Act → World → Prop} (h : o.wp P a w K (thenQ Q Kc)) : o.wp P a w K Q := by
 unfold Oper.wp at *
 generalize (execOp a.eval o).run P w = r at *
 cases r with
 | ok n w' =>
  cases n <;> simp only [Oper.upon] at h ⊢ <;>
   first
    | exact h
    | exact Calls.mono h (fun e w'' he => by cases e <;> exact he)
 | halt x w' => cases x <;> simp only [Oper.upon] at h ⊢ <;> exact h

theorem wpOp_take {ops ops' : Array Oper} {i i' : Nat} {o o' : Oper} {a : Act} {w : World} {K K' : Act → World → Prop} (h1 : ops[i]? = some o) (h2 : ops'[i']? = some o')
  (hwp : ∀ K, o'.wp P a w K Q = o.wp P a w K Q) (hask : o'.asks P a w = o.asks P a w) (hdst : o'.dst = o.dst) (hwant : Region.wanted o' (yielded ops' a.tmps) = Region.wanted o (yielded ops a.tmps))
  (hK : ∀ a w, K' a w → K a w) (h : wpOp P ops' Q i' K' a w) : wpOp P ops Q i K a w := by
 unfold wpOp at *
 rw [h2] at h
 rw [h1]
 simp only at h ⊢
 rw [hwant, hdst] at h
 split
 ·rename_i hw
  rw [if_pos hw] at h
  rcases h with h | h
  ·left
   rw [hwp] at h
   exact Oper.wp_mono hK h
  ·right
   rw [hask] at h
   exact h
 ·rename_i hw
  rw [if_neg hw] at h
  exact hK _ _ h

theorem wpOp_thenQ {ops : Array Oper} {i : Nat} {a : Act} {w : World} {K : Act → World → Prop} (h : wpOp P ops (thenQ Q Kc) i K a w) : wpOp P ops Q i K a w := by
 unfold wpOp at *
 split
 ·rename_i ho; rw [ho] at h; exact h
 ·rename_i o ho
  rw [ho] at h
  simp only at h
  split
  ·rename_i hw
   rw [if_pos hw] at h
   rcases h with h | h
   ·exact .inl (wp_thenQ h)
   ·exact .inr h
  ·rename_i hw
   rw [if_neg hw] at h
   exact h

theorem count_full {f : Nat → Bool} : ∀ {c : Nat}, (∀ i, i < c → f i = true) → (List.range c).countP f = c := by
 intro c h
 have : (List.range c).countP f = (List.range c).length := List.countP_eq_length.2 (fun i hi => h i (List.mem_range.1 hi))
 simpa using this

theorem count_not {f : Nat → Bool} {c : Nat} (h : (List.range c).countP f < c) : ∃ i, i < c ∧ f i = false := by
 apply Classical.byContradiction
 intro hn
 have := count_full (f := f) (c := c) (fun i hi => by
  cases hf : f i with
  | true => rfl
  | false => exact (hn ⟨i, hi, hf⟩).elim)
 omega

theorem count_set {f g : Nat → Bool} {c i : Nat} (hi : i < c) (h0 : f i = false) (h1 : g i = true) (h2 : ∀ j, j ≠ i → g j = f j) : (List.range c).countP g = (List.range c).countP f + 1 := by
 induction c with
 | zero => omega
 | succ c ih =>
  rw [List.range_succ, List.countP_append, List.countP_append]
  by_cases hic : i = c
  ·subst hic
   have : (List.range i).countP g = (List.range i).countP f := List.countP_congr fun j hj => by rw [h2 j (by have := List.mem_range.1 hj; omega)]
   simp [this, h0, h1]
  ·rw [ih (by omega)]
   have : g c = f c := h2 c (fun e => hic e.symm)
   simp only [List.countP_singleton, this]
   omega

theorem take_get {ops : Array Oper} {c i : Nat} (hi : i < c) : ((ops.toList.take c).toArray)[i]? = ops[i]? := by
 simp [List.getElem?_take, hi]

theorem any_take {ops : Array Oper} {an : List (List Nat)} {c : Nat} (Cu : Cut ops an c)
  (hK : ∀ (listed : Array Bool) a w, listed.size = ops.size → (∀ i, i < ops.size → (listed[i]? = some true ↔ i < c)) → Kc a w → wpAny P .any ops Q (ops.size - c) listed a w) :
  ∀ (fuel : Nat) (listed listed1 : Array Bool) (a : Act) (w : World), listed.size = ops.size → listed1.size = c → (∀ i, i < c → listed1[i]? = listed[i]?) → (∀ i, listed[i]? = some true → i < c) →
   (∀ i (_ : i < ops.size), listed[i]? = some true → ∀ j ∈ an.getD i [], listed[j]? = some true) → (List.range c).countP (fun i => done listed1 i) + fuel = c →
   wpAny P .any (ops.toList.take c).toArray (thenQ Q Kc) fuel listed1 a w → wpAny P .any ops Q (fuel + (ops.size - c)) listed a w := by
 have hsz1 : (ops.toList.take c).toArray.size = c := by have := Cu.le; simp; omega
 intro fuel
 induction fuel with
 | zero =>
  intro listed listed1 a w hs hs1 hag hlt hcl hcnt h
  have hall : ∀ i, i < c → listed1[i]? = some true := by
   intro i hi
   cases hd : done listed1 i with
   | true => exact done_iff.1 hd
   | false =>
    have h1 := count_set (f := fun i => done listed1 i) (g := fun j => if j = i then true else done listed1 j) (c := c) hi hd (by simp) (fun j hj => by simp [hj])
    have h2 := List.countP_le_length (p := fun j => if j = i then true else done listed1 j) (l := List.range c)
    simp only [List.length_range] at h2
    omega
  rw [Nat.zero_add]
  exact hK listed a w hs (fun i hi => ⟨fun h => hlt i h, fun h => by rw [← hag i h]; exact hall i h⟩) h.2
 | succ f ih =>
  intro listed listed1 a w hs hs1 hag hlt hcl hcnt h
  rw [show f + 1 + (ops.size - c) = (f + (ops.size - c)) + 1 by omega]
  have hle := Cu.le
  have hdn : ∀ i, i < c → (done listed1 i = false ↔ listed[i]? = some false) := by
   intro i hi
   have hb : listed[i]? = some true ∨ listed[i]? = some false := by
    rw [Array.getElem?_eq_getElem (by omega)]
    cases listed[i]'(by omega) <;> simp
   rw [← hag i hi] at hb ⊢
   constructor
   ·intro hd
    rcases hb with hb | hb
    ·rw [done_iff.2 hb] at hd; cases hd
    ·exact hb
   ·intro hd
    cases hq : done listed1 i with
    | false => rfl
    | true => rw [done_iff.1 hq] at hd; simp at hd
  obtain ⟨i0, hi0, hf0⟩ := count_not (f := fun i => done listed1 i) (c := c) (by omega)
  refine ⟨fun hr => ?_, fun i hi => ?_⟩
  ·exfalso
   obtain ⟨i, hle0, hp, hmin⟩ := least (p := fun i => i < c ∧ done listed1 i = false) i0 ⟨hi0, hf0⟩
   have hmem : i ∈ Region.ready .any ops listed := ready_mem (by omega) ((hdn i hp.1).1 hp.2) (fun e he hb => by
    have hlt' := Cu.back i (by omega) e he hb
    have := hmin e.on hlt'
    rw [← hag e.on (by omega)]
    apply done_iff.1
    cases hq : done listed1 e.on with
    | true => rfl
    | false => exact (this ⟨by omega, hq⟩).elim)
   rw [hr] at hmem
   cases hmem
  ·obtain ⟨hin, hfa, haf⟩ := ready_spec hs hi
   have hic : i < c := by
    apply Nat.lt_of_not_le
    intro hci
    have hanc : ∀ j ∈ an.getD i [], listed[j]? = some true := by
     intro j hj
     obtain ⟨e, he, hb, hj'⟩ := Cu.anc i hin j hj
     rcases hj' with rfl | ⟨hlt', hj'⟩
     ·exact haf e he hb
     ·exact hcl e.on (by omega) (haf e he hb) j hj'
    have := hanc i0 (Cu.full i hci hin i0 hi0)
    rw [(hdn i0 hi0).1 hf0] at this
    simp at this
   have hi1 : i ∈ Region.ready .any (ops.toList.take c).toArray listed1 := by
    have hget : ((ops.toList.take c).toArray)[i]'(by omega) = ops[i] := by simp
    refine ready_mem (by omega) (by rw [hag i hic]; exact hfa) (fun e he hb => ?_)
    rw [hget] at he
    have := Cu.back i hin e he hb
    rw [hag e.on (by omega)]
    exact haf e he hb
   have hop := wpOp_thenQ (h.2 i hi1)
   refine wpOp_take (ops := ops) (o := ops[i]) (o' := ops[i]) (Array.getElem?_eq_getElem hin) (by rw [take_get hic]; exact Array.getElem?_eq_getElem hin) (fun _ => rfl) rfl rfl ?_ ?_ hop
   ·unfold Region.wanted
    cases hg : (ops[i]).guard with
    | none => rfl
    | some x =>
     obtain ⟨g, b⟩ := x
     simp only
     unfold yielded
     rw [take_get (Cu.gl i hin hic g b hg)]
   ·intro a w hw
    refine ih _ _ a w (by simpa using hs) (by simpa using hs1) (fun j hj => ?_) (fun j hj => ?_) (fun k hk hlk j hj => ?_) ?_ hw
    ·rw [set_get (by omega), set_get (by omega)]
     split
     ·rfl
     ·exact hag j hj
    ·rw [set_get (by omega)] at hj
     split at hj
     ·omega
     ·exact hlt j hj
    ·rw [set_get (by omega)] at hlk ⊢
     split at hlk
     ·rename_i hki
      subst hki
      split
      ·rfl
      ·obtain ⟨e, he, hb, hj'⟩ := Cu.anc k hk j hj
       rcases hj' with rfl | ⟨hlt', hj'⟩
       ·exact haf e he hb
       ·exact hcl e.on (by omega) (haf e he hb) j hj'
     ·split
      ·rfl
      ·exact hcl k hk hlk j hj
    ·have := count_set (f := fun i => done listed1 i) (g := fun k => done (listed1.setIfInBounds i true) k) (c := c) hic ((hdn i hic).2 hfa) (by apply done_iff.2; rw [set_get (by omega), if_pos rfl]) (fun j hj => by
      have e : (listed1.setIfInBounds i true)[j]? = listed1[j]? := by rw [set_get (by omega), if_neg hj]
      unfold done
      rw [Array.getD_eq_getD_getElem?, Array.getD_eq_getD_getElem?, e])
     omega

theorem shift_get {ops : Array Oper} {c i : Nat} : (((ops.toList.drop c).map (shiftO c)).toArray)[i]? = (ops[c + i]?).map (shiftO c) := by
 simp [List.getElem?_drop]

theorem any_drop {ops : Array Oper} {an : List (List Nat)} {c : Nat} (Cu : Cut ops an c) :
  ∀ (fuel : Nat) (listed listed2 : Array Bool) (a : Act) (w : World), listed.size = ops.size → listed2.size = ops.size - c → (∀ i, i < c → listed[i]? = some true) → (∀ i, i < ops.size - c → listed2[i]? = listed[c + i]?) →
   wpAny P .any ((ops.toList.drop c).map (shiftO c)).toArray Q fuel listed2 a w → wpAny P .any ops Q fuel listed a w := by
 have hle := Cu.le
 have hsz2 : ((ops.toList.drop c).map (shiftO c)).toArray.size = ops.size - c := by simp
 have hget : ∀ i (hi : i < ops.size - c), (((ops.toList.drop c).map (shiftO c)).toArray)[i]'(by omega) = shiftO c (ops[c + i]'(by omega)) := by
  intro i hi; simp
 have fwd : ∀ (listed listed2 : Array Bool), listed.size = ops.size → listed2.size = ops.size - c → (∀ i, i < c → listed[i]? = some true) → (∀ i, i < ops.size - c → listed2[i]? = listed[c + i]?) →
   ∀ i, i ∈ Region.ready .any ops listed → c ≤ i ∧ i < ops.size ∧ i - c ∈ Region.ready .any ((ops.toList.drop c).map (shiftO c)).toArray listed2 := by
  intro listed listed2 hs hs2 ht hag i hi
  obtain ⟨hin, hfa, haf⟩ := ready_spec hs hi
  have hci : c ≤ i := by
   apply Nat.le_of_not_lt
   intro h
   rw [ht i h] at hfa
   simp at hfa
  refine ⟨hci, hin, ready_mem (by omega) (by rw [hag _ (by omega), show c + (i - c) = i by omega]; exact hfa) (fun e he hb => ?_)⟩
  rw [hget _ (by omega)] at he
  have e0 : ops[c + (i - c)]'(by omega) = ops[i] := by congr 1; omega
  rw [e0] at he
  simp only [shiftO, List.toList_toArray, List.mem_map, List.mem_filter, decide_eq_true_eq] at he
  obtain ⟨e', ⟨he', hc'⟩, rfl⟩ := he
  have hb' : Region.binds .any e' = true := hb
  have hlt := Cu.back i hin e' he' hb'
  rw [hag _ (by simp only; omega)]
  simp only
  rw [show c + (e'.on - c) = e'.on by omega]
  exact haf e' he' hb'
 have bwd : ∀ (listed listed2 : Array Bool), listed.size = ops.size → listed2.size = ops.size - c → (∀ i, i < c → listed[i]? = some true) → (∀ i, i < ops.size - c → listed2[i]? = listed[c + i]?) →
   ∀ i, i ∈ Region.ready .any ((ops.toList.drop c).map (shiftO c)).toArray listed2 → c + i ∈ Region.ready .any ops listed := by
  intro listed listed2 hs hs2 ht hag i hi
  obtain ⟨hin, hfa, haf⟩ := ready_spec (by omega) hi
  have hin' : i < ops.size - c := by omega
  refine ready_mem (by omega) (by rw [← hag i hin']; exact hfa) (fun e he hb => ?_)
  by_cases hce : c ≤ e.on
  ·have hlt := Cu.back (c + i) (by omega) e he hb
   have := haf { e with on := e.on - c } (by
    rw [hget i hin']
    simp only [shiftO, List.toList_toArray, List.mem_map, List.mem_filter, decide_eq_true_eq]
    exact ⟨e, ⟨he, hce⟩, rfl⟩) hb
   rw [hag _ (by simp only; omega)] at this
   simp only at this
   rwa [show c + (e.on - c) = e.on by omega] at this
  ·exact ht e.on (by omega)
 intro fuel
 induction fuel with
 | zero =>
  intro listed listed2 a w hs hs2 ht hag h
  refine ⟨?_, h.2⟩
  cases hr : Region.ready .any ops listed with
  | nil => rfl
  | cons i r =>
   have := (fwd listed listed2 hs hs2 ht hag i (by rw [hr]; simp)).2.2
   rw [h.1] at this
   cases this
 | succ f ih =>
  intro listed listed2 a w hs hs2 ht hag h
  refine ⟨fun hr => h.1 ?_, fun i hi => ?_⟩
  ·cases hr2 : Region.ready .any ((ops.toList.drop c).map (shiftO c)).toArray listed2 with
   | nil => rfl
   | cons i r =>
    have := bwd listed listed2 hs hs2 ht hag i (by rw [hr2]; simp)
    rw [hr] at this
    cases this
  ·obtain ⟨hci, hin, hi2⟩ := fwd listed listed2 hs hs2 ht hag i hi
   have hop := h.2 _ hi2
   refine wpOp_take (ops := ops) (o := ops[i]) (o' := shiftO c ops[i]) (Array.getElem?_eq_getElem hin) (by rw [shift_get, show c + (i - c) = i by omega, Array.getElem?_eq_getElem hin]; rfl) (fun _ => rfl) rfl rfl ?_ ?_ hop
   ·unfold Region.wanted
    cases hg : (ops[i]).guard with
    | none => simp [shiftO, hg]
    | some x =>
     obtain ⟨g, b⟩ := x
     have hcg := Cu.gr i hin hci g b hg
     simp only [shiftO, hg, Option.map_some]
     unfold yielded
     rw [shift_get, show c + (g - c) = g by omega]
     cases ops[g]? <;> rfl
   ·intro a w hw
    refine ih _ _ a w (by simpa using hs) (by simpa using hs2) (fun j hj => ?_) (fun j hj => ?_) hw
    ·rw [set_get (by omega)]
     split
     ·rfl
     ·exact ht j hj
    ·rw [set_get (by omega), set_get (by omega)]
     by_cases hji : j = i - c
     ·rw [if_pos hji, if_pos (by omega)]
     ·rw [if_neg hji, if_neg (by omega)]
      exact hag j hj

theorem any_cut {ops : Array Oper} {an : List (List Nat)} {c : Nat} (Cu : Cut ops an c) {a : Act} {w : World}
  (h : wpAny P .any (ops.toList.take c).toArray (thenQ Q fun a w => wpAny P .any ((ops.toList.drop c).map (shiftO c)).toArray Q (ops.size - c) (Array.replicate (ops.size - c) false) a w) c (Array.replicate c false) a w) :
  wpAny P .any ops Q ops.size (Array.replicate ops.size false) a w := by
 have hle := Cu.le
 have := any_take (Q := Q) Cu (fun listed a w hs hl hk => any_drop Cu (ops.size - c) listed (Array.replicate (ops.size - c) false) a w hs (by simp) (fun i hi => (hl i (by omega)).2 hi) (fun i hi => by
   rw [Array.getElem?_replicate, if_pos hi]
   have hn : ¬listed[c + i]? = some true := fun h => by have := (hl (c + i) (by omega)).1 h; omega
   rw [Array.getElem?_eq_getElem (by omega)] at hn ⊢
   cases hq : listed[c + i]'(by omega) with
   | true => rw [hq] at hn; exact (hn rfl).elim
   | false => rfl) hk) c (Array.replicate ops.size false) (Array.replicate c false) a w (by simp) (by simp) (fun i hi => by rw [Array.getElem?_replicate, Array.getElem?_replicate, if_pos hi, if_pos (by omega)])
  (fun i hi => by rw [Array.getElem?_replicate] at hi; split at hi <;> simp at hi) (fun i _ hi => by rw [Array.getElem?_replicate] at hi; split at hi <;> simp at hi) (by
   have : (List.range c).countP (fun i => done (Array.replicate c false) i) = 0 := by
    rw [List.countP_eq_zero]
    intro i hi
    unfold done
    rw [Array.getD_eq_getD_getElem?, Array.getElem?_replicate]
    split <;> simp
   omega) h
 rwa [show c + (ops.size - c) = ops.size by omega] at this

end

section
variable {P : Program} {gl : List (Nat × Obj)} {S X : Nat → Prop} {w0 w w' : World} {m0 m : Nat → Option MV} {st : St} {a : Act}

theorem cut_sound (E : Env P gl S X w0) {K : St → Prop} {Q : Exit → Act → World → Prop} (hK : ∀ st a w m, Sim S X w0 m0 st a w m → K st → Q .normal a w) :
  ∀ (n : Nat) (ops : List Oper) (st : St) (a : Act) (w : World) (m : Nat → Option MV), Sim S X w0 m0 st a w m → cutVC P gl n ops st K → wpAny P .any ops.toArray Q ops.toArray.size (Array.replicate ops.toArray.size false) a w := by
 intro n
 induction n with
 | zero => intro ops st a w m h hv; unfold cutVC at hv; exact drawn_any E hK h (by simpa using hv)
 | succ n ih =>
  intro ops st a w m h hv
  unfold cutVC at hv
  split at hv
  ·rename_i c hc
   have hb := List.find?_some hc
   have hm := List.mem_of_find?_eq_some hc
   simp only [Bool.and_eq_true, decide_eq_true_eq] at hb
   have hcl : c < ops.length := List.mem_range.1 hm
   have Cu : Cut ops.toArray (ancs [] ops) c := cut_of (ops := ops.toArray) (by simp; omega) (by simpa using hb.2)
   refine any_cut Cu ?_
   have := drawn_any (ops := (ops.take c).toArray) (K := fun st' => cutVC P gl n ((ops.drop c).map (shiftO c)) st' K)
    (Q := thenQ Q fun a w => wpAny P .any ((ops.drop c).map (shiftO c)).toArray Q (ops.toArray.size - c) (Array.replicate (ops.toArray.size - c) false) a w) E (fun st' a' w' m' hs hk => ?_) h (by simpa using hv)
   ·have e : (ops.take c).toArray.size = c := by simp; omega
    rw [e] at this
    simpa using this
   ·have h2 := ih _ st' a' w' m' hs hk
    have e : ((ops.drop c).map (shiftO c)).toArray.size = ops.toArray.size - c := by simp
    rw [e] at h2
    exact h2
  ·exact drawn_any E hK h (by simpa using hv)

theorem region_sound2 (E : Env P gl S X w0) {b : Md} {id : Nat} {ops : Array Oper} {draw : Bool} {K : St → Prop} {Q : Exit → Act → World → Prop} (hK : ∀ st a w m, Sim S X w0 m0 st a w m → K st → Q .normal a w)
  (h : Sim S X w0 m0 st a w m) (hv : match draw with
   | true => match b with
    | .any => regionVC P gl ops.toList true st K
    | .cut => cutVC P gl ops.toList.length ops.toList st K
    | .ret => regionVC P gl ops.toList true (st.retire (movedRows st ops.toList)) K
    | .rc => cutVC P gl ops.toList.length ops.toList (st.retire (loadedRows st ops.toList)) K
   | false => regionVC P gl ops.toList false st K) : (Code.region id ops draw).wp P Q a w := by
 cases draw with
 | false => exact region_sound E hK h hv
 | true =>
  cases b with
  | any => exact region_sound E hK h hv
  | cut =>
   refine wp_region_any E.mix ?_
   have := cut_sound E hK ops.toList.length ops.toList st a _ m (h.below E (w' := { w with drawn := w.drawn + 1 }) ⟨rfl, rfl, rfl, Nat.le_refl _, fun _ _ => rfl⟩) hv
   simpa using this
  | ret => exact region_sound E hK (h.retire _).1 hv
  | rc =>
   refine wp_region_any E.mix ?_
   have := cut_sound E hK ops.toList.length ops.toList (st.retire (loadedRows st ops.toList)) a _ m ((h.retire _).1.below E (w' := { w with drawn := w.drawn + 1 }) ⟨rfl, rfl, rfl, Nat.le_refl _, fun _ _ => rfl⟩) hv
   simpa using this

end
end Go.Pe

/- Bodies: the conditions of a body are a contract. -/
namespace Go.Pe
open Go Go.RowKit

section
variable {P : Program} {gl : List (Nat × Obj)} {S X : Nat → Prop} {w0 w w' : World} {m0 m : Nat → Option MV} {st : St} {a : Act}

theorem isNil_spec {x : FV} (h : isNil x = true) : x = .pv (.val (.slice none 0 0)) := by
 unfold isNil at h
 split at h
 ·rfl
 ·cases h

theorem nilRow_ok {N : Nat → Prop} {e : TypeId} {s : Nat} (hs : 0 < s) : OwnOk w N m (.slice none 0 0, []) (.row e s []) :=
 ⟨rfl, [], fun _ _ => .bool false, World.ownsRow_nil w 0 e s, hs, fun k j hk => by simp at hk, fun k hk => by simp at hk, fun _ _ => rfl, fun k hk => by simp at hk⟩

theorem RepF.reghost {N : Nat → Prop} {m m' : Nat → Option MV} {v : Value} {x : FV} (h : RepF w N m v x) (hm : ∀ i u, m i = some u → ∃ u', m' i = some u' ∧ u'.1 = u.1 ∧ ∀ (n : Nat) (g : Value), u.2[n]? = some g → u'.2[n]? = some g) : RepF w N m' v x := by
 have ht : ∀ i b, tblk m i = some b → tblk m' i = some b := by
  intro i b hb
  obtain ⟨u, hu, hb⟩ := tblk_spec hb
  obtain ⟨u', h1, h2, _⟩ := hm i u hu
  exact tblk_of h1 (by rw [h2]; exact hb)
 induction h with
 | pv v p h => exact .pv v p h
 | own i u h => obtain ⟨u', h1, h2, _⟩ := hm i u h; rw [← h2]; exact .own i u' h1
 | sub i s k j u g h h2 h3 h4 => obtain ⟨u', g1, g2, g3⟩ := hm i u h; exact .sub i s k j u' g g1 h2 (g3 _ _ h3) h4
 | box i off b h => exact .box i off b (ht i b h)
 | agg cs f h1 _ ih => exact .agg cs f h1 ih
 | tup cs f _ ih => exact .tup cs f ih
 | fn g cs f _ ih => exact .fn g cs f ih
 | iff v c x _ h2 ih => exact .iff v c x ih h2
 | relt i s k off b h => exact .relt i s k off b (ht i b h)
 | xl a n els h => exact .xl a n els h
 | junk v => exact .junk v

theorem Sim.toTree (h : Sim S X w0 m0 st a w m) {i : Nat} {e et : TypeId} {s : Nat} {els : List PV} (hi : st.own[i]? = some (.row e s els)) (hk : st.k0 ≤ i) (hl : ∀ p ∈ els, (p.cells.all leafy) = true) :
  ∃ m', Sim S X w0 m0 (st.setOwn i (.tree e s et els)) a w m' := by
 have hlt : i < st.own.length := (List.getElem?_eq_some_iff.1 hi).1
 obtain ⟨⟨v, gs⟩, hv, h0, hok⟩ := h.ows.ok i _ hi rfl
 simp only at h0 hok
 subst h0
 let gs : List Value := List.replicate (els.length * s) (.slice none 0 0)
 have hgs : ∀ g, g ∈ gs → g = .slice none 0 0 := fun g hg => (List.mem_replicate.1 hg).2
 let m' : Nat → Option MV := fun j => if j = i then some (v, gs) else m j
 have hm : ∀ j u, m j = some u → ∃ u', m' j = some u' ∧ u'.1 = u.1 ∧ ∀ (n : Nat) (g : Value), u.2[n]? = some g → u'.2[n]? = some g := by
  intro j u hu
  by_cases hj : j = i
  ·subst hj
   rw [hv] at hu; cases hu
   exact ⟨(v, gs), if_pos rfl, rfl, fun n g hg => by simp at hg⟩
  ·exact ⟨u, by simp only [m']; rw [if_neg hj]; exact hu, rfl, fun _ _ h => h⟩
 have hB : ∀ b, hasB (v, gs) b ↔ hasB (v, []) b := by
  intro b
  rw [hasB_one]
  constructor
  ·rintro (h | ⟨u, hu, hb⟩)
   ·exact h
   ·rw [hgs u hu] at hb; simp [blk] at hb
  ·exact .inl
 have hmb : ∀ j b, mblk m' j b ↔ mblk m j b := by
  intro j b
  unfold mblk
  simp only [m']
  by_cases hj : j = i
  ·subst hj
   rw [if_pos rfl, hv]
   constructor
   ·rintro ⟨u, hu, hb⟩; cases hu; exact ⟨_, rfl, (hB b).1 hb⟩
   ·rintro ⟨u, hu, hb⟩; cases hu; exact ⟨_, rfl, (hB b).2 hb⟩
  ·rw [if_neg hj]
 have hlv : ∀ j, lives (st.own.set i (.tree e s et els)) j ↔ lives st.own j := by
  intro j
  unfold lives
  by_cases hj : j = i
  ·subst hj
   simp only [List.getElem?_set_self hlt]
   exact ⟨fun _ => ⟨_, hi, rfl⟩, fun _ => ⟨_, rfl, rfl⟩⟩
  ·rw [List.getElem?_set_ne (fun e => hj e.symm)]
 have hNN : ∀ q, Nset S X w0.heap.size w m' (st.own.set i (.tree e s et els)) q ↔ Nset S X w0.heap.size w m st.own q := by
  intro q
  unfold Nset
  constructor
  ·rintro (hq | ⟨h1, h2, h3⟩)
   ·exact .inl hq
   ·exact .inr ⟨h1, h2, fun j hj hb => h3 j ((hlv j).2 hj) ((hmb j q).2 hb)⟩
  ·rintro (hq | ⟨h1, h2, h3⟩)
   ·exact .inl hq
   ·exact .inr ⟨h1, h2, fun j hj hb => h3 j ((hlv j).1 hj) ((hmb j q).1 hb)⟩
 have hrep : ∀ u x, RepF w (Nset S X w0.heap.size w m st.own) m u x → RepF w (Nset S X w0.heap.size w m' (st.own.set i (.tree e s et els))) m' u x :=
  fun u x hr => (hr.reghost hm).mono (fun _ _ => rfl) (fun q hq => (hNN q).2 hq) (fun _ _ => id)
 refine ⟨m', ⟨h.bel, ⟨fun j u hu => ?_, fun j b hj hbl => ?_, fun j k b hne hj hk hbj hbk => h.ows.sep j k b hne ((hlv j).1 hj) ((hlv k).1 hk) ((hmb j b).1 hbj) ((hmb k b).1 hbk),
  fun j b hj hb => h.ows.lt j b ((hlv j).1 hj) ((hmb j b).1 hb), fun j b hj hb hq => h.ows.out j b ((hlv j).1 hj) ((hmb j b).1 hb) ((hNN b).1 hq)⟩,
  fun j b hj hb => h.bnd j b ((hlv j).1 hj) ((hmb j b).1 hb), fun j hj => ?_, by simpa [St.setOwn] using h.k0, h.nt, h.df, fun t => hrep _ _ (h.slots t)⟩⟩
 ·simp only [St.setOwn, List.length_set]
  simp only [m'] at hu
  split at hu
  ·rename_i e; subst e; cases hu
   exact ⟨hlt, (h.ows.len _ _ hv).2.1, fun u hu => by rw [hgs u hu]; rfl⟩
  ·exact h.ows.len j u hu
 ·by_cases hji : j = i
  ·subst hji
   simp only [St.setOwn, List.getElem?_set_self hlt, Option.some.injEq] at hj
   subst hj
   refine ⟨(v, gs), if_pos rfl, ?_⟩
   obtain ⟨xs, f, h1, h2, h3, h4, h5, h6⟩ := hok
   refine ⟨xs, f, h1, h2, h3, h4, h5, by simp [gs], fun k hk j hj => ⟨.slice none 0 0, ?_, .inl ⟨rfl, leafy_rep (h6 k hk j hj) ?_⟩⟩, fun n n' g g' b _ hg _ hb => ?_, fun g b hg hb => ?_⟩
   ·simp only [gs]
    rw [List.getElem?_replicate, if_pos (mul_lt hk (by rw [h4 k hk] at hj; exact hj))]
   ·exact List.all_eq_true.1 (hl _ (List.getElem_mem hk)) _ (List.getElem_mem hj)
   ·rw [hgs g (List.mem_of_getElem? hg)] at hb; simp [blk] at hb
   ·rw [hgs g hg] at hb; simp [blk] at hb
  ·simp only [St.setOwn] at hj
   rw [List.getElem?_set_ne (fun e => hji e.symm)] at hj
   obtain ⟨u, hu, hok'⟩ := h.ows.ok j b hj hbl
   refine ⟨u, by simp only [m']; rw [if_neg hji]; exact hu, ?_⟩
   cases b with
   | gone => trivial
   | row e s els => exact ⟨hok'.1, hok'.2.mono (fun _ _ => rfl) (fun q hq => (hNN q).2 hq) (fun _ _ => rfl)⟩
   | tree e s et els => exact hok'
   | box cs =>
    obtain ⟨h0, b, T, f, h9, hh, h1, hr⟩ := hok'
    exact ⟨h0, b, T, f, h9, hh, h1, fun k hk => hrep _ _ (hr k hk)⟩
 ·have : j < st.k0 := hj
  simp only [m']
  rw [if_neg (by omega)]
  exact h.fix j hj

theorem Sim.lift (E : Env P gl S X w0) (h : Sim S X w0 m0 st a w m) (l : Lift) (hl : st.liftOk l) : ∃ m', Sim S X w0 m0 (st.lift l) a w m' := by
 cases l with
 | slot t e s =>
  unfold St.lift
  simp only
  split
  ·rename_i hc
   obtain ⟨m', hs, hm, _, _⟩ := h.addOwn E (w' := w) (v := .slice none 0 0) (bl := .row e s []) (Below.refl _ _) rfl rfl (fun b hb => by simp [blk] at hb) (fun N' m' _ _ => nilRow_ok hc.2)
   have hx := h.slots t
   rw [isNil_spec hc.1] at hx
   have hv := hx.valInv
   refine ⟨m', ⟨hs.bel, hs.ows, hs.bnd, hs.fix, hs.k0, hs.nt, hs.df, fun q => ?_⟩⟩
   simp only [St.get, look_put]
   split
   ·rename_i he
    subst he
    rw [hv]
    exact .own _ (_, []) hm
   ·exact hs.slots q
  ·exact ⟨m, h⟩
 | cell i j e s =>
  unfold St.lift
  simp only
  split
  ·rename_i cs hi
   split
   ·rename_i hc
    obtain ⟨m', hs, hm, hmm, hN⟩ := h.addOwn E (w' := w) (v := .slice none 0 0) (bl := .row e s []) (Below.refl _ _) rfl rfl (fun b hb => by simp [blk] at hb) (fun N' m' _ _ => nilRow_ok hc.2)
    have hlt : i < st.own.length := (List.getElem?_eq_some_iff.1 hi).1
    obtain ⟨⟨v, vg⟩, hv, hok⟩ := h.ows.ok i _ hi rfl
    obtain ⟨h00, b, T, f, h9, hh, h1, hr⟩ := hok
    simp only at h00 h9
    subst h00 h9
    have hi' : (st.addOwn (.row e s [])).own[i]? = some (.box cs) := by simp only [St.addOwn]; rw [List.getElem?_append_left hlt]; exact hi
    have := hs.setOwn (w' := w) (bl' := .box (cs.set j (.own st.own.length))) hi' rfl rfl (hmm i _ hv) (.inl rfl) rfl rfl rfl rfl (fun _ _ => rfl) (fun N hN' => ⟨rfl, b, T, f, rfl, by simpa using hh, h1, fun q hq => by
     simp only [List.length_set] at hq
     by_cases he : j = q
     ·subst he
      rw [List.getElem_set_self]
      have hx := hr j hq
      have hnil := isNil_spec hc.1
      have e0 : cs.getD j .junk = cs[j] := by simp [List.getD, List.getElem?_eq_getElem hq]
      rw [e0] at hnil
      rw [hnil] at hx
      rw [hx.valInv]
      exact .own _ (_, []) hm
     ·rw [List.getElem_set_ne he]
      exact (hr q hq).mono (fun _ _ => rfl) (fun b hb => hN' b (hN b hb)) hmm⟩)
    refine ⟨m', ?_⟩
    have e1 : (st.setOwn i (.box (cs.set j (.own st.own.length)))).addOwn (.row e s []) = (st.addOwn (.row e s [])).setOwn i (.box (cs.set j (.own st.own.length))) := by
     simp only [St.setOwn, St.addOwn]
     congr 1
     rw [List.set_append_left _ _ hlt]
    rw [e1]
    exact this
   ·exact ⟨m, h⟩
  ·exact ⟨m, h⟩
 | move i =>
  unfold St.lift
  simp only
  split
  ·rename_i e s els hi
   have hlt : i < st.own.length := (List.getElem?_eq_some_iff.1 hi).1
   obtain ⟨v, hv, hok⟩ := h.ows.ok i _ hi rfl
   obtain ⟨m', hs, hm⟩ := h.moveNew E (v' := v) (bl' := .row e s els) hi rfl hv (fun _ hb => hb) (h.ows.len i v hv).2 (fun N' m' hN' => ⟨hok.1, hok.2.mono (fun _ _ => rfl) hN' (fun _ _ => rfl)⟩)
   refine ⟨m', ⟨hs.bel, hs.ows, hs.bnd, hs.fix, hs.k0, hs.nt, hs.df, fun q => ?_⟩⟩
   have e0 : ({ st with own := st.own.set i .gone ++ [.row e s els], slots := st.slots.map fun x => (x.1, reOwn i st.own.length x.2) } : St).get q = reOwn i st.own.length (st.get q) := look_map _ rfl _ _
   rw [e0]
   have hx := h.slots q
   have hq := hs.slots q
   change RepF _ _ _ _ (st.get q) at hq
   revert hx hq
   generalize a.tmps.getD q undef = u
   intro hx hq
   unfold reOwn
   split
   ·rename_i k hk
    rw [hk] at hx hq
    split
    ·rename_i hki
     subst hki
     cases hx with | own _ _ hvi =>
     rw [hv] at hvi; cases hvi
     exact .own _ _ hm
    ·exact hq
   ·exact hq
  ·exact ⟨m, h⟩
 | nilc i j =>
  unfold St.lift
  simp only
  split
  ·rename_i cs hi
   split
   ·rename_i hc
    obtain ⟨⟨v, vg⟩, hv, hok⟩ := h.ows.ok i _ hi rfl
    obtain ⟨h00, b, T, f, h9, hh, h1, hr⟩ := hok
    simp only at h00 h9
    subst h00 h9
    exact ⟨m, h.setOwn (w' := w) (bl' := .box (cs.set j (.pv (.lst [])))) hi rfl rfl hv (.inl rfl) rfl rfl rfl rfl (fun _ _ => rfl) (fun N hN' => ⟨rfl, b, T, f, rfl, by simpa using hh, h1, fun q hq => by
     simp only [List.length_set] at hq
     by_cases he : j = q
     ·subst he
      rw [List.getElem_set_self]
      have hx := hr j hq
      have hnil := isNil_spec hc
      have e0 : cs.getD j .junk = cs[j] := by simp [List.getD, List.getElem?_eq_getElem hq]
      rw [e0] at hnil
      rw [hnil] at hx
      rw [hx.valInv]
      exact .pv _ _ (.nil _ _)
     ·rw [List.getElem_set_ne he]
      exact (hr q hq).mono (fun _ _ => rfl) hN' (fun _ _ => id)⟩)⟩
   ·exact ⟨m, h⟩
  ·exact ⟨m, h⟩
 | nils t =>
  unfold St.lift
  simp only
  split
  ·rename_i hc
   refine ⟨m, ⟨h.bel, h.ows, h.bnd, h.fix, h.k0, h.nt, h.df, fun q => ?_⟩⟩
   simp only [St.get, look_put]
   split
   ·rename_i he
    subst he
    have hx := h.slots q
    rw [isNil_spec hc] at hx
    rw [hx.valInv]
    exact .pv _ _ (.nil _ _)
   ·exact h.slots q
  ·exact ⟨m, h⟩
 | tree i et =>
  unfold St.lift
  unfold St.liftOk at hl
  simp only at hl ⊢
  split
  ·rename_i e s els hi
   rw [hi] at hl
   exact h.toTree hi hl.1 hl.2
  ·exact ⟨m, h⟩

theorem Sim.lifts (E : Env P gl S X w0) : ∀ (ls : List Lift) {st : St} {m : Nat → Option MV}, Sim S X w0 m0 st a w m → st.liftsOk ls → ∃ m', Sim S X w0 m0 (st.lifts ls) a w m'
 | [], st, m, h, _ => ⟨m, h⟩
 | l :: r, st, m, h, hl => by
  obtain ⟨m', h'⟩ := h.lift E l hl.1
  exact Sim.lifts E r h' hl.2

theorem Sim.reloc (h : Sim S X w0 m0 st a w m) (i j : Nat) : ∃ m', Sim S X w0 m0 (st.reloc i j) a w m' := by
 unfold St.reloc
 split
 ·rename_i hc
  simp only [Bool.and_eq_true, decide_eq_true_eq] at hc
  obtain ⟨⟨⟨⟨hij, hi⟩, hj⟩, hki⟩, hkj⟩ := hc
  let own' : List Blk := ((st.own.set i (st.own.getD j .gone)).set j .gone).map (reB i j)
  let m' : Nat → Option MV := fun q => if q = i then m j else if q = j then none else m q
  let σ : Nat → Nat := fun q => if q = i then j else q
  have hlen : own'.length = st.own.length := by simp [own']
  have hjj : st.own.getD j .gone = st.own[j] := by simp [List.getD, List.getElem?_eq_getElem hj]
  have hget : ∀ q b, own'[q]? = some b → b.live = true → q ≠ j ∧ ∃ b0, st.own[σ q]? = some b0 ∧ b = reB i j b0 ∧ b0.live = true := by
   intro q b hb hl
   simp only [own', List.getElem?_map] at hb
   by_cases hqj : q = j
   ·subst hqj
    rw [List.getElem?_set_self (by simpa using hj)] at hb
    simp only [Option.map_some, Option.some.injEq] at hb
    subst hb; cases hl
   ·rw [List.getElem?_set_ne (fun e => hqj e.symm)] at hb
    refine ⟨hqj, ?_⟩
    have hlv : ∀ b0, b = reB i j b0 → b0.live = true := by
     intro b0 e
     rw [e] at hl
     cases b0 <;> first | rfl | exact hl
    by_cases hqi : q = i
    ·subst hqi
     rw [List.getElem?_set_self hi, hjj] at hb
     simp only [Option.map_some, Option.some.injEq] at hb
     exact ⟨st.own[j], by simp only [σ, if_true]; exact List.getElem?_eq_getElem hj, hb.symm, hlv _ hb.symm⟩
    ·rw [List.getElem?_set_ne (fun e => hqi e.symm)] at hb
     cases hq : st.own[q]? with
     | none => rw [hq] at hb; cases hb
     | some b0 =>
      rw [hq] at hb
      simp only [Option.map_some, Option.some.injEq] at hb
      exact ⟨b0, by simp only [σ, if_neg hqi]; exact hq, hb.symm, hlv _ hb.symm⟩
  have hlv : ∀ q, lives own' q → q ≠ j ∧ lives st.own (σ q) := by
   rintro q ⟨b, hb, hl⟩
   obtain ⟨h1, b0, h2, _, h4⟩ := hget q b hb hl
   exact ⟨h1, b0, h2, h4⟩
  have hm : ∀ q, q ≠ j → m' q = m (σ q) := by
   intro q hq
   simp only [m', σ]
   by_cases hqi : q = i
   ·simp [hqi]
   ·simp [hqi, hq]
  have hmb : ∀ q b, q ≠ j → mblk m' q b → mblk m (σ q) b := by
   rintro q b hq ⟨v, hv, hb⟩
   exact ⟨v, by rw [← hm q hq]; exact hv, hb⟩
  have hσ : ∀ p q, p ≠ j → q ≠ j → p ≠ q → σ p ≠ σ q := by
   intro p q hp hq hpq
   simp only [σ]
   by_cases h1 : p = i
   ·by_cases h2 : q = i
    ·exact absurd (h1.trans h2.symm) hpq
    ·simp only [h1, h2, if_true, if_false]; exact fun e => hq e.symm
   ·by_cases h2 : q = i
    ·simp only [h1, h2, if_true, if_false]; exact hp
    ·simp only [h1, h2, if_false]; exact hpq
  have hN : ∀ q, Nset S X w0.heap.size w m st.own q → Nset S X w0.heap.size w m' own' q := by
   rintro q (hS | ⟨h1, h2, h3⟩)
   ·exact .inl hS
   ·exact .inr ⟨h1, h2, fun p hp hmp => h3 (σ p) (hlv p hp).2 (hmb p q (hlv p hp).1 hmp)⟩
  have hrep : ∀ v x, RepF w (Nset S X w0.heap.size w m st.own) m v x → RepF w (Nset S X w0.heap.size w m' own') m' v (reO i j x) := by
   intro v x hr
   have hr' := hr.mono (m' := m) (fun _ _ => rfl) hN (fun _ _ => id)
   have hgen : (x.uses i || x.uses j) = false → RepF w (Nset S X w0.heap.size w m' own') m' v x := by
    intro hu
    rw [Bool.or_eq_false_iff] at hu
    refine hr'.remap fun q hq => ?_
    have h1 : q ≠ i := fun e => by rw [e, hu.1] at hq; cases hq
    have h2 : q ≠ j := fun e => by rw [e, hu.2] at hq; cases hq
    simp only [m', if_neg h1, if_neg h2]
   cases x with
   | own k =>
    simp only [reO]
    split
    ·rename_i hkj2
     subst hkj2
     cases hr' with | own _ v hv =>
     exact .own i v (by simp only [m', if_true]; exact hv)
    ·split
     ·exact .junk _
     ·rename_i h1 h2
      exact hgen (by simp [FV.uses, h1, h2])
   | _ =>
    simp only [reO]
    split
    ·exact .junk _
    ·rename_i hu
     exact hgen (by simpa using hu)
  refine ⟨m', ⟨h.bel, ⟨fun q v hv => ?_, fun q b hb hl => ?_, fun p q b hne hp hq hbp hbq => ?_, fun q b hq hb => ?_, fun q b hq hb => ?_⟩, fun q b hq hb => ?_, fun q hq => ?_, ?_, h.nt, h.df, fun q => ?_⟩⟩
  ·change m' q = some v at hv
   change q < own'.length ∧ _
   rw [hlen]
   simp only [m'] at hv
   split at hv
   ·rename_i hqi
    exact ⟨by omega, (h.ows.len j v hv).2⟩
   ·split at hv
    ·cases hv
    ·exact h.ows.len q v hv
  ·obtain ⟨h1, b0, h2, h3, h4⟩ := hget q b hb hl
   obtain ⟨v, hv, hok⟩ := h.ows.ok (σ q) b0 h2 h4
   refine ⟨v, (hm q h1).trans hv, ?_⟩
   subst h3
   cases b0 with
   | gone => trivial
   | row e s els => exact ⟨hok.1, hok.2.mono (fun _ _ => rfl) hN (fun _ _ => rfl)⟩
   | tree e s et els => exact hok
   | box cs =>
    obtain ⟨h0, b, T, f, h9, hh, f1, hr⟩ := hok
    refine ⟨h0, b, T, f, h9, by simpa [reB] using hh, f1, fun p hp => ?_⟩
    simp only [reB, List.length_map] at hp
    rw [List.getElem_map]
    exact hrep _ _ (hr p hp)
  ·obtain ⟨h1, h2⟩ := hlv p hp
   obtain ⟨h3, h4⟩ := hlv q hq
   exact h.ows.sep (σ p) (σ q) b (hσ p q h1 h3 hne) h2 h4 (hmb p b h1 hbp) (hmb q b h3 hbq)
  ·obtain ⟨h1, h2⟩ := hlv q hq
   exact h.ows.lt (σ q) b h2 (hmb q b h1 hb)
  ·obtain ⟨h1, h2⟩ := hlv q hq
   rintro (hS | ⟨_, _, h3⟩)
   ·exact h.ows.out (σ q) b h2 (hmb q b h1 hb) (.inl hS)
   ·exact h3 q hq hb
  ·obtain ⟨h1, h2⟩ := hlv q hq
   exact h.bnd (σ q) b h2 (hmb q b h1 hb)
  ·change q < st.k0 at hq
   have h1 : q ≠ i := by omega
   have h2 : q ≠ j := by omega
   simp only [m', if_neg h1, if_neg h2]
   exact h.fix q hq
  ·change st.k0 ≤ own'.length
   rw [hlen]; exact h.k0
  ·have e0 : ({ st with own := own', slots := st.slots.map fun x => (x.1, reO i j x.2) } : St).get q = reO i j (st.get q) := look_map _ (by simp [reO, FV.uses]) _ _
   change RepF _ _ _ _ (({ st with own := own', slots := st.slots.map fun x => (x.1, reO i j x.2) } : St).get q)
   rw [e0]
   exact hrep _ _ (h.slots q)
 ·exact ⟨m, h⟩

theorem Sim.relocs : ∀ (rl : List (Nat × Nat)) {st : St} {m : Nat → Option MV}, Sim S X w0 m0 st a w m → ∃ m', Sim S X w0 m0 (st.relocs rl) a w m'
 | [], st, m, h => ⟨m, h⟩
 | x :: r, st, m, h => by
  obtain ⟨m', h'⟩ := h.reloc x.1 x.2
  exact Sim.relocs r h'

theorem below_spec {k n i : Nat} {x : FV} (h : belowK k n x = true) (hi : i < n) (hu : x.uses i = true) : i < k := by
 unfold belowK at h
 simp only [List.all_eq_true, List.mem_range, Bool.or_eq_true, decide_eq_true_eq, Bool.not_eq_true'] at h
 rcases h i hi with h | h
 ·exact h
 ·rw [hu] at h; cases h

theorem Sim.cut (h : Sim S X w0 m0 st a w m) {k : Nat} (hk0 : st.k0 ≤ k) (hbox : ∀ (i : Nat) (cs : List FV), i < k → st.own[i]? = some (.box cs) → ∀ x ∈ cs, belowK k st.own.length x = true) {slots' : List (Nat × FV)}
  (hs : ∀ t, look slots' t = .junk ∨ (look slots' t = st.get t ∧ belowK k st.own.length (st.get t) = true)) :
  Sim S X w0 m0 { st with slots := slots', own := st.own.take k } a w (fun i => if i < k then m i else none) ∧
   ∀ v x, belowK k st.own.length x = true → RepF w (Nset S X w0.heap.size w m st.own) m v x → RepF w (Nset S X w0.heap.size w (fun i => if i < k then m i else none) (st.own.take k)) (fun i => if i < k then m i else none) v x := by
 let m' : Nat → Option MV := fun i => if i < k then m i else none
 have hget : ∀ (i : Nat) (b : Blk), (st.own.take k)[i]? = some b → i < k ∧ st.own[i]? = some b := by
  intro i b hb
  rw [List.getElem?_take] at hb
  split at hb
  ·exact ⟨by assumption, hb⟩
  ·cases hb
 have hlv : ∀ i, lives (st.own.take k) i → i < k ∧ lives st.own i := by
  rintro i ⟨b, hb, hl⟩
  obtain ⟨h1, h2⟩ := hget i b hb
  exact ⟨h1, b, h2, hl⟩
 have hm : ∀ i, i < k → m' i = m i := fun i hi => by simp only [m']; rw [if_pos hi]
 have hmb : ∀ i b, mblk m' i b → mblk m i b := by
  intro i b hb
  obtain ⟨u, hu, hb⟩ := hb
  simp only [m'] at hu
  split at hu
  ·exact ⟨u, hu, hb⟩
  ·cases hu
 have hN : ∀ q, Nset S X w0.heap.size w m st.own q → Nset S X w0.heap.size w m' (st.own.take k) q := by
  rintro q (hq | ⟨h1, h2, h3⟩)
  ·exact .inl hq
  ·exact .inr ⟨h1, h2, fun i hi hmi => h3 i (hlv i hi).2 (hmb i q hmi)⟩
 have hrep : ∀ v x, belowK k st.own.length x = true → RepF w (Nset S X w0.heap.size w m st.own) m v x → RepF w (Nset S X w0.heap.size w m' (st.own.take k)) m' v x := by
  intro v x hb hr
  refine (hr.mono (m' := m) (fun _ _ => rfl) hN (fun _ _ => id)).remap fun i hu => ?_
  by_cases hi : i < st.own.length
  ·exact hm i (below_spec hb hi hu)
  ·have : m i = none := by
    cases hq : m i with
    | none => rfl
    | some u => exact absurd (h.ows.len i u hq).1 hi
   simp only [m']
   split
   ·rfl
   ·exact this.symm
 refine ⟨⟨h.bel, ⟨fun i v hv => ?_, fun i b hb hl => ?_, fun i j b hne hi hj hbi hbj => h.ows.sep i j b hne (hlv i hi).2 (hlv j hj).2 (hmb i b hbi) (hmb j b hbj), fun i b hi hb => h.ows.lt i b (hlv i hi).2 (hmb i b hb), fun i b hi hb hq => ?_⟩, fun i b hi hb => h.bnd i b (hlv i hi).2 (hmb i b hb), fun i hi => ?_, ?_, h.nt, h.df, fun t => ?_⟩, hrep⟩
 ·change (if i < k then m i else none) = some v at hv
  split at hv
  ·rename_i hi
   have := h.ows.len i v hv
   exact ⟨by simp; omega, this.2⟩
  ·cases hv
 ·obtain ⟨h1, h2⟩ := hget i b hb
  obtain ⟨v, hv, hok⟩ := h.ows.ok i b h2 hl
  refine ⟨v, (hm i h1).trans hv, ?_⟩
  cases b with
  | gone => trivial
  | row e s els => exact ⟨hok.1, hok.2.mono (fun _ _ => rfl) hN (fun _ _ => rfl)⟩
  | tree e s et els => exact hok
  | box cs =>
   obtain ⟨h0, b, T, f, h9, hh, f1, hr⟩ := hok
   exact ⟨h0, b, T, f, h9, hh, f1, fun j hj => hrep _ _ (hbox i cs h1 h2 _ (List.getElem_mem hj)) (hr j hj)⟩
 ·rcases hq with hq | ⟨_, _, h3⟩
  ·exact h.ows.out i b (hlv i hi).2 (hmb i b hb) (.inl hq)
  ·exact h3 i hi hb
 ·have : i < st.k0 := hi
  change (if i < k then m i else none) = m0 i
  rw [if_pos (by omega)]
  exact h.fix i hi
 ·have := h.k0
  simp; omega
 ·show RepF _ _ _ _ (look slots' t)
  rcases hs t with he | ⟨he, hb⟩
  ·rw [he]; exact .junk _
  ·rw [he]; exact hrep _ _ hb (h.slots t)

theorem look_keep (st : St) : ∀ (keep : List Nat) (t : Nat), look (keep.map fun t => (t, st.get t)) t = .junk ∨ (t ∈ keep ∧ look (keep.map fun t => (t, st.get t)) t = st.get t)
 | [], t => .inl rfl
 | k :: r, t => by
  simp only [List.map_cons, look]
  split
  ·rename_i he; subst he; exact .inr ⟨by simp, rfl⟩
  ·rcases look_keep st r t with h | ⟨h1, h2⟩
   ·exact .inl h
   ·exact .inr ⟨by simp [h1], h2⟩

theorem Sim.norm (h : Sim S X w0 m0 st a w m) {keep : List Nat} {k : Nat} {st' : St} (hn : st.norm keep k = some st') : ∃ m', Sim S X w0 m0 st' a w m' := by
 unfold St.norm at hn
 split at hn
 ·rename_i hc
  simp only [Bool.and_eq_true, decide_eq_true_eq] at hc
  simp only [Option.some.injEq] at hn
  subst hn
  refine ⟨_, (h.cut hc.1.1 (fun i cs hi hb x hx => ?_) (fun t => ?_)).1⟩
  ·have := List.all_eq_true.1 hc.2 (.box cs) (by
    refine List.mem_of_getElem? (i := i) ?_
    rw [List.getElem?_take, if_pos hi]
    exact hb)
   exact List.all_eq_true.1 this x hx
  ·rcases look_keep st keep t with h1 | ⟨h1, h2⟩
   ·exact .inl h1
   ·exact .inr ⟨h2, List.all_eq_true.1 hc.1.2 t h1⟩
 ·cases hn

def Ex.of : Ex → Exit
 | .normal => .normal
 | .exit id => .exit id
 | .ret => .ret

theorem code_sound (E : Env P gl S X w0) {b : Md} : ∀ (c : Code) (Q : Ex → St → Prop) (Q' : Exit → Act → World → Prop), (∀ e st a w m, Sim S X w0 m0 st a w m → Q e st → Q' e.of a w) →
  ∀ (st : St) (a : Act) (w : World) (m : Nat → Option MV), Sim S X w0 m0 st a w m → codeVC P gl b c Q st → c.wp P Q' a w
 | .skip, Q, Q', hQ, st, a, w, m, h, hv => Go.wp_skip (hQ .normal st a w m h hv)
 | .region id ops draw, Q, Q', hQ, st, a, w, m, h, hv => region_sound2 (b := b) E (K := Q .normal) (fun st a w m hs hk => hQ .normal st a w m hs hk) h hv
 | .seq x y, Q, Q', hQ, st, a, w, m, h, hv => by
  refine wp_seq (code_sound E x _ _ ?_ st a w m h hv)
  intro e st a w m hs hq
  cases e with
  | normal => exact code_sound E y Q Q' hQ st a w m hs hq
  | exit id => exact hQ (.exit id) st a w m hs hq
  | ret => exact hQ .ret st a w m hs hq
 | .cond c x y, Q, Q', hQ, st, a, w, m, h, hv => by
  simp only [codeVC] at hv
  split at hv
  ·rename_i t hc
   have hb := (hc ▸ h.evs c).valInv
   exact wp_cond_split hb (fun ht => code_sound E x Q Q' hQ st a w m h (hv.1 ht)) (fun ht => code_sound E y Q Q' hQ st a w m h (hv.2 ht))
  ·exact hv.elim
 | .block id c, Q, Q', hQ, st, a, w, m, h, hv => by
  refine wp_block (code_sound E c _ _ ?_ st a w m h hv)
  intro e st a w m hs hq
  cases e with
  | normal => exact hQ .normal st a w m hs hq
  | exit i =>
   simp only at hq
   show Exit.inBlock id Q' (.exit i) a w
   simp only [Exit.inBlock]
   split
   ·rename_i he; rw [if_pos he] at hq; exact hQ .normal st a w m hs hq
   ·rename_i he; rw [if_neg he] at hq; exact hQ (.exit i) st a w m hs hq
  | ret => exact hQ .ret st a w m hs hq
 | .loop c, Q, Q', hQ, st, a, w, m, h, hv => by
  obtain ⟨ls, keep, k, ι, f, μ, i0, rl, hL, h0, hv⟩ := hv
  obtain ⟨m1, h1⟩ := Sim.lifts E ls h hL
  obtain ⟨m2, h2⟩ := h1.norm h0
  refine wp_loop_ghost (fun n a w => ∃ i m, μ i = n ∧ Sim S X w0 m0 (f i) a w m) (μ i0) ⟨i0, m2, rfl, h2⟩ ?_
  rintro n a w ⟨i, m, rfl, hs⟩
  refine code_sound E c _ _ ?_ (f i) a w m hs (hv i)
  intro e st a w m hs hq
  cases e with
  | normal =>
   obtain ⟨j, hj, hlt⟩ := hq
   obtain ⟨m1, hs1⟩ := Sim.relocs rl hs
   obtain ⟨m', hs'⟩ := hs1.norm hj
   exact ⟨μ j, hlt, j, m', rfl, hs'⟩
  | exit id => exact hQ (.exit id) st a w m hs hq
  | ret => exact hQ .ret st a w m hs hq
 | .exit id, Q, Q', hQ, st, a, w, m, h, hv => wp_exit (hQ (.exit id) st a w m h hv)
 | .ret, Q, Q', hQ, st, a, w, m, h, hv => wp_ret (hQ .ret st a w m h hv)
 | .label l, Q, Q', hQ, st, a, w, m, h, hv => wp_label (hQ .normal st a w m h hv)
 | .scope c, Q, Q', hQ, st, a, w, m, h, hv => by simp [codeVC] at hv
 | .rangeFunc .., Q, Q', hQ, st, a, w, m, h, hv => by simp [codeVC] at hv
 | .goto _, Q, Q', hQ, st, a, w, m, h, hv => by simp [codeVC] at hv
 | .refuse _, Q, Q', hQ, st, a, w, m, h, hv => by simp [codeVC] at hv

end
end Go.Pe

/- Functions: the condition of a body is the function's contract. -/
namespace Go.Pe
open Go Go.RowKit

section
variable {P : Program} {gl : List (Nat × Obj)} {S X : Nat → Prop} {w0 w w' : World} {m0 m : Nat → Option MV} {st : St} {a : Act}

def resSem (tmps : Array Value) : ResultVar → Sem Value
 | .tmp t => pure (tmps.getD t undef)
 | .cell a t => do loadVar t (← asAddr (tmps.getD a undef))

theorem results_eq (fn : Func) (tmps : Array Value) : results fn tmps = (do
  let vs ← fn.results.mapM (resSem tmps)
  pure (if h : vs.size = 1 then vs[0] else .tuple vs)) := rfl

theorem retOne_ok (h : Sim S X w0 m0 st a w m) {r : ResultVar} {o : Prop} {x : FV} (hr : retOne P st r = some (o, x)) (ho : o) :
  ∃ v, (resSem a.tmps r).run P w = .ok v w ∧ RepF w (Nset S X w0.heap.size w m st.own) m v x := by
 cases r with
 | tmp t =>
  simp only [retOne, Option.some.injEq, Prod.mk.injEq] at hr
  obtain ⟨rfl, rfl⟩ := hr
  exact ⟨_, by simp [resSem], strip_rep (h.slots t) ho⟩
 | cell b t =>
  simp only [retOne] at hr
  obtain ⟨v, hv, hx⟩ := pop_load (a := a) (o := ({ dst := none, op := .load t (.tmp b), type := 0, pos := "", after := #[], guard := none } : Oper)) (ev := st.ev) rfl h.ownAt (h.slots b) hr ho
  refine ⟨v, ?_, hx⟩
  have he : a.eval (.tmp b) = a.tmps.getD b undef := rfl
  simp only [execOp, Instr.loadAt] at hv
  rw [he] at hv
  simp only [resSem]
  generalize a.tmps.getD b undef = q at hv ⊢
  cases q <;> simp [Instr.sureAddr, Sem.run_bind, Result.andThen] at hv
  rename_i q
  cases q <;> simp at hv
  rename_i q
  simp only [asAddr, Sem.run_bind, Sem.run_pure, Result.andThen_ok]
  revert hv
  cases (loadVar t q).run P w <;> simp

theorem retAll_ok (h : Sim S X w0 m0 st a w m) : ∀ (rs : List ResultVar) (o : Prop) (xs : List FV), retAll P st rs = some (o, xs) → o →
  ∃ vs : List Value, (rs.mapM (resSem a.tmps)).run P w = .ok vs w ∧ vs.length = xs.length ∧ ∀ j (hj : j < vs.length) (hj' : j < xs.length), RepF w (Nset S X w0.heap.size w m st.own) m vs[j] xs[j]
 | [], o, xs, hr, ho => by
  simp only [retAll, Option.some.injEq, Prod.mk.injEq] at hr
  obtain ⟨rfl, rfl⟩ := hr
  exact ⟨[], by simp, rfl, fun j hj => by simp at hj⟩
 | r :: rs, o, xs, hr, ho => by
  simp only [retAll] at hr
  split at hr
  ·rename_i o1 x o2 xs' h1 h2
   simp only [Option.some.injEq, Prod.mk.injEq] at hr
   obtain ⟨rfl, rfl⟩ := hr
   obtain ⟨v, hv, hx⟩ := retOne_ok h h1 ho.1
   obtain ⟨vs, hvs, hl, hxs⟩ := retAll_ok h rs o2 xs' h2 ho.2
   refine ⟨v :: vs, by simp [List.mapM_cons, Sem.run_bind, hv, hvs], by simp [hl], fun j hj hj' => ?_⟩
   cases j with
   | zero => exact hx
   | succ j => exact hxs j _ _
  ·cases hr

theorem results_ok (h : Sim S X w0 m0 st a w m) {fn : Func} {o : Prop} {xs : List FV} (hr : retAll P st fn.results.toList = some (o, xs)) (ho : o) :
  ∃ v, (results fn a.tmps).run P w = .ok v w ∧ RepF w (Nset S X w0.heap.size w m st.own) m v (oneOrTup xs) := by
 obtain ⟨vs, hvs, hl, hx⟩ := retAll_ok h _ _ _ hr ho
 have hm : (fn.results.mapM (resSem a.tmps)).run P w = .ok vs.toArray w := by
  rw [Array.mapM_eq_mapM_toList, Sem.run_map, hvs]
  rfl
 refine ⟨if h : vs.toArray.size = 1 then vs.toArray[0] else .tuple vs.toArray, by rw [results_eq, Sem.run_bind, hm]; simp, ?_⟩
 match vs, xs, hl, hx with
 | [v], [x], _, hx => exact hx 0 (by simp) (by simp)
 | [], [], _, hx => exact .tup (w := w) [] (fun _ => .bool false) (fun j hj => by simp at hj)
 | v :: v' :: vs, x :: x' :: xs, hl, hx =>
  have e1 : (v :: v' :: vs) = vrange (x :: x' :: xs).length (fun j => (v :: v' :: vs).getD j undef) := by
   apply List.ext_getElem?
   intro j
   rw [vrange_get, ← hl]
   split
   ·rename_i hj; rw [List.getElem?_eq_getElem hj, List.getD, List.getElem?_eq_getElem hj]; rfl
   ·rename_i hj; rw [List.getElem?_eq_none (by omega)]
  have : ¬ (v :: v' :: vs).toArray.size = 1 := by simp
  rw [dif_neg this]
  show RepF _ _ _ _ (.tup (x :: x' :: xs))
  have h2 : RepF w (Nset S X w0.heap.size w m st.own) m (.tuple (vrange (x :: x' :: xs).length (fun j => (v :: v' :: vs).getD j undef)).toArray) (.tup (x :: x' :: xs)) := by
   refine .tup (w := w) (x :: x' :: xs) (fun j => (v :: v' :: vs).getD j undef) (fun j hj => ?_)
   have hj1 : j < (v :: v' :: vs).length := by rw [hl]; exact hj
   have := hx j hj1 hj
   have e2 : (v :: v' :: vs).getD j undef = (v :: v' :: vs)[j] := by rw [List.getD, List.getElem?_eq_getElem hj1]; rfl
   rw [e2]; exact this
  rw [← e1] at h2
  exact h2

theorem look_start : ∀ (l : List FV) (n t : Nat), look (startSlots n l) t = if n ≤ t then l.getD (t - n) .junk else .junk
 | [], n, t => by simp [startSlots, look]
 | x :: r, n, t => by
  simp only [startSlots, look]
  split
  ·rename_i he; subst he; simp
  ·rename_i hne
   rw [look_start r (n + 1) t]
   by_cases h : n ≤ t
   ·rw [if_pos h, if_pos (by omega)]
    have : t - n = (t - (n + 1)) + 1 := by omega
    rw [this]; simp
   ·rw [if_neg h, if_neg (by omega)]

theorem start_slot {N : Nat → Prop} {args : List FV} {vs : Nat → Value} {n : Nat} (hx : ∀ j (hj : j < args.length), RepF w N m (vs j) args[j]) (t : Nat) :
  RepF w N m (((vrange args.length vs).toArray ++ Array.replicate n undef).getD t undef) (look (startSlots 0 args) t) := by
 rw [look_start, if_pos (Nat.zero_le _), Nat.sub_zero]
 by_cases ht : t < args.length
 ·have e1 : args.getD t .junk = args[t] := by rw [List.getD, List.getElem?_eq_getElem ht]; rfl
  have e2 : ((vrange args.length vs).toArray ++ Array.replicate n undef).getD t undef = vs t := by
   rw [Array.getD_eq_getD_getElem?, Array.getElem?_append_left (by simpa [vrange] using ht)]
   simp [vrange, ht]
  rw [e1, e2]; exact hx t ht
 ·have e1 : args.getD t .junk = .junk := by rw [List.getD, List.getElem?_eq_none (by omega)]; rfl
  rw [e1]; exact .junk _

theorem FS_of {b : Md} {f : FuncId} {fn : Func} {c : Code} {args : List PV} {R : PV → Prop} (mix : P.follows .mixedOrders = true)
  (hf : P.funcs[f]? = some fn) (hb : fn.body = some c) (hname : (fn.name == "runtime.NumGoroutine") = false) (hn : args.length ≤ fn.ntmps)
  (hv : codeVC P gl b c (endS P fn R) ⟨startSlots 0 (args.map .pv), [], fn.ntmps, 0⟩) : FS P gl f args R := by
 refine ⟨by simp [callable, hf, hb, hname], fun w S vs hgl hS hargs => calls_of_wp hf hb ?_⟩
 have E : Env P gl S (fun _ => False) w := ⟨mix, hgl, fun _ h => h.elim, hS, fun _ _ h => h, fun _ h => h.elim, fun _ h => h⟩
 have hlen : (vrange args.length vs).toArray.size = args.length := by simp [vrange]
 have h0 : Sim S (fun _ => False) w (fun _ => none) ⟨startSlots 0 (args.map .pv), [], fn.ntmps, 0⟩ { tmps := (vrange args.length vs).toArray ++ Array.replicate (fn.ntmps - (vrange args.length vs).toArray.size) undef, defers := [] } w (fun _ => none) := by
  have hno : ∀ i, ¬ lives ([] : List Blk) i := by rintro i ⟨b, hb, _⟩; simp at hb
  refine ⟨⟨rfl, rfl, rfl, Nat.le_refl _, fun _ _ _ => rfl⟩, OwnS.mk (fun i v hv => by cases hv) (fun i b hb => by simp at hb) (fun i j b _ hi => (hno i hi).elim) (fun i b hi => (hno i hi).elim) (fun i b hi => (hno i hi).elim),
   fun i b hi => (hno i hi).elim, fun _ _ => rfl, Nat.le_refl _, by simp [vrange]; omega, rfl, fun t => ?_⟩
  have := start_slot (w := w) (m := fun _ => none) (N := Nset S (fun _ => False) w.heap.size w (fun _ => none) []) (args := args.map .pv) (vs := vs) (n := fn.ntmps - (vrange args.length vs).toArray.size)
   (fun j hj => by simp at hj; simpa using RepF.pv _ _ ((hargs j hj).mono (fun _ _ => rfl) (fun b => .inl))) t
  simpa [St.get] using this
 refine code_sound E c _ _ ?_ _ _ w _ h0 hv
 intro e st a' w' m hs hq
 have main : ∀ o xs, retAll P st fn.results.toList = some (o, xs) → (o ∧ match snapD st.own (List.range st.own.length) 8 (oneOrTup xs) with
   | some p => R p
   | none => False) → a'.defers = [] ∧ ∃ v, (results fn a'.tmps).run P w' = .ok v w' ∧ ∃ v' r, Ending.returned v = .returned v' ∧ R r ∧ Below w.heap.size w w' ∧
   Rep w' (fun b => S b ∨ (w.heap.size ≤ b ∧ b < w'.heap.size)) v' r := by
  rintro o xs hr ⟨ho, hR⟩
  obtain ⟨v, hv, hx⟩ := results_ok hs hr ho
  split at hR
  ·rename_i p hp
   refine ⟨hs.df, v, hv, v, p, rfl, hR, ⟨hs.bel.os, hs.bel.tape, hs.bel.output, hs.bel.size, fun k hk => hs.bel.block k hk (fun h => h)⟩, ?_⟩
   refine snapD_rep (S' := fun b => S b ∨ (w.heap.size ≤ b ∧ b < w'.heap.size)) hs.ownAt (fun b hb => ?_) (fun i b _ hl hb => ?_) 8 _ _ _ hx hp
   ·rcases hb with hb | ⟨h1, h2, _⟩
    ·exact .inl hb
    ·exact .inr ⟨h1.resolve_right (fun h => h), h2⟩
   ·exact .inr ⟨(hs.bnd i b hl hb).resolve_right (fun h => h), hs.ows.lt i b hl hb⟩
  ·exact hR.elim
 cases e with
 | exit _ => exact hq.elim
 | normal =>
  simp only [endS] at hq
  split at hq
  ·rename_i o xs hr; exact main o xs hr hq
  ·exact hq.elim
 | ret =>
  simp only [endS] at hq
  split at hq
  ·rename_i o xs hr; exact main o xs hr hq
  ·exact hq.elim

theorem renO_rep {N N' : Nat → Prop} (hN : ∀ b, N b → N' b) {mX : Nat → Option MV} {ds : List Nat} (hmX : ∀ i ∈ ds, mX (idx ds i) = m i) {v : Value} {x x' : FV} (h : RepF w N m v x) (hx : renO ds x = some x') : RepF w N' mX v x' := by
 unfold renO at hx
 split at hx
 ·simp only [Option.some.injEq] at hx
  rw [← hx]
  exact .pv _ _ (h.pvInv.mono (fun _ _ => rfl) hN)
 ·rename_i i
  split at hx
  ·rename_i hd
   simp only [Option.some.injEq] at hx
   rw [← hx]
   cases h with | own _ _ hvi =>
   exact .own _ _ ((hmX i (by simpa using hd)).trans hvi)
  ·cases hx
 ·cases hx

theorem renR_rep {N N' : Nat → Prop} (hN : ∀ b, N b → N' b) {mX : Nat → Option MV} {ds : List Nat} (hmX : ∀ i ∈ ds, mX (idx ds i) = m i) {v : Value} {x x' : FV} (h : RepF w N m v x) (hx : renR ds x = some x') : RepF w N' mX v x' := by
 unfold renR at hx
 split at hx
 ·simp only [Option.some.injEq] at hx
  rw [← hx]
  exact .pv _ _ (h.pvInv.mono (fun _ _ => rfl) hN)
 ·rename_i cs
  cases hm : mapO (renO ds) cs with
  | none => simp [hm] at hx
  | some cs' =>
   simp only [hm, Option.map_some, Option.some.injEq] at hx
   rw [← hx]
   obtain ⟨hcl, hcget⟩ := mapO_spec hm
   cases h with | agg _ f hf1 hfr =>
   rw [hcl]
   exact .agg cs' f hf1 (fun q hq => renO_rep hN hmX (hfr q (by omega)) (hcget q (by omega) hq))
 ·rename_i i
  split at hx
  ·rename_i hd
   simp only [Option.some.injEq] at hx
   rw [← hx]
   cases h with | own _ _ hvi =>
   exact .own _ _ ((hmX i (by simpa using hd)).trans hvi)
  ·cases hx
 ·rename_i i off
  split at hx
  ·rename_i hd
   simp only [Option.some.injEq] at hx
   rw [← hx]
   cases h
   rename_i b hb
   refine .box _ _ b ?_
   unfold tblk at *
   rw [hmX i (by simpa using hd)]
   exact hb
  ·cases hx
 ·cases hx

theorem renT_rep {N N' : Nat → Prop} (hN : ∀ b, N b → N' b) {mX : Nat → Option MV} {ds : List Nat} (hmX : ∀ i ∈ ds, mX (idx ds i) = m i) {v : Value} {x x' : FV} (h : RepF w N m v x) (hx : renT ds x = some x') : RepF w N' mX v x' := by
 unfold renT at hx
 split at hx
 ·rename_i cs
  cases hm : mapO (renR ds) cs with
  | none => simp [hm] at hx
  | some cs' =>
   simp only [hm, Option.map_some, Option.some.injEq] at hx
   rw [← hx]
   obtain ⟨hcl, hcget⟩ := mapO_spec hm
   cases h with | tup _ f hfr =>
   rw [hcl]
   exact .tup cs' f (fun q hq => renR_rep hN hmX (hfr q (by omega)) (hcget q (by omega) hq))
 ·exact renR_rep hN hmX h hx

theorem FX_of {b : Md} {f : FuncId} {fn : Func} {c : Code} {own : List Blk} {args : List FV} {R : List Blk → FV → Prop} (mix : P.follows .mixedOrders = true)
  (hf : P.funcs[f]? = some fn) (hb : fn.body = some c) (hname : (fn.name == "runtime.NumGoroutine") = false) (hn : args.length ≤ fn.ntmps)
  (hv : codeVC P gl b c (endX P fn own.length R) ⟨startSlots 0 args, own, fn.ntmps, own.length⟩) : FX P gl f own args R := by
 refine ⟨by simp [callable, hf, hb, hname], fun w S m vs hgl hS hows hdis hargs => calls_of_wp hf hb ?_⟩
 let X : Nat → Prop := fun b => ∃ i, lives own i ∧ mblk m i b
 have E : Env P gl S X w := ⟨mix, hgl, fun b ⟨i, hi, hm⟩ x hx => hdis i b hi hm x hx, hS, fun b hSb ⟨i, hi, hm⟩ => hows.out i b hi hm hSb, fun b ⟨i, hi, hm⟩ => hows.lt i b hi hm, fun _ h => h⟩
 have hN : ∀ b, S b → Nset S X w.heap.size w m own b := fun b => .inl
 have h0 : Sim S X w m ⟨startSlots 0 args, own, fn.ntmps, own.length⟩ { tmps := (vrange args.length vs).toArray ++ Array.replicate (fn.ntmps - (vrange args.length vs).toArray.size) undef, defers := [] } w m := by
  refine ⟨⟨rfl, rfl, rfl, Nat.le_refl _, fun _ _ _ => rfl⟩, OwnS.mk hows.len (fun i b hb hl => ?_) hows.sep hows.lt (fun i b hi hm => ?_), fun i b hi hm => .inr ⟨i, hi, hm⟩, fun _ _ => rfl, Nat.le_refl _, by simp [vrange]; omega, rfl, fun t => ?_⟩
  ·obtain ⟨v, hv, hok⟩ := hows.ok i b hb hl
   exact ⟨v, hv, hok.mono (fun _ _ => rfl) hN (fun _ _ => id) (fun _ _ => rfl)⟩
  ·rintro (hS' | ⟨_, _, h3⟩)
   ·exact hows.out i b hi hm hS'
   ·exact h3 i hi hm
  ·have := start_slot (w := w) (m := m) (N := Nset S X w.heap.size w m own) (args := args) (vs := vs) (n := fn.ntmps - (vrange args.length vs).toArray.size)
    (fun j hj => (hargs j hj).mono (fun _ _ => rfl) hN (fun _ _ => id)) t
   simpa [St.get] using this
 refine code_sound E c _ _ ?_ _ _ w _ h0 hv
 intro e st a' w' m1 hs hq
 have main : ∀ o xs, retAll P st fn.results.toList = some (o, xs) → (o ∧ st.k0 = own.length ∧ ∃ (es : List Nat) (bs : List Blk) (x : FV), es.Nodup ∧ own.length ≤ es.length ∧ es.take own.length = List.range own.length ∧ mapO (fun i => st.own[i]?) es = some bs ∧ (bs.all plainB) = true ∧ renT es (oneOrTup xs) = some x ∧ R bs x) →
   a'.defers = [] ∧ ∃ v, (results fn a'.tmps).run P w' = .ok v w' ∧ ∃ v' r own' m', Ending.returned v = .returned v' ∧ R own' r ∧ own.length ≤ own'.length ∧ (∀ i, i < own.length → m' i = m i) ∧
   BelowX X w w' ∧ OwnS w' (Nset S X w.heap.size w' m' own') m' own' ∧ (∀ i b, lives own' i → mblk m' i b → w.heap.size ≤ b ∨ ∃ i, lives own i ∧ mblk m i b) ∧ RepF w' (Nset S X w.heap.size w' m' own') m' v' r := by
  rintro o xs hr ⟨ho, hk0, es, bs, x, hnd, hk1, htk, hbs, hpl, hren, hR⟩
  obtain ⟨v, hv, hx⟩ := results_ok hs hr ho
  obtain ⟨hbl, hbget⟩ := mapO_spec hbs
  let mX : Nat → Option MV := fun p => (es[p]?).bind m1
  have hmX : ∀ (p j : Nat), es[p]? = some j → mX p = m1 j := fun p j hp => by simp [mX, hp]
  have hmbX : ∀ (p j : Nat), es[p]? = some j → mblk mX p = mblk m1 j := fun p j hp => by unfold mblk; rw [hmX p j hp]
  have hget : ∀ (p : Nat) (b : Blk), bs[p]? = some b → ∃ j : Nat, es[p]? = some j ∧ st.own[j]? = some b := by
   intro p b hb
   have hlt : p < es.length := by have := (List.getElem?_eq_some_iff.1 hb).1; omega
   have h1 := hbget p hlt (by omega)
   refine ⟨es[p], List.getElem?_eq_getElem hlt, h1.trans ?_⟩
   rw [← hb, List.getElem?_eq_getElem (by omega)]
  have hlvX : ∀ p, lives bs p → ∃ j : Nat, es[p]? = some j ∧ lives st.own j := by
   rintro p ⟨b, hb, hl⟩
   obtain ⟨j, h1, h2⟩ := hget p b hb
   exact ⟨j, h1, b, h2, hl⟩
  have hN : ∀ b, Nset S X w.heap.size w' m1 st.own b → Nset S X w.heap.size w' mX bs b := by
   rintro b (hb | ⟨h1, h2, h3⟩)
   ·exact .inl hb
   ·refine .inr ⟨h1, h2, fun p hp hm => ?_⟩
    obtain ⟨j, hj, hlj⟩ := hlvX p hp
    rw [hmbX p j hj] at hm
    exact h3 j hlj hm
  refine ⟨hs.df, v, hv, v, x, bs, mX, rfl, hR, by omega, fun i hi => ?_, hs.bel, OwnS.mk (fun p u hu => ?_) (fun p b hb hl => ?_) (fun p q b hne hp hq hbp hbq => ?_) (fun p b hp hb => ?_) (fun p b hp hb => ?_), fun p b hp hb => ?_, renT_rep hN (fun i hi => hmX _ i (idx_get es i hi)) hx hren⟩
  ·have h1 : (es.take own.length)[i]? = some i := by rw [htk]; exact List.getElem?_range hi
   rw [List.getElem?_take, if_pos hi] at h1
   rw [hmX i i h1]
   exact hs.fix i (show i < st.k0 by omega)
  ·cases hd : es[p]? with
   | none => simp [mX, hd] at hu
   | some j =>
    rw [hmX p j hd] at hu
    have := (List.getElem?_eq_some_iff.1 hd).1
    exact ⟨by omega, (hs.ows.len j u hu).2⟩
  ·obtain ⟨j, hj, hoj⟩ := hget p b hb
   obtain ⟨u, hu, hok⟩ := hs.ows.ok j b hoj hl
   exact ⟨u, (hmX p j hj).trans hu, plainB_mono (List.all_eq_true.1 hpl b (List.mem_of_getElem? hb)) hok (fun _ _ => rfl) hN (fun _ _ => rfl)⟩
  ·obtain ⟨j, hj, hlj⟩ := hlvX p hp
   obtain ⟨k, hk, hlk⟩ := hlvX q hq
   rw [hmbX p j hj] at hbp
   rw [hmbX q k hk] at hbq
   exact hs.ows.sep j k b (fun e => by subst e; exact hne (nodup_get hnd hj hk)) hlj hlk hbp hbq
  ·obtain ⟨j, hj, hlj⟩ := hlvX p hp
   rw [hmbX p j hj] at hb
   exact hs.ows.lt j b hlj hb
  ·rintro (hS' | ⟨_, _, h3⟩)
   ·obtain ⟨j, hj, hlj⟩ := hlvX p hp
    rw [hmbX p j hj] at hb
    exact hs.ows.out j b hlj hb (.inl hS')
   ·exact h3 p hp hb
  ·obtain ⟨j, hj, hlj⟩ := hlvX p hp
   rw [hmbX p j hj] at hb
   exact hs.bnd j b hlj hb
 cases e with
 | exit _ => exact hq.elim
 | normal =>
  simp only [endX] at hq
  split at hq
  ·rename_i o xs hr; exact main o xs hr hq
  ·exact hq.elim
 | ret =>
  simp only [endX] at hq
  split at hq
  ·rename_i o xs hr; exact main o xs hr hq
  ·exact hq.elim

end
end Go.Pe

