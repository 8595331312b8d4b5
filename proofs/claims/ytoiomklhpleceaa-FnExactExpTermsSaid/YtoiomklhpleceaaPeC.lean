/- Regions, bodies and functions: the conditions of a body are the function's contract: no condition on the input. -/
import Derived.Test.YtoiomklhpleceaaPeB
import Derived.Deep.LoopGhost
import Derived.KernelRfl
import Derived.Laws.BitsLemmas
/- A region, in the order of its text, or in whatever order its edges allow. -/
namespace Go.Pe
open Go Go.RowKit

section
variable {P : Program} {gl : List (Nat × Obj)} {S X : Nat → Prop} {w0 w w' : World} {m0 m : Nat → Option Value} {st : St} {a : Act}

theorem wanted_none {o : Oper} (h : o.guard = none) (y : Nat → Option Bool) : Region.wanted o y = true := by
  unfold Region.wanted; rw [h]

/-- one operation, guarded or not, in a form that every walk takes -/
theorem step_sound (E : Env P gl S X w0) (h : Sim S X w0 m0 st a w m) {ops : Array Oper} {o : Oper} {K : St → Prop} (hv : stepVC P gl ops.toList o st K) {next : Act → World → Prop} {Q : Exit → Act → World → Prop}
    (hn : ∀ st' a' w' m', Sim S X w0 m0 st' a' w' m' → K st' → next a' w') :
    if Region.wanted o (yielded ops a.tmps) then o.wp P a w next Q ∨ (o.asks P a w ∧ LetsOut Q) else next (a.put o.dst undef) w := by
  unfold stepVC at hv
  cases hg : o.guard with
  | none =>
    rw [hg] at hv
    rw [if_pos (wanted_none hg _)]
    exact .inl (eff_sound E h hv hn)
  | some jw =>
    obtain ⟨j, want⟩ := jw
    rw [hg] at hv
    simp only at hv
    split at hv
    · rename_i g hgc
      rw [gcond_spec h hg hgc]
      obtain ⟨x, hk, hok⟩ := qop_spec hv
      cases g with
      | true =>
        rw [if_pos rfl]
        exact .inl (quiet_step E h (hok rfl) (fun q _ => h.evs q) (fun v w' hs hr => hn _ _ w' m (hs.put (.iff _ _ _ (fun _ => hr) (fun e => by cases e))) hk))
      | false =>
        rw [if_neg (by simp)]
        exact hn _ _ w m (h.put (.iff _ _ _ (fun e => by cases e) (fun _ => rfl))) hk
    · exact hv.elim

theorem seq_sound (E : Env P gl S X w0) {ops : Array Oper} {Q : Exit → Act → World → Prop} {K : St → Prop} (hK : ∀ st a w m, Sim S X w0 m0 st a w m → K st → Q .normal a w) :
    ∀ (l : List Oper) (st : St) (a : Act) (w : World) (m : Nat → Option Value), Sim S X w0 m0 st a w m → seqVC P gl ops.toList l st K → wpList P ops Q l a w
  | [], st, a, w, m, h, hv => hK st a w m h hv
  | o :: r, st, a, w, m, h, hv => by
    unfold wpList
    have := step_sound E h (ops := ops) (o := o) (Q := Q) hv (next := wpList P ops Q r) (fun st' a' w' m' hs hk => seq_sound E hK r st' a' w' m' hs hk)
    split
    · rename_i hw; rw [if_pos hw] at this; exact this
    · rename_i hw; rw [if_neg hw] at this; exact this

/-- the state once the operations in E have yielded -/
def stE (E : Nat → Bool) : Nat → List (Option Tmp × FV) → St → St
  | _, [], st => st
  | i, d :: r, st => stE E (i + 1) r (if E i then st.put d.1 d.2 else st)

theorem put_own (st : St) (t : Option Nat) (x : FV) : (st.put t x).own = st.own ∧ (st.put t x).nt = st.nt ∧ (st.put t x).k0 = st.k0 := by
  unfold St.put
  split
  · exact ⟨rfl, rfl, rfl⟩
  · split <;> exact ⟨rfl, rfl, rfl⟩

theorem put_get (st : St) (t : Option Nat) (x : FV) (q : Nat) : (st.put t x).get q = if t = some q ∧ q < st.nt then x else st.get q := by
  unfold St.put
  cases t with
  | none => simp
  | some t =>
    simp only [Option.some.injEq]
    split
    · rename_i ht
      simp only [St.get, look_put]
      by_cases he : q = t
      · subst he; rw [if_pos rfl, if_pos ⟨rfl, ht⟩]
      · rw [if_neg he, if_neg (fun h => he h.1.symm)]
    · rename_i ht
      rw [if_neg (fun h => ht (by rw [h.1]; exact h.2))]

theorem stE_own (E : Nat → Bool) : ∀ (l : List (Option Tmp × FV)) (i : Nat) (st : St), (stE E i l st).own = st.own ∧ (stE E i l st).nt = st.nt ∧ (stE E i l st).k0 = st.k0
  | [], i, st => ⟨rfl, rfl, rfl⟩
  | d :: r, i, st => by
    obtain ⟨h1, h2, h3⟩ := stE_own E r (i + 1) (if E i then st.put d.1 d.2 else st)
    simp only [stE]
    rw [h1, h2, h3]
    split
    · exact put_own st d.1 d.2
    · exact ⟨rfl, rfl, rfl⟩

theorem stE_none {E : Nat → Bool} : ∀ {l : List (Option Tmp × FV)} {i : Nat} {st : St} {t : Nat}, (∀ k (hk : k < l.length), E (i + k) = true → (l[k]).1 ≠ some t) → (stE E i l st).get t = st.get t
  | [], i, st, t, _ => rfl
  | d :: r, i, st, t, h => by
    simp only [stE]
    rw [stE_none (fun k hk he => by have := h (k + 1) (by simpa using hk) (by rw [show i + (k + 1) = i + 1 + k by omega]; exact he); simpa using this)]
    split
    · rename_i hE
      rw [put_get, if_neg]
      intro hc
      exact h 0 (by simp) (by simpa using hE) (by simpa using hc.1)
    · rfl

theorem stE_some {E : Nat → Bool} : ∀ {l : List (Option Tmp × FV)} {i : Nat} {st : St} {t : Nat} (k : Nat) (hk : k < l.length), E (i + k) = true → (l[k]).1 = some t → t < st.nt →
    (∀ q (hq : q < l.length), q ≠ k → (l[q]).1 ≠ some t) → (stE E i l st).get t = (l[k]).2
  | d :: r, i, st, t, 0, hk, hE, hd, hnt, hu => by
    simp only [List.getElem_cons_zero] at hd ⊢
    simp only [stE]
    rw [stE_none (fun k hk' _ => by have := hu (k + 1) (by simpa using hk') (by omega); simpa using this)]
    rw [if_pos (by simpa using hE), put_get, if_pos ⟨hd, hnt⟩]
  | d :: r, i, st, t, k + 1, hk, hE, hd, hnt, hu => by
    simp only [List.getElem_cons_succ] at hd ⊢
    simp only [stE]
    refine stE_some k (by simpa using hk) (by rw [show i + 1 + k = i + (k + 1) by omega]; exact hE) hd ?_ (fun q hq hne => by have := hu (q + 1) (by simpa using hq) (by omega); simpa using this)
    split
    · rw [(put_own st d.1 d.2).2.1]; exact hnt
    · exact hnt

theorem Sim.congr (h : Sim S X w0 m0 st a w m) {st' : St} (h1 : st'.own = st.own) (h2 : st'.nt = st.nt) (h3 : st'.k0 = st.k0) (hg : ∀ t, st'.get t = st.get t) : Sim S X w0 m0 st' a w m := by
  refine ⟨h.bel, by rw [h1]; exact h.ows, by rw [h1]; exact h.bnd, by rw [h3]; exact h.fix, by rw [h3, h1]; exact h.k0, by rw [h2]; exact h.nt, h.df, fun t => by rw [h1, hg]; exact h.slots t⟩

/-- what the walk in the order of the text has found of each quiet operation -/
inductive Quiet (P : Program) (gl : List (Nat × Obj)) (L : List Oper) : List Oper → St → List (Option Tmp × FV) → Prop
  | nil (st : St) : Quiet P gl L [] st []
  | plain (o : Oper) (r : List Oper) (st : St) (x : FV) (l : List (Option Tmp × FV)) : o.guard = none → QOk P gl st.own st.ev o x → Quiet P gl L r (st.put o.dst x) l → Quiet P gl L (o :: r) st ((o.dst, x) :: l)
  | guard (o : Oper) (r : List Oper) (st : St) (x : FV) (l : List (Option Tmp × FV)) (j : Nat) (want g : Bool) : o.guard = some (j, want) → gcond L st j want = some g → (g = true → QOk P gl st.own st.ev o x) →
      Quiet P gl L r (st.put o.dst (.iff g x)) l → Quiet P gl L (o :: r) st ((o.dst, .iff g x) :: l)

theorem quiet_spec {L : List Oper} {K : St → Prop} : ∀ {r : List Oper} {st : St}, quietVC P gl L r st K → ∃ l, Quiet P gl L r st l ∧ K (stE (fun _ => true) 0 l st)
  | [], st, h => ⟨[], .nil st, h⟩
  | o :: r, st, h => by
    have shift : ∀ (l : List (Option Tmp × FV)) (i : Nat) (st : St), stE (fun _ => true) i l st = stE (fun _ => true) 0 l st := by
      intro l
      induction l with
      | nil => intro i st; rfl
      | cons d l ih => intro i st; simp only [stE]; rw [ih, ih 1]
    simp only [quietVC, quietVC1] at h
    cases hg : o.guard with
    | none =>
      rw [hg] at h
      obtain ⟨x, hk, hok⟩ := qop_spec h
      obtain ⟨l, hl, hK⟩ := quiet_spec hk
      refine ⟨_, .plain o r st x l hg (hok trivial) hl, ?_⟩
      simp only [stE, if_true]
      rw [shift]
      exact hK
    | some jw =>
      obtain ⟨j, want⟩ := jw
      rw [hg] at h
      simp only at h
      split at h
      · rename_i g hgc
        obtain ⟨x, hk, hok⟩ := qop_spec h
        obtain ⟨l, hl, hK⟩ := quiet_spec hk
        refine ⟨_, .guard o r st x l j want g hg hgc (fun e => hok e) hl, ?_⟩
        simp only [stE, if_true]
        rw [shift]
        exact hK
      · exact h.elim

/-- operation i of the walk in the order of the text -/
theorem Quiet.at {L : List Oper} : ∀ {r : List Oper} {st : St} {l : List (Option Tmp × FV)}, Quiet P gl L r st l → l.length = r.length ∧ ∀ i (hi : i < r.length) (hi' : i < l.length),
    (l[i]).1 = (r[i]).dst ∧ (((r[i]).guard = none ∧ QOk P gl st.own (stE (fun k => decide (k < i)) 0 l st).ev r[i] (l[i]).2) ∨
      ∃ j want g x, (r[i]).guard = some (j, want) ∧ gcond L (stE (fun k => decide (k < i)) 0 l st) j want = some g ∧ (l[i]).2 = .iff g x ∧ (g = true → QOk P gl st.own (stE (fun k => decide (k < i)) 0 l st).ev r[i] x)) := by
  have zero : ∀ (l : List (Option Tmp × FV)) (i : Nat) (st : St), stE (fun k => decide (k < 0)) i l st = st := by
    intro l
    induction l with
    | nil => intro i st; rfl
    | cons d l ih => intro i st; simp only [stE, Nat.not_lt_zero, decide_false, Bool.false_eq_true, if_false]; simpa using ih (i + 1) st
  have shift : ∀ (l : List (Option Tmp × FV)) (i n : Nat) (st : St), stE (fun k => decide (k < n + 1)) (i + 1) l st = stE (fun k => decide (k < n)) i l st := by
    intro l
    induction l with
    | nil => intro i n st; rfl
    | cons d l ih => intro i n st; simp only [stE]; rw [ih]; congr 1; simp
  intro r st l h
  induction h with
  | nil st => exact ⟨rfl, fun i hi => by simp at hi⟩
  | plain o r st x l hg hok _ ih =>
    refine ⟨by simp [ih.1], fun i hi hi' => ?_⟩
    cases i with
    | zero =>
      simp only [List.getElem_cons_zero]
      exact ⟨trivial, .inl ⟨hg, by rw [zero]; exact hok⟩⟩
    | succ i =>
      simp only [List.getElem_cons_succ]
      have := ih.2 i (by simpa using hi) (by simpa using hi')
      simp only [stE, shift]
      rw [show (if decide (0 < i + 1) = true then st.put o.dst x else st) = st.put o.dst x by simp]
      rw [(put_own st o.dst x).1] at this
      exact this
  | guard o r st x l j want g hg hgc hok _ ih =>
    refine ⟨by simp [ih.1], fun i hi hi' => ?_⟩
    cases i with
    | zero =>
      simp only [List.getElem_cons_zero]
      exact ⟨trivial, .inr ⟨j, want, g, x, hg, by rw [zero]; exact hgc, rfl, by rw [zero]; exact hok⟩⟩
    | succ i =>
      simp only [List.getElem_cons_succ]
      have := ih.2 i (by simpa using hi) (by simpa using hi')
      simp only [stE, shift]
      rw [show (if decide (0 < i + 1) = true then st.put o.dst (.iff g x) else st) = st.put o.dst (.iff g x) by simp]
      rw [(put_own st o.dst (.iff g x)).1] at this
      exact this

end
end Go.Pe

/- A region that draws its order: quiet operations in any order, then the others in the order of the text. -/
namespace Go.Pe
open Go Go.RowKit

theorem ancs_prefix : ∀ (r : List Oper) (acc : List (List Nat)) (k : Nat), k < acc.length → (ancs acc r).getD k [] = acc.getD k []
  | [], acc, k, _ => rfl
  | o :: r, acc, k, hk => by
    simp only [ancs]
    rw [ancs_prefix r _ k (by simp; omega)]
    simp [List.getD, List.getElem?_append_left hk]

theorem ancs_spec : ∀ (r : List Oper) (acc : List (List Nat)) (k : Nat) (hk : acc.length ≤ k) (hk' : k < acc.length + r.length) (j : Nat), j ∈ (ancs acc r).getD k [] →
    ∃ e ∈ (r[k - acc.length]'(by omega)).after.toList, Region.binds .any e = true ∧ (j = e.on ∨ (e.on < k ∧ j ∈ (ancs acc r).getD e.on []))
  | [], acc, k, hk, hk', j, h => by simp at hk'; omega
  | o :: r, acc, k, hk, hk', j, h => by
    by_cases he : k = acc.length
    · subst he
      simp only [ancs] at h ⊢
      rw [ancs_prefix r _ _ (by simp)] at h
      simp only [List.getD, List.getElem?_append_right (Nat.le_refl _), Nat.sub_self, List.getElem?_cons_zero, Option.getD_some, List.mem_flatMap] at h
      obtain ⟨e, hm, hj⟩ := h
      split at hj
      · rename_i hb
        refine ⟨e, by simpa using hm, hb, ?_⟩
        rcases List.mem_cons.1 hj with rfl | hj
        · exact .inl rfl
        · right
          have hlt : e.on < acc.length := by
            by_cases hlt : e.on < acc.length
            · exact hlt
            · rw [List.getElem?_eq_none (by omega)] at hj; simp at hj
          refine ⟨hlt, ?_⟩
          rw [ancs_prefix r _ _ (by simp; omega)]
          simp only [List.getD, List.getElem?_append_left hlt]
          exact hj
      · simp at hj
    · simp only [ancs] at h ⊢
      have := ancs_spec r _ k (by simp; omega) (by simp at hk' ⊢; omega) j h
      obtain ⟨e, hm, hb, hj⟩ := this
      refine ⟨e, ?_, hb, hj⟩
      have e1 : (o :: r)[k - acc.length]'(by simp at hk' ⊢; omega) = r[k - (acc ++ [o.after.toList.flatMap fun e => if Region.binds .any e then e.on :: acc.getD e.on [] else []]).length]'(by simp at hk' ⊢; omega) := by
        simp only [List.length_append, List.length_singleton]
        rw [List.getElem_cons]
        rw [dif_neg (by omega)]
        congr 1
      rw [e1]
      exact hm

theorem splitFrom_le (an : List (List Nat)) : ∀ n, splitFrom an n ≤ n
  | 0 => Nat.le_refl _
  | n + 1 => by
    unfold splitFrom
    split
    · have := splitFrom_le an n; omega
    · exact Nat.le_refl _

theorem splitFrom_full (an : List (List Nat)) : ∀ n k, splitFrom an n ≤ k → k < n → fullAt an k = true
  | 0, k, _, h => by omega
  | n + 1, k, h1, h2 => by
    unfold splitFrom at h1
    split at h1
    · rename_i hf
      by_cases he : k = n
      · subst he; exact hf
      · exact splitFrom_full an n k h1 (by omega)
    · omega

section
variable {P : Program} {gl : List (Nat × Obj)} {S X : Nat → Prop} {w0 w w' : World} {m0 m : Nat → Option Value} {st : St} {a : Act}

theorem ready_spec {ops : Array Oper} {listed : Array Bool} (hsz : listed.size = ops.size) {i : Nat} (h : i ∈ Region.ready .any ops listed) :
    ∃ hi : i < ops.size, listed[i]? = some false ∧ ∀ e ∈ (ops[i]).after.toList, Region.binds .any e = true → listed[e.on]? = some true := by
  unfold Region.ready at h
  simp only [List.mem_filter, List.mem_range, Bool.and_eq_true, Bool.not_eq_true'] at h
  obtain ⟨hi, h1, h2⟩ := h
  refine ⟨hi, ?_, fun e he hb => ?_⟩
  · rw [Array.getD_eq_getD_getElem?] at h1
    cases hq : listed[i]? with
    | none => simp [hq] at h1
    | some b => simp [hq] at h1; rw [h1]
  · rw [Array.getElem?_eq_getElem hi] at h2
    simp only [Option.map_some, Option.getD_some, Array.all_eq_true] at h2
    obtain ⟨q, hq, rfl⟩ := List.getElem_of_mem he
    have := h2 q (by simpa using hq)
    simp only [Array.getElem_toList] at hb
    simp only [hb, Bool.not_true, Bool.false_or] at this
    rw [Array.getD_eq_getD_getElem?] at this
    cases hl : listed[(ops[i].after[q]'(by simpa using hq)).on]? with
    | none => simp [hl] at this
    | some b => simp [hl] at this; simp [hl, this]

theorem ready_mem {ops : Array Oper} {listed : Array Bool} {i : Nat} (hi : i < ops.size) (h1 : listed[i]? = some false) (h2 : ∀ e ∈ (ops[i]).after.toList, Region.binds .any e = true → listed[e.on]? = some true) :
    i ∈ Region.ready .any ops listed := by
  unfold Region.ready
  simp only [List.mem_filter, List.mem_range, Bool.and_eq_true, Bool.not_eq_true']
  refine ⟨hi, by rw [Array.getD_eq_getD_getElem?, h1]; rfl, ?_⟩
  rw [Array.getElem?_eq_getElem hi]
  simp only [Option.map_some, Option.getD_some, Array.all_eq_true]
  intro q hq
  have := h2 (ops[i].after[q]) (by simp)
  cases hb : Region.binds .any (ops[i].after[q]) with
  | false => rfl
  | true =>
    simp only [Bool.not_true, Bool.false_or]
    rw [Array.getD_eq_getD_getElem?, this hb]
    rfl

/-- the region's facts that the walk in any order leans on -/
structure Orderly (ops : Array Oper) (an : List (List Nat)) (p : Nat) : Prop where
  le : p ≤ ops.size
  back : ∀ i (hi : i < ops.size), ∀ e ∈ (ops[i]).after.toList, Region.binds .any e = true → e.on < i
  full : ∀ k, p ≤ k → k < ops.size → ∀ j, j < k → j ∈ an.getD k []
  apart : ∀ i j, i < p → j < p → i ≠ j → ∀ t, dstOf ops.toList i = some t → dstOf ops.toList j ≠ some t
  reads : ∀ i j (hi : i < ops.size), i < p → j < p → ∀ t ∈ readsT ops.toList ops[i], dstOf ops.toList j = some t → j ∈ an.getD i [] ∧ j < i
  anc : ∀ k (hk : k < ops.size) j, j ∈ an.getD k [] → ∃ e ∈ (ops[k]).after.toList, Region.binds .any e = true ∧ (j = e.on ∨ (e.on < k ∧ j ∈ an.getD e.on []))

theorem orderly_of {ops : Array Oper} (h : quietOk ops.toList (ancs [] ops.toList) (splitFrom (ancs [] ops.toList) ops.toList.length) = true) :
    Orderly ops (ancs [] ops.toList) (splitFrom (ancs [] ops.toList) ops.toList.length) := by
  unfold quietOk at h
  simp only [Bool.and_eq_true, List.all_eq_true, List.mem_range, Bool.or_eq_true, Bool.not_eq_true', beq_iff_eq, decide_eq_true_eq] at h
  obtain ⟨h1, h2⟩ := h
  have hgd : ∀ i (hi : i < ops.size), ops.toList.getD i default = ops[i] := by
    intro i hi
    simp [List.getD, hi]
  refine ⟨by simpa using splitFrom_le (ancs [] ops.toList) ops.toList.length, fun i hi e he hb => ?_, fun k hpk hk j hj => ?_, fun i j hi hj hne t ht => ?_, fun i j his hi hj t ht hd => ?_, fun k hk j hj => ?_⟩
  · have := h1 i (by simpa using hi) e (by rw [hgd i hi]; exact he)
    rw [hb] at this
    simpa using this
  · have := splitFrom_full (ancs [] ops.toList) ops.toList.length k hpk (by simpa using hk)
    unfold fullAt at this
    simp only [List.all_eq_true, List.mem_range] at this
    simpa using this j hj
  · intro hj'
    rcases (h2 i hi j hj).1 with (h3 | h3) | h3
    · exact hne h3
    · rw [ht] at h3; cases h3
    · rw [ht, hj'] at h3; simp at h3
  · have := (h2 i hi j hj).2 t (by rw [hgd i his]; exact ht)
    rcases this with h3 | ⟨h3, h4⟩
    · rw [hd] at h3; simp at h3
    · exact ⟨by simpa using h3, h4⟩
  · obtain ⟨e, hm, hb, hj'⟩ := ancs_spec ops.toList [] k (Nat.zero_le _) (by simpa using hk) j hj
    exact ⟨e, by simpa using hm, hb, hj'⟩

/-- which have been carried out -/
def done (listed : Array Bool) (i : Nat) : Bool := listed.getD i false

theorem done_iff {listed : Array Bool} {i : Nat} : done listed i = true ↔ listed[i]? = some true := by
  unfold done
  rw [Array.getD_eq_getD_getElem?]
  cases listed[i]? <;> simp

theorem anc_done {ops : Array Oper} {an : List (List Nat)} {p : Nat} (O : Orderly ops an p) {listed : Array Bool} (hcl : ∀ i (_ : i < ops.size), listed[i]? = some true → ∀ j ∈ an.getD i [], listed[j]? = some true)
    {i : Nat} (hi : i < ops.size) (hr : ∀ e ∈ (ops[i]).after.toList, Region.binds .any e = true → listed[e.on]? = some true) : ∀ j ∈ an.getD i [], listed[j]? = some true := by
  intro j hj
  obtain ⟨e, he, hb, hj'⟩ := O.anc i hi j hj
  rcases hj' with rfl | ⟨hlt, hj'⟩
  · exact hr e he hb
  · exact hcl e.on (by omega) (hr e he hb) j hj'

theorem set_get {listed : Array Bool} {i j : Nat} (hi : i < listed.size) : (listed.setIfInBounds i true)[j]? = if j = i then some true else listed[j]? := by
  rw [Array.getElem?_setIfInBounds]
  by_cases h : i = j
  · subst h; simp [hi]
  · rw [if_neg h, if_neg (fun e => h e.symm)]

theorem ev_congr {st1 st2 : St} {q : Operand} (h : ∀ t, q = .tmp t → st1.get t = st2.get t) : st1.ev q = st2.ev q := by
  cases q with
  | tmp t => exact h t rfl
  | _ => rfl

/-- the walk in any order: quiet operations still to come, or all of them done -/
theorem any_sound (E : Env P gl S X w0) {ops : Array Oper} {an : List (List Nat)} {p : Nat} (O : Orderly ops an p) {items : List (Option Tmp × FV)} (hq : Quiet P gl ops.toList (ops.toList.take p) st items)
    {K : St → Prop} {Q : Exit → Act → World → Prop} (hK : ∀ st a w m, Sim S X w0 m0 st a w m → K st → Q .normal a w) :
    ∀ (fuel : Nat) (listed : Array Bool) (a : Act) (w : World) (m : Nat → Option Value), listed.size = ops.size → (List.range ops.size).countP (fun i => done listed i) + fuel = ops.size →
      (∀ i (_ : i < ops.size), listed[i]? = some true → ∀ j ∈ an.getD i [], listed[j]? = some true) →
      ((∀ i, listed[i]? = some true → i < p) ∧ Sim S X w0 m0 (stE (done listed) 0 items st) a w m ∧ seqVC P gl ops.toList (ops.toList.drop p) (stE (fun _ => true) 0 items st) K
        ∨ ∃ k st', p ≤ k ∧ k ≤ ops.size ∧ (∀ i, i < ops.size → (listed[i]? = some true ↔ i < k)) ∧ Sim S X w0 m0 st' a w m ∧ seqVC P gl ops.toList (ops.toList.drop k) st' K) →
      wpAny P .any ops Q fuel listed a w := by
  obtain ⟨hlen, hat⟩ := hq.at
  have hlen' : items.length = p := by rw [hlen]; simp; have := O.le; omega
  have hsm : ∀ (listed : Array Bool), listed.size = ops.size → ∀ i, i < ops.size → listed[i]? = some true ∨ listed[i]? = some false := by
    intro listed hsz i hi
    rw [Array.getElem?_eq_getElem (by omega)]
    cases listed[i]'(by omega) <;> simp
  have hitem : ∀ i (hi : i < p), ((items[i]'(by omega)).1 = dstOf ops.toList i) := by
    intro i hi
    have := (hat i (by simp; have := O.le; omega) (by omega)).1
    rw [this]
    have := O.le
    simp [dstOf, show i < ops.size by omega]
  -- the states of the two walks agree on what an operation reads
  have hagree : ∀ (listed : Array Bool) i (hi : i < ops.size), i < p → (∀ j ∈ an.getD i [], listed[j]? = some true) → ∀ t ∈ readsT ops.toList ops[i], (stE (done listed) 0 items st).get t = (stE (fun k => decide (k < i)) 0 items st).get t := by
    intro listed i hi hip hanc t ht
    by_cases hex : ∃ k, ∃ hk : k < items.length, (items[k]).1 = some t
    · obtain ⟨k, hk, hkt⟩ := hex
      have hkp : k < p := by omega
      have hd : dstOf ops.toList k = some t := by rw [← hitem k hkp]; exact hkt
      obtain ⟨ha, hlt⟩ := O.reads i k hi hip hkp t ht hd
      have hu : ∀ q (hq : q < items.length), q ≠ k → (items[q]).1 ≠ some t := by
        intro q hq hne
        rw [hitem q (by omega)]
        exact O.apart k q hkp (by omega) (fun e => hne e.symm) t hd
      by_cases hnt : t < st.nt
      · rw [stE_some k hk (by rw [Nat.zero_add]; exact done_iff.2 (hanc k ha)) hkt hnt hu, stE_some k hk (by simpa using hlt) hkt hnt hu]
      · have key : ∀ (E : Nat → Bool) (l : List (Option Tmp × FV)) (i : Nat) (st : St), ¬ t < st.nt → (stE E i l st).get t = st.get t := by
          intro E l
          induction l with
          | nil => intro i st _; rfl
          | cons d l ih =>
            intro i st hnt
            simp only [stE]
            have hnt' : ¬ t < (if E i then st.put d.1 d.2 else st).nt := by
              split
              · rw [(put_own st d.1 d.2).2.1]; exact hnt
              · exact hnt
            rw [ih _ _ hnt']
            split
            · rw [put_get, if_neg (fun h => hnt h.2)]
            · rfl
        rw [key _ _ _ _ hnt, key _ _ _ _ hnt]
    · have hno : ∀ k (hk : k < items.length), (items[k]).1 ≠ some t := fun k hk e => hex ⟨k, hk, e⟩
      rw [stE_none (fun k hk _ => hno k hk), stE_none (fun k hk _ => hno k hk)]
  intro fuel
  induction fuel with
  | zero =>
    intro listed a w m hsz hcnt hcl hinv
    have hall : ∀ i, i < ops.size → listed[i]? = some true := by
      intro i hi
      have h1 : (List.range ops.size).countP (fun i => done listed i) = (List.range ops.size).length := by simp at hcnt ⊢; omega
      have := List.countP_eq_length.1 h1 i (by simpa using hi)
      exact done_iff.1 this
    have hready : Region.ready .any ops listed = [] := by
      apply List.eq_nil_iff_forall_not_mem.2
      intro i hi
      obtain ⟨hi', h1, _⟩ := ready_spec hsz hi
      rw [hall i hi'] at h1
      cases h1
    refine ⟨hready, ?_⟩
    rcases hinv with ⟨h1, hs, hv⟩ | ⟨k, st', hpk, hk, hiff, hs, hv⟩
    · have hp : p = ops.size := by
        have := O.le
        by_cases hz : ops.size = 0
        · omega
        · have := h1 (ops.size - 1) (hall _ (by omega)); omega
      have hdrop : ops.toList.drop p = [] := List.drop_eq_nil_of_le (by simp; omega)
      rw [hdrop] at hv
      refine hK _ a w m (hs.congr ?_ ?_ ?_ (fun t => ?_)) hv
      · rw [(stE_own _ items 0 st).1, (stE_own _ items 0 st).1]
      · rw [(stE_own _ items 0 st).2.1, (stE_own _ items 0 st).2.1]
      · rw [(stE_own _ items 0 st).2.2, (stE_own _ items 0 st).2.2]
      · have key : ∀ (l : List (Option Tmp × FV)) (i : Nat) (st : St), i + l.length ≤ ops.size → stE (done listed) i l st = stE (fun _ => true) i l st := by
          intro l
          induction l with
          | nil => intro i st _; rfl
          | cons d l ih =>
            intro i st hle
            simp only [List.length_cons] at hle
            have e := done_iff.2 (hall i (by omega))
            simp only [stE, e, if_true]
            exact ih _ _ (by omega)
        rw [key items 0 st (by have := O.le; omega)]
    · have hkk : k = ops.size := by
        by_cases hz : ops.size = 0
        · omega
        · have := (hiff (ops.size - 1) (by omega)).1 (hall _ (by omega)); omega
      rw [List.drop_eq_nil_of_le (by simp; omega)] at hv
      exact hK _ a w m hs hv
  | succ fuel ih =>
    intro listed a w m hsz hcnt hcl hinv
    -- somebody is ready
    have hsome : Region.ready .any ops listed ≠ [] := by
      intro hnil
      have hall : ∀ i, i < ops.size → listed[i]? = some true := by
        intro i
        induction i using Nat.strongRecOn with
        | _ i ihs =>
          intro hi
          rcases hsm listed hsz i hi with h | h
          · exact h
          · exfalso
            have : i ∈ Region.ready .any ops listed := ready_mem hi h (fun e he hb => by
              have hlt := O.back i hi e he hb
              exact ihs e.on hlt (by omega))
            rw [hnil] at this
            cases this
      have : (List.range ops.size).countP (fun i => done listed i) = (List.range ops.size).length := List.countP_eq_length.2 (fun i hi => done_iff.2 (hall i (by simpa using hi)))
      simp at this
      omega
    refine ⟨fun h => absurd h hsome, fun i hi => ?_⟩
    obtain ⟨hi', hfal, hrd⟩ := ready_spec hsz hi
    have hanc := anc_done O hcl hi' hrd
    have hcl' : ∀ i' (_ : i' < ops.size), (listed.setIfInBounds i true)[i']? = some true → ∀ j ∈ an.getD i' [], (listed.setIfInBounds i true)[j]? = some true := by
      intro i' hi'' hl j hj
      rw [set_get (by omega)] at hl ⊢
      split
      · rfl
      · by_cases he : i' = i
        · subst he; exact hanc j hj
        · rw [if_neg he] at hl; exact hcl i' hi'' hl j hj
    have hcnt' : (List.range ops.size).countP (fun q => done (listed.setIfInBounds i true) q) + fuel = ops.size := by
      have key : ∀ (n : Nat), (List.range n).countP (fun q => done (listed.setIfInBounds i true) q) = (List.range n).countP (fun q => done listed q) + if i < n then 1 else 0 := by
        intro n
        induction n with
        | zero => simp
        | succ n ihn =>
          rw [List.range_succ, List.countP_append, List.countP_append, ihn]
          have hdn : done (listed.setIfInBounds i true) n = if n = i then true else done listed n := by
            unfold done
            rw [Array.getD_eq_getD_getElem?, set_get (by omega), Array.getD_eq_getD_getElem?]
            split <;> rfl
          simp only [List.countP_cons, List.countP_nil, hdn, Nat.zero_add]
          by_cases he : n = i
          · subst he
            have hdf : done listed n = false := by
              unfold done; rw [Array.getD_eq_getD_getElem?, hfal]; rfl
            simp [hdf]
          · rw [if_neg he]
            by_cases hlt : i < n
            · rw [if_pos hlt, if_pos (show i < n + 1 by omega)]; omega
            · rw [if_neg hlt, if_neg (show ¬ i < n + 1 by omega)]; omega
      rw [key ops.size, if_pos hi']
      omega
    have hgo : ops[i]? = some ops[i] := Array.getElem?_eq_getElem hi'
    unfold wpOp
    rw [hgo]
    simp only
    -- the two phases
    have phase2 : ∀ st' , (∀ q, q < ops.size → (listed[q]? = some true ↔ q < i)) → p ≤ i → Sim S X w0 m0 st' a w m → seqVC P gl ops.toList (ops.toList.drop i) st' K →
        if Region.wanted ops[i] (yielded ops a.tmps) = true then (ops[i]).wp P a w (wpAny P .any ops Q fuel (listed.setIfInBounds i true)) Q ∨ (ops[i]).asks P a w ∧ LetsOut Q
        else wpAny P .any ops Q fuel (listed.setIfInBounds i true) (a.put (ops[i]).dst undef) w := by
      intro st' hiff hpi hs hv
      have hdrop : ops.toList.drop i = ops[i] :: ops.toList.drop (i + 1) := by
        rw [List.drop_eq_getElem_cons (by simpa using hi')]
        simp
      rw [hdrop] at hv
      exact step_sound E hs (Q := Q) hv (fun st2 a2 w2 m2 hs2 hk2 => ih _ a2 w2 m2 (by simpa using hsz) hcnt' hcl' (.inr ⟨i + 1, st2, by omega, by omega, fun q hq => by
        rw [set_get (by omega)]
        by_cases he : q = i
        · subst he; simp
        · rw [if_neg he, hiff q hq]; omega, hs2, hk2⟩))
    rcases hinv with ⟨h1, hs, hv⟩ | ⟨k, st', hpk, hk, hiff, hs, hv⟩
    · by_cases hip : i < p
      · -- a quiet one
        have hag := hagree listed i hi' hip hanc
        obtain ⟨hdst, hcase⟩ := hat i (by simp; omega) (by omega)
        have hops : (ops.toList.take p)[i]'(by simp; omega) = ops[i] := by simp
        rw [hops] at hdst hcase
        have hown := (stE_own (done listed) items 0 st).1
        have hevs : ∀ q ∈ (ops[i]).op.operands.toList, RepF w (Nset S X w0.heap.size w m (stE (done listed) 0 items st).own) m (a.eval q) ((stE (fun k => decide (k < i)) 0 items st).ev q) := by
          intro q hq
          rw [← ev_congr (st1 := stE (done listed) 0 items st) (fun t ht => hag t ?_)]
          · exact hs.evs q
          · subst ht
            unfold readsT
            refine List.mem_append_left _ (List.mem_filterMap.2 ⟨_, hq, rfl⟩)
        have hput : ∀ v w' (hs' : Sim S X w0 m0 (stE (done listed) 0 items st) a w' m), RepF w' (Nset S X w0.heap.size w' m (stE (done listed) 0 items st).own) m v (items[i]'(by omega)).2 →
            wpAny P .any ops Q fuel (listed.setIfInBounds i true) (a.put (ops[i]).dst v) w' := by
          intro v w' hs' hr
          refine ih _ _ w' m (by simpa using hsz) hcnt' hcl' (.inl ⟨fun q hq => ?_, ?_, hv⟩)
          · rw [set_get (by omega)] at hq
            split at hq
            · rename_i he; subst he; exact hip
            · exact h1 q hq
          · have hp := hs'.put (dst := (ops[i]).dst) hr
            refine hp.congr ?_ ?_ ?_ (fun t => ?_)
            · rw [(stE_own _ items 0 st).1, (put_own _ _ _).1, (stE_own _ items 0 st).1]
            · rw [(stE_own _ items 0 st).2.1, (put_own _ _ _).2.1, (stE_own _ items 0 st).2.1]
            · rw [(stE_own _ items 0 st).2.2, (put_own _ _ _).2.2, (stE_own _ items 0 st).2.2]
            · rw [put_get, (stE_own _ items 0 st).2.1]
              by_cases hc : (ops[i]).dst = some t ∧ t < st.nt
              · rw [if_pos hc]
                refine stE_some i (by omega) (by rw [Nat.zero_add]; exact done_iff.2 (by rw [set_get (by omega), if_pos rfl])) (by rw [hdst]; exact hc.1) hc.2 (fun q hq hne => ?_)
                rw [hitem q (by omega)]
                exact O.apart i q hip (by omega) (fun e => hne e.symm) t (by rw [← hitem i hip, hdst]; exact hc.1)
              · rw [if_neg hc]
                by_cases hnt : t < st.nt
                · have hne : (ops[i]).dst ≠ some t := fun e => hc ⟨e, hnt⟩
                  by_cases hex : ∃ k, ∃ hk : k < items.length, done listed k = true ∧ (items[k]).1 = some t
                  · obtain ⟨k, hk, hdk, hkt⟩ := hex
                    have hu : ∀ q (hq : q < items.length), q ≠ k → (items[q]).1 ≠ some t := by
                      intro q hq hne'
                      rw [hitem q (by omega)]
                      exact O.apart k q (by omega) (by omega) (fun e => hne' e.symm) t (by rw [← hitem k (by omega)]; exact hkt)
                    have e1 : (stE (done listed) 0 items st).get t = (items[k]).2 := stE_some k hk (by rw [Nat.zero_add]; exact hdk) hkt hnt hu
                    have e2 : (stE (done (listed.setIfInBounds i true)) 0 items st).get t = (items[k]).2 := by
                      refine stE_some k hk ?_ hkt hnt hu
                      rw [Nat.zero_add]
                      refine done_iff.2 ?_
                      rw [set_get (by omega)]
                      split
                      · rfl
                      · exact done_iff.1 hdk
                    rw [e1, e2]
                  · rw [stE_none (E := done listed) (fun k hk hdk hkt => hex ⟨k, hk, by rw [Nat.zero_add] at hdk; exact hdk, hkt⟩)]
                    refine stE_none (fun k hk hdk hkt => ?_)
                    rw [Nat.zero_add] at hdk
                    have := done_iff.1 hdk
                    rw [set_get (by omega)] at this
                    split at this
                    · rename_i he
                      subst he
                      rw [hdst] at hkt
                      exact hne hkt
                    · exact hex ⟨k, hk, done_iff.2 this, hkt⟩
                · have key : ∀ (E : Nat → Bool) (l : List (Option Tmp × FV)) (i : Nat) (st : St), ¬ t < st.nt → (stE E i l st).get t = st.get t := by
                    intro E l
                    induction l with
                    | nil => intro i st _; rfl
                    | cons d l ih =>
                      intro i st hnt
                      simp only [stE]
                      have hnt' : ¬ t < (if E i then st.put d.1 d.2 else st).nt := by
                        split
                        · rw [(put_own st d.1 d.2).2.1]; exact hnt
                        · exact hnt
                      rw [ih _ _ hnt']
                      split
                      · rw [put_get, if_neg (fun h => hnt h.2)]
                      · rfl
                  rw [key _ _ _ _ hnt, key _ _ _ _ hnt]
        rcases hcase with ⟨hgd, hok⟩ | ⟨j, want, g, x, hgd, hgc, hx, hok⟩
        · rw [if_pos (wanted_none hgd _)]
          refine .inl (quiet_step E hs (x := (items[i]'(by omega)).2) (fun w S m a next Q b1 b2 b3 b4 b5 b6 => hok w S m a next Q b1 b2 (by rw [hown] at b3; exact b3) b4 ?_ b6) (fun q _ => hs.evs q) hput)
          intro q hq
          rw [← ev_congr (st1 := stE (done listed) 0 items st) (fun t ht => hag t (by subst ht; unfold readsT; exact List.mem_append_left _ (List.mem_filterMap.2 ⟨_, hq, rfl⟩)))]
          exact b5 q hq
        · have hgc' : gcond ops.toList (stE (done listed) 0 items st) j want = some g := by
            rw [← hgc]
            unfold gcond
            cases hdj : (ops.toList[j]?).bind (·.dst) with
            | none => rfl
            | some t =>
              simp only
              rw [hag t (by unfold readsT; refine List.mem_append_right _ ?_; rw [hgd]; simp only; rw [hdj]; simp)]
          rw [gcond_spec hs hgd hgc']
          cases g with
          | true =>
            rw [if_pos rfl]
            refine .inl (quiet_step E hs (x := x) (fun w S m a next Q b1 b2 b3 b4 b5 b6 => hok rfl w S m a next Q b1 b2 (by rw [hown] at b3; exact b3) b4 ?_ b6) (fun q _ => hs.evs q) (fun v w' hs' hr => hput v w' hs' (by rw [hx]; exact .iff _ _ _ (fun _ => hr) (fun e => by cases e))))
            intro q hq
            rw [← ev_congr (st1 := stE (done listed) 0 items st) (fun t ht => hag t (by subst ht; unfold readsT; exact List.mem_append_left _ (List.mem_filterMap.2 ⟨_, hq, rfl⟩)))]
            exact b5 q hq
          | false =>
            rw [if_neg (by simp)]
            exact hput undef w hs (by rw [hx]; exact .iff _ _ _ (fun e => by cases e) (fun _ => rfl))
      · -- the first of the others
        have hfull := O.full i (by omega) hi'
        have hip' : i = p := by
          by_cases he : i = p
          · exact he
          · exfalso
            have := hanc p (hfull p (by omega))
            have := h1 p this
            omega
        have hiff : ∀ q, q < ops.size → (listed[q]? = some true ↔ q < i) := by
          intro q hq
          constructor
          · intro hl; have := h1 q hl; omega
          · intro hlt; exact hanc q (hfull q hlt)
        refine phase2 (stE (fun _ => true) 0 items st) hiff (by omega) (hs.congr ?_ ?_ ?_ (fun t => ?_)) (by rw [hip']; exact hv)
        · rw [(stE_own _ items 0 st).1, (stE_own _ items 0 st).1]
        · rw [(stE_own _ items 0 st).2.1, (stE_own _ items 0 st).2.1]
        · rw [(stE_own _ items 0 st).2.2, (stE_own _ items 0 st).2.2]
        · have key : ∀ (l : List (Option Tmp × FV)) (q : Nat) (st : St), q + l.length ≤ p → stE (done listed) q l st = stE (fun _ => true) q l st := by
            intro l
            induction l with
            | nil => intro q st _; rfl
            | cons d l ih =>
              intro q st hle
              simp only [List.length_cons] at hle
              have e := done_iff.2 ((hiff q (by omega)).2 (by omega))
              simp only [stE, e, if_true]
              exact ih _ _ (by omega)
          rw [key items 0 st (by omega)]
    · -- among the others
      have hik : i = k := by
        by_cases hlt : i < k
        · exfalso
          rw [(hiff i hi').2 hlt] at hfal
          cases hfal
        · by_cases he : i = k
          · exact he
          · exfalso
            have := hanc k (O.full i (by omega) hi' k (by omega))
            have := (hiff k (by omega)).1 this
            omega
      subst hik
      exact phase2 st' hiff hpk hs hv

theorem region_sound (E : Env P gl S X w0) {id : Nat} {ops : Array Oper} {draw : Bool} {K : St → Prop} {Q : Exit → Act → World → Prop} (hK : ∀ st a w m, Sim S X w0 m0 st a w m → K st → Q .normal a w)
    (h : Sim S X w0 m0 st a w m) (hv : regionVC P gl ops.toList draw st K) : (Code.region id ops draw).wp P Q a w := by
  unfold regionVC at hv
  cases draw with
  | false =>
    simp only [Bool.false_eq_true, if_false] at hv
    exact wp_region_list (seq_sound E hK ops.toList st a w m h hv)
  | true =>
    simp only [if_true] at hv
    split at hv
    · rename_i hok
      have O := orderly_of hok
      obtain ⟨items, hq, hv⟩ := quiet_spec hv
      refine wp_region_any E.mix (any_sound E O hq hK ops.size _ a _ m (by simp) ?_ (fun i hi hl => ?_) (.inl ⟨fun i hl => ?_, ?_, hv⟩))
      · have : (List.range ops.size).countP (fun i => done (Array.replicate ops.size false) i) = 0 := by
          rw [List.countP_eq_zero]
          intro i hi
          unfold done
          simp [Array.getD_eq_getD_getElem?, Array.getElem?_replicate]
          split <;> simp
        omega
      · simp [Array.getElem?_replicate, hi] at hl
      · rw [Array.getElem?_replicate] at hl
        split at hl <;> simp at hl
      · have h' : Sim S X w0 m0 st a { w with drawn := w.drawn + 1 } m := h.below E ⟨rfl, rfl, rfl, Nat.le_refl _, fun _ _ => rfl⟩
        refine h'.congr ?_ ?_ ?_ (fun t => ?_)
        · rw [(stE_own _ items 0 st).1]
        · rw [(stE_own _ items 0 st).2.1]
        · rw [(stE_own _ items 0 st).2.2]
        · exact stE_none (fun k hk hd => by
            have := done_iff.1 hd
            rw [Array.getElem?_replicate] at this
            split at this <;> simp at this)
    · exact hv.elim

end
end Go.Pe

/- Bodies: the conditions of a body are a contract. -/
namespace Go.Pe
open Go Go.RowKit

section
variable {P : Program} {gl : List (Nat × Obj)} {S X : Nat → Prop} {w0 w w' : World} {m0 m : Nat → Option Value} {st : St} {a : Act}

theorem isNil_spec {x : FV} (h : isNil x = true) : x = .pv (.val (.slice none 0 0)) := by
  unfold isNil at h
  split at h
  · rfl
  · cases h

theorem nilRow_ok {N : Nat → Prop} {e : TypeId} {s : Nat} (hs : 0 < s) : OwnOk w N m (.slice none 0 0) (.row e s []) :=
  ⟨[], fun _ _ => .bool false, World.ownsRow_nil w 0 e s, hs, fun k j hk => by simp at hk, fun k hk => by simp at hk, fun _ _ => rfl, fun k hk => by simp at hk⟩

theorem Sim.lift (E : Env P gl S X w0) (h : Sim S X w0 m0 st a w m) (l : Lift) : ∃ m', Sim S X w0 m0 (st.lift l) a w m' := by
  cases l with
  | slot t e s =>
    unfold St.lift
    simp only
    split
    · rename_i hc
      obtain ⟨m', hs, hm, _, _⟩ := h.addOwn E (w' := w) (v := .slice none 0 0) (bl := .row e s []) (Below.refl _ _) rfl rfl (fun b hb => by simp [blk] at hb) (fun N' m' _ _ => nilRow_ok hc.2)
      have hx := h.slots t
      rw [isNil_spec hc.1] at hx
      have hv := hx.valInv
      refine ⟨m', ⟨hs.bel, hs.ows, hs.bnd, hs.fix, hs.k0, hs.nt, hs.df, fun q => ?_⟩⟩
      simp only [St.get, look_put]
      split
      · rename_i he
        subst he
        rw [hv]
        exact .own _ _ hm
      · exact hs.slots q
    · exact ⟨m, h⟩
  | cell i j e s =>
    unfold St.lift
    simp only
    split
    · rename_i cs hi
      split
      · rename_i hc
        obtain ⟨m', hs, hm, hmm, hN⟩ := h.addOwn E (w' := w) (v := .slice none 0 0) (bl := .row e s []) (Below.refl _ _) rfl rfl (fun b hb => by simp [blk] at hb) (fun N' m' _ _ => nilRow_ok hc.2)
        have hlt : i < st.own.length := (List.getElem?_eq_some_iff.1 hi).1
        obtain ⟨v, hv, hok⟩ := h.ows.ok i _ hi rfl
        obtain ⟨b, T, f, rfl, hh, h1, hr⟩ := hok
        have hi' : (st.addOwn (.row e s [])).own[i]? = some (.box cs) := by simp only [St.addOwn]; rw [List.getElem?_append_left hlt]; exact hi
        have := hs.setOwn (w' := w) (bl' := .box (cs.set j (.own st.own.length))) hi' rfl rfl (hmm i _ hv) rfl rfl rfl rfl rfl (fun _ _ => rfl) (fun N hN' => ⟨b, T, f, rfl, by simpa using hh, h1, fun q hq => by
          simp only [List.length_set] at hq
          by_cases he : j = q
          · subst he
            rw [List.getElem_set_self]
            have hx := hr j hq
            have hnil := isNil_spec hc.1
            have e0 : cs.getD j .junk = cs[j] := by simp [List.getD, List.getElem?_eq_getElem hq]
            rw [e0] at hnil
            rw [hnil] at hx
            rw [hx.valInv]
            exact .own _ _ hm
          · rw [List.getElem_set_ne he]
            exact (hr q hq).mono (fun _ _ => rfl) (fun b hb => hN' b (hN b hb)) hmm⟩)
        refine ⟨m', ?_⟩
        have e1 : (st.setOwn i (.box (cs.set j (.own st.own.length)))).addOwn (.row e s []) = (st.addOwn (.row e s [])).setOwn i (.box (cs.set j (.own st.own.length))) := by
          simp only [St.setOwn, St.addOwn]
          congr 1
          rw [List.set_append_left _ _ hlt]
        rw [e1]
        exact this
      · exact ⟨m, h⟩
    · exact ⟨m, h⟩

theorem Sim.lifts (E : Env P gl S X w0) : ∀ (ls : List Lift) {st : St} {m : Nat → Option Value}, Sim S X w0 m0 st a w m → ∃ m', Sim S X w0 m0 (st.lifts ls) a w m'
  | [], st, m, h => ⟨m, h⟩
  | l :: r, st, m, h => by
    obtain ⟨m', h'⟩ := h.lift E l
    exact Sim.lifts E r h'

theorem below_spec {k n i : Nat} {x : FV} (h : belowK k n x = true) (hi : i < n) (hu : x.uses i = true) : i < k := by
  unfold belowK at h
  simp only [List.all_eq_true, List.mem_range, Bool.or_eq_true, decide_eq_true_eq, Bool.not_eq_true'] at h
  rcases h i hi with h | h
  · exact h
  · rw [hu] at h; cases h

/-- only the first k own places are kept -/
theorem Sim.cut (h : Sim S X w0 m0 st a w m) {k : Nat} (hk0 : st.k0 ≤ k) (hbox : ∀ (i : Nat) (cs : List FV), i < k → st.own[i]? = some (.box cs) → ∀ x ∈ cs, belowK k st.own.length x = true) {slots' : List (Nat × FV)}
    (hs : ∀ t, look slots' t = .junk ∨ (look slots' t = st.get t ∧ belowK k st.own.length (st.get t) = true)) :
    Sim S X w0 m0 { st with slots := slots', own := st.own.take k } a w (fun i => if i < k then m i else none) ∧
      ∀ v x, belowK k st.own.length x = true → RepF w (Nset S X w0.heap.size w m st.own) m v x → RepF w (Nset S X w0.heap.size w (fun i => if i < k then m i else none) (st.own.take k)) (fun i => if i < k then m i else none) v x := by
  let m' : Nat → Option Value := fun i => if i < k then m i else none
  have hget : ∀ (i : Nat) (b : Blk), (st.own.take k)[i]? = some b → i < k ∧ st.own[i]? = some b := by
    intro i b hb
    rw [List.getElem?_take] at hb
    split at hb
    · exact ⟨by assumption, hb⟩
    · cases hb
  have hlv : ∀ i, lives (st.own.take k) i → i < k ∧ lives st.own i := by
    rintro i ⟨b, hb, hl⟩
    obtain ⟨h1, h2⟩ := hget i b hb
    exact ⟨h1, b, h2, hl⟩
  have hm : ∀ i, i < k → m' i = m i := fun i hi => by simp only [m']; rw [if_pos hi]
  have hmb : ∀ i b, mblk m' i = some b → mblk m i = some b := by
    intro i b hb
    unfold mblk at *
    simp only [m'] at hb
    split at hb
    · exact hb
    · cases hb
  have hN : ∀ q, Nset S X w0.heap.size w m st.own q → Nset S X w0.heap.size w m' (st.own.take k) q := by
    rintro q (hq | ⟨h1, h2, h3⟩)
    · exact .inl hq
    · exact .inr ⟨h1, h2, fun i hi hmi => h3 i (hlv i hi).2 (hmb i q hmi)⟩
  have hrep : ∀ v x, belowK k st.own.length x = true → RepF w (Nset S X w0.heap.size w m st.own) m v x → RepF w (Nset S X w0.heap.size w m' (st.own.take k)) m' v x := by
    intro v x hb hr
    refine (hr.mono (m' := m) (fun _ _ => rfl) hN (fun _ _ => id)).remap fun i hu => ?_
    by_cases hi : i < st.own.length
    · exact hm i (below_spec hb hi hu)
    · have : m i = none := by
        cases hq : m i with
        | none => rfl
        | some u => exact absurd (h.ows.len i u hq).1 hi
      simp only [m']
      split
      · rfl
      · exact this.symm
  refine ⟨⟨h.bel, ⟨fun i v hv => ?_, fun i b hb hl => ?_, fun i j b hne hi hj hbi hbj => h.ows.sep i j b hne (hlv i hi).2 (hlv j hj).2 (hmb i b hbi) (hmb j b hbj), fun i b hi hb => h.ows.lt i b (hlv i hi).2 (hmb i b hb), fun i b hi hb hq => ?_⟩, fun i b hi hb => h.bnd i b (hlv i hi).2 (hmb i b hb), fun i hi => ?_, ?_, h.nt, h.df, fun t => ?_⟩, hrep⟩
  · change (if i < k then m i else none) = some v at hv
    split at hv
    · rename_i hi
      have := h.ows.len i v hv
      exact ⟨by simp; omega, this.2⟩
    · cases hv
  · obtain ⟨h1, h2⟩ := hget i b hb
    obtain ⟨v, hv, hok⟩ := h.ows.ok i b h2 hl
    refine ⟨v, (hm i h1).trans hv, ?_⟩
    cases b with
    | gone => trivial
    | row e s els => exact OwnOk.monoRow hok (fun _ _ => rfl) hN (fun _ _ => rfl)
    | box cs =>
      obtain ⟨b, T, f, rfl, hh, f1, hr⟩ := hok
      exact ⟨b, T, f, rfl, hh, f1, fun j hj => hrep _ _ (hbox i cs h1 h2 _ (List.getElem_mem hj)) (hr j hj)⟩
  · rcases hq with hq | ⟨_, _, h3⟩
    · exact h.ows.out i b (hlv i hi).2 (hmb i b hb) (.inl hq)
    · exact h3 i hi hb
  · have : i < st.k0 := hi
    change (if i < k then m i else none) = m0 i
    rw [if_pos (by omega)]
    exact h.fix i hi
  · have := h.k0
    simp; omega
  · show RepF _ _ _ _ (look slots' t)
    rcases hs t with he | ⟨he, hb⟩
    · rw [he]; exact .junk _
    · rw [he]; exact hrep _ _ hb (h.slots t)

theorem look_keep (st : St) : ∀ (keep : List Nat) (t : Nat), look (keep.map fun t => (t, st.get t)) t = .junk ∨ (t ∈ keep ∧ look (keep.map fun t => (t, st.get t)) t = st.get t)
  | [], t => .inl rfl
  | k :: r, t => by
    simp only [List.map_cons, look]
    split
    · rename_i he; subst he; exact .inr ⟨by simp, rfl⟩
    · rcases look_keep st r t with h | ⟨h1, h2⟩
      · exact .inl h
      · exact .inr ⟨by simp [h1], h2⟩

theorem Sim.norm (h : Sim S X w0 m0 st a w m) {keep : List Nat} {k : Nat} {st' : St} (hn : st.norm keep k = some st') : ∃ m', Sim S X w0 m0 st' a w m' := by
  unfold St.norm at hn
  split at hn
  · rename_i hc
    simp only [Bool.and_eq_true, decide_eq_true_eq] at hc
    simp only [Option.some.injEq] at hn
    subst hn
    refine ⟨_, (h.cut hc.1.1 (fun i cs hi hb x hx => ?_) (fun t => ?_)).1⟩
    · have := List.all_eq_true.1 hc.2 (.box cs) (by
        refine List.mem_of_getElem? (i := i) ?_
        rw [List.getElem?_take, if_pos hi]
        exact hb)
      exact List.all_eq_true.1 this x hx
    · rcases look_keep st keep t with h1 | ⟨h1, h2⟩
      · exact .inl h1
      · exact .inr ⟨h2, List.all_eq_true.1 hc.1.2 t h1⟩
  · cases hn

def Ex.of : Ex → Exit
  | .normal => .normal
  | .exit id => .exit id
  | .ret => .ret

theorem code_sound (E : Env P gl S X w0) : ∀ (c : Code) (Q : Ex → St → Prop) (Q' : Exit → Act → World → Prop), (∀ e st a w m, Sim S X w0 m0 st a w m → Q e st → Q' e.of a w) →
    ∀ (st : St) (a : Act) (w : World) (m : Nat → Option Value), Sim S X w0 m0 st a w m → codeVC P gl c Q st → c.wp P Q' a w
  | .skip, Q, Q', hQ, st, a, w, m, h, hv => Go.wp_skip (hQ .normal st a w m h hv)
  | .region id ops draw, Q, Q', hQ, st, a, w, m, h, hv => region_sound E (K := Q .normal) (fun st a w m hs hk => hQ .normal st a w m hs hk) h hv
  | .seq x y, Q, Q', hQ, st, a, w, m, h, hv => by
    refine wp_seq (code_sound E x _ _ ?_ st a w m h hv)
    intro e st a w m hs hq
    cases e with
    | normal => exact code_sound E y Q Q' hQ st a w m hs hq
    | exit id => exact hQ (.exit id) st a w m hs hq
    | ret => exact hQ .ret st a w m hs hq
  | .cond c x y, Q, Q', hQ, st, a, w, m, h, hv => by
    simp only [codeVC] at hv
    split at hv
    · rename_i t hc
      have hb := (hc ▸ h.evs c).valInv
      exact wp_cond_split hb (fun ht => code_sound E x Q Q' hQ st a w m h (hv.1 ht)) (fun ht => code_sound E y Q Q' hQ st a w m h (hv.2 ht))
    · exact hv.elim
  | .block id c, Q, Q', hQ, st, a, w, m, h, hv => by
    refine wp_block (code_sound E c _ _ ?_ st a w m h hv)
    intro e st a w m hs hq
    cases e with
    | normal => exact hQ .normal st a w m hs hq
    | exit i =>
      simp only at hq
      show Exit.inBlock id Q' (.exit i) a w
      simp only [Exit.inBlock]
      split
      · rename_i he; rw [if_pos he] at hq; exact hQ .normal st a w m hs hq
      · rename_i he; rw [if_neg he] at hq; exact hQ (.exit i) st a w m hs hq
    | ret => exact hQ .ret st a w m hs hq
  | .loop c, Q, Q', hQ, st, a, w, m, h, hv => by
    obtain ⟨ls, keep, k, ι, f, μ, i0, h0, hv⟩ := hv
    obtain ⟨m1, h1⟩ := Sim.lifts E ls h
    obtain ⟨m2, h2⟩ := h1.norm h0
    refine wp_loop_ghost (fun n a w => ∃ i m, μ i = n ∧ Sim S X w0 m0 (f i) a w m) (μ i0) ⟨i0, m2, rfl, h2⟩ ?_
    rintro n a w ⟨i, m, rfl, hs⟩
    refine code_sound E c _ _ ?_ (f i) a w m hs (hv i)
    intro e st a w m hs hq
    cases e with
    | normal =>
      obtain ⟨j, hj, hlt⟩ := hq
      obtain ⟨m', hs'⟩ := hs.norm hj
      exact ⟨μ j, hlt, j, m', rfl, hs'⟩
    | exit id => exact hQ (.exit id) st a w m hs hq
    | ret => exact hQ .ret st a w m hs hq
  | .exit id, Q, Q', hQ, st, a, w, m, h, hv => wp_exit (hQ (.exit id) st a w m h hv)
  | .ret, Q, Q', hQ, st, a, w, m, h, hv => wp_ret (hQ .ret st a w m h hv)
  | .label l, Q, Q', hQ, st, a, w, m, h, hv => wp_label (hQ .normal st a w m h hv)
  | .scope c, Q, Q', hQ, st, a, w, m, h, hv => by simp [codeVC] at hv
  | .rangeFunc .., Q, Q', hQ, st, a, w, m, h, hv => by simp [codeVC] at hv
  | .goto _, Q, Q', hQ, st, a, w, m, h, hv => by simp [codeVC] at hv
  | .refuse _, Q, Q', hQ, st, a, w, m, h, hv => by simp [codeVC] at hv

end
end Go.Pe

/- Functions: the condition of a body is the function's contract. -/
namespace Go.Pe
open Go Go.RowKit

section
variable {P : Program} {gl : List (Nat × Obj)} {S X : Nat → Prop} {w0 w w' : World} {m0 m : Nat → Option Value} {st : St} {a : Act}

def resSem (tmps : Array Value) : ResultVar → Sem Value
  | .tmp t => pure (tmps.getD t undef)
  | .cell a t => do loadVar t (← asAddr (tmps.getD a undef))

theorem results_eq (fn : Func) (tmps : Array Value) : results fn tmps = (do
    let vs ← fn.results.mapM (resSem tmps)
    pure (if h : vs.size = 1 then vs[0] else .tuple vs)) := rfl

theorem retOne_ok (h : Sim S X w0 m0 st a w m) {r : ResultVar} {o : Prop} {x : FV} (hr : retOne P st r = some (o, x)) (ho : o) :
    ∃ v, (resSem a.tmps r).run P w = .ok v w ∧ RepF w (Nset S X w0.heap.size w m st.own) m v x := by
  cases r with
  | tmp t =>
    simp only [retOne, Option.some.injEq, Prod.mk.injEq] at hr
    obtain ⟨rfl, rfl⟩ := hr
    exact ⟨_, by simp [resSem], strip_rep (h.slots t) ho⟩
  | cell b t =>
    simp only [retOne] at hr
    obtain ⟨v, hv, hx⟩ := pop_load (a := a) (o := ({ dst := none, op := .load t (.tmp b), type := 0, pos := "", after := #[], guard := none } : Oper)) (ev := st.ev) rfl h.ownAt (h.slots b) hr ho
    refine ⟨v, ?_, hx⟩
    have he : a.eval (.tmp b) = a.tmps.getD b undef := rfl
    simp only [execOp, Instr.loadAt] at hv
    rw [he] at hv
    simp only [resSem]
    generalize a.tmps.getD b undef = q at hv ⊢
    cases q <;> simp [Instr.sureAddr, Sem.run_bind, Result.andThen] at hv
    rename_i q
    cases q <;> simp at hv
    rename_i q
    simp only [asAddr, Sem.run_bind, Sem.run_pure, Result.andThen_ok]
    revert hv
    cases (loadVar t q).run P w <;> simp

theorem retAll_ok (h : Sim S X w0 m0 st a w m) : ∀ (rs : List ResultVar) (o : Prop) (xs : List FV), retAll P st rs = some (o, xs) → o →
    ∃ vs : List Value, (rs.mapM (resSem a.tmps)).run P w = .ok vs w ∧ vs.length = xs.length ∧ ∀ j (hj : j < vs.length) (hj' : j < xs.length), RepF w (Nset S X w0.heap.size w m st.own) m vs[j] xs[j]
  | [], o, xs, hr, ho => by
    simp only [retAll, Option.some.injEq, Prod.mk.injEq] at hr
    obtain ⟨rfl, rfl⟩ := hr
    exact ⟨[], by simp, rfl, fun j hj => by simp at hj⟩
  | r :: rs, o, xs, hr, ho => by
    simp only [retAll] at hr
    split at hr
    · rename_i o1 x o2 xs' h1 h2
      simp only [Option.some.injEq, Prod.mk.injEq] at hr
      obtain ⟨rfl, rfl⟩ := hr
      obtain ⟨v, hv, hx⟩ := retOne_ok h h1 ho.1
      obtain ⟨vs, hvs, hl, hxs⟩ := retAll_ok h rs o2 xs' h2 ho.2
      refine ⟨v :: vs, by simp [List.mapM_cons, Sem.run_bind, hv, hvs], by simp [hl], fun j hj hj' => ?_⟩
      cases j with
      | zero => exact hx
      | succ j => exact hxs j _ _
    · cases hr

theorem results_ok (h : Sim S X w0 m0 st a w m) {fn : Func} {o : Prop} {xs : List FV} (hr : retAll P st fn.results.toList = some (o, xs)) (ho : o) :
    ∃ v, (results fn a.tmps).run P w = .ok v w ∧ RepF w (Nset S X w0.heap.size w m st.own) m v (oneOrTup xs) := by
  obtain ⟨vs, hvs, hl, hx⟩ := retAll_ok h _ _ _ hr ho
  have hm : (fn.results.mapM (resSem a.tmps)).run P w = .ok vs.toArray w := by
    rw [Array.mapM_eq_mapM_toList, Sem.run_map, hvs]
    rfl
  refine ⟨if h : vs.toArray.size = 1 then vs.toArray[0] else .tuple vs.toArray, by rw [results_eq, Sem.run_bind, hm]; simp, ?_⟩
  match vs, xs, hl, hx with
  | [v], [x], _, hx => exact hx 0 (by simp) (by simp)
  | [], [], _, hx => exact .tup (w := w) [] (fun _ => .bool false) (fun j hj => by simp at hj)
  | v :: v' :: vs, x :: x' :: xs, hl, hx =>
    have e1 : (v :: v' :: vs) = vrange (x :: x' :: xs).length (fun j => (v :: v' :: vs).getD j undef) := by
      apply List.ext_getElem?
      intro j
      rw [vrange_get, ← hl]
      split
      · rename_i hj; rw [List.getElem?_eq_getElem hj, List.getD, List.getElem?_eq_getElem hj]; rfl
      · rename_i hj; rw [List.getElem?_eq_none (by omega)]
    have : ¬ (v :: v' :: vs).toArray.size = 1 := by simp
    rw [dif_neg this]
    show RepF _ _ _ _ (.tup (x :: x' :: xs))
    have h2 : RepF w (Nset S X w0.heap.size w m st.own) m (.tuple (vrange (x :: x' :: xs).length (fun j => (v :: v' :: vs).getD j undef)).toArray) (.tup (x :: x' :: xs)) := by
      refine .tup (w := w) (x :: x' :: xs) (fun j => (v :: v' :: vs).getD j undef) (fun j hj => ?_)
      have hj1 : j < (v :: v' :: vs).length := by rw [hl]; exact hj
      have := hx j hj1 hj
      have e2 : (v :: v' :: vs).getD j undef = (v :: v' :: vs)[j] := by rw [List.getD, List.getElem?_eq_getElem hj1]; rfl
      rw [e2]; exact this
    rw [← e1] at h2
    exact h2

theorem look_start : ∀ (l : List FV) (n t : Nat), look (startSlots n l) t = if n ≤ t then l.getD (t - n) .junk else .junk
  | [], n, t => by simp [startSlots, look]
  | x :: r, n, t => by
    simp only [startSlots, look]
    split
    · rename_i he; subst he; simp
    · rename_i hne
      rw [look_start r (n + 1) t]
      by_cases h : n ≤ t
      · rw [if_pos h, if_pos (by omega)]
        have : t - n = (t - (n + 1)) + 1 := by omega
        rw [this]; simp
      · rw [if_neg h, if_neg (by omega)]

theorem start_slot {N : Nat → Prop} {args : List FV} {vs : Nat → Value} {n : Nat} (hx : ∀ j (hj : j < args.length), RepF w N m (vs j) args[j]) (t : Nat) :
    RepF w N m (((vrange args.length vs).toArray ++ Array.replicate n undef).getD t undef) (look (startSlots 0 args) t) := by
  rw [look_start, if_pos (Nat.zero_le _), Nat.sub_zero]
  by_cases ht : t < args.length
  · have e1 : args.getD t .junk = args[t] := by rw [List.getD, List.getElem?_eq_getElem ht]; rfl
    have e2 : ((vrange args.length vs).toArray ++ Array.replicate n undef).getD t undef = vs t := by
      rw [Array.getD_eq_getD_getElem?, Array.getElem?_append_left (by simpa [vrange] using ht)]
      simp [vrange, ht]
    rw [e1, e2]; exact hx t ht
  · have e1 : args.getD t .junk = .junk := by rw [List.getD, List.getElem?_eq_none (by omega)]; rfl
    rw [e1]; exact .junk _

theorem FS_of {f : FuncId} {fn : Func} {c : Code} {args : List PV} {R : PV → Prop} (mix : P.follows .mixedOrders = true)
    (hf : P.funcs[f]? = some fn) (hb : fn.body = some c) (hname : (fn.name == "runtime.NumGoroutine") = false) (hn : args.length ≤ fn.ntmps)
    (hv : codeVC P gl c (endS P fn R) ⟨startSlots 0 (args.map .pv), [], fn.ntmps, 0⟩) : FS P gl f args R := by
  refine ⟨by simp [callable, hf, hb, hname], fun w S vs hgl hS hargs => calls_of_wp hf hb ?_⟩
  have E : Env P gl S (fun _ => False) w := ⟨mix, hgl, fun _ h => h.elim, hS, fun _ _ h => h, fun _ h => h.elim, fun _ h => h⟩
  have hlen : (vrange args.length vs).toArray.size = args.length := by simp [vrange]
  have h0 : Sim S (fun _ => False) w (fun _ => none) ⟨startSlots 0 (args.map .pv), [], fn.ntmps, 0⟩ { tmps := (vrange args.length vs).toArray ++ Array.replicate (fn.ntmps - (vrange args.length vs).toArray.size) undef, defers := [] } w (fun _ => none) := by
    have hno : ∀ i, ¬ lives ([] : List Blk) i := by rintro i ⟨b, hb, _⟩; simp at hb
    refine ⟨⟨rfl, rfl, rfl, Nat.le_refl _, fun _ _ _ => rfl⟩, OwnS.mk (fun i v hv => by cases hv) (fun i b hb => by simp at hb) (fun i j b _ hi => (hno i hi).elim) (fun i b hi => (hno i hi).elim) (fun i b hi => (hno i hi).elim),
      fun i b hi => (hno i hi).elim, fun _ _ => rfl, Nat.le_refl _, by simp [vrange]; omega, rfl, fun t => ?_⟩
    have := start_slot (w := w) (m := fun _ => none) (N := Nset S (fun _ => False) w.heap.size w (fun _ => none) []) (args := args.map .pv) (vs := vs) (n := fn.ntmps - (vrange args.length vs).toArray.size)
      (fun j hj => by simp at hj; simpa using RepF.pv _ _ ((hargs j hj).mono (fun _ _ => rfl) (fun b => .inl))) t
    simpa [St.get] using this
  refine code_sound E c _ _ ?_ _ _ w _ h0 hv
  intro e st a' w' m hs hq
  have main : ∀ o xs, retAll P st fn.results.toList = some (o, xs) → (o ∧ match snapD st.own (List.range st.own.length) 8 (oneOrTup xs) with
      | some p => R p
      | none => False) → a'.defers = [] ∧ ∃ v, (results fn a'.tmps).run P w' = .ok v w' ∧ ∃ v' r, Ending.returned v = .returned v' ∧ R r ∧ Below w.heap.size w w' ∧
      Rep w' (fun b => S b ∨ (w.heap.size ≤ b ∧ b < w'.heap.size)) v' r := by
    rintro o xs hr ⟨ho, hR⟩
    obtain ⟨v, hv, hx⟩ := results_ok hs hr ho
    split at hR
    · rename_i p hp
      refine ⟨hs.df, v, hv, v, p, rfl, hR, ⟨hs.bel.os, hs.bel.tape, hs.bel.output, hs.bel.size, fun k hk => hs.bel.block k hk (fun h => h)⟩, ?_⟩
      refine snapD_rep (S' := fun b => S b ∨ (w.heap.size ≤ b ∧ b < w'.heap.size)) hs.ownAt (fun b hb => ?_) (fun i b _ hl hb => ?_) 8 _ _ _ hx hp
      · rcases hb with hb | ⟨h1, h2, _⟩
        · exact .inl hb
        · exact .inr ⟨h1.resolve_right (fun h => h), h2⟩
      · exact .inr ⟨(hs.bnd i b hl hb).resolve_right (fun h => h), hs.ows.lt i b hl hb⟩
    · exact hR.elim
  cases e with
  | exit _ => exact hq.elim
  | normal =>
    simp only [endS] at hq
    split at hq
    · rename_i o xs hr; exact main o xs hr hq
    · exact hq.elim
  | ret =>
    simp only [endS] at hq
    split at hq
    · rename_i o xs hr; exact main o xs hr hq
    · exact hq.elim

theorem renO_rep {N N' : Nat → Prop} (hN : ∀ b, N b → N' b) {mX : Nat → Option Value} {ds : List Nat} (hmX : ∀ i ∈ ds, mX (idx ds i) = m i) {v : Value} {x x' : FV} (h : RepF w N m v x) (hx : renO ds x = some x') : RepF w N' mX v x' := by
  unfold renO at hx
  split at hx
  · simp only [Option.some.injEq] at hx
    rw [← hx]
    exact .pv _ _ (h.pvInv.mono (fun _ _ => rfl) hN)
  · rename_i i
    split at hx
    · rename_i hd
      simp only [Option.some.injEq] at hx
      rw [← hx]
      cases h with | own _ _ hvi =>
      exact .own _ _ ((hmX i (by simpa using hd)).trans hvi)
    · cases hx
  · cases hx

theorem renR_rep {N N' : Nat → Prop} (hN : ∀ b, N b → N' b) {mX : Nat → Option Value} {ds : List Nat} (hmX : ∀ i ∈ ds, mX (idx ds i) = m i) {v : Value} {x x' : FV} (h : RepF w N m v x) (hx : renR ds x = some x') : RepF w N' mX v x' := by
  unfold renR at hx
  split at hx
  · simp only [Option.some.injEq] at hx
    rw [← hx]
    exact .pv _ _ (h.pvInv.mono (fun _ _ => rfl) hN)
  · rename_i cs
    cases hm : mapO (renO ds) cs with
    | none => simp [hm] at hx
    | some cs' =>
      simp only [hm, Option.map_some, Option.some.injEq] at hx
      rw [← hx]
      obtain ⟨hcl, hcget⟩ := mapO_spec hm
      cases h with | agg _ f hf1 hfr =>
      rw [hcl]
      exact .agg cs' f hf1 (fun q hq => renO_rep hN hmX (hfr q (by omega)) (hcget q (by omega) hq))
  · rename_i i
    split at hx
    · rename_i hd
      simp only [Option.some.injEq] at hx
      rw [← hx]
      cases h with | own _ _ hvi =>
      exact .own _ _ ((hmX i (by simpa using hd)).trans hvi)
    · cases hx
  · rename_i i off
    split at hx
    · rename_i hd
      simp only [Option.some.injEq] at hx
      rw [← hx]
      cases h
      rename_i b hb
      refine .box _ _ b ?_
      unfold mblk at *
      rw [hmX i (by simpa using hd)]
      exact hb
    · cases hx
  · cases hx

theorem renT_rep {N N' : Nat → Prop} (hN : ∀ b, N b → N' b) {mX : Nat → Option Value} {ds : List Nat} (hmX : ∀ i ∈ ds, mX (idx ds i) = m i) {v : Value} {x x' : FV} (h : RepF w N m v x) (hx : renT ds x = some x') : RepF w N' mX v x' := by
  unfold renT at hx
  split at hx
  · rename_i cs
    cases hm : mapO (renR ds) cs with
    | none => simp [hm] at hx
    | some cs' =>
      simp only [hm, Option.map_some, Option.some.injEq] at hx
      rw [← hx]
      obtain ⟨hcl, hcget⟩ := mapO_spec hm
      cases h with | tup _ f hfr =>
      rw [hcl]
      exact .tup cs' f (fun q hq => renR_rep hN hmX (hfr q (by omega)) (hcget q (by omega) hq))
  · exact renR_rep hN hmX h hx

theorem FX_of {f : FuncId} {fn : Func} {c : Code} {own : List Blk} {args : List FV} {R : List Blk → FV → Prop} (mix : P.follows .mixedOrders = true)
    (hf : P.funcs[f]? = some fn) (hb : fn.body = some c) (hname : (fn.name == "runtime.NumGoroutine") = false) (hn : args.length ≤ fn.ntmps)
    (hv : codeVC P gl c (endX P fn own.length R) ⟨startSlots 0 args, own, fn.ntmps, own.length⟩) : FX P gl f own args R := by
  refine ⟨by simp [callable, hf, hb, hname], fun w S m vs hgl hS hows hdis hargs => calls_of_wp hf hb ?_⟩
  let X : Nat → Prop := fun b => ∃ i, lives own i ∧ mblk m i = some b
  have E : Env P gl S X w := ⟨mix, hgl, fun b ⟨i, hi, hm⟩ x hx => hdis i b hi hm x hx, hS, fun b hSb ⟨i, hi, hm⟩ => hows.out i b hi hm hSb, fun b ⟨i, hi, hm⟩ => hows.lt i b hi hm, fun _ h => h⟩
  have hN : ∀ b, S b → Nset S X w.heap.size w m own b := fun b => .inl
  have h0 : Sim S X w m ⟨startSlots 0 args, own, fn.ntmps, own.length⟩ { tmps := (vrange args.length vs).toArray ++ Array.replicate (fn.ntmps - (vrange args.length vs).toArray.size) undef, defers := [] } w m := by
    refine ⟨⟨rfl, rfl, rfl, Nat.le_refl _, fun _ _ _ => rfl⟩, OwnS.mk hows.len (fun i b hb hl => ?_) hows.sep hows.lt (fun i b hi hm => ?_), fun i b hi hm => .inr ⟨i, hi, hm⟩, fun _ _ => rfl, Nat.le_refl _, by simp [vrange]; omega, rfl, fun t => ?_⟩
    · obtain ⟨v, hv, hok⟩ := hows.ok i b hb hl
      exact ⟨v, hv, hok.mono (fun _ _ => rfl) hN (fun _ _ => id) (fun _ _ => rfl)⟩
    · rintro (hS' | ⟨_, _, h3⟩)
      · exact hows.out i b hi hm hS'
      · exact h3 i hi hm
    · have := start_slot (w := w) (m := m) (N := Nset S X w.heap.size w m own) (args := args) (vs := vs) (n := fn.ntmps - (vrange args.length vs).toArray.size)
        (fun j hj => (hargs j hj).mono (fun _ _ => rfl) hN (fun _ _ => id)) t
      simpa [St.get] using this
  refine code_sound E c _ _ ?_ _ _ w _ h0 hv
  intro e st a' w' m1 hs hq
  have main : ∀ o xs, retAll P st fn.results.toList = some (o, xs) → (o ∧ st.k0 = own.length ∧ ∃ (es : List Nat) (bs : List Blk) (x : FV), es.Nodup ∧ own.length ≤ es.length ∧ es.take own.length = List.range own.length ∧ mapO (fun i => st.own[i]?) es = some bs ∧ (bs.all plainB) = true ∧ renT es (oneOrTup xs) = some x ∧ R bs x) →
      a'.defers = [] ∧ ∃ v, (results fn a'.tmps).run P w' = .ok v w' ∧ ∃ v' r own' m', Ending.returned v = .returned v' ∧ R own' r ∧ own.length ≤ own'.length ∧ (∀ i, i < own.length → m' i = m i) ∧
      BelowX X w w' ∧ OwnS w' (Nset S X w.heap.size w' m' own') m' own' ∧ (∀ i b, lives own' i → mblk m' i = some b → w.heap.size ≤ b ∨ ∃ i, lives own i ∧ mblk m i = some b) ∧ RepF w' (Nset S X w.heap.size w' m' own') m' v' r := by
    rintro o xs hr ⟨ho, hk0, es, bs, x, hnd, hk1, htk, hbs, hpl, hren, hR⟩
    obtain ⟨v, hv, hx⟩ := results_ok hs hr ho
    obtain ⟨hbl, hbget⟩ := mapO_spec hbs
    let mX : Nat → Option Value := fun p => (es[p]?).bind m1
    have hmX : ∀ (p j : Nat), es[p]? = some j → mX p = m1 j := fun p j hp => by simp [mX, hp]
    have hmbX : ∀ (p j : Nat), es[p]? = some j → mblk mX p = mblk m1 j := fun p j hp => by unfold mblk; rw [hmX p j hp]
    have hget : ∀ (p : Nat) (b : Blk), bs[p]? = some b → ∃ j : Nat, es[p]? = some j ∧ st.own[j]? = some b := by
      intro p b hb
      have hlt : p < es.length := by have := (List.getElem?_eq_some_iff.1 hb).1; omega
      have h1 := hbget p hlt (by omega)
      refine ⟨es[p], List.getElem?_eq_getElem hlt, h1.trans ?_⟩
      rw [← hb, List.getElem?_eq_getElem (by omega)]
    have hlvX : ∀ p, lives bs p → ∃ j : Nat, es[p]? = some j ∧ lives st.own j := by
      rintro p ⟨b, hb, hl⟩
      obtain ⟨j, h1, h2⟩ := hget p b hb
      exact ⟨j, h1, b, h2, hl⟩
    have hN : ∀ b, Nset S X w.heap.size w' m1 st.own b → Nset S X w.heap.size w' mX bs b := by
      rintro b (hb | ⟨h1, h2, h3⟩)
      · exact .inl hb
      · refine .inr ⟨h1, h2, fun p hp hm => ?_⟩
        obtain ⟨j, hj, hlj⟩ := hlvX p hp
        rw [hmbX p j hj] at hm
        exact h3 j hlj hm
    refine ⟨hs.df, v, hv, v, x, bs, mX, rfl, hR, by omega, fun i hi => ?_, hs.bel, OwnS.mk (fun p u hu => ?_) (fun p b hb hl => ?_) (fun p q b hne hp hq hbp hbq => ?_) (fun p b hp hb => ?_) (fun p b hp hb => ?_), fun p b hp hb => ?_, renT_rep hN (fun i hi => hmX _ i (idx_get es i hi)) hx hren⟩
    · have h1 : (es.take own.length)[i]? = some i := by rw [htk]; exact List.getElem?_range hi
      rw [List.getElem?_take, if_pos hi] at h1
      rw [hmX i i h1]
      exact hs.fix i (show i < st.k0 by omega)
    · cases hd : es[p]? with
      | none => simp [mX, hd] at hu
      | some j =>
        rw [hmX p j hd] at hu
        have := (List.getElem?_eq_some_iff.1 hd).1
        exact ⟨by omega, (hs.ows.len j u hu).2⟩
    · obtain ⟨j, hj, hoj⟩ := hget p b hb
      obtain ⟨u, hu, hok⟩ := hs.ows.ok j b hoj hl
      exact ⟨u, (hmX p j hj).trans hu, plainB_mono (List.all_eq_true.1 hpl b (List.mem_of_getElem? hb)) hok (fun _ _ => rfl) hN (fun _ _ => rfl)⟩
    · obtain ⟨j, hj, hlj⟩ := hlvX p hp
      obtain ⟨k, hk, hlk⟩ := hlvX q hq
      rw [hmbX p j hj] at hbp
      rw [hmbX q k hk] at hbq
      exact hs.ows.sep j k b (fun e => by subst e; exact hne (nodup_get hnd hj hk)) hlj hlk hbp hbq
    · obtain ⟨j, hj, hlj⟩ := hlvX p hp
      rw [hmbX p j hj] at hb
      exact hs.ows.lt j b hlj hb
    · rintro (hS' | ⟨_, _, h3⟩)
      · obtain ⟨j, hj, hlj⟩ := hlvX p hp
        rw [hmbX p j hj] at hb
        exact hs.ows.out j b hlj hb (.inl hS')
      · exact h3 p hp hb
    · obtain ⟨j, hj, hlj⟩ := hlvX p hp
      rw [hmbX p j hj] at hb
      exact hs.bnd j b hlj hb
  cases e with
  | exit _ => exact hq.elim
  | normal =>
    simp only [endX] at hq
    split at hq
    · rename_i o xs hr; exact main o xs hr hq
    · exact hq.elim
  | ret =>
    simp only [endX] at hq
    split at hq
    · rename_i o xs hr; exact main o xs hr hq
    · exact hq.elim

end
end Go.Pe

/- The same conditions, with the types' table apart and the arithmetic veiled. -/
namespace Go.Pe
open Go Go.RowKit

structure TT where
  cells : TypeId → Nat
  und : TypeId → Option TypeDesc
  inf : TypeId → Option TypeInfo
  bytes : TypeId → Nat

def TT.of (P : Program) : TT := ⟨P.cellsOf, P.underlying, P.info?, P.bytesOf⟩

/-- what is computed on data: veiled while a body is gone through -/
structure AR where
  ints : List Int → List PV
  len : List PV → Nat
  el : List PV → Nat → PV
  gi : PV → Nat → Int
  gb : PV → Nat → Bool
  gl : PV → Nat → List PV
  gc : PV → Nat → PV
  nat : Int → Nat
  cast : Nat → Int
  add : IntKind → Int → Int → Int
  sub : IntKind → Int → Int → Int
  mul : IntKind → Int → Int → Int
  quo : IntKind → Int → Int → Int
  rem : IntKind → Int → Int → Int
  shl : IntKind → Int → Int → Int
  shr : IntKind → Int → Int → Int
  band : IntKind → Int → Int → Int
  bor : IntKind → Int → Int → Int
  bxor : IntKind → Int → Int → Int
  conv : IntKind → Int → Int
  max : Int → Int → Int
  min : Int → Int → Int
  eq : Int → Int → Bool
  ne : Int → Int → Bool
  lt : Int → Int → Bool
  le : Int → Int → Bool
  beq : Bool → Bool → Bool
  bnot : Bool → Bool
  andb : Bool → Bool → Bool
  pick : Bool → Bool → Bool → Bool
  app : List PV → List PV → List PV
  set : List PV → Nat → PV → List PV
  rep : Int → PV → List PV
  sl : List PV → Int → Int → List PV
  lei : Int → Int → Prop
  lti : Int → Int → Prop
  ltn : Nat → Nat → Prop
  nez : Int → Prop
  okA : List PV → Nat → Prop
  allC : List PV → Nat → Prop
  cap : List PV → List PV → Prop
  len_le : Nat → PV → Prop
  len_eq : PV → Nat → Prop
  peq : Bool → Nat → Nat → PV → PV → Prop

def intsL (l : List Int) : List PV := l.map fun n => .val (.int .i64 n)

def AR.std : AR where
  ints := intsL
  len l := l.length
  el els k := els.getD k (.val (.bool false))
  gi := getI
  gb := getB
  gl := getL
  gc := cellAt
  nat n := n.toNat
  cast n := n
  add k a b := k.wrap (a + b)
  sub k a b := k.wrap (a - b)
  mul k a b := k.wrap (a * b)
  quo k a b := k.wrap (a.tdiv b)
  rem _ a b := a.tmod b
  shl k a b := k.wrap (a * 2 ^ (Min.min b.toNat k.bits))
  shr k a b := a.fdiv (2 ^ (Min.min b.toNat k.bits))
  band k a b := k.wrap (BitVec.ofInt k.bits a &&& BitVec.ofInt k.bits b).toNat
  bor k a b := k.wrap (BitVec.ofInt k.bits a ||| BitVec.ofInt k.bits b).toNat
  bxor k a b := k.wrap (BitVec.ofInt k.bits a ^^^ BitVec.ofInt k.bits b).toNat
  conv k n := k.wrap n
  max a b := if b > a then b else a
  min a b := if b < a then b else a
  eq a b := a == b
  ne a b := a != b
  lt a b := decide (a < b)
  le a b := decide (a ≤ b)
  beq a b := a == b
  bnot b := !b
  andb a b := a && b
  pick c x y := bif c then x else y
  app a b := a ++ b
  set els k p := els.set k p
  rep n z := List.replicate n.toNat z
  sl els l h := (els.take h.toNat).drop l.toNat
  lei a b := a ≤ b
  lti a b := a < b
  ltn a b := a < b
  nez b := b ≠ 0
  okA els s := ∀ p ∈ els, okEl s p
  allC els n := ∀ p ∈ els, p.cells.length = n
  cap els new := els.length + new.length ≤ 1000000000
  len_le n p := n ≤ p.cells.length
  len_eq p n := p.cells.length = n
  peq ag off size p q := partP ag off size p.cells = q

def isAggT' (T : TT) (t : TypeId) : Bool :=
  match T.und t with
  | some (.struct _) => true
  | some (.array _ _) => true
  | _ => false

def scal' (T : TT) (t : TypeId) : Bool := isAggT' T t || (T.cells t == 1 && (T.und t).isSome)

def fieldT' (T : TT) (s : TypeId) (f : Nat) : Option Nat :=
  match T.und s with
  | some (.struct fs) => match fs[f]? with
    | some fd => if T.cells fd.type = 0 then none else some fd.offset
    | none => none
  | _ => none

def elemT' (T : TT) (t : TypeId) : Option TypeId :=
  match T.und t with
  | some (.slice e) => if T.cells e = 0 then none else some e
  | _ => none

def isBoolT' (T : TT) (t : TypeId) : Bool :=
  match T.und t with
  | some .bool => true
  | _ => false

def intT' (T : TT) (t : TypeId) : Option IntKind :=
  match T.und t with
  | some (.int k) => some k
  | _ => none

def flat' (T : TT) : Nat → TypeId → List CK
  | 0, _ => []
  | n + 1, t => match T.und t with
    | some (.int k) => [.int k]
    | some .bool => [.bool]
    | some (.slice _) => [.sl]
    | some (.struct fs) => fs.toList.flatMap fun f => flat' T n f.type
    | _ => [.other]

def cmpV' (A : AR) (op : BinOp) (a b : Int) : Option Bool :=
  match op with
  | .eql => some (A.eq a b)
  | .neq => some (A.ne a b)
  | .lss => some (A.lt a b)
  | .leq => some (A.le a b)
  | .gtr => some (A.lt b a)
  | .geq => some (A.le b a)
  | _ => none

def bitV' (A : AR) (op : BinOp) (k : IntKind) (a b : Int) : Option Int :=
  match op with
  | .and => some (A.band k a b)
  | .or => some (A.bor k a b)
  | .xor => some (A.bxor k a b)
  | _ => none

def binV' (T : TT) (A : AR) (op : BinOp) (t : TypeId) (x y : FV) : Option (Prop × FV) :=
  match x, y with
  | .pv (.val (.int k a)), .pv (.val (.int k' b)) =>
    match op with
    | .shl => some (A.lei 0 b, .pv (.val (.int k (A.shl k a b))))
    | .shr => some (A.lei 0 b, .pv (.val (.int k (A.shr k a b))))
    | op => if k ≠ k' then none else
      match op with
      | .add => some (True, .pv (.val (.int k (A.add k a b))))
      | .sub => some (True, .pv (.val (.int k (A.sub k a b))))
      | .mul => some (True, .pv (.val (.int k (A.mul k a b))))
      | .quo => some (A.nez b, .pv (.val (.int k (A.quo k a b))))
      | .rem => some (A.nez b, .pv (.val (.int k (A.rem k a b))))
      | op => match cmpV' A op a b, bitV' A op k a b with
        | some c, _ => some (True, .pv (.val (.bool c)))
        | none, some n => some (True, .pv (.val (.int k n)))
        | none, none => none
  | .pv (.val (.bool a)), .pv (.val (.bool b)) =>
    if isBoolT' T t then
      match op with
      | .eql => some (True, .pv (.val (.bool (A.beq a b))))
      | .neq => some (True, .pv (.val (.bool (A.bnot (A.beq a b)))))
      | _ => none
    else none
  | _, _ => none

def lenV' (A : AR) (own : List Blk) : FV → Option Nat
  | .pv (.lst els) => some (A.len els)
  | .pv (.val (.slice none 0 0)) => some 0
  | .own i => match own[i]? with
    | some (.row _ _ els) => some (A.len els)
    | _ => none
  | _ => none

def mkC' (A : AR) (c : CK) (p : PV) (j : Nat) : PV :=
  match c with
  | .int k => .val (.int k (A.gi p j))
  | .bool => .val (.bool (A.gb p j))
  | .sl => .lst (A.gl p j)
  | .other => A.gc p j

def mkCs' (A : AR) (p : PV) : List CK → Nat → List PV
  | [], _ => []
  | c :: r, j => mkC' A c p j :: mkCs' A p r (j + 1)

def partX' (A : AR) (ag : Bool) (cks : List CK) (off : Nat) (p : PV) : PV :=
  if ag then .agg (mkCs' A p cks off) else mkC' A (cks.headD .other) p off

def buildF' (T : TT) (t : TypeId) (ev : Operand → FV) : List (Nat × Operand) → List FV → Option (List FV)
  | [], cs => some cs
  | (i, x) :: r, cs => match T.und t with
    | some (.struct fs) => match fs[i]?, fcells (ev x) with
      | some fd, some new => if new.length = T.cells fd.type ∧ fd.offset + new.length ≤ cs.length then buildF' T t ev r (setSeg cs fd.offset new) else none
      | _, _ => none
    | _ => none

def zeroF' (T : TT) (t : TypeId) : Option (List FV) :=
  match T.inf t with
  | some i => match i.zero with
    | some z => if z.cells.toList.all free then some (z.cells.toList.map fun v => .pv (.val v)) else none
    | none => none
  | none => none

def hasZero' (T : TT) (t : TypeId) : Bool :=
  match T.inf t with
  | some i => match i.zero with
    | some z => z.cells.size == i.size
    | none => false
  | none => false

def pop' (T : TT) (A : AR) (own : List Blk) (ev : Operand → FV) : Op → Option (Prop × FV)
  | .move x => some (True, ev x)
  | .assign x => some (True, ev x)
  | .load t x => match ev x with
    | .box i off => match own[i]? with
      | some (.box cs) => some (off + T.cells t ≤ cs.length  ∧ scal' T t = true, partF (isAggT' T t) off (T.cells t) cs)
      | _ => none
    | .relt i s k off => match own[i]? with
      | some (.row _ s' els) => if s' = s then some (A.ltn k (A.len els) ∧ off + T.cells t ≤ s ∧ scal' T t = true ∧ A.peq (isAggT' T t) off (T.cells t) (A.el els k) (partX' A (isAggT' T t) (flat' T 6 t) off (A.el els k)),
        .pv (partX' A (isAggT' T t) (flat' T 6 t) off (A.el els k))) else none
      | _ => none
    | .pv (.ptr cs off) => some (off + T.cells t ≤ cs.length  ∧ scal' T t = true, .pv (partP (isAggT' T t) off (T.cells t) cs))
    | .pv (.elt els k off) => some (A.ltn k (A.len els) ∧ A.len_le (off + T.cells t) (A.el els k) ∧ scal' T t = true ∧ A.peq (isAggT' T t) off (T.cells t) (A.el els k) (partX' A (isAggT' T t) (flat' T 6 t) off (A.el els k)),
        .pv (partX' A (isAggT' T t) (flat' T 6 t) off (A.el els k)))
    | _ => none
  | .fieldAddr s x f => match fieldT' T s f, ev x with
    | some o, .box i off => some (True, .box i (off + o))
    | some o, .relt i s k off => some (True, .relt i s k (off + o))
    | some o, .pv (.ptr cs off) => some (True, .pv (.ptr cs (off + o)))
    | some o, .pv (.elt els k off) => some (True, .pv (.elt els k (off + o)))
    | _, _ => none
  | .indexAddr t x i => match elemT' T t, ev i with
    | some e, .pv (.val (.int _ n)) => match ev x with
      | .pv (.lst els) => some (A.lei 0 n ∧ A.lti n (A.cast (A.len els)) ∧ A.len_eq (A.el els (A.nat n)) (T.cells e), .pv (.elt els (A.nat n) 0))
      | .own j => match own[j]? with
        | some (.row _ s els) => if s = T.cells e then some (A.lei 0 n ∧ A.lti n (A.cast (A.len els)), .relt j s (A.nat n) 0) else none
        | _ => none
      | _ => none
    | _, _ => none
  | .binOp op t x y _ => binV' T A op t (ev x) (ev y)
  | .unOp .not _ x => match ev x with
    | .pv (.val (.bool b)) => some (True, .pv (.val (.bool (A.bnot b))))
    | _ => none
  | .unOp .neg _ x => match ev x with
    | .pv (.val (.int k n)) => some (True, .pv (.val (.int k (A.sub k 0 n))))
    | _ => none
  | .convert s d x => match ev x, intT' T s, intT' T d with
    | .pv (.val (.int _ n)), some _, some k => some (True, .pv (.val (.int k (A.conv k n))))
    | _, _, _ => none
  | .extract x i => match ev x with
    | .pv (.tup vs) => some (i < vs.length, .pv (vs.getD i (.val (.bool false))))
    | .tup vs => some (i < vs.length, vs.getD i .junk)
    | _ => none
  | .build t parts => match T.und t, zeroF' T t with
    | some (.struct fs), some z => if fs.toList.all (fun f => (T.inf f.type).isSome) then
        match buildF' T t ev parts.toList z with
        | some cs => some (True, .agg cs)
        | none => none
      else none
    | _, _ => none
  | .makeFunc (.func f) first caps => if first.size = 0 then some (True, .fn f (caps.toList.map ev)) else none
  | .call { callee := .builtin .len, args, argTypes } => match args.toList, argTypes.toList with
    | [x], [t] => match elemT' T t, lenV' A own (ev x) with
      | some _, some n => some (True, .pv (.val (.int .i64 (A.cast n))))
      | _, _ => none
    | _, _ => none
  | .call { callee := .builtin .max, args, .. } => match args.toList with
    | [x, y] => match ev x, ev y with
      | .pv (.val (.int k a)), .pv (.val (.int _ b)) => some (True, .pv (.val (.int k (A.max a b))))
      | _, _ => none
    | _ => none
  | .call { callee := .builtin .min, args, .. } => match args.toList with
    | [x, y] => match ev x, ev y with
      | .pv (.val (.int k a)), .pv (.val (.int _ b)) => some (True, .pv (.val (.int k (A.min a b))))
      | _, _ => none
    | _ => none
  | .nilCheck x => match ev x with
    | .box i off => some (True, .box i off)
    | .pv (.ptr cs off) => some (True, .pv (.ptr cs off))
    | _ => none
  | .slice t x lo hi none => match elemT' T t, ev x with
    | some e, .pv (.lst els) =>
      match (match lo with | none => some 0 | some o => match ev o with | .pv (.val (.int _ n)) => some n | _ => none),
            (match hi with | none => some (A.cast (A.len els)) | some o => match ev o with | .pv (.val (.int _ n)) => some n | _ => none) with
      | some l, some h => some (A.lei 0 l ∧ A.lei l h ∧ A.lei h (A.cast (A.len els)) ∧ A.allC els (T.cells e), .pv (.lst (A.sl els l h)))
      | _, _ => none
    | _, _ => none
  | _ => none

def pickV' (A : AR) (c : Bool) (a b : FV) : Option FV :=
  match a, b with
  | .pv (.val (.bool x)), .pv (.val (.bool y)) => some (.pv (.val (.bool (A.pick c x y))))
  | _, _ => none

def qop' (P : Program) (T : TT) (A : AR) (gl : List (Nat × Obj)) (st : St) (g : Option Bool) (o : Oper) (K : FV → Prop) : Prop :=
  match o.op with
  | .pick c a b => match st.ev c with
    | .pv (.val (.bool t)) => match pickV' A t (strip (st.ev a)) (strip (st.ev b)) with
      | some x => imp g (t = true → condOk none (st.ev a)) ∧ imp g (t = false → condOk none (st.ev b)) ∧ K x
      | none => False
    | .iff c (.pv (.val (.bool t))) => match pickV' A t (strip (st.ev a)) (strip (st.ev b)) with
      | some x => imp g (c = true) ∧ imp g (t = true → condOk none (st.ev a)) ∧ imp g (t = false → condOk none (st.ev b)) ∧ K x
      | none => False
    | _ => False
  | .call { callee := .value f, args, .. } => condsOk g st (f :: args.toList) ∧
    match asFn (strip (st.ev f)) with
    | some (fid, caps) => match snapL [] [] ((args.toList.map fun x => strip (st.ev x)) ++ caps) with
      | some as => ∃ r, imp g (FS P gl fid as (fun r' => r' = r)) ∧ K (.pv r)
      | none => False
    | none => False
  | .buildSlice t n parts => condsOk g st (parts.toList.map (·.2)) ∧
    match elemT' T t, snapL [] [] (parts.toList.map fun x => strip (st.ev x.2)) with
    | some e, some els => if inOrder 0 parts.toList && n == parts.size && n * T.cells e < 65536 && hasZero' T e then (A.okA els (T.cells e)) ∧ K (.pv (.lst els)) else False
    | _, _ => False
  | op => condsOk g st op.operands.toList ∧ popK g K (pop' T A st.own (fun x => strip (st.ev x)) op)

def bytesT' (T : TT) (t : TypeId) : Nat := T.bytes t

def zeroP' (T : TT) (t : TypeId) : Option PV :=
  match T.inf t with
  | some i => match i.zero with
    | some (.agg cs) => if cs.toList.all (fun v => free v) then some (.agg (cs.toList.map fun v => normP (.val v))) else none
    | some v => if free v then some (normP (.val v)) else none
    | none => none
  | none => none

def gcond' (A : AR) (ops : List Oper) (st : St) (j : Nat) (want : Bool) : Option Bool :=
  match (ops[j]?).bind (·.dst) with
  | some t => match st.get t with
    | .pv (.val (.bool b)) => some (A.beq b want)
    | .iff c (.pv (.val (.bool b))) => some (A.andb c (A.beq b want))
    | _ => none
  | none => none

def appendVC' (T : TT) (A : AR) (st : St) (e : TypeId) (s x : FV) (K : FV → St → Prop) : Prop :=
  match srcEls st.own x with
  | some new => (A.okA new (T.cells e)) ∧
    match s with
    | .own i => match st.own[i]? with
      | some (.row e' s' els) => if e' = e ∧ s' = T.cells e ∧ st.k0 ≤ i ∧ isOwn i x = false ∧ T.bytes e ≤ 1000 ∧ hasZero' T e = true then
          A.cap els new ∧ K (.own i) ((st.drop i).setOwn i (.row e s' (A.app els new)))
        else False
      | _ => False
    | .pv (.val (.slice none 0 0)) => if T.bytes e ≤ 1000 ∧ hasZero' T e = true then
        new.length ≤ 1000000000 ∧ K (.own st.own.length) (st.addOwn (.row e (T.cells e) new))
      else False
    | _ => False
  | none => False

def effVC' (P : Program) (T : TT) (A : AR) (gl : List (Nat × Obj)) (o : Oper) (st : St) (K : St → Prop) : Prop :=
  match o.op with
  | .alloc t => match zeroF' T t with
    | some cs => K ((st.addOwn (.box cs)).put o.dst (.box st.own.length 0))
    | none => False
  | .box _ x => condOk none (st.ev x) ∧ match fcells (strip (st.ev x)) with
    | some cs => K ((st.addOwn (.box cs)).put o.dst (.box st.own.length 0))
    | none => False
  | .store t p x => condOk none (st.ev p) ∧ condOk none (st.ev x) ∧ match strip (st.ev p), fcells (strip (st.ev x)) with
    | .box i off, some new => match st.own[i]? with
      | some (.box cs) => new.length = T.cells t ∧ T.cells t ≠ 0 ∧ off + new.length ≤ cs.length ∧ K ((st.setOwn i (.box (setSeg cs off new))).put o.dst .junk)
      | _ => False
    | .relt i s k off, some new => match st.own[i]? with
      | some (.row e s' els) => if s' = s then
          A.ltn k (A.len els) ∧ new.length = T.cells t ∧ T.cells t ≠ 0 ∧
          if T.cells t = s ∧ off = 0 then
            match snapD [] [] 8 (strip (st.ev x)) with
            | some p => okEl s p ∧ K ((st.setOwn i (.row e s (A.set els k p))).put o.dst .junk)
            | none => False
          else match snapL [] [] new with
            | some pn => match setEl (A.el els k) off pn with
              | some p => K ((st.setOwn i (.row e s (A.set els k p))).put o.dst .junk)
              | none => False
            | none => False
        else False
      | _ => False
    | _, _ => False
  | .binOp .eql t x (.const (.slice none 0 0)) _ => condOk none (st.ev x) ∧ match elemT' T t, strip (st.ev x) with
    | some _, .pv (.lst els) => ∀ b : Bool, (b = true → els = []) → K (st.put o.dst (.pv (.val (.bool b))))
    | _, _ => False
  | .makeSlice t l c => condOk none (st.ev l) ∧ condOk none (st.ev c) ∧ match elemT' T t with
    | some e => match zeroP' T e, strip (st.ev l), strip (st.ev c) with
      | some z, .pv (.val (.int _ n)), .pv (.val (.int _ n')) =>
        if T.bytes e ≤ 1000 ∧ z.cells.length = T.cells e then
          A.lei 0 n ∧ A.lei n n' ∧ A.lei n' 1000000000 ∧ K ((st.addOwn (.row e (T.cells e) (A.rep n z))).put o.dst (.own st.own.length))
        else False
      | _, _, _ => False
    | none => False
  | .buildSlice t n parts => condsOk none st (parts.toList.map (·.2)) ∧
    match elemT' T t, snapL [] [] (parts.toList.map fun x => strip (st.ev x.2)) with
    | some e, some els => if inOrder 0 parts.toList && n == parts.size && n * T.cells e < 65536 && hasZero' T e then
        (A.okA els (T.cells e)) ∧ K ((st.addOwn (.row e (T.cells e) els)).put o.dst (.own st.own.length)) else False
    | _, _ => False
  | .call { callee := .builtin .append, args, argTypes } => match two args.toList, two argTypes.toList with
    | some (s, x), some (t, t') => condOk none (st.ev s) ∧ condOk none (st.ev x) ∧ match elemT' T t with
      | some e => if t' = t then appendVC' T A st e (strip (st.ev s)) (strip (st.ev x)) (fun v st' => K (st'.put o.dst v)) else False
      | none => False
    | _, _ => False
  | .call { callee := .value f, args, .. } => condsOk none st (f :: args.toList) ∧
    match asFn (strip (st.ev f)) with
    | some (fid, caps) => callVC P gl st fid ((args.toList.map fun x => strip (st.ev x)) ++ caps) (fun v st' => K (st'.put o.dst v))
    | none => False
  | _ => qop' P T A gl st none o (fun x => K (st.put o.dst x))

def quietVC1' (P : Program) (T : TT) (A : AR) (gl : List (Nat × Obj)) (ops : List Oper) (o : Oper) (st : St) (K : FV → Prop) : Prop :=
  match o.guard with
  | none => qop' P T A gl st none o K
  | some (j, want) => match gcond' A ops st j want with
    | some g => qop' P T A gl st (some g) o (fun x => K (.iff g x))
    | none => False

def stepVC' (P : Program) (T : TT) (A : AR) (gl : List (Nat × Obj)) (ops : List Oper) (o : Oper) (st : St) (K : St → Prop) : Prop :=
  match o.guard with
  | none => effVC' P T A gl o st K
  | some (j, want) => match gcond' A ops st j want with
    | some g => qop' P T A gl st (some g) o (fun x => K (st.put o.dst (.iff g x)))
    | none => False

def seqVC' (P : Program) (T : TT) (A : AR) (gl : List (Nat × Obj)) (ops : List Oper) : List Oper → St → (St → Prop) → Prop
  | [], st, K => K st
  | o :: r, st, K => stepVC' P T A gl ops o st (fun st' => seqVC' P T A gl ops r st' K)

def quietVC' (P : Program) (T : TT) (A : AR) (gl : List (Nat × Obj)) (ops : List Oper) : List Oper → St → (St → Prop) → Prop
  | [], st, K => K st
  | o :: r, st, K => quietVC1' P T A gl ops o st (fun x => quietVC' P T A gl ops r (st.put o.dst x) K)

def regionVC' (P : Program) (T : TT) (A : AR) (gl : List (Nat × Obj)) (ops : List Oper) (draw : Bool) (st : St) (K : St → Prop) : Prop :=
  if draw then
    if quietOk ops (ancs [] ops) (splitFrom (ancs [] ops) ops.length) then
      quietVC' P T A gl ops (ops.take (splitFrom (ancs [] ops) ops.length)) st (fun st' => seqVC' P T A gl ops (ops.drop (splitFrom (ancs [] ops) ops.length)) st' K)
    else False
  else seqVC' P T A gl ops ops st K

def codeVC' (P : Program) (T : TT) (A : AR) (gl : List (Nat × Obj)) : Code → (Ex → St → Prop) → St → Prop
  | .skip, Q, st => Q .normal st
  | .region _ ops draw, Q, st => regionVC' P T A gl ops.toList draw st (Q .normal)
  | .seq a b, Q, st => codeVC' P T A gl a (fun e s => match e with
    | .normal => codeVC' P T A gl b Q s
    | e => Q e s) st
  | .cond c a b, Q, st => match st.ev c with
    | .pv (.val (.bool t)) => (t = true → codeVC' P T A gl a Q st) ∧ (t = false → codeVC' P T A gl b Q st)
    | _ => False
  | .block id c, Q, st => codeVC' P T A gl c (fun e s => match e with
    | .exit i => if i = id then Q .normal s else Q (.exit i) s
    | e => Q e s) st
  | .loop c, Q, st => ∃ (ls : List Lift) (keep : List Nat) (k : Nat) (ι : Type) (f : ι → St) (μ : ι → Nat) (i0 : ι), (st.lifts ls).norm keep k = some (f i0) ∧
      ∀ i, codeVC' P T A gl c (fun e s => match e with
        | .normal => ∃ j, s.norm keep k = some (f j) ∧ μ j < μ i
        | e => Q e s) (f i)
  | .exit id, Q, st => Q (.exit id) st
  | .ret, Q, st => Q .ret st
  | .label _, Q, st => Q .normal st
  | _, _, _ => False

def retOne' (T : TT) (A : AR) (st : St) : ResultVar → Option (Prop × FV)
  | .tmp t => some (condOk none (st.get t), strip (st.get t))
  | .cell a t => pop' T A st.own st.ev (.load t (.tmp a))

def retAll' (T : TT) (A : AR) (st : St) : List ResultVar → Option (Prop × List FV)
  | [] => some (True, [])
  | r :: rs => match retOne' T A st r, retAll' T A st rs with
    | some (o1, x), some (o2, xs) => some (o1 ∧ o2, x :: xs)
    | _, _ => none

def endS' (T : TT) (A : AR) (fn : Func) (R : PV → Prop) (e : Ex) (st : St) : Prop :=
  match e with
  | .exit _ => False
  | _ => match retAll' T A st fn.results.toList with
    | some (o, xs) => o ∧ match snapD st.own (List.range st.own.length) 8 (oneOrTup xs) with
      | some p => R p
      | none => False
    | none => False

def endX' (T : TT) (A : AR) (fn : Func) (k0 : Nat) (R : List Blk → FV → Prop) (e : Ex) (st : St) : Prop :=
  match e with
  | .exit _ => False
  | _ => match retAll' T A st fn.results.toList with
    | some (o, xs) => o ∧ st.k0 = k0 ∧ ∃ (es : List Nat) (bs : List Blk) (x : FV), es.Nodup ∧ k0 ≤ es.length ∧ es.take k0 = List.range k0 ∧ mapO (fun i => st.own[i]?) es = some bs ∧ (bs.all plainB) = true ∧ renT es (oneOrTup xs) = some x ∧ R bs x
    | none => False

theorem codeVC_eq (P : Program) : codeVC' P (TT.of P) AR.std = codeVC P := by kernel_rfl
theorem endS_eq (P : Program) : endS' (TT.of P) AR.std = endS P := by kernel_rfl
theorem endX_eq (P : Program) : endX' (TT.of P) AR.std = endX P := by kernel_rfl

end Go.Pe

/- Functions, with the types' table apart and the arithmetic veiled; lists of numbers. -/
namespace Go.Pe
open Go Go.RowKit

abbrev I (n : Int) : PV := .val (.int .i64 n)
abbrev B (b : Bool) : PV := .val (.bool b)

def endR (T : TT) (A : AR) (rs : List ResultVar) (R : PV → Prop) (e : Ex) (st : St) : Prop :=
  match e with
  | .exit _ => False
  | _ => match retAll' T A st rs with
    | some (o, xs) => o ∧ match snapD st.own (List.range st.own.length) 8 (oneOrTup xs) with
      | some p => R p
      | none => False
    | none => False

theorem endR_eq (T : TT) (A : AR) (fn : Func) (R : PV → Prop) : endS' T A fn R = endR T A fn.results.toList R := by kernel_rfl

def endXR (T : TT) (A : AR) (rs : List ResultVar) (k0 : Nat) (R : List Blk → FV → Prop) (e : Ex) (st : St) : Prop :=
  match e with
  | .exit _ => False
  | _ => match retAll' T A st rs with
    | some (o, xs) => o ∧ st.k0 = k0 ∧ ∃ (es : List Nat) (bs : List Blk) (x : FV), es.Nodup ∧ k0 ≤ es.length ∧ es.take k0 = List.range k0 ∧ mapO (fun i => st.own[i]?) es = some bs ∧ (bs.all plainB) = true ∧ renT es (oneOrTup xs) = some x ∧ R bs x
    | none => False

theorem endXR_eq (T : TT) (A : AR) (fn : Func) (k0 : Nat) (R : List Blk → FV → Prop) : endX' T A fn k0 R = endXR T A fn.results.toList k0 R := by kernel_rfl

/-- the conditions of a function's body, by value -/
def vcS (P : Program) (T : TT) (gl : List (Nat × Obj)) (c : Code) (rs : List ResultVar) (nt : Nat) (args : AR → List PV) (R : AR → PV → Prop) : Prop :=
  ∀ A, A = AR.std → codeVC' P T A gl c (endR T A rs (R A)) ⟨startSlots 0 ((args A).map .pv), [], nt, 0⟩

theorem FS_ofT {P : Program} {gl : List (Nat × Obj)} {f : FuncId} {fn : Func} {c : Code} {args : AR → List PV} {R : AR → PV → Prop} {T : TT} (hT : T = TT.of P) (mix : P.follows .mixedOrders = true)
    (hf : P.funcs[f]? = some fn) (hb : fn.body = some c) (hname : (fn.name == "runtime.NumGoroutine") = false) (hn : (args AR.std).length ≤ fn.ntmps)
    (hv : vcS P T gl c fn.results.toList fn.ntmps args R) : FS P gl f (args AR.std) (R AR.std) := by
  refine FS_of mix hf hb hname hn ?_
  have := hv AR.std rfl
  rw [hT, codeVC_eq, ← endR_eq, endS_eq] at this
  exact this

/-- by reference -/
def vcX (P : Program) (T : TT) (gl : List (Nat × Obj)) (c : Code) (rs : List ResultVar) (nt : Nat) (own : AR → List Blk) (args : AR → List FV) (R : AR → List Blk → FV → Prop) : Prop :=
  ∀ A, A = AR.std → codeVC' P T A gl c (endXR T A rs (own A).length (R A)) ⟨startSlots 0 (args A), own A, nt, (own A).length⟩

theorem FX_ofT {P : Program} {gl : List (Nat × Obj)} {f : FuncId} {fn : Func} {c : Code} {own : AR → List Blk} {args : AR → List FV} {R : AR → List Blk → FV → Prop} {T : TT} (hT : T = TT.of P) (mix : P.follows .mixedOrders = true)
    (hf : P.funcs[f]? = some fn) (hb : fn.body = some c) (hname : (fn.name == "runtime.NumGoroutine") = false) (hn : (args AR.std).length ≤ fn.ntmps)
    (hv : vcX P T gl c fn.results.toList fn.ntmps own args R) : FX P gl f (own AR.std) (args AR.std) (R AR.std) := by
  refine FX_of mix hf hb hname hn ?_
  have := hv AR.std rfl
  rw [hT, codeVC_eq, ← endXR_eq, endX_eq] at this
  exact this

theorem FS.mono {P : Program} {gl : List (Nat × Obj)} {f : FuncId} {args : List PV} {R R' : PV → Prop} (h : FS P gl f args R) (hR : ∀ r, R r → R' r) : FS P gl f args R' := by
  refine ⟨h.1, fun w S vs hgl hS hargs => ?_⟩
  intro cs
  obtain ⟨e, w', fr, ⟨v, r, he, hr, hb, hrep⟩, h2⟩ := h.2 w S vs hgl hS hargs cs
  exact ⟨e, w', fr, ⟨v, r, he, hR r hr, hb, hrep⟩, h2⟩

abbrev D0 : PV := .val (.bool false)

theorem wrapi {n : Int} (h0 : -9223372036854775808 ≤ n) (h1 : n ≤ 9223372036854775807) : IntKind.i64.wrap n = n := by rw [IntKind.wrap_i64]; omega

theorem ints_len (l : List Int) : (intsL l).length = l.length := by simp [intsL]
theorem ints_get (l : List Int) (k : Nat) (h : k < l.length) : (intsL l).getD k D0 = I (l.getD k 0) := by
  simp [intsL, List.getD, List.getElem?_eq_getElem h]
theorem ints_getI (l : List Int) (k : Nat) : getI ((intsL l).getD k D0) 0 = l.getD k 0 := by
  by_cases h : k < l.length
  · rw [ints_get l k h]; rfl
  · rw [List.getD, List.getD, List.getElem?_eq_none (by rw [ints_len]; omega), List.getElem?_eq_none (by omega)]; rfl
theorem ints_clen (l : List Int) (k : Nat) : ((intsL l).getD k D0).cells.length = 1 := by
  by_cases h : k < l.length
  · rw [ints_get l k h]; rfl
  · rw [List.getD, List.getElem?_eq_none (by rw [ints_len]; omega)]; rfl
theorem ints_part (l : List Int) (k : Nat) (z : Int) (h : k < l.length) (hz : l.getD k 0 = z) : partP false 0 1 ((intsL l).getD k D0).cells = I z := by
  rw [ints_get l k h, hz]; rfl
theorem ints_app1 (l : List Int) (n : Int) : intsL l ++ [PV.val (.int .i64 n)] = intsL (l ++ [n]) := by simp [intsL]
theorem ints_app (l r : List Int) : intsL l ++ intsL r = intsL (l ++ r) := by simp [intsL]
theorem ints_nil : intsL [] = [] := rfl
theorem ints_nil_app (l : List PV) : [] ++ l = l := rfl
theorem ints_one (n : Int) : [PV.val (.int .i64 n)] = intsL [n] := rfl
theorem ints_set (l : List Int) (k : Nat) (n : Int) : (intsL l).set k (PV.val (.int .i64 n)) = intsL (l.set k n) := by simp [intsL, List.map_set]
theorem ints_rep (k : Nat) (n : Int) : List.replicate k (PV.val (.int .i64 n)) = intsL (List.replicate k n) := by simp [intsL]
theorem ints_take (l : List Int) (k : Nat) : (intsL l).take k = intsL (l.take k) := by simp [intsL]
theorem ints_drop (l : List Int) (k : Nat) : (intsL l).drop k = intsL (l.drop k) := by simp [intsL]
theorem ints_ok (l : List Int) : ∀ p ∈ intsL l, okEl 1 p := by
  intro p hp
  simp only [intsL, List.mem_map] at hp
  obtain ⟨n, _, rfl⟩ := hp
  exact ⟨rfl, rfl⟩
theorem ints_all (l : List Int) : ∀ p ∈ intsL l, p.cells.length = 1 := fun p hp => (ints_ok l p hp).1

theorem calls_true1 {P : Program} {f : FuncId} {n : Int} (h : FS P [] f [I n] (· = B true)) (w : World) :
    Calls P f #[.int .i64 n] w fun e w' => e = .returned (.bool true) ∧ Below w.heap.size w w' := by
  have := h.2 w (fun _ => False) (fun _ => .int .i64 n) (fun x hx => by simp at hx) (fun _ hb => hb.elim) (fun j hj => by
    simp only [List.length_cons, List.length_nil] at hj
    have : j = 0 := by omega
    subst this
    exact .val _ rfl)
  refine Calls.mono this ?_
  rintro e w' ⟨v, r, rfl, rfl, hb, hr⟩
  refine ⟨?_, hb⟩
  cases hr
  rfl

theorem natCast_eq (n : Nat) : @NatCast.natCast Int instNatCastInt n = @Nat.cast Int instNatCastInt n := rfl

end Go.Pe

