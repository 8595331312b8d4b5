/- Lists of intervals' cells: rules for a walk, sizes, marks. -/
import Derived.Test.YtlkiofkkjbodjaaGreatDoorDEvD
set_option linter.unusedSimpArgs false
set_option linter.unusedVariables false
namespace Go.Pe
open Go Go.Dg

abbrev Cell6 := Cell3 × Cell3
def noV : Cell6 := (noY, noY)
def cell6 (v : Cell6) : PV := .agg [.val (.bool v.1.1), .lst (intsL v.1.2.1), .val (.int .i64 v.1.2.2), .val (.bool v.2.1), .lst (intsL v.2.2.1), .val (.int .i64 v.2.2.2)]
def cells6 (vs : List Cell6) : List PV := vs.map cell6

theorem c6len (vs : List Cell6) : (cells6 vs).length = vs.length := by simp [cells6]
theorem c6set (vs : List Cell6) (k : Nat) (v : Cell6) : (cells6 vs).set k (cell6 v) = cells6 (vs.set k v) := by simp [cells6, List.map_set]
theorem c6app (vs ws : List Cell6) : cells6 vs ++ cells6 ws = cells6 (vs ++ ws) := by simp [cells6]
theorem c6one (v : Cell6) : [cell6 v] = cells6 [v] := rfl
theorem c6rep (n : Nat) (v : Cell6) : List.replicate n (cell6 v) = cells6 (List.replicate n v) := by simp [cells6]
theorem c6nil : cells6 [] = [] := rfl
theorem c6el {vs : List Cell6} {k : Nat} (h : k < vs.length) : (cells6 vs).getD k D0 = cell6 (vs.getD k noV) := by
 simp [cells6, List.getD, h]

theorem sK : (∀ vs : List Cell6, (cells6 vs).length = vs.length) ∧
  (∀ v : Cell6, getB (cell6 v) 0 = v.1.1) ∧ (∀ v : Cell6, getL (cell6 v) 1 = intsL v.1.2.1) ∧ (∀ v : Cell6, getI (cell6 v) 2 = v.1.2.2) ∧
  (∀ v : Cell6, getB (cell6 v) 3 = v.2.1) ∧ (∀ v : Cell6, getL (cell6 v) 4 = intsL v.2.2.1) ∧ (∀ v : Cell6, getI (cell6 v) 5 = v.2.2.2) ∧ (∀ v : Cell6, (cell6 v).cells.length = 6) ∧
  (∀ {vs : List Cell6} {k : Nat}, k < vs.length → (cells6 vs).getD k D0 = cell6 (vs.getD k noV)) ∧
  (∀ v : Cell6, cellAt (cell6 v) 0 = .val (.bool v.1.1)) ∧ (∀ v : Cell6, cellAt (cell6 v) 1 = .lst (intsL v.1.2.1)) ∧ (∀ v : Cell6, cellAt (cell6 v) 2 = .val (.int .i64 v.1.2.2)) ∧
  (∀ v : Cell6, cellAt (cell6 v) 3 = .val (.bool v.2.1)) ∧ (∀ v : Cell6, cellAt (cell6 v) 4 = .lst (intsL v.2.2.1)) ∧ (∀ v : Cell6, cellAt (cell6 v) 5 = .val (.int .i64 v.2.2.2)) ∧
  (∀ v : Cell6, partP true 0 6 (cell6 v).cells = .agg [.val (.bool v.1.1), .lst (intsL v.1.2.1), .val (.int .i64 v.1.2.2), .val (.bool v.2.1), .lst (intsL v.2.2.1), .val (.int .i64 v.2.2.2)]) ∧
  (∀ v : Cell6, partP true 0 3 (cell6 v).cells = .agg [.val (.bool v.1.1), .lst (intsL v.1.2.1), .val (.int .i64 v.1.2.2)]) ∧
  (∀ v : Cell6, partP true 3 3 (cell6 v).cells = .agg [.val (.bool v.2.1), .lst (intsL v.2.2.1), .val (.int .i64 v.2.2.2)]) ∧
  (∀ v : Cell6, partP false 0 1 (cell6 v).cells = .val (.bool v.1.1)) ∧ (∀ v : Cell6, partP false 1 1 (cell6 v).cells = .lst (intsL v.1.2.1)) ∧ (∀ v : Cell6, partP false 2 1 (cell6 v).cells = .val (.int .i64 v.1.2.2)) ∧
  (∀ v : Cell6, partP false 3 1 (cell6 v).cells = .val (.bool v.2.1)) ∧ (∀ v : Cell6, partP false 4 1 (cell6 v).cells = .lst (intsL v.2.2.1)) ∧ (∀ v : Cell6, partP false 5 1 (cell6 v).cells = .val (.int .i64 v.2.2.2)) ∧
  (∀ (vs : List Cell6) (k : Nat) (v : Cell6), (cells6 vs).set k (cell6 v) = cells6 (vs.set k v)) ∧ (∀ v : Cell6, [cell6 v] = cells6 [v]) ∧ (∀ vs ws : List Cell6, cells6 vs ++ cells6 ws = cells6 (vs ++ ws)) ∧
  (∀ (n : Nat) (v : Cell6), List.replicate n (cell6 v) = cells6 (List.replicate n v)) ∧ cells6 [] = [] ∧
  (∀ (v : Cell6) (b : Bool), setCells (cell6 v) 0 [.val (.bool b)] = cell6 ((b, v.1.2), v.2)) ∧ (∀ (v : Cell6) (l : List Int), setCells (cell6 v) 1 [.lst (intsL l)] = cell6 ((v.1.1, l, v.1.2.2), v.2)) ∧
  (∀ (v : Cell6) (e : Int), setCells (cell6 v) 2 [.val (.int .i64 e)] = cell6 ((v.1.1, v.1.2.1, e), v.2)) ∧
  (∀ (v : Cell6) (b : Bool), setCells (cell6 v) 3 [.val (.bool b)] = cell6 (v.1, (b, v.2.2))) ∧ (∀ (v : Cell6) (l : List Int), setCells (cell6 v) 4 [.lst (intsL l)] = cell6 (v.1, (v.2.1, l, v.2.2.2))) ∧
  (∀ (v : Cell6) (e : Int), setCells (cell6 v) 5 [.val (.int .i64 e)] = cell6 (v.1, (v.2.1, v.2.2.1, e))) ∧
  (∀ (b : Bool) (l : List Int) (e : Int) (b2 : Bool) (l2 : List Int) (e2 : Int), PV.agg [.val (.bool b), .lst (intsL l), .val (.int .i64 e), .val (.bool b2), .lst (intsL l2), .val (.int .i64 e2)] = cell6 ((b, l, e), (b2, l2, e2))) :=
 ⟨c6len, fun _ => rfl, fun _ => rfl, fun _ => rfl, fun _ => rfl, fun _ => rfl, fun _ => rfl, fun _ => rfl, c6el, fun _ => rfl, fun _ => rfl, fun _ => rfl, fun _ => rfl, fun _ => rfl, fun _ => rfl,
  fun _ => rfl, fun _ => rfl, fun _ => rfl, fun _ => rfl, fun _ => rfl, fun _ => rfl, fun _ => rfl, fun _ => rfl, fun _ => rfl, c6set, c6one, c6app, c6rep, c6nil,
  fun _ _ => rfl, fun _ _ => rfl, fun _ _ => rfl, fun _ _ => rfl, fun _ _ => rfl, fun _ _ => rfl, fun _ _ _ _ _ _ => rfl⟩

set_option linter.defProp false in
def sI := And.intro sF (And.intro sB (And.intro sC (And.intro sD (And.intro sE sK))))

theorem oI {g : Prop} (h : g := by ((first | (with_reducible refine qn hA ?_) | exfalso); subst hA; subst_vars; simp only [AR.std, natCast_eq, sI, reduceCtorEq] at *; (try simp (disch := omega) only [AR.std, natCast_eq, sI, reduceCtorEq] at *); first | done | rfl | omega | exact ints_ok _ | exact ints_all _ | (apply ints_part <;> first | omega | rfl))) : g := h

theorem nI {g : Prop} (h : g := by (subst hA; subst_vars; simp only [AR.std, natCast_eq, sI, reduceCtorEq] at *; (try simp (disch := omega) only [AR.std, natCast_eq, sI, reduceCtorEq] at *); first | done | rfl)) : g := h

theorem tI {g : Prop} (h : g := by (subst hA; subst_vars; first | rfl | (simp (disch := omega) only [AR.std, natCast_eq, sI, reduceCtorEq]; rfl))) : g := h

theorem getV_mem {vs : List Cell6} {k : Nat} (h : k < vs.length) : vs.getD k noV ∈ vs := by
 rw [List.getD, List.getElem?_eq_getElem h]
 exact List.getElem_mem h

theorem getD_set_selfV {zs : List Cell6} {i : Nat} (v : Cell6) (hi : i < zs.length) : (zs.set i v).getD i noV = v := by
 rw [List.getD, List.getElem?_set_self hi]; rfl

def dig6 (v : Cell6) : Nat := v.1.2.1.length + v.2.2.1.length

def tot6 : List Cell6 → Nat
 | [] => 0
 | v :: r => dig6 v + tot6 r

theorem tot6_app : ∀ (a b : List Cell6), tot6 (a ++ b) = tot6 a + tot6 b
 | [], b => by simp [tot6]
 | v :: r, b => by simp [tot6, tot6_app r b]; omega

theorem tot6_take_succ {vs : List Cell6} {i : Nat} (h : i < vs.length) : tot6 (vs.take (i + 1)) = tot6 (vs.take i) + dig6 (vs.getD i noV) := by
 rw [List.take_add_one, tot6_app, List.getElem?_eq_getElem h, List.getD, List.getElem?_eq_getElem h]
 simp [tot6]

theorem tot6_take_le (vs : List Cell6) (i : Nat) : tot6 (vs.take i) ≤ tot6 vs := by
 have := tot6_app (vs.take i) (vs.drop i)
 rw [List.take_append_drop] at this
 omega

theorem tot6_get {vs : List Cell6} {i : Nat} (h : i < vs.length) : tot6 (vs.take i) + dig6 (vs.getD i noV) ≤ tot6 vs := by
 rw [← tot6_take_succ h]; exact tot6_take_le _ _

theorem tot6_bound {o : List Cell6} (h : ∀ v ∈ o, dig6 v ≤ 200) (hl : o.length ≤ 100) : tot6 o ≤ 20000 := by
 have : ∀ o : List Cell6, (∀ v ∈ o, dig6 v ≤ 200) → tot6 o ≤ 200 * o.length := by
  intro o
  induction o with
  | nil => intro _; exact Nat.zero_le _
  | cons y r ih =>
   intro h
   have h1 := h y (by simp)
   have h2 := ih (fun z hz => h z (by simp [hz]))
   simp only [tot6, List.length_cons]
   omega
 have := this o h
 omega

def koff6 (vs : List Cell6) (k : Int) (j : Nat) : Int := k + 4 * j + tot6 (vs.take j)

def mark6 (k : Int) (n m : Nat) : Cell6 := (mark1 k n, mark1 (k + 2 + n) m)

def mkL6 (vs : List Cell6) (k : Int) : List Cell6 := (List.range vs.length).map fun j => mark6 (koff6 vs k j) (vs.getD j noV).1.2.1.length (vs.getD j noV).2.2.1.length

theorem mkL6_len (vs : List Cell6) (k : Int) : (mkL6 vs k).length = vs.length := by simp [mkL6]

theorem mkL6_get {vs : List Cell6} {k : Int} {j : Nat} (h : j < vs.length) : (mkL6 vs k).getD j noV = mark6 (koff6 vs k j) (vs.getD j noV).1.2.1.length (vs.getD j noV).2.2.1.length := by
 simp [mkL6, List.getD, h]

theorem koff6_succ {vs : List Cell6} {k : Int} {j : Nat} (h : j < vs.length) : koff6 vs k (j + 1) = koff6 vs k j + 4 + dig6 (vs.getD j noV) := by
 unfold koff6
 rw [tot6_take_succ h]
 omega

theorem koff6_zero (vs : List Cell6) (k : Int) : koff6 vs k 0 = k := by simp [koff6, tot6]

theorem koff6_end (vs : List Cell6) (k : Int) : koff6 vs k vs.length = k + 4 * vs.length + tot6 vs := by simp [koff6]

theorem koff6_le {vs : List Cell6} {k : Int} {j : Nat} (h : j ≤ vs.length) : k ≤ koff6 vs k j ∧ koff6 vs k j ≤ k + 4 * vs.length + tot6 vs := by
 unfold koff6
 have := tot6_take_le vs j
 omega

def mkI6 (vs : List Cell6) (k i q : Int) (p : List PV) : Prop := 0 ≤ i ∧ i ≤ vs.length ∧ q = koff6 vs k i.toNat ∧ p = cells6 ((mkL6 vs k).take i.toNat ++ vs.drop i.toNat)

theorem mkI6_get {vs : List Cell6} {k i q : Int} {p : List PV} (h : mkI6 vs k i q p) (hi : i < vs.length) : ∃ zs : List Cell6, p = cells6 zs ∧ zs.length = vs.length ∧ zs.getD i.toNat noV = vs.getD i.toNat noV := by
 obtain ⟨a, b, _, rfl⟩ := h
 refine ⟨_, rfl, by simp [mkL6_len]; omega, ?_⟩
 have hl : ((mkL6 vs k).take i.toNat).length = i.toNat := by rw [List.length_take, mkL6_len]; omega
 rw [List.getD, List.getD, List.getElem?_append_right (by omega), hl, Nat.sub_self, List.getElem?_drop, Nat.add_zero]

theorem set_take_drop {α : Type} {us vs : List α} {i : Nat} (hl : us.length = vs.length) (hi : i < vs.length) (u : α) (hu : us[i]? = some u) :
  (us.take i ++ vs.drop i).set i u = us.take (i + 1) ++ vs.drop (i + 1) := by
 have hl2 : (us.take i).length = i := by rw [List.length_take]; omega
 rw [List.set_append_right _ _ (by omega), hl2, Nat.sub_self, List.drop_eq_getElem_cons hi, List.take_add_one, hu, List.append_assoc]
 rfl

theorem mkI6_next {vs : List Cell6} {k i q : Int} {p : List PV} (h : mkI6 vs k i q p) (hi : i < vs.length) :
  mkI6 vs k (i + 1) (q + 4 + dig6 (vs.getD i.toNat noV)) (p.set i.toNat (cell6 (mark6 q (vs.getD i.toNat noV).1.2.1.length (vs.getD i.toNat noV).2.2.1.length))) := by
 obtain ⟨a, b, rfl, rfl⟩ := h
 refine ⟨by omega, by omega, ?_, ?_⟩
 ·rw [show (i + 1).toNat = i.toNat + 1 by omega, koff6_succ (by omega)]
 ·rw [c6set, show (i + 1).toNat = i.toNat + 1 by omega, set_take_drop (mkL6_len _ _) (by omega)]
  have := mkL6_get (k := k) (show i.toNat < vs.length by omega)
  rw [← this, List.getD, List.getElem?_eq_getElem (by rw [mkL6_len]; omega)]; rfl

theorem mkI6_zero (vs : List Cell6) (k : Int) : mkI6 vs k 0 k (cells6 vs) := ⟨Int.le_refl _, by omega, by rw [show (0 : Int).toNat = 0 from rfl, koff6_zero], by simp⟩

theorem mkI6_exit {vs : List Cell6} {k i q : Int} {p : List PV} (h : mkI6 vs k i q p) (hi : vs.length ≤ i) : p = cells6 (mkL6 vs k) ∧ q = k + 4 * vs.length + tot6 vs := by
 obtain ⟨a, b, rfl, rfl⟩ := h
 have e : i.toNat = vs.length := by omega
 rw [e]
 refine ⟨?_, koff6_end _ _⟩
 rw [List.take_of_length_le (by rw [mkL6_len]; omega), List.drop_length, List.append_nil]

theorem mk6_steps {t : List PV} {vs zs : List Cell6} {i : Nat} {v : Cell6} {q : Int} (b1 b2 : Bool) (ht : t = cells6 zs) (hz : zs.length = vs.length) (hi : i < vs.length) (hv : zs.getD i noV = v)
  (h1 : b1 = decide (q % 3 = 0)) (h2 : b2 = decide ((q + 2 + v.1.2.1.length) % 3 = 0)) :
  ∃ t1 t2 t3 t4 t5 : List PV, ∃ l1 l2 : List PV, l1 = intsL (up1 (q + 1) v.1.2.1.length) ∧ l2 = intsL (up1 (q + 2 + v.1.2.1.length + 1) v.2.2.1.length) ∧
   (valCells (t.getD i D0) 0 1 ∧ t.set i (setCells (t.getD i D0) 0 [.val (.bool b1)]) = t1) ∧
   (cellAt (t1.getD i D0) 1 = .lst (intsL v.1.2.1) ∧ (v.1.2.1 = [] → t2 = t1) ∧ t2 = t1.set i (setCells (t1.getD i D0) 1 [.lst l1])) ∧
   (valCells (t2.getD i D0) 2 1 ∧ t2.set i (setCells (t2.getD i D0) 2 [.val (.int .i64 (q + 1 + v.1.2.1.length))]) = t3) ∧
   (valCells (t3.getD i D0) 3 1 ∧ t3.set i (setCells (t3.getD i D0) 3 [.val (.bool b2)]) = t4) ∧
   (cellAt (t4.getD i D0) 4 = .lst (intsL v.2.2.1) ∧ (v.2.2.1 = [] → t5 = t4) ∧ t5 = t4.set i (setCells (t4.getD i D0) 4 [.lst l2])) ∧
   (valCells (t5.getD i D0) 5 1 ∧ t5.set i (setCells (t5.getD i D0) 5 [.val (.int .i64 (q + 2 + v.1.2.1.length + 1 + v.2.2.1.length))]) = t.set i (cell6 (mark6 q v.1.2.1.length v.2.2.1.length))) ∧
   t.length = vs.length ∧ t1.length = vs.length ∧ t2.length = vs.length ∧ t3.length = vs.length ∧ t4.length = vs.length ∧ t5.length = vs.length := by
 subst ht
 have hz' : i < zs.length := by omega
 obtain ⟨⟨vb, vl, ve⟩, ⟨wb, wl, we⟩⟩ := v
 have el : ∀ w : Cell6, (cells6 (zs.set i w)).getD i D0 = cell6 w := fun w => by rw [c6el (by rw [List.length_set]; exact hz'), getD_set_selfV _ hz']
 have st : ∀ w w' : Cell6, (cells6 (zs.set i w)).set i (cell6 w') = cells6 (zs.set i w') := fun w w' => by rw [c6set, List.set_set]
 have e0 : (cells6 zs).getD i D0 = cell6 ((vb, vl, ve), (wb, wl, we)) := by rw [c6el hz', hv]
 have ln : ∀ w : Cell6, (cells6 (zs.set i w)).length = vs.length := fun w => by rw [c6len, List.length_set, hz]
 simp only at h2 ⊢
 refine ⟨cells6 (zs.set i ((b1, vl, ve), (wb, wl, we))), cells6 (zs.set i ((b1, up1 (q + 1) vl.length, ve), (wb, wl, we))), cells6 (zs.set i ((b1, up1 (q + 1) vl.length, q + 1 + vl.length), (wb, wl, we))),
  cells6 (zs.set i ((b1, up1 (q + 1) vl.length, q + 1 + vl.length), (b2, wl, we))), cells6 (zs.set i ((b1, up1 (q + 1) vl.length, q + 1 + vl.length), (b2, up1 (q + 2 + vl.length + 1) wl.length, we))),
  _, _, rfl, rfl, ⟨?_, ?_⟩, ⟨?_, ?_, ?_⟩, ⟨?_, ?_⟩, ⟨?_, ?_⟩, ⟨?_, ?_, ?_⟩, ⟨?_, ?_⟩, ?_, ln _, ln _, ln _, ln _, ln _⟩
 ·intro j hj; obtain rfl : j = 0 := by omega
  rw [e0]; exact ⟨_, rfl⟩
 ·rw [e0, ← c6set]; rfl
 ·rw [el]; rfl
 ·rintro rfl; rfl
 ·rw [el]; exact (st _ ((b1, up1 (q + 1) vl.length, ve), (wb, wl, we))).symm
 ·intro j hj; obtain rfl : j = 0 := by omega
  rw [el]; exact ⟨_, rfl⟩
 ·rw [el]; exact st _ ((b1, up1 (q + 1) vl.length, q + 1 + vl.length), (wb, wl, we))
 ·intro j hj; obtain rfl : j = 0 := by omega
  rw [el]; exact ⟨_, rfl⟩
 ·rw [el]; exact st _ ((b1, up1 (q + 1) vl.length, q + 1 + vl.length), (b2, wl, we))
 ·rw [el]; rfl
 ·rintro rfl; rfl
 ·rw [el]; exact (st _ ((b1, up1 (q + 1) vl.length, q + 1 + vl.length), (b2, up1 (q + 2 + vl.length + 1) wl.length, we))).symm
 ·intro j hj; obtain rfl : j = 0 := by omega
  rw [el]; exact ⟨_, rfl⟩
 ·rw [el, c6set]; subst h1 h2; exact st _ (mark6 q vl.length wl.length)
 ·rw [c6len, hz]

end Go.Pe
