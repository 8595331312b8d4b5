/- Contracts: MatPoly in the program and in the reference. -/
import Derived.Test.YthmkdfmapdbenaaGreatDoorCM34
import Derived.Test.YthmkdfmapdbenaaGreatDoorCPeTc
import Derived.Test.YthmkdfmapdbenaaGreatDoorCM35
import Derived.Test.YthmkdfmapdbenaaGreatDoorCM37
import Derived.Test.YthmkdfmapdbenaaGreatDoorCM10
import Derived.Test.YthmkdfmapdbenaaGreatDoorCEvD
import Derived.Test.YthmkdfmapdbenaaGreatDoorCM7
namespace Go.Proofs
open Go Go.Pe Go.Dg
namespace Tryz
set_option linter.unusedSimpArgs false
set_option linter.unusedVariables false
variable {P : Program} {gl : List (Nat × Obj)}

/-- a set's numbers as integers -/
def bI (m r : Nat) : List Int := (bitsL m r).map fun a : Nat => (a : Int)

theorem bI_len (m r : Nat) : (bI m r).length = (bitsL m r).length := by simp [bI]
theorem bI_succ (m r : Nat) : bI (m + 1) r = bI m r ++ if bitOn r m = true then [(m : Int)] else [] := by
  unfold bI
  rw [bitsL_succ, List.map_append]
  congr 1
  split <;> rfl
theorem bI_get {m r k : Nat} (h : k < (bitsL m r).length) : (bI m r).getD k 0 = ((bitsL m r).getD k 0 : Nat) := by
  simp [bI, List.getD, h]

theorem map_range {α : Type} (l : List Nat) (f : Nat → α) : l.map f = (List.range l.length).map fun i => f (l.getD i 0) := by
  refine List.ext_getElem (by simp) fun a h1 h2 => ?_
  simp only [List.length_map] at h1
  simp [List.getD, h1]

theorem pick_rows {w r : Nat} (hw : w ≤ 4) (hr : r < 2 ^ w) (ys : List Cell3) : pickL (subI w r) ys = rowsY (fun i j => ys.getD ((bitsL w r).getD i 0 * w + (bitsL w r).getD j 0) noY) (cnt w r) (cnt w r) := by
  rw [(subI_eq hw hr).2]
  unfold pickL rowsY rowY
  rw [List.map_flatMap]
  have e : ∀ a : Nat, ((bitsL w r).map fun b => a * w + b).map (fun k => ys.getD k noY) = (List.range (cnt w r)).map fun j => ys.getD (a * w + (bitsL w r).getD j 0) noY := by
    intro a
    rw [List.map_map, map_range]
    rfl
  simp only [e]
  rw [List.flatMap_def, List.flatMap_def, map_range]
  rfl

set_option maxHeartbeats 1000000 in
set_option maxRecDepth 100000 in
theorem gridSub1_fs (C : Cx P gl) {ys : List Cell3} {l : List Int} {p q r : List PV} {n i j a b : Int} {s : Bool} {l0 : List Int} {e : Int} (hp : p = cells3 ys) (hq : q = intsL l) (hi : 0 ≤ i) (hj : 0 ≤ j) (hn : 0 ≤ n) (hn4 : n ≤ 4) (hil : i < l.length) (hjl : j < l.length)
    (hla : l.getD i.toNat 0 = a) (hlb : l.getD j.toNat 0 = b) (ha : 0 ≤ a) (hb : 0 ≤ b) (ha4 : a < n) (hb4 : b < n) (hyl : (ys.length : Int) = n * n) (hg : ys.getD (a * n + b).toNat noY = (s, l0, e)) (hr : r = intsL l0) :
    FS P gl 163 [I i, I j, .ptr [I n, .lst p] 0, .ptr [.lst q] 0] (· = .agg [B s, .lst r, I e]) := by
  have hk : a * n + b < n * n := by
    have : (a + 1) * n ≤ n * n := Int.mul_le_mul_of_nonneg_right (by omega) hn
    rw [Int.add_mul, Int.one_mul] at this
    omega
  have c1 := fun (P' : Program) (C' : Cx P' gl) => gridAt_fs C' hp ha hb hn hn4 (by omega) (by omega) (by omega) hg hr
  have hql : q.length = l.length := by rw [hq, ints_len]
  clear hp hyl hg hr hk
  obtain ⟨rfl, hG⟩ := C
  refine FS_ofT (args := fun A => [I i, I j, .ptr [I n, .lst p] 0, .ptr [.lst q] 0]) (R := fun A rr => rr = .agg [B s, .lst r, I e]) Tryz.hT Tryz.mix Tryz.func163 rfl rfl (Nat.le_of_ble_eq_true rfl) ?_
  generalize hP : Tryz.prog = P
  intro A hA
  have C : Tryz.Cx P gl := ⟨hP.symm, hG⟩
  have hI : intsL = A.ints := by subst hA; rfl
  have k1 : A.gi (A.el q (A.nat i)) 0 = a := by rw [← hla]; clear hla hlb c1; (subst hA; subst_vars; simp only [AR.std, natCast_eq, sG, reduceCtorEq] at *; try simp (disch := omega) only [AR.std, natCast_eq, sG, reduceCtorEq] at *)
  have k2 : A.gi (A.el q (A.nat j)) 0 = b := by rw [← hlb]; clear hla hlb c1 k1; (subst hA; subst_vars; simp only [AR.std, natCast_eq, sG, reduceCtorEq] at *; try simp (disch := omega) only [AR.std, natCast_eq, sG, reduceCtorEq] at *)
  clear hla hlb
  iterate 2 (all_goals try cbv; all_goals repeat' (first | with_reducible exact True.intro | with_reducible refine And.intro ?_ ?_ | intro _))
  all_goals try exact oG
  simp only [k1, k2]
  refine callS hA rfl (c1 P C) ?_; rintro _ rfl
  iterate 2 (all_goals try cbv; all_goals repeat' (first | with_reducible exact True.intro | with_reducible refine And.intro ?_ ?_ | intro _))
  all_goals try exact oG

set_option maxHeartbeats 1000000 in
set_option maxRecDepth 100000 in
theorem gridSub_fs (C : Cx P gl) {ys : List Cell3} {p r : List PV} {n c t : Int} {T : Nat} (hp : p = cells3 ys) (hn : 0 ≤ n) (hn4 : n ≤ 4) (hyl : (ys.length : Int) = n * n) (htT : t = T) (hT : T < 2 ^ n.toNat) (hc : c = cnt n.toNat T) (hr : r = cells3 (pickL (subI n.toNat T) ys)) :
    FS P gl 131 [.agg [I n, .lst p], I t] (· = .agg [I c, .lst r]) := by
  obtain ⟨w, hw⟩ : ∃ w, w = n.toNat := ⟨_, rfl⟩
  have hw4 : w ≤ 4 := by omega
  rw [← hw] at hT hc hr
  have hT16 : T < 16 := by
    have : 2 ^ w ≤ 2 ^ 4 := Nat.pow_le_pow_right (by decide) hw4
    omega
  have hcw : c ≤ w := by have := cnt_le w T; omega
  obtain ⟨q0, hq0⟩ : ∃ q, q = intsL (bI w T) := ⟨_, rfl⟩
  have hgo := fun (P' : Program) (C' : Cx P' gl) => gridOf2_fs C' (n := c) (f := 163) (a0 := [I n, .lst p]) (a1 := [.lst q0]) (p := r) (y := fun i j => ys.getD ((bitsL w T).getD i 0 * w + (bitsL w T).getD j 0) noY) (by omega) (by omega)
    (by rw [hr, pick_rows hw4 hT, hc]; rfl) (fun i j s l e u h1 h2 h3 h4 h5 h6 P' C' => by
      have hil : i.toNat < (bitsL w T).length := by unfold cnt at hc; omega
      have hjl : j.toNat < (bitsL w T).length := by unfold cnt at hc; omega
      have ma := bitsL_lt (getD_mem hil)
      have mb := bitsL_lt (getD_mem hjl)
      refine gridSub1_fs C' (l := bI w T) (a := ((bitsL w T).getD i.toNat 0 : Nat)) (b := ((bitsL w T).getD j.toNat 0 : Nat)) hp hq0 h1 h3 hn hn4 (by rw [bI_len]; omega) (by rw [bI_len]; omega) (bI_get hil) (bI_get hjl) (by omega) (by omega) (by omega) (by omega) hyl ?_ h6
      rw [← h5]
      congr 1
      have : n = (w : Int) := by omega
      rw [this, ← Int.natCast_mul, ← Int.natCast_add, Int.toNat_natCast])
  have hq0l : q0.length = (bitsL w T).length := by rw [hq0, ints_len, bI_len]
  have hstep : ∀ (i : Int) (q : List PV), 0 ≤ i → i < n → q = intsL (bI i.toNat T) → ∃ (b : Int) (q2 : List PV), b = ((T / 2 ^ i.toNat % 2 : Nat) : Int) ∧ (b = 1 → q2 = q ++ [I i]) ∧ (b ≠ 1 → q2 = q) ∧ q2 = intsL (bI (i + 1).toNat T) := by
    intro i q h1 h2 hq
    refine ⟨_, _, rfl, ?_, ?_, rfl⟩
    · intro h
      rw [show (i + 1).toNat = i.toNat + 1 by omega, bI_succ, if_pos (show bitOn T i.toNat = true from beq_iff_eq.2 (by omega)), hq, show ((i.toNat : Nat) : Int) = i by omega]
      exact (ints_app1 _ _).symm
    · intro h
      rw [show (i + 1).toNat = i.toNat + 1 by omega, bI_succ, if_neg (fun e : bitOn T i.toNat = true => h (by have := beq_iff_eq.1 e; omega)), List.append_nil, hq]
  have hlen : ∀ (i : Int) (q : List PV), 0 ≤ i → i ≤ n → q = intsL (bI i.toNat T) → q.length ≤ 4 := by
    intro i q h1 h2 hq
    rw [hq, ints_len, bI_len]
    have := bitsL_le i.toNat T
    omega
  have hend : ∀ q : List PV, q = intsL (bI n.toNat T) → q = q0 := by
    intro q h
    rw [h, hq0, hw]
  have hcq : (q0.length : Int) = c := by rw [hq0l, hc]; rfl
  clear hr hyl hp hq0 hc hq0l
  obtain ⟨rfl, hG⟩ := C
  refine FS_ofT (args := fun A => [.agg [I n, .lst p], I t]) (R := fun A rr => rr = .agg [I c, .lst r]) Tryz.hT Tryz.mix Tryz.func131 rfl rfl (Nat.le_of_ble_eq_true rfl) ?_
  generalize hP : Tryz.prog = P
  intro A hA
  have C : Tryz.Cx P gl := ⟨hP.symm, hG⟩
  have hI : intsL = A.ints := by subst hA; rfl
  iterate 2 (all_goals try cbv; all_goals repeat' (first | with_reducible exact True.intro | with_reducible refine And.intro ?_ ?_ | intro _))
  all_goals try exact oG
  refine loopI hA [.cell 2 0 3 1] (ι := Int × List PV) (fun x => [(9, .pv (I x.1))]) (fun x => [(3, .row 3 1 x.2)]) (fun x => (n - x.1).toNat) (fun x => 0 ≤ x.1 ∧ x.1 ≤ n ∧ x.2 = intsL (bI x.1.toNat T)) (0, []) (by rfl) ?_ ?_ ?_
  all_goals try exact tG
  · exact ⟨Int.le_refl _, hn, rfl⟩
  rintro ⟨i, q⟩ ⟨hi0, hi1, hq⟩
  simp only at hi0 hi1 hq
  have hql := hlen i q hi0 hi1 hq
  have hout : ∀ _ : Unit, i = n → q = q0 := by
    intro _ h
    rw [h] at hq
    exact hend q hq
  have hs : ∀ _ : Unit, i < n → ∃ (b : Int) (q2 : List PV), b = ((T / 2 ^ i.toNat % 2 : Nat) : Int) ∧ (b = 1 → q2 = q ++ [I i]) ∧ (b ≠ 1 → q2 = q) ∧ q2 = intsL (bI (i + 1).toNat T) := fun _ h => hstep i q hi0 h hq
  clear hq hend hlen hstep
  iterate 2 (all_goals try cbv; all_goals repeat' (first | with_reducible exact True.intro | with_reducible refine And.intro ?_ ?_ | intro _))
  all_goals try exact oG
  · rename_i g g2
    have gi : i < n := by clear hs hout g2 hcq; (subst hA; subst_vars; simp only [AR.std, natCast_eq, sG, reduceCtorEq] at *; try simp (disch := omega) only [AR.std, natCast_eq, sG, reduceCtorEq] at *); omega
    obtain ⟨b, q2, b1, b2, b3, b4⟩ := hs () gi
    have hbs : A.band .i64 (A.shr .i64 t i) 1 = b := (bit_std hA T htT hT16 hi0 (by omega)).trans b1.symm
    simp only [hbs] at g2
    have gb : b = 1 := by clear hs hout g b1 b2 b3 b4 hcq hbs; (subst hA; subst_vars; simp only [AR.std, natCast_eq, sG, reduceCtorEq] at *; try simp (disch := omega) only [AR.std, natCast_eq, sG, reduceCtorEq] at *); assumption
    have hi2 : i + 1 ≤ n := by omega
    have b5 := b2 gb
    have hra : A.app q [I i] = q2 := by rw [b5]; subst hA; rfl
    clear hs hout g g2 b1 b2 b3 b5 hbs gb
    iterate 2 (all_goals try cbv; all_goals repeat' (first | with_reducible exact True.intro | with_reducible refine And.intro ?_ ?_ | intro _))
    all_goals try exact oG
    all_goals try exact okA_of hA (ints_ok [i])
    all_goals try exact cap_of hA (by simp only [List.length_singleton]; omega)
    simp only [hra]
    clear hra
    obtain ⟨y1, hy1⟩ : ∃ y, y = i + 1 := ⟨_, rfl⟩
    obtain ⟨y2, hy2⟩ : ∃ y, y = q2 := ⟨_, rfl⟩
    refine ⟨⟨(y1, y2), ?_⟩, ?_, ?_⟩
    rotate_left
    · cbv
      exact nG
    · (subst hA; subst_vars; simp only [AR.std, natCast_eq, sG, reduceCtorEq] at *; try simp (disch := omega) only [AR.std, natCast_eq, sG, reduceCtorEq] at *); omega
    · rw [hy1, hy2]
      exact ⟨by simp only; omega, hi2, b4⟩
  · rename_i g g2
    have gi : i < n := by clear hs hout g2 hcq; (subst hA; subst_vars; simp only [AR.std, natCast_eq, sG, reduceCtorEq] at *; try simp (disch := omega) only [AR.std, natCast_eq, sG, reduceCtorEq] at *); omega
    obtain ⟨b, q2, b1, b2, b3, b4⟩ := hs () gi
    have hbs : A.band .i64 (A.shr .i64 t i) 1 = b := (bit_std hA T htT hT16 hi0 (by omega)).trans b1.symm
    simp only [hbs] at g2
    have gb : b ≠ 1 := by clear hs hout g b1 b2 b3 b4 hcq hbs; (subst hA; subst_vars; simp only [AR.std, natCast_eq, sG, reduceCtorEq] at *; try simp (disch := omega) only [AR.std, natCast_eq, sG, reduceCtorEq] at *); assumption
    have hi2 : i + 1 ≤ n := by omega
    have b5 := b3 gb
    rw [b5] at b4
    clear hs hout g g2 b1 b2 b3 b5 hbs gb
    iterate 2 (all_goals try cbv; all_goals repeat' (first | with_reducible exact True.intro | with_reducible refine And.intro ?_ ?_ | intro _))
    all_goals try exact oG
    obtain ⟨y1, hy1⟩ : ∃ y, y = i + 1 := ⟨_, rfl⟩
    obtain ⟨y2, hy2⟩ : ∃ y, y = q := ⟨_, rfl⟩
    refine ⟨⟨(y1, y2), ?_⟩, ?_, ?_⟩
    rotate_left
    · cbv
      exact nG
    · (subst hA; subst_vars; simp only [AR.std, natCast_eq, sG, reduceCtorEq] at *; try simp (disch := omega) only [AR.std, natCast_eq, sG, reduceCtorEq] at *); omega
    · rw [hy1, hy2]
      exact ⟨by simp only; omega, hi2, b4⟩
  · rename_i g
    have e := hout () (by clear hs hout hcq; (subst hA; subst_vars; simp only [AR.std, natCast_eq, sG, reduceCtorEq] at *; try simp (disch := omega) only [AR.std, natCast_eq, sG, reduceCtorEq] at *); omega)
    have hcl : A.cast (A.len q) = c := by rw [e, ← hcq]; subst hA; rfl
    clear hs hout g hcq
    iterate 2 (all_goals try cbv; all_goals repeat' (first | with_reducible exact True.intro | with_reducible refine And.intro ?_ ?_ | intro _))
    all_goals try exact oG
    simp only [hcl]
    subst e
    refine callS hA rfl (hgo P C) ?_; rintro _ rfl
    iterate 2 (all_goals try cbv; all_goals repeat' (first | with_reducible exact True.intro | with_reducible refine And.intro ?_ ?_ | intro _))
    all_goals try exact oG

end Tryz
end Go.Proofs

namespace Go.Proofs
open Go Go.Pe Go.Dg
namespace Tryz
set_option linter.unusedSimpArgs false
set_option linter.unusedVariables false
variable {P : Program} {gl : List (Nat × Obj)}

/-- a set taken in: what is called -/
def polyStep (gl : List (Nat × Obj)) (n : Int) (ys : List Cell3) (s : Nat) (z z' : List Cell3) : Prop := ∃ dt sg y : Cell3, (∀ (P : Program) (q u : List PV) (c : Int), Cx P gl → c = cnt n.toNat s → q = cells3 (pickL (subI n.toNat s) ys) → u = intsL dt.2.1 → FS P gl 70 [.agg [I c, .lst q]] (· = .agg [B dt.1, .lst u, I dt.2.2])) ∧
  (∀ (P : Program) (u v : List PV) (k' : Int), Cx P gl → k' = cnt n.toNat s → u = intsL dt.2.1 → v = intsL sg.2.1 → FS P gl 122 [.agg [B dt.1, .lst u, I dt.2.2], I k'] (· = .agg [B sg.1, .lst v, I sg.2.2])) ∧
  callP gl 102 (z.getD (n.toNat - cnt n.toNat s) noY) sg y ∧ z' = z.set (n.toNat - cnt n.toNat s) y

set_option maxHeartbeats 1000000 in
set_option maxRecDepth 100000 in
theorem gridPoly_fs (C : Cx P gl) {ys : List Cell3} {p r : List PV} {n : Int} {c : Nat → List Cell3} (hp : p = cells3 ys) (hn : 1 ≤ n) (hn4 : n ≤ 4) (hyl : (ys.length : Int) = n * n) (hc0 : c 0 = List.replicate (n.toNat + 1) noY)
    (hcl : ∀ s, s ≤ 2 ^ n.toNat → (c s).length = n.toNat + 1) (hr : r = cells3 (c (2 ^ n.toNat))) (hst : ∀ s, s < 2 ^ n.toNat → polyStep gl n ys s (c s) (c (s + 1))) :
    FS P gl 85 [.agg [I n, .lst p]] (· = .lst r) := by
  obtain ⟨w, hw⟩ : ∃ w, w = n.toNat := ⟨_, rfl⟩
  have hw4 : w ≤ 4 := by omega
  obtain ⟨M, hM⟩ : ∃ M : Nat, M = 2 ^ w := ⟨_, rfl⟩
  obtain ⟨N2, hN2⟩ : ∃ N2 : Int, N2 = ((2 ^ n.toNat : Nat) : Int) := ⟨_, rfl⟩
  have hN16 : N2 ≤ 16 := by
    have : 2 ^ w ≤ 2 ^ 4 := Nat.pow_le_pow_right (by decide) hw4
    rw [hN2, ← hw]; omega
  have hN0 : 0 ≤ N2 := by rw [hN2]; exact Int.natCast_nonneg _
  obtain ⟨m1, hm1⟩ : ∃ m1, m1 = n + 1 := ⟨_, rfl⟩
  obtain ⟨u0, hu0⟩ : ∃ u, u = cells3 (c 0) := ⟨_, rfl⟩
  have hu1 : u0 = cells3 (List.replicate m1.toNat noY) := by rw [hu0, hc0, hm1, show (n + 1).toNat = n.toNat + 1 by omega]
  have hstep : ∀ (s : Int) (q : List PV), 0 ≤ s → s < N2 → q = cells3 (c s.toNat) → ∃ (s1 s2 s3 s4 : Bool) (e1 e2 e3 e4 cc kk : Int) (u1 u2 u3 u4 v q2 : List PV) (zs : List Cell3), q = cells3 zs ∧ kk.toNat < zs.length ∧ kk = n - cc ∧ 0 ≤ kk ∧ 0 ≤ cc ∧ cc ≤ 4 ∧
      ((zs.getD kk.toNat noY).1 = s1 ∧ intsL (zs.getD kk.toNat noY).2.1 = u1 ∧ (zs.getD kk.toNat noY).2.2 = e1) ∧
      (∀ P', Cx P' gl → FS P' gl 131 [.agg [I n, .lst p], I s] (· = .agg [I cc, .lst v])) ∧ (∀ P', Cx P' gl → FS P' gl 70 [.agg [I cc, .lst v]] (· = .agg [B s2, .lst u2, I e2])) ∧
      (∀ P', Cx P' gl → FS P' gl 122 [.agg [B s2, .lst u2, I e2], I cc] (· = .agg [B s3, .lst u3, I e3])) ∧
      (∀ P', Cx P' gl → FS P' gl 102 [.agg [B s1, .lst u1, I e1], .agg [B s3, .lst u3, I e3]] (· = .agg [B s4, .lst u4, I e4])) ∧
      q2 = q.set kk.toNat (.agg [B s4, .lst u4, I e4]) ∧ q2 = cells3 (c (s + 1).toNat) := by
    intro s q h1 h2 hq
    have hsl : s.toNat < 2 ^ n.toNat := by omega
    obtain ⟨dt, sg, y, g1, g2, g3, g4⟩ := hst s.toNat hsl
    have hcc := cnt_le n.toNat s.toNat
    obtain ⟨k, hk⟩ : ∃ k, k = n.toNat - cnt n.toNat s.toNat := ⟨_, rfl⟩
    rw [← hk] at g3 g4
    have hkk : (n - (cnt n.toNat s.toNat : Int)).toNat = k := by omega
    refine ⟨_, _, _, _, _, _, _, _, (cnt n.toNat s.toNat : Int), n - (cnt n.toNat s.toNat : Int), _, _, _, _, _, _, c s.toNat, hq, by rw [hcl _ (by omega)]; omega, rfl, by omega, by omega, by omega, ⟨rfl, rfl, rfl⟩,
      fun P' C' => gridSub_fs C' hp (by omega) hn4 hyl (by omega) hsl rfl rfl, fun P' C' => g1 P' _ _ _ C' rfl rfl rfl, fun P' C' => g2 P' _ _ _ C' rfl rfl rfl, fun P' C' => by rw [hkk]; exact g3 P' _ _ _ C' rfl rfl rfl, rfl, ?_⟩
    rw [show (s + 1).toNat = s.toNat + 1 by omega, g4, ← c3set, hkk, hq]
    rfl
  have hlen : ∀ (s : Int) (q : List PV), 0 ≤ s → s ≤ N2 → q = cells3 (c s.toNat) → q.length = n.toNat + 1 := by
    intro s q h1 h2 hq
    rw [hq, cells3_len, hcl _ (by omega)]
  have hend : ∀ q : List PV, q = cells3 (c N2.toNat) → q = r := by
    intro q h
    rw [h, hr, hN2, Int.toNat_natCast]
  have hN2' : ∀ _ : Unit, N2 = ((2 ^ n.toNat : Nat) : Int) := fun _ => hN2
  clear hyl hp hcl hr hst hM hN2 hc0 hw
  obtain ⟨rfl, hG⟩ := C
  refine FS_ofT (args := fun A => [.agg [I n, .lst p]]) (R := fun A rr => rr = .lst r) Tryz.hT Tryz.mix Tryz.func85 rfl rfl (Nat.le_of_ble_eq_true rfl) ?_
  generalize hP : Tryz.prog = P
  intro A hA
  have C : Tryz.Cx P gl := ⟨hP.symm, hG⟩
  have hI : intsL = A.ints := by subst hA; rfl
  have hadd : A.add .i64 n 1 = m1 := by rw [hm1]; subst hA; exact wrapi (by omega) (by omega)
  have hshl : A.shl .i64 1 n = N2 := (shl_std hA (by omega) hn4).trans (hN2' ()).symm
  have hrep : A.rep m1 (.agg [B false, .lst [], I 0]) = u0 := by
    rw [hu1]; subst hA
    show List.replicate m1.toNat (cell3 noY) = _
    rw [c3rep]
  clear hu1 hN2'
  iterate 2 (all_goals try cbv; all_goals repeat' (first | with_reducible exact True.intro | with_reducible refine And.intro ?_ ?_ | intro _))
  all_goals try exact oG
  all_goals try simp only [hadd]
  iterate 2 (all_goals try cbv; all_goals repeat' (first | with_reducible exact True.intro | with_reducible refine And.intro ?_ ?_ | intro _))
  all_goals try exact oG
  all_goals try simp only [hrep, hshl]
  clear hadd hshl hrep
  refine loopI hA [] (ι := Int × List PV) (fun x => [(14, .pv (I x.1)), (3, .own 1)]) (fun x => [(1, .row 73 3 x.2)]) (fun x => (N2 - x.1).toNat) (fun x => 0 ≤ x.1 ∧ x.1 ≤ N2 ∧ x.2 = cells3 (c x.1.toNat)) (0, u0) (by rfl) ?_ ?_ ?_
  all_goals try exact tG
  · exact ⟨Int.le_refl _, hN0, hu0⟩
  rintro ⟨s, q⟩ ⟨hs0, hs1, hq⟩
  simp only at hs0 hs1 hq
  have hql := hlen s q hs0 hs1 hq
  have hout : ∀ _ : Unit, s = N2 → q = r := by
    intro _ h
    rw [h] at hq
    exact hend q hq
  have hs : ∀ _ : Unit, s < N2 → _ := fun _ h => hstep s q hs0 h hq
  clear hq hstep hlen hend hu0
  iterate 2 (all_goals try cbv; all_goals repeat' (first | with_reducible exact True.intro | with_reducible refine And.intro ?_ ?_ | intro _))
  all_goals try exact oG
  · rename_i g
    have gs : s < N2 := by clear hs hout; (subst hA; subst_vars; simp only [AR.std, natCast_eq, sG, reduceCtorEq] at *; try simp (disch := omega) only [AR.std, natCast_eq, sG, reduceCtorEq] at *); omega
    obtain ⟨s1, s2, s3, s4, e1, e2, e3, e4, cc, kk, u1, u2, u3, u4, v, q2, zs, z1, z2, z3, z4, z5, z6, ⟨g1, g2, g3⟩, c1, c2, c3, c4, x1, x2⟩ := hs () gs
    have hs2 : s + 1 ≤ N2 := by omega
    have hkl : kk.toNat < q.length := by rw [z1, cells3_len]; exact z2
    have hsub : A.sub .i64 n cc = kk := by rw [z3]; clear hs hout g1 g2 g3 c1 c2 c3 c4 x1 x2 g; subst hA; exact wrapi (by omega) (by omega)
    have k1 : A.gb (A.el q (A.nat kk)) 0 = s1 := by rw [← g1]; clear hs hout g1 g2 g3 c1 c2 c3 c4 x1 x2 g hsub hql hkl; (subst hA; subst_vars; simp only [AR.std, natCast_eq, sG, reduceCtorEq] at *; try simp (disch := omega) only [AR.std, natCast_eq, sG, reduceCtorEq] at *)
    have k2 : A.gl (A.el q (A.nat kk)) 1 = u1 := by rw [← g2]; clear hs hout g1 g2 g3 c1 c2 c3 c4 x1 x2 g hsub hql hkl k1; (subst hA; subst_vars; simp only [AR.std, natCast_eq, sG, reduceCtorEq] at *; try simp (disch := omega) only [AR.std, natCast_eq, sG, reduceCtorEq] at *)
    have k3 : A.gi (A.el q (A.nat kk)) 2 = e1 := by rw [← g3]; clear hs hout g1 g2 g3 c1 c2 c3 c4 x1 x2 g hsub hql hkl k1 k2; (subst hA; subst_vars; simp only [AR.std, natCast_eq, sG, reduceCtorEq] at *; try simp (disch := omega) only [AR.std, natCast_eq, sG, reduceCtorEq] at *)
    have hpq : A.peq true 0 3 (A.el q (A.nat kk)) (.agg [B s1, .lst u1, I e1]) := peq_of hA (by rw [← g1, ← g2, ← g3]; clear hs hout g1 g2 g3 c1 c2 c3 c4 x1 x2 g hsub hql hkl k1 k2 k3; (subst hA; subst_vars; simp only [AR.std, natCast_eq, sG, reduceCtorEq] at *; try simp (disch := omega) only [AR.std, natCast_eq, sG, reduceCtorEq] at *))
    have hset : A.set q (A.nat kk) (.agg [B s4, .lst u4, I e4]) = q2 := by rw [x1]; subst hA; rfl
    clear hs hout g g1 g2 g3 x1 z1 z2
    refine callS hA rfl (c1 P C) ?_; rintro _ rfl
    iterate 2 (all_goals try cbv; all_goals repeat' (first | with_reducible exact True.intro | with_reducible refine And.intro ?_ ?_ | intro _))
    all_goals try exact oG
    all_goals try simp only [hsub, k1, k2, k3]
    iterate 2 (all_goals try cbv; all_goals repeat' (first | with_reducible exact True.intro | with_reducible refine And.intro ?_ ?_ | intro _))
    all_goals try exact oG
    all_goals try simp only [hsub, k1, k2, k3]
    all_goals try exact hpq
    refine ⟨_, c2 P C, ?_⟩
    iterate 2 (all_goals try cbv; all_goals repeat' (first | with_reducible exact True.intro | with_reducible refine And.intro ?_ ?_ | intro _))
    all_goals try exact oG
    refine ⟨_, c3 P C, ?_⟩
    iterate 2 (all_goals try cbv; all_goals repeat' (first | with_reducible exact True.intro | with_reducible refine And.intro ?_ ?_ | intro _))
    all_goals try exact oG
    refine ⟨_, c4 P C, ?_⟩
    iterate 2 (all_goals try cbv; all_goals repeat' (first | with_reducible exact True.intro | with_reducible refine And.intro ?_ ?_ | intro _))
    all_goals try exact oG
    simp only [hset]
    clear c1 c2 c3 c4 hsub k1 k2 k3 hset
    obtain ⟨y1, hy1⟩ : ∃ y, y = s + 1 := ⟨_, rfl⟩
    obtain ⟨y2, hy2⟩ : ∃ y, y = q2 := ⟨_, rfl⟩
    refine ⟨⟨(y1, y2), ?_⟩, ?_, ?_⟩
    rotate_left
    · cbv
      exact nG
    · (subst hA; subst_vars; simp only [AR.std, natCast_eq, sG, reduceCtorEq] at *; try simp (disch := omega) only [AR.std, natCast_eq, sG, reduceCtorEq] at *); omega
    · rw [hy1, hy2]
      exact ⟨by simp only; omega, hs2, x2⟩
  · rename_i g
    have e := hout () (by clear hs hout; (subst hA; subst_vars; simp only [AR.std, natCast_eq, sG, reduceCtorEq] at *; try simp (disch := omega) only [AR.std, natCast_eq, sG, reduceCtorEq] at *); omega)
    rw [e]

/-- the characteristic polynomial -/
theorem gridPoly_ex {ys : List Cell3} {d : Nat → Dyadic} {n : Int} (h1 : XL d 100 3000 ys) (hn : 1 ≤ n) (hn4 : n ≤ 4) (hyl : (ys.length : Int) = n * n) :
    ∃ ws, ws.length = n.toNat + 1 ∧ XL (polyP n.toNat d (2 ^ n.toNat)) 400000 12000 ws ∧
      ∀ (P : Program) (gl : List (Nat × Obj)) (p r : List PV), Cx P gl → p = cells3 ys → r = cells3 ws → FS P gl 85 [.agg [I n, .lst p]] (· = .lst r) := by
  have hnn : n * n = ((n.toNat * n.toNat : Nat) : Int) := by rw [Int.natCast_mul, Int.toNat_of_nonneg (by omega)]
  obtain ⟨w, hw⟩ : ∃ w, w = n.toNat := ⟨_, rfl⟩
  rw [← hw] at hnn
  have hw4 : w ≤ 4 := by omega
  have h16 : 2 ^ w ≤ 16 := Nat.pow_le_pow_right (by decide) hw4
  obtain ⟨c, c0, cs, ci⟩ := chainG (α := List Cell3) (I := fun s z => z.length = w + 1 ∧ ∀ k, k < w + 1 → X (polyP w d s k) (200001 + s * 12002) 12000 (z.getD k noY)) (Q := fun s z z' => ∀ gl, polyStep gl n ys s z z') (z0 := List.replicate (w + 1) noY)
    ⟨by simp, fun k hk => by
      have : (List.replicate (w + 1) noY).getD k noY = noY := by simp [List.getD, hk]
      rw [this]; exact X_zero⟩ (n := 2 ^ w) (by
      intro s z hs ⟨hz, hx⟩
      have hle : s * 12002 ≤ 16 * 12002 := Nat.mul_le_mul_right _ (by omega)
      have hcw := cnt_le w s
      obtain ⟨dt, dx, dc⟩ := gridDet_ex' (cnt w s) (by omega) (pick_XL (I := subI w s) h1 (fun k hk => by have := subI_lt hk; omega)) (by rw [pickL_len, (subI_eq hw4 hs).1])
      have dx2 := dx.mono (L' := 200001) (E' := 12000) (by omega) (by omega)
      obtain ⟨sg, sx, sc⟩ := xSigned dx2 (by omega) (cnt w s) (by omega)
      obtain ⟨y, yx, yc⟩ := xPlus (hx (w - cnt w s) (by omega)) (sx.mono (L' := 200001 + s * 12002) (by omega) (Nat.le_refl _)) (by omega) (by omega)
      refine ⟨z.set (w - cnt w s) y, fun gl => ⟨dt, sg, y, ?_, ?_, ?_, by rw [← hw]⟩, by rw [List.length_set]; exact hz, fun k hk => ?_⟩
      · intro P q u c C h1 h2 h3
        rw [← hw] at h1 h2
        exact dc P gl q u c C h1 h2 h3
      · intro P u v k' C h1 h2 h3
        rw [← hw] at h1
        exact sc P gl u v k' C h1 h2 h3
      · rw [← hw]
        exact fun P p q r C h3 h4 h5 => yc P gl p q r C h3 h4 h5
      · show X (if w - cnt w s = k then polyP w d s k + polyT w d s else polyP w d s k) _ _ _
        by_cases hk2 : w - cnt w s = k
        · rw [if_pos hk2, ← hk2, getD_set_self _ (by omega)]
          exact yx.mono (by rw [Nat.add_mul, Nat.one_mul]; omega) (Nat.le_refl _)
        · rw [if_neg hk2, List.getD, List.getElem?_set_ne hk2, ← List.getD]
          exact (hx k hk).mono (by rw [Nat.add_mul, Nat.one_mul]; omega) (Nat.le_refl _))
  subst hw
  obtain ⟨i1, i2⟩ := ci (2 ^ n.toNat) (Nat.le_refl _)
  refine ⟨c (2 ^ n.toNat), i1, fun k hk => (i2 k (by omega)).mono (by omega) (Nat.le_refl _), ?_⟩
  intro P gl p r C hp hr
  exact gridPoly_fs C hp hn hn4 hyl c0 (fun s hs => (ci s hs).1) hr (fun s hs => cs s hs gl)

end Tryz
end Go.Proofs

namespace Go.Proofs
open Go Go.Pe Go.Dg
namespace Tryz
set_option linter.unusedSimpArgs false
set_option linter.unusedVariables false
variable {P : Program} {gl : List (Nat × Obj)}

set_option maxHeartbeats 1000000 in
set_option maxRecDepth 100000 in
theorem l9rows_fs (C : Cx P gl) {ys : List Cell3} {p r : List PV} {n t c : Int} {T : Nat} (hp : p = cells3 ys) (hn : 1 ≤ n) (hn4 : n ≤ 4) (hyl : (ys.length : Int) = n * n) (htT : t = T) (hT : T < 2 ^ n.toNat) (hc : c = cnt n.toNat T) (hc0 : c ≠ 0) (hr : r = cells3 (pickL (subI n.toNat T) ys)) :
    FS P gl 130 [.agg [I n, .lst p], I t, I t] (· = .tup [.agg [I c, .lst r], B true]) := by
  obtain ⟨w, hw⟩ : ∃ w, w = n.toNat := ⟨_, rfl⟩
  obtain ⟨N, hN⟩ : ∃ N, N = ys.length := ⟨_, rfl⟩
  rw [← hw] at hr hT hc
  have hnn : n * n = ((w * w : Nat) : Int) := by rw [hw, Int.natCast_mul, Int.toNat_of_nonneg (by omega)]
  have hw4 : w ≤ 4 := by omega
  have hT16 : T < 16 := by
    have : 2 ^ w ≤ 2 ^ 4 := Nat.pow_le_pow_right (by decide) hw4
    omega
  have hmul : ∀ i j : Int, 0 ≤ i → 0 ≤ j → i < n → j < n → (i * n + j).toNat = i.toNat * w + j.toNat ∧ 0 ≤ i * n ∧ i * n ≤ 16 ∧ i * n + j < N := by
    intro i j h1 h2 h3 h4
    have hww : w * w ≤ 4 * 4 := Nat.mul_le_mul hw4 hw4
    have e1 : i * n = ((i.toNat * w : Nat) : Int) := by rw [Int.natCast_mul, hw, Int.toNat_of_nonneg h1, Int.toNat_of_nonneg (by omega)]
    have := place_lt (n := w) (i := i.toNat) (j := j.toNat) (by omega) (by omega)
    omega
  have hpl : p.length = N := by rw [hp, cells3_len, hN]
  -- counting
  have hcnt : ∀ (i x : Int), 0 ≤ i → x = ((bitsL i.toNat T).length : Nat) → ∃ b : Int, b = ((T / 2 ^ i.toNat % 2 : Nat) : Int) ∧ 0 ≤ x ∧ x ≤ i ∧ 0 ≤ b ∧ b ≤ 1 ∧ x + b = ((bitsL (i + 1).toNat T).length : Nat) := by
    intro i x h1 hx
    have := bitsL_le i.toNat T
    refine ⟨_, rfl, by omega, by omega, by omega, by omega, ?_⟩
    rw [show (i + 1).toNat = i.toNat + 1 by omega, bitsL_len_succ, hx, Int.natCast_add]
  have hce : ∀ x : Int, x = ((bitsL n.toNat T).length : Nat) → x = c := by
    intro x h
    rw [h, hc, hw]; rfl
  -- filling
  have hstep : ∀ (i j : Int) (q : List PV), 0 ≤ i → 0 ≤ j → i < n → j < n → q = cells3 (pickL (subP w T (i.toNat * w + j.toNat)) ys) → ∃ (x b1 b2 : Int) (s : Bool) (e : Int) (u q2 : List PV), b1 = ((T / 2 ^ i.toNat % 2 : Nat) : Int) ∧ b2 = ((T / 2 ^ j.toNat % 2 : Nat) : Int) ∧ x = i * n + j ∧ 0 ≤ x ∧ x < N ∧
      ((ys.getD x.toNat noY).1 = s ∧ intsL (ys.getD x.toNat noY).2.1 = u ∧ (ys.getD x.toNat noY).2.2 = e) ∧
      (b1 = 1 ∧ b2 = 1 → q2 = q ++ [.agg [B s, .lst u, I e]]) ∧ (¬(b1 = 1 ∧ b2 = 1) → q2 = q) ∧ q2 = cells3 (pickL (subP w T (i.toNat * w + (j + 1).toNat)) ys) := by
    intro i j q h1 h2 h3 h4 hq
    obtain ⟨m1, m2, m3, m4⟩ := hmul i j h1 h2 h3 h4
    refine ⟨i * n + j, _, _, _, _, _, _, rfl, rfl, rfl, by omega, m4, ⟨rfl, rfl, rfl⟩, ?_, ?_, rfl⟩
    · intro h
      rw [show (j + 1).toNat = j.toNat + 1 by omega, ← Nat.add_assoc, subP_succ (by omega), if_pos (show bitOn T i.toNat = true ∧ bitOn T j.toNat = true from ⟨beq_iff_eq.2 (by omega), beq_iff_eq.2 (by omega)⟩), m1, hq]
      unfold pickL
      rw [List.map_append, ← c3app]
      rfl
    · intro h
      rw [show (j + 1).toNat = j.toNat + 1 by omega, ← Nat.add_assoc, subP_succ (by omega), if_neg (show ¬(bitOn T i.toNat = true ∧ bitOn T j.toNat = true) from fun e => h (by have := beq_iff_eq.1 e.1; have := beq_iff_eq.1 e.2; omega)), List.append_nil, hq]
  have hrow : ∀ i : Int, 0 ≤ i → i.toNat * w + w = (i + 1).toNat * w := by
    intro i h
    rw [show (i + 1).toNat = i.toNat + 1 by omega, Nat.add_mul, Nat.one_mul]
  have hlen : ∀ (i j : Int) (q : List PV), 0 ≤ i → 0 ≤ j → i < n → j ≤ n → q = cells3 (pickL (subP w T (i.toNat * w + j.toNat)) ys) → q.length ≤ 20 := by
    intro i j q h1 h2 h3 h4 hq
    rw [hq, cells3_len, pickL_len]
    refine Nat.le_trans (List.length_filter_le _ _) ?_
    have : i.toNat * w ≤ 3 * 4 := Nat.mul_le_mul (by omega) (by omega)
    rw [List.length_range]
    omega
  have hend : ∀ q : List PV, q = cells3 (pickL (subP w T (n.toNat * w)) ys) → q = r := by
    intro q h
    rw [h, hr, ← hw]; rfl
  have hbnd : ∀ i j : Int, 0 ≤ i → 0 ≤ j → i < n → j < n → 0 ≤ i * n ∧ i * n ≤ 16 ∧ i * n + j < N := fun i j h1 h2 h3 h4 => (hmul i j h1 h2 h3 h4).2
  clear hr hyl hnn hmul hc hT
  obtain ⟨rfl, hG⟩ := C
  refine FS_ofT (args := fun A => [.agg [I n, .lst p], I t, I t]) (R := fun A rr => rr = .tup [.agg [I c, .lst r], B true]) Tryz.hT Tryz.mix Tryz.func130 rfl rfl (Nat.le_of_ble_eq_true rfl) ?_
  generalize hP : Tryz.prog = P
  intro A hA
  have C : Tryz.Cx P gl := ⟨hP.symm, hG⟩
  have hI : intsL = A.ints := by subst hA; rfl
  iterate 2 (all_goals try cbv; all_goals repeat' (first | with_reducible exact True.intro | with_reducible refine And.intro ?_ ?_ | intro _))
  all_goals try exact oG
  refine loopI hA [] (ι := Int × Int) (fun x => [(11, .pv (I x.1)), (9, .pv (I x.2)), (10, .pv (I x.2))]) (fun x => []) (fun x => (n - x.1).toNat) (fun x => 0 ≤ x.1 ∧ x.1 ≤ n ∧ x.2 = ((bitsL x.1.toNat T).length : Nat)) (0, 0) (by rfl) ?_ ?_ ?_
  all_goals try exact tG
  · exact ⟨Int.le_refl _, by omega, rfl⟩
  rintro ⟨i, x⟩ ⟨hi0, hi1, hx⟩
  simp only at hi0 hi1 hx
  have hxc : ∀ _ : Unit, i = n → x = c := by
    intro _ h
    rw [h] at hx
    exact hce x hx
  have hxs : ∀ _ : Unit, ∃ b : Int, b = ((T / 2 ^ i.toNat % 2 : Nat) : Int) ∧ 0 ≤ x ∧ x ≤ i ∧ 0 ≤ b ∧ b ≤ 1 ∧ x + b = ((bitsL (i + 1).toNat T).length : Nat) := fun _ => hcnt i x hi0 hx
  clear hx hcnt hce
  iterate 2 (all_goals try cbv; all_goals repeat' (first | with_reducible exact True.intro | with_reducible refine And.intro ?_ ?_ | intro _))
  all_goals try exact oG
  iterate 2 (all_goals try cbv; all_goals repeat' (first | with_reducible exact True.intro | with_reducible refine And.intro ?_ ?_ | intro _))
  all_goals try exact oG
  · rename_i g
    have gi : i < n := by clear hxs hxc hstep hrow hlen hend hbnd hp; (subst hA; subst_vars; simp only [AR.std, natCast_eq, sG, reduceCtorEq] at *; try simp (disch := omega) only [AR.std, natCast_eq, sG, reduceCtorEq] at *); omega
    obtain ⟨b, b1, b2, b3, b4, b5, b6⟩ := hxs ()
    have hbs : A.band .i64 (A.shr .i64 t i) 1 = b := (bit_std hA T htT hT16 hi0 (by omega)).trans b1.symm
    have hab : A.add .i64 x b = x + b := by subst hA; exact wrapi (by omega) (by omega)
    have hi2 : i + 1 ≤ n := by omega
    clear hxs hxc hstep hrow hlen hend hbnd hp g b1
    simp only [hbs, hab]
    obtain ⟨y1, hy1⟩ : ∃ y, y = i + 1 := ⟨_, rfl⟩
    obtain ⟨y2, hy2⟩ : ∃ y, y = x + b := ⟨_, rfl⟩
    refine ⟨⟨(y1, y2), ?_⟩, ?_, ?_⟩
    rotate_left
    · cbv
      exact nG
    · (subst hA; subst_vars; simp only [AR.std, natCast_eq, sG, reduceCtorEq] at *; try simp (disch := omega) only [AR.std, natCast_eq, sG, reduceCtorEq] at *); omega
    · rw [hy1, hy2]
      exact ⟨by simp only; omega, hi2, b6⟩
  · rename_i g g2
    exfalso
    have gi : i = n := by clear hxs hxc hstep hrow hlen hend hbnd hp g2; (subst hA; subst_vars; simp only [AR.std, natCast_eq, sG, reduceCtorEq] at *; try simp (disch := omega) only [AR.std, natCast_eq, sG, reduceCtorEq] at *); omega
    have e := hxc () gi
    clear hxs hxc hstep hrow hlen hend hbnd hp g
    subst hA
    subst_vars
    simp only [AR.std, natCast_eq, sG, reduceCtorEq] at *
    try simp (disch := omega) only [AR.std, natCast_eq, sG, reduceCtorEq] at *
    omega
  · rename_i g g2
    have gi : i = n := by clear hxs hxc hstep hrow hlen hend hbnd hp g2; (subst hA; subst_vars; simp only [AR.std, natCast_eq, sG, reduceCtorEq] at *; try simp (disch := omega) only [AR.std, natCast_eq, sG, reduceCtorEq] at *); omega
    have e := hxc () gi
    subst e
    clear hxs hxc g g2 gi hi0 hi1
    iterate 2 (all_goals try cbv; all_goals repeat' (first | with_reducible exact True.intro | with_reducible refine And.intro ?_ ?_ | intro _))
    all_goals try exact oG
    iterate 2 (all_goals try cbv; all_goals repeat' (first | with_reducible exact True.intro | with_reducible refine And.intro ?_ ?_ | intro _))
    all_goals try exact oG
    refine loopI hA [.cell 2 1 41 3] (ι := Int × List PV) (fun x => [(12, .pv (I x.1))]) (fun x => [(3, .row 41 3 x.2)]) (fun x => (n - x.1).toNat) (fun x => 0 ≤ x.1 ∧ x.1 ≤ n ∧ x.2 = cells3 (pickL (subP w T (x.1.toNat * w)) ys)) (0, []) (by rfl) ?_ ?_ ?_
    all_goals try exact tG
    · exact ⟨Int.le_refl _, by omega, by rw [show (0 : Int).toNat * w = 0 by simp, subP_zero]; rfl⟩
    rintro ⟨i, q⟩ ⟨hi0, hi1, hq⟩
    simp only at hi0 hi1 hq
    have hq0 : q = cells3 (pickL (subP w T (i.toNat * w + (0 : Int).toNat)) ys) := hq
    have hout : i = n → q = r := by
      intro h
      rw [h] at hq
      exact hend q hq
    clear hq hend
    iterate 2 (all_goals try cbv; all_goals repeat' (first | with_reducible exact True.intro | with_reducible refine And.intro ?_ ?_ | intro _))
    all_goals try exact oG
    · rename_i g
      have gi : i < n := by clear hstep hrow hlen hq0 hout hbnd hp; (subst hA; subst_vars; simp only [AR.std, natCast_eq, sG, reduceCtorEq] at *; try simp (disch := omega) only [AR.std, natCast_eq, sG, reduceCtorEq] at *); omega
      have hi2 : i + 1 ≤ n := by omega
      have hro := hrow i hi0
      have hst := fun j q h1 h2 => hstep i j q hi0 h1 gi h2
      have hle := fun j q h1 h2 => hlen i j q hi0 h1 gi h2
      have hbn := fun j h1 h2 => hbnd i j hi0 h1 gi h2
      clear g hout hstep hrow hlen hbnd
      refine loopI hA [] (ι := Int × List PV) (fun x => [(13, .pv (I x.1))]) (fun x => [(3, .row 41 3 x.2)]) (fun x => (n - x.1).toNat) (fun x => 0 ≤ x.1 ∧ x.1 ≤ n ∧ x.2 = cells3 (pickL (subP w T (i.toNat * w + x.1.toNat)) ys)) (0, q) (by rfl) ?_ ?_ ?_
      all_goals try exact tG
      · exact ⟨Int.le_refl _, by omega, hq0⟩
      rintro ⟨j, q2⟩ ⟨hj0, hj1, hq2⟩
      simp only at hj0 hj1 hq2
      have hq2l := hle j q2 hj0 hj1 hq2
      have b4 : j < n → 0 ≤ i * n ∧ i * n ≤ 16 ∧ i * n + j < N := fun h => hbn j hj0 h
      have hx : ∀ _ : Unit, j = n → q2 = cells3 (pickL (subP w T ((i + 1).toNat * w)) ys) := by
        intro _ h
        rw [hq2, h, ← hw, hro]
      have hs : ∀ _ : Unit, j < n → _ := fun _ h => hst j q2 hj0 h hq2
      clear hq2 hst hle hq0 hro hbn
      iterate 2 (all_goals try cbv; all_goals repeat' (first | with_reducible exact True.intro | with_reducible refine And.intro ?_ ?_ | intro _))
      all_goals try exact oG
      iterate 2 (all_goals try cbv; all_goals repeat' (first | with_reducible exact True.intro | with_reducible refine And.intro ?_ ?_ | intro _))
      all_goals try exact oG
      all_goals try exact okA_of hA (by intro x hx; rw [List.mem_singleton.1 hx]; exact ⟨rfl, rfl⟩)
      all_goals try exact cap_of hA (by simp only [List.length_singleton]; omega)
      · rename_i g g2
        have gj : j < n := by clear hx hs hp; clear g2; (subst hA; subst_vars; simp only [AR.std, natCast_eq, sG, reduceCtorEq] at *; try simp (disch := omega) only [AR.std, natCast_eq, sG, reduceCtorEq] at *); omega
        obtain ⟨x, b1, b2, s, e, u, q3, f4, f5, x1, x2, x3, ⟨f1, f2, f3⟩, c2, _, c4⟩ := hs () gj
        have hb1 : A.band .i64 (A.shr .i64 t i) 1 = b1 := (bit_std hA T htT hT16 hi0 (by omega)).trans f4.symm
        have hb2 : A.band .i64 (A.shr .i64 t j) 1 = b2 := (bit_std hA T htT hT16 hj0 (by omega)).trans f5.symm
        simp only [hb1, hb2] at g2
        have gp : b1 = 1 ∧ b2 = 1 := by clear hx hs hp g c2 c4 f1 f2 f3 f4 f5 hb1 hb2; (subst hA; subst_vars; simp only [AR.std, natCast_eq, sG, reduceCtorEq] at *; try simp (disch := omega) only [AR.std, natCast_eq, sG, reduceCtorEq] at *); first | assumption | omega
        have hj2 : j + 1 ≤ n := by omega
        have c5 := c2 gp
        have hx1 : A.add .i64 (A.mul .i64 i n) j = x := by clear hx hs f1 f2 f3 f4 f5 c2 c4 c5 g g2 hb1 hb2; (subst hA; subst_vars; simp only [AR.std, natCast_eq, sG, reduceCtorEq] at *; try simp (disch := omega) only [AR.std, natCast_eq, sG, reduceCtorEq] at *)
        have k1 : A.gb (A.el p (A.nat x)) 0 = s := by rw [← f1]; clear hx hs f1 f2 f3 f4 f5 c2 c4 c5 g g2 hb1 hb2 hx1; (subst hA; subst_vars; simp only [AR.std, natCast_eq, sG, reduceCtorEq] at *; try simp (disch := omega) only [AR.std, natCast_eq, sG, reduceCtorEq] at *)
        have k2 : A.gl (A.el p (A.nat x)) 1 = u := by rw [← f2]; clear hx hs f1 f2 f3 f4 f5 c2 c4 c5 g g2 hb1 hb2 hx1 k1; (subst hA; subst_vars; simp only [AR.std, natCast_eq, sG, reduceCtorEq] at *; try simp (disch := omega) only [AR.std, natCast_eq, sG, reduceCtorEq] at *)
        have k3 : A.gi (A.el p (A.nat x)) 2 = e := by rw [← f3]; clear hx hs f1 f2 f3 f4 f5 c2 c4 c5 g g2 hb1 hb2 hx1 k1 k2; (subst hA; subst_vars; simp only [AR.std, natCast_eq, sG, reduceCtorEq] at *; try simp (disch := omega) only [AR.std, natCast_eq, sG, reduceCtorEq] at *)
        have hra : A.app q2 [.agg [B s, .lst u, I e]] = q3 := by rw [c5]; subst hA; rfl
        clear hx hs g g2 c2 c5 f1 f2 f3 f4 f5 hb1 hb2 gp
        simp only [hx1, k1, k2, k3, hra]
        clear hx1 k1 k2 k3 hra
        obtain ⟨y1, hy1⟩ : ∃ y, y = j + 1 := ⟨_, rfl⟩
        obtain ⟨y2, hy2⟩ : ∃ y, y = q3 := ⟨_, rfl⟩
        refine ⟨⟨(y1, y2), ?_⟩, ?_, ?_⟩
        rotate_left
        · cbv
          exact nG
        · (subst hA; subst_vars; simp only [AR.std, natCast_eq, sG, reduceCtorEq] at *; try simp (disch := omega) only [AR.std, natCast_eq, sG, reduceCtorEq] at *); omega
        · rw [hy1, hy2]
          exact ⟨by simp only; omega, hj2, c4⟩
      · rename_i g g2
        have gj : j < n := by clear hx hs hp; clear g2; (subst hA; subst_vars; simp only [AR.std, natCast_eq, sG, reduceCtorEq] at *; try simp (disch := omega) only [AR.std, natCast_eq, sG, reduceCtorEq] at *); omega
        obtain ⟨x, b1, b2, s, e, u, q3, f4, f5, x1, x2, x3, _, _, c3, c4⟩ := hs () gj
        have hb1 : A.band .i64 (A.shr .i64 t i) 1 = b1 := (bit_std hA T htT hT16 hi0 (by omega)).trans f4.symm
        have hb2 : A.band .i64 (A.shr .i64 t j) 1 = b2 := (bit_std hA T htT hT16 hj0 (by omega)).trans f5.symm
        simp only [hb1, hb2] at g2
        have gp : ¬(b1 = 1 ∧ b2 = 1) := by clear hx hs hp g c3 c4 f4 f5 hb1 hb2; (subst hA; subst_vars; simp only [AR.std, natCast_eq, sG, reduceCtorEq] at *; try simp (disch := omega) only [AR.std, natCast_eq, sG, reduceCtorEq] at *); omega
        have hj2 : j + 1 ≤ n := by omega
        have c5 := c3 gp
        rw [c5] at c4
        clear hx hs g g2 c3 c5 f4 f5 hb1 hb2 gp
        iterate 2 (all_goals try cbv; all_goals repeat' (first | with_reducible exact True.intro | with_reducible refine And.intro ?_ ?_ | intro _))
        all_goals try exact oG
        obtain ⟨y1, hy1⟩ : ∃ y, y = j + 1 := ⟨_, rfl⟩
        obtain ⟨y2, hy2⟩ : ∃ y, y = q2 := ⟨_, rfl⟩
        refine ⟨⟨(y1, y2), ?_⟩, ?_, ?_⟩
        rotate_left
        · cbv
          exact nG
        · (subst hA; subst_vars; simp only [AR.std, natCast_eq, sG, reduceCtorEq] at *; try simp (disch := omega) only [AR.std, natCast_eq, sG, reduceCtorEq] at *); omega
        · rw [hy1, hy2]
          exact ⟨by simp only; omega, hj2, c4⟩
      · rename_i g
        have gj : j = n := by clear hx hs hp; (subst hA; subst_vars; simp only [AR.std, natCast_eq, sG, reduceCtorEq] at *; try simp (disch := omega) only [AR.std, natCast_eq, sG, reduceCtorEq] at *); omega
        have hq' := hx () gj
        clear hx hs
        iterate 2 (all_goals try cbv; all_goals repeat' (first | with_reducible exact True.intro | with_reducible refine And.intro ?_ ?_ | intro _))
        all_goals try exact oG
        obtain ⟨y1, hy1⟩ : ∃ y, y = i + 1 := ⟨_, rfl⟩
        obtain ⟨y2, hy2⟩ : ∃ y, y = q2 := ⟨_, rfl⟩
        refine ⟨⟨(y1, y2), ?_⟩, ?_, ?_⟩
        rotate_left
        · cbv
          exact nG
        · (subst hA; subst_vars; simp only [AR.std, natCast_eq, sG, reduceCtorEq] at *; try simp (disch := omega) only [AR.std, natCast_eq, sG, reduceCtorEq] at *); omega
        · rw [hy1, hy2]
          exact ⟨by simp only; omega, hi2, hq'⟩
    · rename_i g
      have e := hout (by clear hstep hrow hlen hq0 hout hbnd hp; (subst hA; subst_vars; simp only [AR.std, natCast_eq, sG, reduceCtorEq] at *; try simp (disch := omega) only [AR.std, natCast_eq, sG, reduceCtorEq] at *); omega)
      simp only [e]

end Tryz
end Go.Proofs

namespace Go.Proofs
open Go Go.Pe Go.Dg
namespace Tryz
set_option linter.unusedSimpArgs false
set_option linter.unusedVariables false
variable {P : Program} {gl : List (Nat × Obj)}

theorem cnt_pos {w s : Nat} (hw : w ≤ 4) (h1 : 1 ≤ s) (hs : s < 2 ^ w) : 1 ≤ cnt w s := by
  have h : ∀ w : Fin 5, ∀ r : Fin 16, 1 ≤ r.1 → r.1 < 2 ^ w.1 → 1 ≤ cnt w.1 r.1 := by decide +kernel
  have : 2 ^ w ≤ 2 ^ 4 := Nat.pow_le_pow_right (by decide) hw
  exact h ⟨w, by omega⟩ ⟨s, by omega⟩ h1 hs

set_option maxHeartbeats 1000000 in
set_option maxRecDepth 100000 in
theorem l9poly_fs (C : Cx P gl) {ys : List Cell3} {d : Nat → Dyadic} {p r : List PV} {n : Int} (hp : p = cells3 ys) (h : CL 3000 4600 d ys) (hn : 1 ≤ n) (hn4 : n ≤ 4) (hyl : (ys.length : Int) = n * n)
    (hr : r = cells3 (canL (polyP n.toNat d (2 ^ n.toNat)) (n.toNat + 1))) :
    FS P gl 83 [.agg [I n, .lst p]] (· = .lst r) := by
  obtain ⟨w, hw⟩ : ∃ w, w = n.toNat := ⟨_, rfl⟩
  have hw4 : w ≤ 4 := by omega
  have hnn : n * n = ((w * w : Nat) : Int) := by rw [hw, Int.natCast_mul, Int.toNat_of_nonneg (by omega)]
  rw [← hw] at hr
  obtain ⟨N2, hN2⟩ : ∃ N2 : Int, N2 = ((2 ^ n.toNat : Nat) : Int) := ⟨_, rfl⟩
  have hN16 : N2 ≤ 16 := by
    have : 2 ^ w ≤ 2 ^ 4 := Nat.pow_le_pow_right (by decide) hw4
    rw [hN2, ← hw]; omega
  have hN0 : 1 ≤ N2 := by
    have : 0 < 2 ^ n.toNat := Nat.two_pow_pos _
    rw [hN2]; omega
  obtain ⟨m1, hm1⟩ : ∃ m1, m1 = n + 1 := ⟨_, rfl⟩
  obtain ⟨u0, hu0⟩ : ∃ u, u = cells3 (List.replicate (w + 1) noY) := ⟨_, rfl⟩
  have hu0l : u0.length = w + 1 := by rw [hu0, cells3_len, List.length_replicate]
  have hu1 : u0 = cells3 (List.replicate m1.toNat noY) := by rw [hu0, hm1, show (n + 1).toNat = w + 1 by omega]
  obtain ⟨po, hpo⟩ : ∃ po, po = intsL (dg 1) := ⟨_, rfl⟩
  obtain ⟨s0, hs0⟩ : ∃ s, s = (canY 1).1 := ⟨_, rfl⟩
  obtain ⟨q0, hq0⟩ : ∃ q, q = intsL (canY 1).2.1 := ⟨_, rfl⟩
  obtain ⟨e0, he0⟩ : ∃ e, e = (canY 1).2.2 := ⟨_, rfl⟩
  have h3 := fun (P' : Program) (C' : Cx P' gl) => l3of1_fs C' hpo
  have h4 := fun (P' : Program) (C' : Cx P' gl) => l4make_fs C' (z := 1) (e := 0) (s := false) (d := 1) (p := po) (r := q0) (u := s0) (f := e0) hpo rfl rfl hq0 hs0 he0 (by decide) (Nat.le_trans (dg_len 1 (by decide)) (by decide))
  obtain ⟨u2, hu2⟩ : ∃ u2, u2 = u0.set n.toNat (.agg [B s0, .lst q0, I e0]) := ⟨_, rfl⟩
  have hu3 : u2 = cells3 (canL (polyP w d (1 : Int).toNat) (w + 1)) := by
    rw [hu2, hu0, hs0, hq0, he0]
    refine (c3set _ _ (canY 1)).trans ?_
    rw [← hw, polyP_set1]; rfl
  have hm : ∀ k, k < w * w → Mg 3000 4600 (d k) := fun k hk => (h k (by omega)).2
  have hstep : ∀ (s : Int) (q : List PV), 1 ≤ s → s < N2 → q = cells3 (canL (polyP w d s.toNat) (w + 1)) → ∃ (s1 s2 s3 s4 s5 : Bool) (e1 e2 e5 cc kk : Int) (u1 u2 u5 v q2 : List PV) (zs : List Cell3), q = cells3 zs ∧ kk.toNat < zs.length ∧ kk = n - cc ∧ 0 ≤ kk ∧ 0 ≤ cc ∧ cc ≤ 4 ∧
      ((zs.getD kk.toNat noY).1 = s1 ∧ intsL (zs.getD kk.toNat noY).2.1 = u1 ∧ (zs.getD kk.toNat noY).2.2 = e1) ∧
      (∀ P', Cx P' gl → FS P' gl 130 [.agg [I n, .lst p], I s, I s] (· = .tup [.agg [I cc, .lst v], B true])) ∧ (∀ P', Cx P' gl → FS P' gl 68 [.agg [I cc, .lst v]] (· = .agg [B s2, .lst u2, I e2])) ∧
      (∀ P', Cx P' gl → FS P' gl 97 [.agg [B s2, .lst u2, I e2]] (· = .agg [B s3, .lst u2, I e2])) ∧ (cc.toNat % 2 = 1 → s4 = s3) ∧ (¬ cc.toNat % 2 = 1 → s4 = s2) ∧
      (∀ P', Cx P' gl → FS P' gl 98 [.agg [B s1, .lst u1, I e1], .agg [B s4, .lst u2, I e2]] (· = .agg [B s5, .lst u5, I e5])) ∧
      q2 = q.set kk.toNat (.agg [B s5, .lst u5, I e5]) ∧ q2 = cells3 (canL (polyP w d (s + 1).toNat) (w + 1)) := by
    intro s q h1 h2 hq
    have hsl : s.toNat < 2 ^ w := by rw [hN2, ← hw] at h2; omega
    obtain ⟨c, hc⟩ : ∃ c, c = cnt w s.toNat := ⟨_, rfl⟩
    have hc1 : 1 ≤ c := by rw [hc]; exact cnt_pos hw4 (by omega) hsl
    have hcw : c ≤ w := by rw [hc]; exact cnt_le _ _
    obtain ⟨hI, _⟩ := subI_eq hw4 hsl
    rw [← hc] at hI
    have hCL := pick_CL (I := subI w s.toNat) h (fun k hk => by have := subI_lt hk; omega)
    have hvl : (pickL (subI w s.toNat) ys).length = c * c := by rw [pickL_len, hI]
    have hmd : Mg 12000 18417 (detD c (pickD (subI w s.toNat) d)) := (Mg.det (a := 3000) (b := 4600) (by omega) fun k hk => hm _ (subI_lt (getD_mem (by omega)))).mono (by omega) (by omega)
    obtain ⟨dm, hdm⟩ : ∃ x, x = detD c (pickD (subI w s.toNat) d) := ⟨_, rfl⟩
    rw [← hdm] at hmd
    have hpt : polyT w d s.toNat = sgnD c dm := by rw [polyT, ← hc, ← hdm]
    obtain ⟨dp, hdp⟩ : ∃ x, x = polyP w d s.toNat (w - c) := ⟨_, rfl⟩
    have hmp := Mg.polyP (w := w) (d := d) hw4 hm s.toNat (w - c) (by omega)
    rw [← hdp] at hmp
    have h16 : s.toNat < 16 := by omega
    have a1 := Mg_len hmd
    have a2 := Mg_cE hmd
    have a3 := Mg_cE2 hmd
    have b1 := Mg_len hmp
    have b2 := Mg_cE hmp
    have b3 := Mg_cE2 hmp
    have hkk : (n - (c : Int)).toNat = w - c := by omega
    have hget : (canL (polyP w d s.toNat) (w + 1)).getD (w - c) noY = canY dp := by rw [canL_get (by omega), hdp]
    refine ⟨(canY dp).1, (canY dm).1, decide (0 < cZ dm), if c % 2 = 1 then decide (0 < cZ dm) else (canY dm).1, (canY (dp + sgnD c dm)).1, (canY dp).2.2, (canY dm).2.2, (canY (dp + sgnD c dm)).2.2, (c : Int), n - (c : Int), intsL (canY dp).2.1, intsL (canY dm).2.1, intsL (canY (dp + sgnD c dm)).2.1, cells3 (pickL (subI w s.toNat) ys), _, canL (polyP w d s.toNat) (w + 1), hq,
      by rw [hkk, canL_len]; omega, rfl, by omega, by omega, by omega, by rw [hkk, hget]; exact ⟨rfl, rfl, rfl⟩,
      fun P' C' => l9rows_fs C' (T := s.toNat) hp hn hn4 hyl (by omega) (by rw [← hw]; exact hsl) (by rw [← hw, ← hc]) (by omega) (by rw [← hw]),
      fun P' C' => l8det_fs C' (d := pickD (subI w s.toNat) d) rfl hCL (by omega) (by omega) (by rw [hvl]; exact Int.natCast_mul _ _) (by rw [Int.toNat_natCast, ← hdm]) (by rw [Int.toNat_natCast, ← hdm]) (by rw [Int.toNat_natCast, ← hdm]),
      fun P' C' => l4neg_fs C' (z := cZ dm) rfl rfl rfl (by omega), fun h => if_pos (by omega), fun h => if_neg (by omega), fun P' C' => ?_, rfl, ?_⟩
    · by_cases hj2 : c % 2 = 1
      · rw [if_pos hj2]
        exact l4add_fs C' (z1 := cZ dp) (z2 := -cZ dm) rfl rfl (by rw [Int.natAbs_neg]; rfl) (by rw [decide_eq_decide]; omega) (by rw [sgnD, if_pos hj2]; show _ = mk _ (cE dp) + mk _ (cE dm); rw [mk_canon, ← mk_neg, mk_canon]) rfl rfl rfl (by show (cE dp).natAbs ≤ _; omega) (by show (cE dm).natAbs ≤ _; omega) (by omega) (by rw [Int.natAbs_neg]; omega)
      · rw [if_neg hj2]
        exact l4add_fs C' (z1 := cZ dp) (z2 := cZ dm) rfl rfl rfl rfl (by rw [sgnD, if_neg hj2]; show _ = mk _ (cE dp) + mk _ (cE dm); rw [mk_canon, mk_canon]) rfl rfl rfl (by show (cE dp).natAbs ≤ _; omega) (by show (cE dm).natAbs ≤ _; omega) (by omega) (by omega)
    · rw [show (s + 1).toNat = s.toNat + 1 by omega, ← polyP_set, hkk, hq, ← c3set, ← hc, hpt, hdp]
      rfl
  have hlen : ∀ (s : Int) (q : List PV), q = cells3 (canL (polyP w d s.toNat) (w + 1)) → q.length = w + 1 := by
    intro s q hq
    rw [hq, cells3_len, canL_len]
  have hend : ∀ q : List PV, q = cells3 (canL (polyP w d N2.toNat) (w + 1)) → q = r := by
    intro q h
    rw [h, hr, hN2, Int.toNat_natCast, hw]
  have hN2' : ∀ _ : Unit, N2 = ((2 ^ n.toNat : Nat) : Int) := fun _ => hN2
  have hwn : (w : Int) = n := by omega
  clear hyl hp hr h hm hN2 hs0 hq0 he0 hpo hnn hu0
  obtain ⟨rfl, hG⟩ := C
  refine FS_ofT (args := fun A => [.agg [I n, .lst p]]) (R := fun A rr => rr = .lst r) Tryz.hT Tryz.mix Tryz.func83 rfl rfl (Nat.le_of_ble_eq_true rfl) ?_
  generalize hP : Tryz.prog = P
  intro A hA
  have C : Tryz.Cx P gl := ⟨hP.symm, hG⟩
  have hI : intsL = A.ints := by subst hA; rfl
  have hadd : A.add .i64 n 1 = m1 := by rw [hm1]; subst hA; exact wrapi (by omega) (by omega)
  have hshl : A.shl .i64 1 n = N2 := (shl_std hA (by omega) hn4).trans (hN2' ()).symm
  have hrep : A.rep m1 (.agg [B false, .lst [], I 0]) = u0 := by
    rw [hu1]; subst hA
    show List.replicate m1.toNat (cell3 noY) = _
    rw [c3rep]
  have hset0 : A.set u0 (A.nat n) (.agg [B s0, .lst q0, I e0]) = u2 := by rw [hu2]; subst hA; rfl
  clear hu1 hN2' hu2
  iterate 2 (all_goals try cbv; all_goals repeat' (first | with_reducible exact True.intro | with_reducible refine And.intro ?_ ?_ | intro _))
  all_goals try exact oG
  all_goals try simp only [hadd]
  iterate 2 (all_goals try cbv; all_goals repeat' (first | with_reducible exact True.intro | with_reducible refine And.intro ?_ ?_ | intro _))
  all_goals try exact oG
  all_goals try simp only [hrep]
  refine ⟨_, h3 P C, ?_⟩
  iterate 2 (all_goals try cbv; all_goals repeat' (first | with_reducible exact True.intro | with_reducible refine And.intro ?_ ?_ | intro _))
  all_goals try exact oG
  refine ⟨_, h4 P C, ?_⟩
  iterate 2 (all_goals try cbv; all_goals repeat' (first | with_reducible exact True.intro | with_reducible refine And.intro ?_ ?_ | intro _))
  all_goals try exact oG
  simp only [hset0]
  clear hadd hrep hset0 h3 h4 hu0l
  refine loopI hA [] (ι := Int × List PV) (fun x => [(4, .pv (I x.1)), (3, .own 1)]) (fun x => [(1, .row 41 3 x.2)]) (fun x => (N2 - x.1).toNat) (fun x => 1 ≤ x.1 ∧ x.1 ≤ N2 ∧ x.2 = cells3 (canL (polyP w d x.1.toNat) (w + 1))) (1, u2) (by rfl) ?_ ?_ ?_
  all_goals try exact tG
  · exact ⟨Int.le_refl _, hN0, hu3⟩
  rintro ⟨s, q⟩ ⟨hs0, hs1, hq⟩
  simp only at hs0 hs1 hq
  have hql := hlen s q hq
  have hout : ∀ _ : Unit, s = N2 → q = r := by
    intro _ h
    rw [h] at hq
    exact hend q hq
  have hs : ∀ _ : Unit, s < N2 → _ := fun _ h => hstep s q hs0 h hq
  clear hq hstep hlen hend hu3
  iterate 2 (all_goals try cbv; all_goals repeat' (first | with_reducible exact True.intro | with_reducible refine And.intro ?_ ?_ | intro _))
  all_goals try exact oG
  all_goals try simp only [hshl]
  iterate 2 (all_goals try cbv; all_goals repeat' (first | with_reducible exact True.intro | with_reducible refine And.intro ?_ ?_ | intro _))
  all_goals try exact oG
  · rename_i g
    have gs : s < N2 := by simp only [hshl] at g; clear hs hout hshl; (subst hA; subst_vars; simp only [AR.std, natCast_eq, sG, reduceCtorEq] at *; try simp (disch := omega) only [AR.std, natCast_eq, sG, reduceCtorEq] at *); omega
    obtain ⟨s1, s2, s3, s4, s5, e1, e2, e5, cc, kk, u1, u2, u5, v, q2, zs, z1, z2, z3, z4, z5, z6, ⟨g1, g2, g3⟩, c1, c2, c3, f1, f2, c4, x1, x2⟩ := hs () gs
    have hs2 : s + 1 ≤ N2 := by omega
    have hkl : kk.toNat < q.length := by rw [z1, cells3_len]; exact z2
    have hsub : A.sub .i64 n cc = kk := by rw [z3]; clear hs hout g1 g2 g3 c1 c2 c3 c4 f1 f2 x1 x2 g hshl; subst hA; exact wrapi (by omega) (by omega)
    have k1 : A.gb (A.el q (A.nat kk)) 0 = s1 := by rw [← g1]; clear hs hout g1 g2 g3 c1 c2 c3 c4 f1 f2 x1 x2 g hshl hsub hql hkl; (subst hA; subst_vars; simp only [AR.std, natCast_eq, sG, reduceCtorEq] at *; try simp (disch := omega) only [AR.std, natCast_eq, sG, reduceCtorEq] at *)
    have k2 : A.gl (A.el q (A.nat kk)) 1 = u1 := by rw [← g2]; clear hs hout g1 g2 g3 c1 c2 c3 c4 f1 f2 x1 x2 g hshl hsub hql hkl k1; (subst hA; subst_vars; simp only [AR.std, natCast_eq, sG, reduceCtorEq] at *; try simp (disch := omega) only [AR.std, natCast_eq, sG, reduceCtorEq] at *)
    have k3 : A.gi (A.el q (A.nat kk)) 2 = e1 := by rw [← g3]; clear hs hout g1 g2 g3 c1 c2 c3 c4 f1 f2 x1 x2 g hshl hsub hql hkl k1 k2; (subst hA; subst_vars; simp only [AR.std, natCast_eq, sG, reduceCtorEq] at *; try simp (disch := omega) only [AR.std, natCast_eq, sG, reduceCtorEq] at *)
    have hpq : A.peq true 0 3 (A.el q (A.nat kk)) (.agg [B s1, .lst u1, I e1]) := peq_of hA (by rw [← g1, ← g2, ← g3]; clear hs hout g1 g2 g3 c1 c2 c3 c4 f1 f2 x1 x2 g hshl hsub hql hkl k1 k2 k3; (subst hA; subst_vars; simp only [AR.std, natCast_eq, sG, reduceCtorEq] at *; try simp (disch := omega) only [AR.std, natCast_eq, sG, reduceCtorEq] at *))
    have hset : A.set q (A.nat kk) (.agg [B s5, .lst u5, I e5]) = q2 := by rw [x1]; subst hA; rfl
    have codd : A.eq (A.rem .i64 cc 2) 1 = decide (cc.toNat % 2 = 1) := by
      clear hs hout g1 g2 g3 c1 c2 c3 c4 f1 f2 x1 x2 g hshl hsub hql hkl k1 k2 k3 hpq hset
      subst hA
      show (Int.tmod cc 2 == 1) = _
      rw [Int.tmod_eq_emod_of_nonneg z5, Bool.eq_iff_iff, beq_iff_eq, decide_eq_true_eq]; omega
    obtain ⟨od, hod⟩ : ∃ od, od = decide (cc.toNat % 2 = 1) := ⟨_, rfl⟩
    rw [← hod] at codd
    have f1' : od = true → s4 = s3 := fun h => f1 (of_decide_eq_true (hod ▸ h))
    have f2' : od = false → s4 = s2 := fun h => f2 (of_decide_eq_false (hod ▸ h))
    clear hs hout g g1 g2 g3 x1 z1 z2 f1 f2 hod hshl
    refine callS hA rfl (c1 P C) ?_; rintro _ rfl
    iterate 2 (all_goals try cbv; all_goals repeat' (first | with_reducible exact True.intro | with_reducible refine And.intro ?_ ?_ | intro _))
    all_goals try exact oG
    refine callS hA rfl (c2 P C) ?_; rintro _ rfl
    iterate 2 (all_goals try cbv; all_goals repeat' (first | with_reducible exact True.intro | with_reducible refine And.intro ?_ ?_ | intro _))
    all_goals try exact oG
    all_goals try simp only [codd]
    · rename_i g
      simp only [codd] at g
      have f3 := f1' g
      subst f3
      clear f1' f2' codd g
      iterate 2 (all_goals try cbv; all_goals repeat' (first | with_reducible exact True.intro | with_reducible refine And.intro ?_ ?_ | intro _))
      all_goals try exact oG
      refine callS hA rfl (c3 P C) ?_; rintro _ rfl
      iterate 2 (all_goals try cbv; all_goals repeat' (first | with_reducible exact True.intro | with_reducible refine And.intro ?_ ?_ | intro _))
      all_goals try exact oG
      all_goals try simp only [hsub, k1, k2, k3]
      iterate 2 (all_goals try cbv; all_goals repeat' (first | with_reducible exact True.intro | with_reducible refine And.intro ?_ ?_ | intro _))
      all_goals try exact oG
      all_goals try simp only [hsub, k1, k2, k3]
      all_goals try exact hpq
      refine ⟨_, c4 P C, ?_⟩
      iterate 2 (all_goals try cbv; all_goals repeat' (first | with_reducible exact True.intro | with_reducible refine And.intro ?_ ?_ | intro _))
      all_goals try exact oG
      simp only [hset]
      clear c1 c2 c3 c4 hsub k1 k2 k3 hset hpq
      obtain ⟨y1, hy1⟩ : ∃ y, y = s + 1 := ⟨_, rfl⟩
      obtain ⟨y2, hy2⟩ : ∃ y, y = q2 := ⟨_, rfl⟩
      refine ⟨⟨(y1, y2), ?_⟩, ?_, ?_⟩
      rotate_left
      · cbv
        exact nG
      · (subst hA; subst_vars; simp only [AR.std, natCast_eq, sG, reduceCtorEq] at *; try simp (disch := omega) only [AR.std, natCast_eq, sG, reduceCtorEq] at *); omega
      · rw [hy1, hy2]
        exact ⟨by simp only; omega, hs2, x2⟩
    · rename_i g
      simp only [codd] at g
      have f3 := f2' g
      subst f3
      clear f1' f2' codd g
      iterate 2 (all_goals try cbv; all_goals repeat' (first | with_reducible exact True.intro | with_reducible refine And.intro ?_ ?_ | intro _))
      all_goals try exact oG
      all_goals try simp only [hsub, k1, k2, k3]
      iterate 2 (all_goals try cbv; all_goals repeat' (first | with_reducible exact True.intro | with_reducible refine And.intro ?_ ?_ | intro _))
      all_goals try exact oG
      all_goals try simp only [hsub, k1, k2, k3]
      all_goals try exact hpq
      refine ⟨_, c4 P C, ?_⟩
      iterate 2 (all_goals try cbv; all_goals repeat' (first | with_reducible exact True.intro | with_reducible refine And.intro ?_ ?_ | intro _))
      all_goals try exact oG
      simp only [hset]
      clear c1 c2 c3 c4 hsub k1 k2 k3 hset hpq
      obtain ⟨y1, hy1⟩ : ∃ y, y = s + 1 := ⟨_, rfl⟩
      obtain ⟨y2, hy2⟩ : ∃ y, y = q2 := ⟨_, rfl⟩
      refine ⟨⟨(y1, y2), ?_⟩, ?_, ?_⟩
      rotate_left
      · cbv
        exact nG
      · (subst hA; subst_vars; simp only [AR.std, natCast_eq, sG, reduceCtorEq] at *; try simp (disch := omega) only [AR.std, natCast_eq, sG, reduceCtorEq] at *); omega
      · rw [hy1, hy2]
        exact ⟨by simp only; omega, hs2, x2⟩
  · rename_i g
    have e := hout () (by simp only [hshl] at g; clear hs hout hshl; (subst hA; subst_vars; simp only [AR.std, natCast_eq, sG, reduceCtorEq] at *; try simp (disch := omega) only [AR.std, natCast_eq, sG, reduceCtorEq] at *); omega)
    rw [e]

end Tryz
end Go.Proofs

namespace Go.Proofs
open Go Go.Pe Go.Dg
namespace Tryz
set_option linter.unusedSimpArgs false
set_option linter.unusedVariables false
variable {P : Program} {gl : List (Nat × Obj)}

set_option maxHeartbeats 1000000 in
set_option maxRecDepth 100000 in
theorem l9fits_fs (C : Cx P gl) {ys : List Cell3} {p q : List PV} {b : Bool} (hp : p = cells3 ys) (hb : b = true ↔ allY ys) (hl : ys.length ≤ 2000000) (hy : ∀ y ∈ ys, y.2.1.length ≤ 2000000)
    (h1 : b = true → q = p) (h2 : b = false → q = []) : FS P gl 82 [.lst p] (· = .tup [.lst q, B b]) := by
  have hstep : ∀ (i : Int) (v : List PV), 0 ≤ i → i < ys.length → v = cells3 (ys.take i.toNat) → ∃ (s b0 : Bool) (e : Int) (u v2 : List PV), ((ys.getD i.toNat noY).1 = s ∧ intsL (ys.getD i.toNat noY).2.1 = u ∧ (ys.getD i.toNat noY).2.2 = e) ∧ (b0 = true ↔ okY (ys.getD i.toNat noY)) ∧
      (∀ P', Cx P' gl → FS P' gl 108 [.agg [B s, .lst u, I e]] (· = B b0)) ∧ (b0 = true → ∀ P', Cx P' gl → FS P' gl 69 [.agg [B s, .lst u, I e]] (· = .agg [B s, .lst u, I e])) ∧
      v2 = v ++ [.agg [B s, .lst u, I e]] ∧ v2 = cells3 (ys.take (i + 1).toNat) := by
    intro i v h1 h2 hv
    have hlt : i.toNat < ys.length := by omega
    have hm := hy _ (getY_mem hlt)
    obtain ⟨b0, hb0⟩ := bool_of (okY (ys.getD i.toNat noY))
    refine ⟨_, b0, _, _, _, ⟨rfl, rfl, rfl⟩, hb0, fun P' C' => DyOk_fs C' rfl hb0 hm, fun h P' C' => ?_, rfl, ?_⟩
    · obtain ⟨⟨g1, g2, g3⟩, g4, g5, g6⟩ := dyOk_val (hb0.1 h)
      exact l7own_fs C' (z := cZ (dval (ys.getD i.toNat noY).1 (ys.getD i.toNat noY).2.1 (ys.getD i.toNat noY).2.2)) (by rw [← g2]) g1 (by omega)
    · rw [show (i + 1).toNat = i.toNat + 1 by omega, hv]
      exact c3take hlt
  have hfin : ∀ v : List PV, v = cells3 (ys.take ys.length) → (∀ k, k < ys.length → okY (ys.getD k noY)) → v = q ∧ b = true := by
    intro v hv hk
    have hbt : b = true := hb.2 (fun y hy => by
      obtain ⟨k, hk2, rfl⟩ := List.getElem_of_mem hy
      have := hk k hk2
      rwa [List.getD, List.getElem?_eq_getElem hk2] at this)
    exact ⟨by rw [hv, List.take_length, h1 hbt, hp], hbt⟩
  have hbad : ∀ i : Int, 0 ≤ i → i < ys.length → ¬okY (ys.getD i.toNat noY) → q = [] ∧ b = false := by
    intro i g1 g2 g3
    have hbf : b = false := by
      cases hbc : b with
      | false => rfl
      | true => exact absurd (hb.1 hbc _ (getY_mem (by omega))) g3
    exact ⟨h2 hbf, hbf⟩
  have hpl : p.length = ys.length := by rw [hp, cells3_len]
  have hlen : ∀ (i : Int) (v : List PV), v = cells3 (ys.take i.toNat) → v.length ≤ 2000000 := by
    intro i v hv
    rw [hv, cells3_len, List.length_take]; omega
  clear hb h1 h2 hy
  obtain ⟨rfl, hG⟩ := C
  refine FS_ofT (args := fun A => [.lst p]) (R := fun A rr => rr = .tup [.lst q, B b]) Tryz.hT Tryz.mix Tryz.func82 rfl rfl (Nat.le_of_ble_eq_true rfl) ?_
  generalize hP : Tryz.prog = P
  intro A hA
  have C : Tryz.Cx P gl := ⟨hP.symm, hG⟩
  have hI : intsL = A.ints := by subst hA; rfl
  iterate 2 (all_goals try cbv; all_goals repeat' (first | with_reducible exact True.intro | with_reducible refine And.intro ?_ ?_ | intro _))
  all_goals try exact oG
  refine loopI hA [.slot 4 41 3] (ι := Int × List PV) (fun x => [(4, .own 0), (5, .pv (I x.1))]) (fun x => [(0, .row 41 3 x.2)]) (fun x => (ys.length - x.1).toNat) (fun x => 0 ≤ x.1 ∧ x.1 ≤ ys.length ∧ x.2 = cells3 (ys.take x.1.toNat) ∧ ∀ k, k < x.1.toNat → okY (ys.getD k noY)) (0, []) (by rfl) ?_ ?_ ?_
  all_goals try exact tG
  · exact ⟨Int.le_refl _, by omega, rfl, fun k hk => absurd hk (Nat.not_lt_zero _)⟩
  rintro ⟨i, v⟩ ⟨hi0, hi1, hv, hk⟩
  simp only at hi0 hi1 hv hk
  have hvl := hlen i v hv
  have hout : ∀ _ : Unit, i = ys.length → v = q ∧ b = true := by
    intro _ h
    have e : i.toNat = ys.length := by omega
    rw [e] at hv hk
    exact hfin v hv hk
  have hs : ∀ _ : Unit, i < ys.length → _ := fun _ h => hstep i v hi0 h hv
  have hbd : ∀ _ : Unit, i < ys.length → ¬okY (ys.getD i.toNat noY) → q = [] ∧ b = false := fun _ h => hbad i hi0 h
  have hk2 : ∀ _ : Unit, okY (ys.getD i.toNat noY) → ∀ k, k < (i + 1).toNat → okY (ys.getD k noY) := by
    intro _ h k hlt
    by_cases e : k = i.toNat
    · rw [e]; exact h
    · exact hk k (by omega)
  clear hv hk hstep hfin hbad hlen
  iterate 2 (all_goals try cbv; all_goals repeat' (first | with_reducible exact True.intro | with_reducible refine And.intro ?_ ?_ | intro _))
  all_goals try exact oG
  · rename_i g
    have gi : i < ys.length := by clear hs hout hbd hk2; (subst hA; subst_vars; simp only [AR.std, natCast_eq, sG, reduceCtorEq] at *; try simp (disch := omega) only [AR.std, natCast_eq, sG, reduceCtorEq] at *); omega
    have hlt : i.toNat < ys.length := by omega
    obtain ⟨s, b0, e, u, v2, ⟨g1, g2, g3⟩, g4, c1, c2, x1, x2⟩ := hs () gi
    have hi2 : i + 1 ≤ ys.length := by omega
    have hbd2 := hbd () gi
    have hk3 := hk2 ()
    have k1 : A.gb (A.el p (A.nat i)) 0 = s := by rw [← g1]; clear hs hout hbd hk2 g1 g2 g3 g4 c1 c2 x1 x2 g hbd2 hk3; (subst hA; subst_vars; simp only [AR.std, natCast_eq, sG, reduceCtorEq] at *; try simp (disch := omega) only [AR.std, natCast_eq, sG, reduceCtorEq] at *)
    have k2 : A.gl (A.el p (A.nat i)) 1 = u := by rw [← g2]; clear hs hout hbd hk2 g1 g2 g3 g4 c1 c2 x1 x2 g hbd2 hk3 k1; (subst hA; subst_vars; simp only [AR.std, natCast_eq, sG, reduceCtorEq] at *; try simp (disch := omega) only [AR.std, natCast_eq, sG, reduceCtorEq] at *)
    have k3 : A.gi (A.el p (A.nat i)) 2 = e := by rw [← g3]; clear hs hout hbd hk2 g1 g2 g3 g4 c1 c2 x1 x2 g hbd2 hk3 k1 k2; (subst hA; subst_vars; simp only [AR.std, natCast_eq, sG, reduceCtorEq] at *; try simp (disch := omega) only [AR.std, natCast_eq, sG, reduceCtorEq] at *)
    have hra : A.app v [.agg [B s, .lst u, I e]] = v2 := by rw [x1]; subst hA; rfl
    clear hs hout hbd hk2 g1 g2 g3 g x1
    all_goals try simp only [k1, k2, k3]
    refine callS hA rfl (c1 P C) ?_; rintro _ rfl
    cases b0 with
    | false =>
      obtain ⟨e1, e2⟩ := hbd2 (fun h => absurd (g4.2 h) (by decide))
      subst e1; subst e2
      clear g4 c1 c2 hbd2 hk3
      iterate 2 (all_goals try cbv; all_goals repeat' (first | with_reducible exact True.intro | with_reducible refine And.intro ?_ ?_ | intro _))
      all_goals try exact oG
      iterate 2 (all_goals try cbv; all_goals repeat' (first | with_reducible exact True.intro | with_reducible refine And.intro ?_ ?_ | intro _))
      all_goals try exact oG
    | true =>
      have c3 := c2 rfl
      have hk4 := hk3 (g4.1 rfl)
      clear g4 c1 c2 hbd2 hk3
      iterate 2 (all_goals try cbv; all_goals repeat' (first | with_reducible exact True.intro | with_reducible refine And.intro ?_ ?_ | intro _))
      all_goals try exact oG
      all_goals try simp only [k1, k2, k3]
      refine callS hA rfl (c3 P C) ?_; rintro _ rfl
      iterate 2 (all_goals try cbv; all_goals repeat' (first | with_reducible exact True.intro | with_reducible refine And.intro ?_ ?_ | intro _))
      all_goals try exact oG
      all_goals try exact okA_of hA (by intro x hx; rw [List.mem_singleton.1 hx]; exact ⟨rfl, rfl⟩)
      all_goals try exact cap_of hA (by simp only [List.length_singleton]; omega)
      simp only [hra]
      clear hra k1 k2 k3
      obtain ⟨y1, hy1⟩ : ∃ y, y = i + 1 := ⟨_, rfl⟩
      obtain ⟨y2, hy2⟩ : ∃ y, y = v2 := ⟨_, rfl⟩
      refine ⟨⟨(y1, y2), ?_⟩, ?_, ?_⟩
      rotate_left
      · cbv
        exact nG
      · (subst hA; subst_vars; simp only [AR.std, natCast_eq, sG, reduceCtorEq] at *; try simp (disch := omega) only [AR.std, natCast_eq, sG, reduceCtorEq] at *); omega
      · rw [hy1, hy2]
        exact ⟨by simp only; omega, hi2, x2, hk4⟩
  · rename_i g
    obtain ⟨e1, e2⟩ := hout () (by clear hs hout hbd hk2; (subst hA; subst_vars; simp only [AR.std, natCast_eq, sG, reduceCtorEq] at *; try simp (disch := omega) only [AR.std, natCast_eq, sG, reduceCtorEq] at *); omega)
    rw [e1, e2]

end Tryz
end Go.Proofs

namespace Go.Proofs
open Go Go.Pe Go.Dg
namespace Tryz
set_option linter.unusedSimpArgs false
set_option linter.unusedVariables false
variable {P : Program} {gl : List (Nat × Obj)}

set_option maxHeartbeats 1000000 in
set_option maxRecDepth 100000 in
theorem implMatPoly_o_fx (C : Cx P gl) {ys : List Cell3} {p r : List PV} {n : Int} (hp : p = cells3 ys) (ok : matOk n ys) (fit : ∀ k, k < n.toNat + 1 → fits ((polyP n.toNat (dvY ys) (2 ^ n.toNat)) k)) (hr : r = cells3 (canL (polyP n.toNat (dvY ys) (2 ^ n.toNat)) (n.toNat + 1)))
    (hl : ys.length ≤ 2000000) (hy : ∀ y ∈ ys, y.2.1.length ≤ 2000000) :
    FX P gl 39 [] [.pv (.agg [I n, .lst p])] (fun own rr => own = [.tree 41 3 3 r] ∧ rr = .tup [.own 0, .pv (B true)]) := by
  have am := fun (P' : Program) (C' : Cx P' gl) => implMatOk_fs C' (n := n) (b := true) hp ⟨fun _ => ok, fun _ => rfl⟩ hl hy
  obtain ⟨n1, n4, hyl, hya⟩ := ok
  have hyl2 := matLen n1 n4 hyl
  obtain ⟨ws, w1, w2, w3⟩ := gridPoly_ex (allY_XL hya) n1 n4 hyl
  obtain ⟨pw, hpw⟩ : ∃ pw, pw = cells3 ws := ⟨_, rfl⟩
  have gr := fun (P' : Program) (C' : Cx P' gl) => w3 P' gl p pw C' hp hpw
  have g1 := fun (P' : Program) (C' : Cx P' gl) => matGrid_fs C' (n := n) hp hl
  have mt := fun (P' : Program) (C' : Cx P' gl) => dysOf_fn C' (r := r) hpw w2 (by omega) (by omega) (fun k hk => fit k (by omega)) (by rw [hr, w1]) (by omega)
  clear w1 w2 w3 hya hyl hpw fit hr hp hy
  obtain ⟨rfl, hG⟩ := C
  refine FX_ofC (own := fun A => []) (args := fun A => [.pv (.agg [I n, .lst p])]) (R := fun A ow rr => ow = [.tree 41 3 3 r] ∧ rr = .tup [.own 0, .pv (B true)]) Tryz.hT Tryz.mix Tryz.func39 rfl rfl (Nat.le_of_ble_eq_true rfl) ?_
  generalize hP : Tryz.prog = P
  intro A hA
  have C : Tryz.Cx P gl := ⟨hP.symm, hG⟩
  have hI : intsL = A.ints := by subst hA; rfl
  iterate 2 (all_goals try cbv; all_goals repeat' (first | with_reducible exact True.intro | with_reducible refine And.intro ?_ ?_ | intro _))
  all_goals try exact oG
  refine callS hA rfl (am P C) ?_; rintro _ rfl
  iterate 2 (all_goals try cbv; all_goals repeat' (first | with_reducible exact True.intro | with_reducible refine And.intro ?_ ?_ | intro _))
  all_goals try exact oG
  iterate 2 (all_goals try cbv; all_goals repeat' (first | with_reducible exact True.intro | with_reducible refine And.intro ?_ ?_ | intro _))
  all_goals try exact oG
  refine callS hA rfl (g1 P C) ?_; rintro _ rfl
  iterate 2 (all_goals try cbv; all_goals repeat' (first | with_reducible exact True.intro | with_reducible refine And.intro ?_ ?_ | intro _))
  all_goals try exact oG
  refine callS hA rfl (gr P C) ?_; rintro _ rfl
  iterate 2 (all_goals try cbv; all_goals repeat' (first | with_reducible exact True.intro | with_reducible refine And.intro ?_ ?_ | intro _))
  all_goals try exact oG
  refine callN hA rfl (mt P C) ?_; rintro _ _ ⟨rfl, rfl⟩; refine ⟨rfl, ?_⟩
  iterate 2 (all_goals try cbv; all_goals repeat' (first | with_reducible exact True.intro | with_reducible refine And.intro ?_ ?_ | intro _))
  all_goals try exact oG
  subst hA
  exact ⟨[1], _, _, by decide, Nat.zero_le _, rfl, rfl, rfl, rfl, rfl, rfl⟩

theorem implMatPoly_o_fn (C : Cx P gl) {ys : List Cell3} {p r : List PV} {n : Int} (hp : p = cells3 ys) (ok : matOk n ys) (fit : ∀ k, k < n.toNat + 1 → fits ((polyP n.toNat (dvY ys) (2 ^ n.toNat)) k)) (hr : r = cells3 (canL (polyP n.toNat (dvY ys) (2 ^ n.toNat)) (n.toNat + 1)))
    (hl : ys.length ≤ 2000000) (hy : ∀ y ∈ ys, y.2.1.length ≤ 2000000) :
    FN P gl 39 [.agg [I n, .lst p]] (fun own rr => own = [.tree 41 3 3 r] ∧ rr = .tup [.own 0, .pv (B true)]) :=
  FN_of (implMatPoly_o_fx C hp ok fit hr hl hy) (by rintro _ _ ⟨rfl, rfl⟩; exact ⟨by simp [closedB], rfl⟩)

set_option maxHeartbeats 1000000 in
set_option maxRecDepth 100000 in
theorem implMatPoly_X_fs (C : Cx P gl) {ys : List Cell3} {p : List PV} {n : Int} (hp : p = cells3 ys) (ok : matOk n ys) (fit : ¬∀ k, k < n.toNat + 1 → fits ((polyP n.toNat (dvY ys) (2 ^ n.toNat)) k))
    (hl : ys.length ≤ 2000000) (hy : ∀ y ∈ ys, y.2.1.length ≤ 2000000) :
    FS P gl 39 [.agg [I n, .lst p]] (· = .tup [.lst [], B false]) := by
  have am := fun (P' : Program) (C' : Cx P' gl) => implMatOk_fs C' (n := n) (b := true) hp ⟨fun _ => ok, fun _ => rfl⟩ hl hy
  obtain ⟨n1, n4, hyl, hya⟩ := ok
  have hyl2 := matLen n1 n4 hyl
  obtain ⟨ws, w1, w2, w3⟩ := gridPoly_ex (allY_XL hya) n1 n4 hyl
  obtain ⟨pw, hpw⟩ : ∃ pw, pw = cells3 ws := ⟨_, rfl⟩
  have gr := fun (P' : Program) (C' : Cx P' gl) => w3 P' gl p pw C' hp hpw
  have g1 := fun (P' : Program) (C' : Cx P' gl) => matGrid_fs C' (n := n) hp hl
  have mt := fun (P' : Program) (C' : Cx P' gl) => dysOf_fs C' hpw w2 (by omega) (by omega) (fun h => fit (fun k hk => h k (by omega))) (by omega)
  clear w1 w2 w3 hya hyl hpw fit hp hy
  obtain ⟨rfl, hG⟩ := C
  refine FS_ofC (args := fun A => [.agg [I n, .lst p]]) (R := fun A rr => rr = .tup [.lst [], B false]) Tryz.hT Tryz.mix Tryz.func39 rfl rfl (Nat.le_of_ble_eq_true rfl) ?_
  generalize hP : Tryz.prog = P
  intro A hA
  have C : Tryz.Cx P gl := ⟨hP.symm, hG⟩
  have hI : intsL = A.ints := by subst hA; rfl
  iterate 2 (all_goals try cbv; all_goals repeat' (first | with_reducible exact True.intro | with_reducible refine And.intro ?_ ?_ | intro _))
  all_goals try exact oG
  refine callS hA rfl (am P C) ?_; rintro _ rfl
  iterate 2 (all_goals try cbv; all_goals repeat' (first | with_reducible exact True.intro | with_reducible refine And.intro ?_ ?_ | intro _))
  all_goals try exact oG
  iterate 2 (all_goals try cbv; all_goals repeat' (first | with_reducible exact True.intro | with_reducible refine And.intro ?_ ?_ | intro _))
  all_goals try exact oG
  refine callS hA rfl (g1 P C) ?_; rintro _ rfl
  iterate 2 (all_goals try cbv; all_goals repeat' (first | with_reducible exact True.intro | with_reducible refine And.intro ?_ ?_ | intro _))
  all_goals try exact oG
  refine callS hA rfl (gr P C) ?_; rintro _ rfl
  iterate 2 (all_goals try cbv; all_goals repeat' (first | with_reducible exact True.intro | with_reducible refine And.intro ?_ ?_ | intro _))
  all_goals try exact oG
  refine callS hA rfl (mt P C) ?_; rintro _ rfl
  iterate 2 (all_goals try cbv; all_goals repeat' (first | with_reducible exact True.intro | with_reducible refine And.intro ?_ ?_ | intro _))
  all_goals try exact oG

set_option maxHeartbeats 1000000 in
set_option maxRecDepth 100000 in
theorem implMatPoly_N_fs (C : Cx P gl) {ys : List Cell3} {p : List PV} {n : Int} (hp : p = cells3 ys) (ok : ¬matOk n ys)
    (hl : ys.length ≤ 2000000) (hy : ∀ y ∈ ys, y.2.1.length ≤ 2000000) :
    FS P gl 39 [.agg [I n, .lst p]] (· = .tup [.lst [], B false]) := by
  have am := fun (P' : Program) (C' : Cx P' gl) => implMatOk_fs C' (n := n) (b := false) hp ⟨fun h => absurd h (by decide), fun h => absurd h ok⟩ hl hy
  clear ok hp hy
  obtain ⟨rfl, hG⟩ := C
  refine FS_ofT (args := fun A => [.agg [I n, .lst p]]) (R := fun A rr => rr = .tup [.lst [], B false]) Tryz.hT Tryz.mix Tryz.func39 rfl rfl (Nat.le_of_ble_eq_true rfl) ?_
  generalize hP : Tryz.prog = P
  intro A hA
  have C : Tryz.Cx P gl := ⟨hP.symm, hG⟩
  have hI : intsL = A.ints := by subst hA; rfl
  iterate 2 (all_goals try cbv; all_goals repeat' (first | with_reducible exact True.intro | with_reducible refine And.intro ?_ ?_ | intro _))
  all_goals try exact oG
  refine callS hA rfl (am P C) ?_; rintro _ rfl
  iterate 2 (all_goals try cbv; all_goals repeat' (first | with_reducible exact True.intro | with_reducible refine And.intro ?_ ?_ | intro _))
  all_goals try exact oG
  iterate 2 (all_goals try cbv; all_goals repeat' (first | with_reducible exact True.intro | with_reducible refine And.intro ?_ ?_ | intro _))
  all_goals try exact oG

set_option maxHeartbeats 1000000 in
set_option maxRecDepth 100000 in
theorem specMatPoly_fs (C : Cx P gl) {ys : List Cell3} {p r : List PV} {n : Int} {w : Bool} (hp : p = cells3 ys) (hw : w = true ↔ matOk n ys ∧ ∀ k, k < n.toNat + 1 → fits ((polyP n.toNat (dvY ys) (2 ^ n.toNat)) k))
    (h1 : w = true → r = cells3 (canL (polyP n.toNat (dvY ys) (2 ^ n.toNat)) (n.toNat + 1))) (h2 : w = false → r = [])
    (hl : ys.length ≤ 2000000) (hy : ∀ y ∈ ys, y.2.1.length ≤ 2000000) :
    FS P gl 38 [.agg [I n, .lst p]] (· = .tup [.lst r, B w]) := by
  obtain ⟨b, hb⟩ := bool_of (matOk n ys)
  have am := fun (P' : Program) (C' : Cx P' gl) => specMatOk_fs C' (n := n) (b := b) hp hb hl hy
  cases b with
  | false =>
    have hwf : w = false := by
      cases hwc : w with
      | false => rfl
      | true => exact absurd (hb.2 (hw.1 hwc).1) (by decide)
    have e1 := h2 hwf
    clear h1 h2 hw hb hp hy
    rw [e1, hwf]
    obtain ⟨rfl, hG⟩ := C
    refine FS_ofT (args := fun A => [.agg [I n, .lst p]]) (R := fun A rr => rr = .tup [.lst [], B false]) Tryz.hT Tryz.mix Tryz.func38 rfl rfl (Nat.le_of_ble_eq_true rfl) ?_
    generalize hP : Tryz.prog = P
    intro A hA
    have C : Tryz.Cx P gl := ⟨hP.symm, hG⟩
    have hI : intsL = A.ints := by subst hA; rfl
    iterate 2 (all_goals try cbv; all_goals repeat' (first | with_reducible exact True.intro | with_reducible refine And.intro ?_ ?_ | intro _))
    all_goals try exact oG
    refine callS hA rfl (am P C) ?_; rintro _ rfl
    iterate 2 (all_goals try cbv; all_goals repeat' (first | with_reducible exact True.intro | with_reducible refine And.intro ?_ ?_ | intro _))
    all_goals try exact oG
    iterate 2 (all_goals try cbv; all_goals repeat' (first | with_reducible exact True.intro | with_reducible refine And.intro ?_ ?_ | intro _))
    all_goals try exact oG
  | true =>
    have ok := hb.1 rfl
    obtain ⟨n1, n4, hyl, hya⟩ := ok
    obtain ⟨pw, hpw⟩ : ∃ pw, pw = cells3 (canL (polyP n.toNat (dvY ys) (2 ^ n.toNat)) (n.toNat + 1)) := ⟨_, rfl⟩
    have ad := fun (P' : Program) (C' : Cx P' gl) => l9poly_fs C' (n := n) (r := pw) hp (allY_CL hya) n1 n4 hyl hpw
    have hwm : w = true ↔ allY (canL (polyP n.toNat (dvY ys) (2 ^ n.toNat)) (n.toNat + 1)) := by
      rw [canL_ok, hw]
      exact ⟨fun h => h.2, fun h => ⟨hb.1 rfl, h⟩⟩
    obtain ⟨ws, w1, w2, _⟩ := gridPoly_ex (n := n) (allY_XL hya) n1 n4 hyl
    have ft := fun (P' : Program) (C' : Cx P' gl) => l9fits_fs C' (q := r) (b := w) hpw hwm (by rw [canL_len]; omega) (fun y hy => by
      obtain ⟨k, hk, rfl⟩ := List.mem_map.1 hy
      have := X_can (w2 k (by have := List.mem_range.1 hk; omega))
      show (dg (cZ ((polyP n.toNat (dvY ys) (2 ^ n.toNat)) k)).natAbs).length ≤ _
      omega) (fun h => by rw [hpw]; exact h1 h) h2
    clear h1 h2 hw hb hp hy hwm hpw hya hyl w1 w2
    obtain ⟨rfl, hG⟩ := C
    refine FS_ofT (args := fun A => [.agg [I n, .lst p]]) (R := fun A rr => rr = .tup [.lst r, B w]) Tryz.hT Tryz.mix Tryz.func38 rfl rfl (Nat.le_of_ble_eq_true rfl) ?_
    generalize hP : Tryz.prog = P
    intro A hA
    have C : Tryz.Cx P gl := ⟨hP.symm, hG⟩
    have hI : intsL = A.ints := by subst hA; rfl
    iterate 2 (all_goals try cbv; all_goals repeat' (first | with_reducible exact True.intro | with_reducible refine And.intro ?_ ?_ | intro _))
    all_goals try exact oG
    refine callS hA rfl (am P C) ?_; rintro _ rfl
    iterate 2 (all_goals try cbv; all_goals repeat' (first | with_reducible exact True.intro | with_reducible refine And.intro ?_ ?_ | intro _))
    all_goals try exact oG
    iterate 2 (all_goals try cbv; all_goals repeat' (first | with_reducible exact True.intro | with_reducible refine And.intro ?_ ?_ | intro _))
    all_goals try exact oG
    refine callS hA rfl (ad P C) ?_; rintro _ rfl
    iterate 2 (all_goals try cbv; all_goals repeat' (first | with_reducible exact True.intro | with_reducible refine And.intro ?_ ?_ | intro _))
    all_goals try exact oG
    refine callS hA rfl (ft P C) ?_; rintro _ rfl
    iterate 2 (all_goals try cbv; all_goals repeat' (first | with_reducible exact True.intro | with_reducible refine And.intro ?_ ?_ | intro _))
    all_goals try exact oG

end Tryz
end Go.Proofs

