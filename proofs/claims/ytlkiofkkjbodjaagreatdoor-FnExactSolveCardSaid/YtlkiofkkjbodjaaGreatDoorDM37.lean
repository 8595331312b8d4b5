/- Contracts: the identity and the adjugate in the reference. -/
import Derived.Test.YtlkiofkkjbodjaaGreatDoorDM15
import Derived.Test.YtlkiofkkjbodjaaGreatDoorDM35
import Derived.Test.YtlkiofkkjbodjaaGreatDoorDPeTb
set_option maxHeartbeats 1000000
set_option maxRecDepth 100000
namespace Go.Proofs
open Go Go.Pe Go.Dg
namespace Tryz
set_option linter.unusedSimpArgs false
set_option linter.unusedVariables false
variable {P : Program} {gl : List (Nat × Obj)}

theorem l3of1_fs (C : Cx P gl) {p : List PV} (hp : p = intsL (dg 1)) : FS P gl 130 [I 1] (· = .agg [B false, .lst p]) := by
 have h1 := fun (P' : Program) (C' : Cx P' gl) => l2of_fs C' (k := 1) (n := 1) rfl hp (by decide)
 have h2 := fun (P' : Program) (C' : Cx P' gl) => l3make_fs C' (n := 1) (s := false) (s' := false) hp rfl (Nat.le_trans (dg_len 1 (by decide)) (by decide))
 clear hp
 refine gS C func130 rfl rfl rfl fun A hA hI => ?_
 iterate 2 all_goals try cbv; with_reducible repeat' first | exact ⟨⟩ | apply And.intro | intro _
 all_goals try exact oG
 refine callS hA rfl (h1 P C) ?_; rintro _ rfl
 iterate 2 all_goals try cbv; with_reducible repeat' first | exact ⟨⟩ | apply And.intro | intro _
 all_goals try exact oG
 refine callS hA rfl (h2 P C) ?_; rintro _ rfl
 iterate 2 all_goals try cbv; with_reducible repeat' first | exact ⟨⟩ | apply And.intro | intro _
 all_goals try exact oG

theorem l8id_fs (C : Cx P gl) {r : List PV} {n : Int} (hn : 0 ≤ n) (hn4 : n ≤ 4) (hr : r = cells3 (canL (idD n.toNat) (n.toNat * n.toNat))) :
  FS P gl 141 [I n] (· = .agg [I n, .lst r]) := by
 obtain ⟨w, hw⟩ : ∃ w, w = n.toNat := ⟨_, rfl⟩
 rw [← hw] at hr
 have hnn : n * n = ((w * w : Nat) : Int) := by rw [hw, Int.natCast_mul, Int.toNat_of_nonneg hn]
 have hw4 : w ≤ 4 := by omega
 obtain ⟨N, hN⟩ : ∃ N, N = w * w := ⟨_, rfl⟩
 obtain ⟨u0, hu0⟩ : ∃ u, u = cells3 (idP w 0) := ⟨_, rfl⟩
 have hnew := fun (P' : Program) (C' : Cx P' gl) => l8new_fn C' hn (by omega) (by rw [hu0, idP_zero, hnn]; rfl : u0 = cells3 (List.replicate (n * n).toNat noY))
 obtain ⟨po, hpo⟩ : ∃ po, po = intsL (dg 1) := ⟨_, rfl⟩
 obtain ⟨s, hs⟩ : ∃ s, s = (canY 1).1 := ⟨_, rfl⟩
 obtain ⟨q, hq⟩ : ∃ q, q = intsL (canY 1).2.1 := ⟨_, rfl⟩
 obtain ⟨e, he⟩ : ∃ e, e = (canY 1).2.2 := ⟨_, rfl⟩
 have h3 := fun (P' : Program) (C' : Cx P' gl) => l3of1_fs C' hpo
 have h4 := fun (P' : Program) (C' : Cx P' gl) => l4make_fs C' (z := 1) (e := 0) (s := false) (d := 1) (p := po) (r := q) (u := s) (f := e) hpo rfl rfl hq hs he (by decide) (Nat.le_trans (dg_len 1 (by decide)) (by decide))
 have hbnd : ∀ i : Int, 0 ≤ i → i < n → (i * n + i).toNat = i.toNat * w + i.toNat ∧ 0 ≤ i * n ∧ i * n ≤ 16 ∧ i * n + i < N := by
  intro i h1 h3
  have hww : w * w ≤ 4 * 4 := Nat.mul_le_mul hw4 hw4
  have e1 : i * n = ((i.toNat * w : Nat) : Int) := by rw [Int.natCast_mul, hw, Int.toNat_of_nonneg h1, Int.toNat_of_nonneg hn]
  have := place_lt (n := w) (i := i.toNat) (j := i.toNat) (by omega) (by omega)
  omega
 have hstep : ∀ (i : Int) (t : List PV), 0 ≤ i → i < n → t = cells3 (idP w i.toNat) → ∃ (x : Int) (t2 : List PV), x = i * n + i ∧ 0 ≤ x ∧ x < N ∧ t2 = t.set x.toNat (.agg [B s, .lst q, I e]) ∧ t2 = cells3 (idP w (i + 1).toNat) := by
  intro i t h1 h2 ht
  obtain ⟨b1, b2, b3, b4⟩ := hbnd i h1 h2
  refine ⟨i * n + i, _, rfl, by omega, b4, rfl, ?_⟩
  rw [show (i + 1).toNat = i.toNat + 1 by omega, ← idP_succ (by omega), b1, ht, hs, hq, he]
  exact c3set _ _ (canY 1)
 have hlen : ∀ (i : Int) (t : List PV), t = cells3 (idP w i.toNat) → t.length = N := by
  intro i t ht
  rw [ht, cells3_len, idP_len, hN]
 have hend : ∀ t : List PV, t = cells3 (idP w n.toNat) → t = r := by
  intro t h
  rw [h, hr, ← hw, idP_all]
 have hb2 : ∀ i : Int, 0 ≤ i → i < n → 0 ≤ i * n ∧ i * n ≤ 16 ∧ i * n + i < N := fun i h1 h2 => (hbnd i h1 h2).2
 clear hr hs hq he hnn hN hbnd hpo
 refine gS C func141 rfl rfl rfl fun A hA hI => ?_
 iterate 2 all_goals try cbv; with_reducible repeat' first | exact ⟨⟩ | apply And.intro | intro _
 all_goals try exact oG
 refine callN hA rfl (hnew P C) ?_; rintro _ _ ⟨rfl, rfl⟩; refine ⟨rfl, ?_⟩
 clear hnew
 iterate 2 all_goals try cbv; with_reducible repeat' first | exact ⟨⟩ | apply And.intro | intro _
 all_goals try exact oG
 refine loopI hA [] (ι := Int × List PV) (fun x => [(4, .pv (I x.1))]) (fun x => [(1, .row 64 3 x.2)]) (fun x => (n - x.1).toNat) (fun x => 0 ≤ x.1 ∧ x.1 ≤ n ∧ x.2 = cells3 (idP w x.1.toNat)) (0, u0) (by rfl) ?_ ?_ ?_
 all_goals try exact tG
 ·exact ⟨Int.le_refl _, hn, hu0⟩
 rintro ⟨i, t⟩ ⟨hi0, hi1, ht⟩
 simp only at hi0 hi1 ht
 have htl := hlen i t ht
 have b4 : i < n → 0 ≤ i * n ∧ i * n ≤ 16 ∧ i * n + i < N := fun h => hb2 i hi0 h
 have hx : ∀ _ : Unit, i = n → t = r := fun _ h => hend t (by rw [ht, h])
 have hs : ∀ _ : Unit, i < n → ∃ (x : Int) (t2 : List PV), x = i * n + i ∧ 0 ≤ x ∧ x < N ∧ t2 = t.set x.toNat (.agg [B s, .lst q, I e]) ∧ t2 = cells3 (idP w (i + 1).toNat) := fun _ h => hstep i t hi0 h ht
 clear ht hstep hlen hend hb2 hu0
 iterate 2 all_goals try cbv; with_reducible repeat' first | exact ⟨⟩ | apply And.intro | intro _
 all_goals try exact oG
 ·rename_i g
  have gi : i < n := by clear hx hs; exact eG
  obtain ⟨x, t2, x1, x2, x3, x4, x5⟩ := hs () gi
  have hi2 : i + 1 ≤ n := by omega
  have hx1 : A.add .i64 (A.mul .i64 i n) i = x := by clear hx hs x4 x5 g; (subst hA; subst_vars; simp only [AR.std, natCast_eq, sG, reduceCtorEq] at *; try simp (disch := omega) only [AR.std, natCast_eq, sG, reduceCtorEq] at *)
  have hst : A.set t (A.nat x) (.agg [B s, .lst q, I e]) = t2 := by rw [x4]; subst hA; rfl
  clear hx hs g x4
  iterate 2 all_goals try cbv; with_reducible repeat' first | exact ⟨⟩ | apply And.intro | intro _
  all_goals try exact oG
  refine ⟨_, h3 P C, ?_⟩
  iterate 2 all_goals try cbv; with_reducible repeat' first | exact ⟨⟩ | apply And.intro | intro _
  all_goals try exact oG
  refine ⟨_, h4 P C, ?_⟩
  iterate 2 all_goals try cbv; with_reducible repeat' first | exact ⟨⟩ | apply And.intro | intro _
  all_goals try exact oG
  all_goals simp only [hx1]
  iterate 2 all_goals try cbv; with_reducible repeat' first | exact ⟨⟩ | apply And.intro | intro _
  all_goals try exact oG
  simp only [hst]
  clear hst hx1
  obtain ⟨y1, hy1⟩ : ∃ y, y = i + 1 := ⟨_, rfl⟩
  obtain ⟨y2, hy2⟩ : ∃ y, y = t2 := ⟨_, rfl⟩
  refine ⟨⟨(y1, y2), ?_⟩, ?_, ?_⟩
  rotate_left
  ·cbv
   exact nG
  ·exact eG
  ·rw [hy1, hy2]
   exact ⟨by simp only; omega, hi2, x5⟩
 ·rename_i g
  have e := hx () (by clear hx hs; exact eG)
  rw [e]

theorem l9adj1_fs (C : Cx P gl) {p r : List PV} (hr : r = cells3 (canL (idD 1) 1)) :
  FS P gl 69 [.agg [I 1, .lst p]] (· = .agg [I 1, .lst r]) := by
 have h1 := fun (P' : Program) (C' : Cx P' gl) => l8id_fs C' (n := 1) (by decide) (by decide) hr
 clear hr
 refine gS C func69 rfl rfl rfl fun A hA hI => ?_
 iterate 2 all_goals try cbv; with_reducible repeat' first | exact ⟨⟩ | apply And.intro | intro _
 all_goals try exact oG
 refine callS hA rfl (h1 P C) ?_; rintro _ rfl
 iterate 2 all_goals try cbv; with_reducible repeat' first | exact ⟨⟩ | apply And.intro | intro _
 all_goals try exact oG

theorem l9adjN_fs (C : Cx P gl) {ys : List Cell3} {d : Nat → Dyadic} {p r : List PV} {n : Int} (hp : p = cells3 ys) (h : CL 3000 4600 d ys) (hn : 2 ≤ n) (hn4 : n ≤ 4) (hyl : (ys.length : Int) = n * n)
  (hr : r = cells3 (canL (adjD n.toNat d) ys.length)) :
  FS P gl 69 [.agg [I n, .lst p]] (· = .agg [I n, .lst r]) := by
 obtain ⟨w, hw⟩ : ∃ w, w = n.toNat := ⟨_, rfl⟩
 have hnn : n * n = ((w * w : Nat) : Int) := by rw [hw, Int.natCast_mul, Int.toNat_of_nonneg (by omega)]
 have hw4 : w ≤ 4 := by omega
 obtain ⟨N, hN⟩ : ∃ N, N = w * w := ⟨_, rfl⟩
 rw [← hw, show ys.length = w * w by omega] at hr
 obtain ⟨u0, hu0⟩ : ∃ u, u = cells3 (adjP w d 0 0) := ⟨_, rfl⟩
 have hnew := fun (P' : Program) (C' : Cx P' gl) => l8new_fn C' (n := n) (by omega) (by omega) (by rw [hu0, adjP_zero, hnn]; rfl : u0 = cells3 (List.replicate (n * n).toNat noY))
 have hbnd : ∀ i j : Int, 0 ≤ i → 0 ≤ j → i < n → j < n → (j * n + i).toNat = j.toNat * w + i.toNat ∧ 0 ≤ j * n ∧ j * n ≤ 16 ∧ j * n + i < N := by
  intro i j h1 h2 h3 h4
  have hww : w * w ≤ 4 * 4 := Nat.mul_le_mul hw4 hw4
  have e1 : j * n = ((j.toNat * w : Nat) : Int) := by rw [Int.natCast_mul, hw, Int.toNat_of_nonneg h2, Int.toNat_of_nonneg (by omega)]
  have := place_lt (n := w) (i := j.toNat) (j := i.toNat) (by omega) (by omega)
  omega
 have hm : ∀ k, k < w * w → Mg 3000 4600 (d k) := fun k hk => (h k (by omega)).2
 have hstep : ∀ (i j : Int) (t : List PV), 0 ≤ i → 0 ≤ j → i < n → j < n → t = cells3 (adjP w d i.toNat j.toNat) → ∃ (s s3 s4 : Bool) (e n1 x : Int) (u q t2 : List PV),
   (∀ P', Cx P' gl → FS P' gl 139 [.agg [I n, .lst p], I i, I j] (· = .agg [I n1, .lst q])) ∧ (∀ P', Cx P' gl → FS P' gl 68 [.agg [I n1, .lst q]] (· = .agg [B s, .lst u, I e])) ∧
   (∀ P', Cx P' gl → FS P' gl 140 [.agg [B s, .lst u, I e]] (· = .agg [B s3, .lst u, I e])) ∧ ((i.toNat + j.toNat) % 2 = 1 → s4 = s3) ∧ (¬ (i.toNat + j.toNat) % 2 = 1 → s4 = s) ∧
   x = j * n + i ∧ 0 ≤ x ∧ x < N ∧ t2 = t.set x.toNat (.agg [B s4, .lst u, I e]) ∧ t2 = cells3 (adjP w d i.toNat (j + 1).toNat) := by
  intro i j t h1 h2 h3 h4 ht
  obtain ⟨b1, b2, b3, b4⟩ := hbnd i j h1 h2 h3 h4
  obtain ⟨dm, hdm⟩ : ∃ x, x = detD (w - 1) (minorD w i.toNat j.toNat d) := ⟨_, rfl⟩
  have hmg := Mg.minor hw4 (r := i.toNat) (c := j.toNat) (by omega) (by omega) hm
  rw [← hdm] at hmg
  have hl := Mg_len hmg
  have hml : (minorL w i.toNat j.toNat ys).length = (w - 1) * (w - 1) := by rw [minorL_len, idxL_len hw4 (by omega) (by omega)]
  refine ⟨(canY dm).1, decide (0 < cZ dm), if (i.toNat + j.toNat) % 2 = 1 then decide (0 < cZ dm) else (canY dm).1, (canY dm).2.2, n - 1, j * n + i, intsL (canY dm).2.1, cells3 (minorL w i.toNat j.toNat ys), _,
   fun P' C' => l9minor_fs C' hp (by omega) hn4 h1 h3 h2 h4 hyl rfl (by rw [← hw]),
   fun P' C' => l8det_fs C' (d := minorD w i.toNat j.toNat d) rfl (minor_CL h (by omega)) (by omega) (by omega) (by
    rw [hml]
    have e1 : n - 1 = ((w - 1 : Nat) : Int) := by omega
    rw [e1, Int.natCast_mul]) (by rw [show (n - 1).toNat = w - 1 by omega, ← hdm]) (by rw [show (n - 1).toNat = w - 1 by omega, ← hdm]) (by rw [show (n - 1).toNat = w - 1 by omega, ← hdm]),
   fun P' C' => l4neg_fs C' (z := cZ dm) rfl rfl rfl (by omega), fun h => if_pos h, fun h => if_neg h, rfl, by omega, b4, rfl, ?_⟩
  rw [show (j + 1).toNat = j.toNat + 1 by omega, ← adjP_succ (by omega) (by omega), b1, ht, ← hdm, ← c3set]
  congr 1
  by_cases hc : (i.toNat + j.toNat) % 2 = 1
  ·rw [if_pos hc, sgnD, if_pos hc, canY_neg]; rfl
  ·rw [if_neg hc, sgnD, if_neg hc]; rfl
 have hlen : ∀ (i j : Int) (t : List PV), t = cells3 (adjP w d i.toNat j.toNat) → t.length = N := by
  intro i j t ht
  rw [ht, cells3_len, adjP_len, hN]
 have hrow : ∀ (i : Int) (t : List PV), 0 ≤ i → t = cells3 (adjP w d i.toNat n.toNat) → t = cells3 (adjP w d (i + 1).toNat (0 : Int).toNat) := by
  intro i t h1 ht
  rw [ht, ← hw, adjP_row, show (i + 1).toNat = i.toNat + 1 by omega]
  rfl
 have hend : ∀ t : List PV, t = cells3 (adjP w d n.toNat (0 : Int).toNat) → t = r := by
  intro t h
  rw [h, hr, ← hw]
  exact congrArg cells3 (adjP_all w d)
 have hb2 : ∀ i j : Int, 0 ≤ i → 0 ≤ j → i < n → j < n → 0 ≤ j * n ∧ j * n ≤ 16 ∧ j * n + i < N := fun i j h1 h2 h3 h4 => (hbnd i j h1 h2 h3 h4).2
 clear hr h hyl hnn hN hbnd hp hm
 refine gS C func69 rfl rfl rfl fun A hA hI => ?_
 iterate 2 all_goals try cbv; with_reducible repeat' first | exact ⟨⟩ | apply And.intro | intro _
 all_goals try exact oG
 refine callN hA rfl (hnew P C) ?_; rintro _ _ ⟨rfl, rfl⟩; refine ⟨rfl, ?_⟩
 clear hnew
 iterate 2 all_goals try cbv; with_reducible repeat' first | exact ⟨⟩ | apply And.intro | intro _
 all_goals try exact oG
 refine loopI hA [] (ι := Int × List PV) (fun x => [(4, .pv (I x.1))]) (fun x => [(2, .row 64 3 x.2)]) (fun x => (n - x.1).toNat) (fun x => 0 ≤ x.1 ∧ x.1 ≤ n ∧ x.2 = cells3 (adjP w d x.1.toNat (0 : Int).toNat)) (0, u0) (by rfl) ?_ ?_ ?_
 all_goals try exact tG
 ·exact ⟨Int.le_refl _, by omega, hu0⟩
 rintro ⟨i, t⟩ ⟨hi0, hi1, ht⟩
 simp only at hi0 hi1 ht
 have hout : ∀ _ : Unit, i = n → t = r := by
  intro _ h
  rw [h] at ht
  exact hend t ht
 clear hend hu0
 iterate 2 all_goals try cbv; with_reducible repeat' first | exact ⟨⟩ | apply And.intro | intro _
 all_goals try exact oG
 ·rename_i g
  have gi : i < n := by clear hstep hrow hlen ht hout hb2; exact eG
  have hi2 : i + 1 ≤ n := by omega
  have hst := fun j t h1 h2 => hstep i j t hi0 h1 gi h2
  have hle := fun j t h => hlen i j t h
  have hro := fun t h => hrow i t hi0 h
  have hbn := fun j h1 h2 => hb2 i j hi0 h1 gi h2
  clear g hout hstep hrow hlen hb2
  refine loopI hA [] (ι := Int × List PV) (fun x => [(5, .pv (I x.1))]) (fun x => [(2, .row 64 3 x.2)]) (fun x => (n - x.1).toNat) (fun x => 0 ≤ x.1 ∧ x.1 ≤ n ∧ x.2 = cells3 (adjP w d i.toNat x.1.toNat)) (0, t) (by rfl) ?_ ?_ ?_
  all_goals try exact tG
  ·exact ⟨Int.le_refl _, by omega, ht⟩
  rintro ⟨j, v⟩ ⟨hj0, hj1, hv⟩
  simp only at hj0 hj1 hv
  have hvl := hle j v hv
  have b4 : j < n → 0 ≤ j * n ∧ j * n ≤ 16 ∧ j * n + i < N := fun h => hbn j hj0 h
  have hx : ∀ _ : Unit, j = n → v = cells3 (adjP w d (i + 1).toNat (0 : Int).toNat) := by
   intro _ h
   rw [h] at hv
   exact hro v hv
  have hs : ∀ _ : Unit, j < n → ∃ (s s3 s4 : Bool) (e n1 x : Int) (u q t2 : List PV),
   (∀ P', Cx P' gl → FS P' gl 139 [.agg [I n, .lst p], I i, I j] (· = .agg [I n1, .lst q])) ∧ (∀ P', Cx P' gl → FS P' gl 68 [.agg [I n1, .lst q]] (· = .agg [B s, .lst u, I e])) ∧
   (∀ P', Cx P' gl → FS P' gl 140 [.agg [B s, .lst u, I e]] (· = .agg [B s3, .lst u, I e])) ∧ ((i.toNat + j.toNat) % 2 = 1 → s4 = s3) ∧ (¬ (i.toNat + j.toNat) % 2 = 1 → s4 = s) ∧
   x = j * n + i ∧ 0 ≤ x ∧ x < N ∧ t2 = v.set x.toNat (.agg [B s4, .lst u, I e]) ∧ t2 = cells3 (adjP w d i.toNat (j + 1).toNat) := fun _ h => hst j v hj0 h hv
  clear hv hst hle hro hbn ht
  iterate 2 all_goals try cbv; with_reducible repeat' first | exact ⟨⟩ | apply And.intro | intro _
  all_goals try exact oG
  ·rename_i g
   have gj : j < n := by clear hx hs; exact eG
   obtain ⟨s, s3, s4, e, n1, x, u, q, t2, c1, c2, c3, c4, c5, x1, x2, x3, x4, x5⟩ := hs () gj
   have hj2 : j + 1 ≤ n := by omega
   have hx1 : A.add .i64 (A.mul .i64 j n) i = x := by clear hx hs c1 c2 c3 c4 c5 x4 x5 g; (subst hA; subst_vars; simp only [AR.std, natCast_eq, sG, reduceCtorEq] at *; try simp (disch := omega) only [AR.std, natCast_eq, sG, reduceCtorEq] at *)
   have hst : A.set v (A.nat x) (.agg [B s4, .lst u, I e]) = t2 := by rw [x4]; subst hA; rfl
   have codd : A.eq (A.rem .i64 (A.add .i64 i j) 2) 1 = decide ((i.toNat + j.toNat) % 2 = 1) := by
    clear hx hs c1 c2 c3 c4 c5 x1 x2 x3 x4 x5 g hx1 hst
    subst hA
    show (Int.tmod (IntKind.i64.wrap (i + j)) 2 == 1) = _
    rw [wrapi (by omega) (by omega), Int.tmod_eq_emod_of_nonneg (by omega), Bool.eq_iff_iff, beq_iff_eq, decide_eq_true_eq]; omega
   obtain ⟨od, hod⟩ : ∃ od, od = decide ((i.toNat + j.toNat) % 2 = 1) := ⟨_, rfl⟩
   rw [← hod] at codd
   have c4' : od = true → s4 = s3 := fun h => c4 (of_decide_eq_true (hod ▸ h))
   have c5' : od = false → s4 = s := fun h => c5 (of_decide_eq_false (hod ▸ h))
   clear hx hs g c4 c5 x4 hod
   refine callS hA rfl (c1 P C) ?_; rintro _ rfl
   iterate 2 all_goals try cbv; with_reducible repeat' first | exact ⟨⟩ | apply And.intro | intro _
   all_goals try exact oG
   refine callS hA rfl (c2 P C) ?_; rintro _ rfl
   iterate 2 all_goals try cbv; with_reducible repeat' first | exact ⟨⟩ | apply And.intro | intro _
   all_goals try exact oG
   all_goals try simp only [codd]
   ·rename_i g
    rw [codd] at g
    have c4 := c4' g
    subst c4
    clear c4' c5' codd g
    iterate 2 all_goals try cbv; with_reducible repeat' first | exact ⟨⟩ | apply And.intro | intro _
    all_goals try exact oG
    refine callS hA rfl (c3 P C) ?_; rintro _ rfl
    iterate 2 all_goals try cbv; with_reducible repeat' first | exact ⟨⟩ | apply And.intro | intro _
    all_goals try exact oG
    all_goals simp only [hx1]
    iterate 2 all_goals try cbv; with_reducible repeat' first | exact ⟨⟩ | apply And.intro | intro _
    all_goals try exact oG
    simp only [hst]
    clear hst hx1 c1 c2 c3
    obtain ⟨y1, hy1⟩ : ∃ y, y = j + 1 := ⟨_, rfl⟩
    obtain ⟨y2, hy2⟩ : ∃ y, y = t2 := ⟨_, rfl⟩
    refine ⟨⟨(y1, y2), ?_⟩, ?_, ?_⟩
    rotate_left
    ·cbv
     exact nG
    ·exact eG
    ·rw [hy1, hy2]
     exact ⟨by simp only; omega, hj2, x5⟩
   ·rename_i g
    rw [codd] at g
    have c5 := c5' g
    subst c5
    clear c4' c5' codd g
    iterate 2 all_goals try cbv; with_reducible repeat' first | exact ⟨⟩ | apply And.intro | intro _
    all_goals try exact oG
    all_goals simp only [hx1]
    iterate 2 all_goals try cbv; with_reducible repeat' first | exact ⟨⟩ | apply And.intro | intro _
    all_goals try exact oG
    simp only [hst]
    clear hst hx1 c1 c2 c3
    obtain ⟨y1, hy1⟩ : ∃ y, y = j + 1 := ⟨_, rfl⟩
    obtain ⟨y2, hy2⟩ : ∃ y, y = t2 := ⟨_, rfl⟩
    refine ⟨⟨(y1, y2), ?_⟩, ?_, ?_⟩
    rotate_left
    ·cbv
     exact nG
    ·exact eG
    ·rw [hy1, hy2]
     exact ⟨by simp only; omega, hj2, x5⟩
  ·rename_i g
   have gj : j = n := by clear hx hs; exact eG
   have hq' := hx () gj
   clear hx hs
   iterate 2 all_goals try cbv; with_reducible repeat' first | exact ⟨⟩ | apply And.intro | intro _
   all_goals try exact oG
   obtain ⟨y1, hy1⟩ : ∃ y, y = i + 1 := ⟨_, rfl⟩
   obtain ⟨y2, hy2⟩ : ∃ y, y = v := ⟨_, rfl⟩
   refine ⟨⟨(y1, y2), ?_⟩, ?_, ?_⟩
   rotate_left
   ·cbv
    exact nG
   ·exact eG
   ·rw [hy1, hy2]
    exact ⟨by simp only; omega, hi2, hq'⟩
 ·rename_i g
  have e := hout () (by clear hstep hrow hlen ht hout hb2; exact eG)
  rw [e]

theorem l9adj_fs (C : Cx P gl) {ys : List Cell3} {d : Nat → Dyadic} {p r : List PV} {n : Int} (hp : p = cells3 ys) (h : CL 3000 4600 d ys) (hn : 1 ≤ n) (hn4 : n ≤ 4) (hyl : (ys.length : Int) = n * n)
  (hr : r = cells3 (canL (adjD n.toNat d) ys.length)) :
  FS P gl 69 [.agg [I n, .lst p]] (· = .agg [I n, .lst r]) := by
 by_cases h1 : n = 1
 ·subst h1
  rw [show ys.length = 1 by omega] at hr
  exact l9adj1_fs C hr
 ·exact l9adjN_fs C hp h (by omega) hn4 hyl hr

end Tryz
end Go.Proofs
