/- Contracts: a matrix out of a function of its places. -/
import Derived.Test.YtlkiofkkjbodjaaGreatDoorBM4
set_option maxHeartbeats 1000000
set_option maxRecDepth 100000
namespace Go.Proofs
open Go Go.Pe Go.Dg
namespace Tryz
set_option linter.unusedSimpArgs false
set_option linter.unusedVariables false
variable {P : Program} {gl : List (Nat × Obj)}

theorem aIZ (C : Cx P gl) {n : Int} {f : FuncId} {y : Nat → Nat → aC} {p : List PV} (hn : 0 ≤ n) (hn4 : n ≤ 100) (hp : p = aB (bY y n.toNat n.toNat))
  (hat : ∀ (i j : Int) (s : Bool) (l : List Int) (e : Int) (q : List PV), 0 ≤ i → i < n → 0 ≤ j → j < n → y i.toNat j.toNat = (s, l, e) → q = aA l → ∀ P', Cx P' gl → FS P' gl f [I i, I j] (· = .agg [B s, .lst q, I e])) :
  FS P gl 154 [I n, .fn f []] (· = .agg [I n, .lst p]) := by
 refine gS C func154 rfl rfl rfl fun A hA hI => ?_
 iterate 2 all_goals try cbv; with_reducible repeat' first | exact ⟨⟩ | apply And.intro | intro _
 all_goals try exact oG
 refine aZ hA [.cell 1 1 121 3] (ι := Int × List PV) (fun x => [(11, .pv (I x.1))]) (fun x => [(2, .row 121 3 x.2)]) (fun x => (n - x.1).toNat) (fun x => 0 ≤ x.1 ∧ x.1 ≤ n ∧ x.2 = aB (bY y n.toNat x.1.toNat)) (0, []) (by rfl) ?_ ?_ ?_
 all_goals try exact tG
 ·exact ⟨Int.le_refl _, hn, rfl⟩
 rintro ⟨i, q⟩ ⟨hi0, hi1, hq⟩
 simp only at hi0 hi1 hq
 iterate 2 all_goals try cbv; with_reducible repeat' first | exact ⟨⟩ | apply And.intro | intro _
 all_goals try exact oG
 ·rename_i g
  have gi : i < n := by clear hq hp hat; exact eG
  have q0 : q = aB (bY y n.toNat i.toNat ++ jP y i.toNat 0) := by rw [hq]; simp [jP]
  have hi2 : i + 1 ≤ n := by omega
  clear g
  refine aZ hA [] (ι := Int × List PV) (fun x => [(15, .pv (I x.1))]) (fun x => [(2, .row 121 3 x.2)]) (fun x => (n - x.1).toNat) (fun x => 0 ≤ x.1 ∧ x.1 ≤ n ∧ x.2 = aB (bY y n.toNat i.toNat ++ jP y i.toNat x.1.toNat)) (0, q) (by rfl) ?_ ?_ ?_
  all_goals try exact tG
  ·exact ⟨Int.le_refl _, hn, q0⟩
  rintro ⟨j, r⟩ ⟨hj0, hj1, hr⟩
  simp only at hj0 hj1 hr
  have hrl : r.length ≤ 20200 := by
   rw [hr, aV, List.length_append, cP, pK]
   have : i.toNat * n.toNat ≤ 100 * 100 := Nat.mul_le_mul (by omega) (by omega)
   omega
  clear q0
  iterate 2 all_goals try cbv; with_reducible repeat' first | exact ⟨⟩ | apply And.intro | intro _
  all_goals try exact oG
  ·rename_i g
   have gj : j < n := by clear hq hp hat hr; exact eG
   obtain ⟨s, hs⟩ : ∃ s, s = (y i.toNat j.toNat).1 := ⟨_, rfl⟩
   obtain ⟨l, hl⟩ : ∃ l, l = (y i.toNat j.toNat).2.1 := ⟨_, rfl⟩
   obtain ⟨e, he⟩ : ∃ e, e = (y i.toNat j.toNat).2.2 := ⟨_, rfl⟩
   obtain ⟨u, hu⟩ : ∃ u, u = aA l := ⟨_, rfl⟩
   have hy : y i.toNat j.toNat = (s, l, e) := by rw [hs, hl, he]
   have hj2 : j + 1 ≤ n := by omega
   refine ⟨_, hat i j s l e u hi0 gi hj0 gj hy hu P C, ?_⟩
   have cR : r ++ [.agg [B s, .lst u, I e]] = aB (bY y n.toNat i.toNat ++ jP y i.toNat (j + 1).toNat) := by
    rw [show (j + 1).toNat = j.toNat + 1 by omega, qN, ← List.append_assoc, ← tF, ← hr, hy, hu]
    rfl
   obtain ⟨r', hr'⟩ : ∃ r', r' = r ++ [.agg [B s, .lst u, I e]] := ⟨_, rfl⟩
   have hra : A.app r [.agg [B s, .lst u, I e]] = r' := by rw [hr']; subst hA; rfl
   rw [← hr'] at cR
   clear hs hl he hu hy hq hp hat hr hr'
   iterate 2 all_goals try cbv; with_reducible repeat' first | exact ⟨⟩ | apply And.intro | intro _
   all_goals try exact oG
   all_goals try exact kP hA (by intro x hx; rw [List.mem_singleton.1 hx]; exact ⟨rfl, rfl⟩)
   all_goals try exact lU hA (by simp only [List.length_singleton]; omega)
   simp only [hra]
   clear hra
   obtain ⟨y1, hy1⟩ : ∃ y, y = j + 1 := ⟨_, rfl⟩
   obtain ⟨y2, hy2⟩ : ∃ y, y = r' := ⟨_, rfl⟩
   refine ⟨⟨(y1, y2), ?_⟩, ?_, ?_⟩
   rotate_left
   ·cbv
    exact nG
   ·exact eG
   ·rw [hy1, hy2]
    exact ⟨by simp only; omega, hj2, cR⟩
  ·rename_i g
   have gj : n ≤ j := by clear hq hp hat hr; exact eG
   have hq' : r = aB (bY y n.toNat (i + 1).toNat) := by
    rw [hr, show j.toNat = n.toNat by omega, show (i + 1).toNat = i.toNat + 1 by omega, iN]
   clear hq hr hp hat
   iterate 2 all_goals try cbv; with_reducible repeat' first | exact ⟨⟩ | apply And.intro | intro _
   all_goals try exact oG
   obtain ⟨y1, hy1⟩ : ∃ y, y = i + 1 := ⟨_, rfl⟩
   obtain ⟨y2, hy2⟩ : ∃ y, y = r := ⟨_, rfl⟩
   refine ⟨⟨(y1, y2), ?_⟩, ?_, ?_⟩
   rotate_left
   ·cbv
    exact nG
   ·exact eG
   ·rw [hy1, hy2]
    exact ⟨by simp only; omega, hi2, hq'⟩
 ·rename_i g
  have gi : n ≤ i := by clear hq hp hat; exact eG
  have e : q = p := by rw [hq, hp, show i.toNat = n.toNat by omega]
  simp only [e]

theorem aIW (C : Cx P gl) {n : Int} {f : FuncId} {a0 : List PV} {y : Nat → Nat → aC} {p : List PV} (hn : 0 ≤ n) (hn4 : n ≤ 100) (hp : p = aB (bY y n.toNat n.toNat))
  (hat : ∀ (i j : Int) (s : Bool) (l : List Int) (e : Int) (q : List PV), 0 ≤ i → i < n → 0 ≤ j → j < n → y i.toNat j.toNat = (s, l, e) → q = aA l → ∀ P', Cx P' gl → FS P' gl f [I i, I j, .ptr a0 0] (· = .agg [B s, .lst q, I e])) :
  FS P gl 154 [I n, .fn f [.ptr a0 0]] (· = .agg [I n, .lst p]) := by
 refine gS C func154 rfl rfl rfl fun A hA hI => ?_
 iterate 2 all_goals try cbv; with_reducible repeat' first | exact ⟨⟩ | apply And.intro | intro _
 all_goals try exact oG
 refine aZ hA [.cell 1 1 121 3] (ι := Int × List PV) (fun x => [(11, .pv (I x.1))]) (fun x => [(2, .row 121 3 x.2)]) (fun x => (n - x.1).toNat) (fun x => 0 ≤ x.1 ∧ x.1 ≤ n ∧ x.2 = aB (bY y n.toNat x.1.toNat)) (0, []) (by rfl) ?_ ?_ ?_
 all_goals try exact tG
 ·exact ⟨Int.le_refl _, hn, rfl⟩
 rintro ⟨i, q⟩ ⟨hi0, hi1, hq⟩
 simp only at hi0 hi1 hq
 iterate 2 all_goals try cbv; with_reducible repeat' first | exact ⟨⟩ | apply And.intro | intro _
 all_goals try exact oG
 ·rename_i g
  have gi : i < n := by clear hq hp hat; exact eG
  have q0 : q = aB (bY y n.toNat i.toNat ++ jP y i.toNat 0) := by rw [hq]; simp [jP]
  have hi2 : i + 1 ≤ n := by omega
  clear g
  refine aZ hA [] (ι := Int × List PV) (fun x => [(15, .pv (I x.1))]) (fun x => [(2, .row 121 3 x.2)]) (fun x => (n - x.1).toNat) (fun x => 0 ≤ x.1 ∧ x.1 ≤ n ∧ x.2 = aB (bY y n.toNat i.toNat ++ jP y i.toNat x.1.toNat)) (0, q) (by rfl) ?_ ?_ ?_
  all_goals try exact tG
  ·exact ⟨Int.le_refl _, hn, q0⟩
  rintro ⟨j, r⟩ ⟨hj0, hj1, hr⟩
  simp only at hj0 hj1 hr
  have hrl : r.length ≤ 20200 := by
   rw [hr, aV, List.length_append, cP, pK]
   have : i.toNat * n.toNat ≤ 100 * 100 := Nat.mul_le_mul (by omega) (by omega)
   omega
  clear q0
  iterate 2 all_goals try cbv; with_reducible repeat' first | exact ⟨⟩ | apply And.intro | intro _
  all_goals try exact oG
  ·rename_i g
   have gj : j < n := by clear hq hp hat hr; exact eG
   obtain ⟨s, hs⟩ : ∃ s, s = (y i.toNat j.toNat).1 := ⟨_, rfl⟩
   obtain ⟨l, hl⟩ : ∃ l, l = (y i.toNat j.toNat).2.1 := ⟨_, rfl⟩
   obtain ⟨e, he⟩ : ∃ e, e = (y i.toNat j.toNat).2.2 := ⟨_, rfl⟩
   obtain ⟨u, hu⟩ : ∃ u, u = aA l := ⟨_, rfl⟩
   have hy : y i.toNat j.toNat = (s, l, e) := by rw [hs, hl, he]
   have hj2 : j + 1 ≤ n := by omega
   refine ⟨_, hat i j s l e u hi0 gi hj0 gj hy hu P C, ?_⟩
   have cR : r ++ [.agg [B s, .lst u, I e]] = aB (bY y n.toNat i.toNat ++ jP y i.toNat (j + 1).toNat) := by
    rw [show (j + 1).toNat = j.toNat + 1 by omega, qN, ← List.append_assoc, ← tF, ← hr, hy, hu]
    rfl
   obtain ⟨r', hr'⟩ : ∃ r', r' = r ++ [.agg [B s, .lst u, I e]] := ⟨_, rfl⟩
   have hra : A.app r [.agg [B s, .lst u, I e]] = r' := by rw [hr']; subst hA; rfl
   rw [← hr'] at cR
   clear hs hl he hu hy hq hp hat hr hr'
   iterate 2 all_goals try cbv; with_reducible repeat' first | exact ⟨⟩ | apply And.intro | intro _
   all_goals try exact oG
   all_goals try exact kP hA (by intro x hx; rw [List.mem_singleton.1 hx]; exact ⟨rfl, rfl⟩)
   all_goals try exact lU hA (by simp only [List.length_singleton]; omega)
   simp only [hra]
   clear hra
   obtain ⟨y1, hy1⟩ : ∃ y, y = j + 1 := ⟨_, rfl⟩
   obtain ⟨y2, hy2⟩ : ∃ y, y = r' := ⟨_, rfl⟩
   refine ⟨⟨(y1, y2), ?_⟩, ?_, ?_⟩
   rotate_left
   ·cbv
    exact nG
   ·exact eG
   ·rw [hy1, hy2]
    exact ⟨by simp only; omega, hj2, cR⟩
  ·rename_i g
   have gj : n ≤ j := by clear hq hp hat hr; exact eG
   have hq' : r = aB (bY y n.toNat (i + 1).toNat) := by
    rw [hr, show j.toNat = n.toNat by omega, show (i + 1).toNat = i.toNat + 1 by omega, iN]
   clear hq hr hp hat
   iterate 2 all_goals try cbv; with_reducible repeat' first | exact ⟨⟩ | apply And.intro | intro _
   all_goals try exact oG
   obtain ⟨y1, hy1⟩ : ∃ y, y = i + 1 := ⟨_, rfl⟩
   obtain ⟨y2, hy2⟩ : ∃ y, y = r := ⟨_, rfl⟩
   refine ⟨⟨(y1, y2), ?_⟩, ?_, ?_⟩
   rotate_left
   ·cbv
    exact nG
   ·exact eG
   ·rw [hy1, hy2]
    exact ⟨by simp only; omega, hi2, hq'⟩
 ·rename_i g
  have gi : n ≤ i := by clear hq hp hat; exact eG
  have e : q = p := by rw [hq, hp, show i.toNat = n.toNat by omega]
  simp only [e]

theorem zM (C : Cx P gl) {n : Int} {f : FuncId} {a0 a1 : List PV} {y : Nat → Nat → aC} {p : List PV} (hn : 0 ≤ n) (hn4 : n ≤ 100) (hp : p = aB (bY y n.toNat n.toNat))
  (hat : ∀ (i j : Int) (s : Bool) (l : List Int) (e : Int) (q : List PV), 0 ≤ i → i < n → 0 ≤ j → j < n → y i.toNat j.toNat = (s, l, e) → q = aA l → ∀ P', Cx P' gl → FS P' gl f [I i, I j, .ptr a0 0, .ptr a1 0] (· = .agg [B s, .lst q, I e])) :
  FS P gl 154 [I n, .fn f [.ptr a0 0, .ptr a1 0]] (· = .agg [I n, .lst p]) := by
 refine gS C func154 rfl rfl rfl fun A hA hI => ?_
 iterate 2 all_goals try cbv; with_reducible repeat' first | exact ⟨⟩ | apply And.intro | intro _
 all_goals try exact oG
 refine aZ hA [.cell 1 1 121 3] (ι := Int × List PV) (fun x => [(11, .pv (I x.1))]) (fun x => [(2, .row 121 3 x.2)]) (fun x => (n - x.1).toNat) (fun x => 0 ≤ x.1 ∧ x.1 ≤ n ∧ x.2 = aB (bY y n.toNat x.1.toNat)) (0, []) (by rfl) ?_ ?_ ?_
 all_goals try exact tG
 ·exact ⟨Int.le_refl _, hn, rfl⟩
 rintro ⟨i, q⟩ ⟨hi0, hi1, hq⟩
 simp only at hi0 hi1 hq
 iterate 2 all_goals try cbv; with_reducible repeat' first | exact ⟨⟩ | apply And.intro | intro _
 all_goals try exact oG
 ·rename_i g
  have gi : i < n := by clear hq hp hat; exact eG
  have q0 : q = aB (bY y n.toNat i.toNat ++ jP y i.toNat 0) := by rw [hq]; simp [jP]
  have hi2 : i + 1 ≤ n := by omega
  clear g
  refine aZ hA [] (ι := Int × List PV) (fun x => [(15, .pv (I x.1))]) (fun x => [(2, .row 121 3 x.2)]) (fun x => (n - x.1).toNat) (fun x => 0 ≤ x.1 ∧ x.1 ≤ n ∧ x.2 = aB (bY y n.toNat i.toNat ++ jP y i.toNat x.1.toNat)) (0, q) (by rfl) ?_ ?_ ?_
  all_goals try exact tG
  ·exact ⟨Int.le_refl _, hn, q0⟩
  rintro ⟨j, r⟩ ⟨hj0, hj1, hr⟩
  simp only at hj0 hj1 hr
  have hrl : r.length ≤ 20200 := by
   rw [hr, aV, List.length_append, cP, pK]
   have : i.toNat * n.toNat ≤ 100 * 100 := Nat.mul_le_mul (by omega) (by omega)
   omega
  clear q0
  iterate 2 all_goals try cbv; with_reducible repeat' first | exact ⟨⟩ | apply And.intro | intro _
  all_goals try exact oG
  ·rename_i g
   have gj : j < n := by clear hq hp hat hr; exact eG
   obtain ⟨s, hs⟩ : ∃ s, s = (y i.toNat j.toNat).1 := ⟨_, rfl⟩
   obtain ⟨l, hl⟩ : ∃ l, l = (y i.toNat j.toNat).2.1 := ⟨_, rfl⟩
   obtain ⟨e, he⟩ : ∃ e, e = (y i.toNat j.toNat).2.2 := ⟨_, rfl⟩
   obtain ⟨u, hu⟩ : ∃ u, u = aA l := ⟨_, rfl⟩
   have hy : y i.toNat j.toNat = (s, l, e) := by rw [hs, hl, he]
   have hj2 : j + 1 ≤ n := by omega
   refine ⟨_, hat i j s l e u hi0 gi hj0 gj hy hu P C, ?_⟩
   have cR : r ++ [.agg [B s, .lst u, I e]] = aB (bY y n.toNat i.toNat ++ jP y i.toNat (j + 1).toNat) := by
    rw [show (j + 1).toNat = j.toNat + 1 by omega, qN, ← List.append_assoc, ← tF, ← hr, hy, hu]
    rfl
   obtain ⟨r', hr'⟩ : ∃ r', r' = r ++ [.agg [B s, .lst u, I e]] := ⟨_, rfl⟩
   have hra : A.app r [.agg [B s, .lst u, I e]] = r' := by rw [hr']; subst hA; rfl
   rw [← hr'] at cR
   clear hs hl he hu hy hq hp hat hr hr'
   iterate 2 all_goals try cbv; with_reducible repeat' first | exact ⟨⟩ | apply And.intro | intro _
   all_goals try exact oG
   all_goals try exact kP hA (by intro x hx; rw [List.mem_singleton.1 hx]; exact ⟨rfl, rfl⟩)
   all_goals try exact lU hA (by simp only [List.length_singleton]; omega)
   simp only [hra]
   clear hra
   obtain ⟨y1, hy1⟩ : ∃ y, y = j + 1 := ⟨_, rfl⟩
   obtain ⟨y2, hy2⟩ : ∃ y, y = r' := ⟨_, rfl⟩
   refine ⟨⟨(y1, y2), ?_⟩, ?_, ?_⟩
   rotate_left
   ·cbv
    exact nG
   ·exact eG
   ·rw [hy1, hy2]
    exact ⟨by simp only; omega, hj2, cR⟩
  ·rename_i g
   have gj : n ≤ j := by clear hq hp hat hr; exact eG
   have hq' : r = aB (bY y n.toNat (i + 1).toNat) := by
    rw [hr, show j.toNat = n.toNat by omega, show (i + 1).toNat = i.toNat + 1 by omega, iN]
   clear hq hr hp hat
   iterate 2 all_goals try cbv; with_reducible repeat' first | exact ⟨⟩ | apply And.intro | intro _
   all_goals try exact oG
   obtain ⟨y1, hy1⟩ : ∃ y, y = i + 1 := ⟨_, rfl⟩
   obtain ⟨y2, hy2⟩ : ∃ y, y = r := ⟨_, rfl⟩
   refine ⟨⟨(y1, y2), ?_⟩, ?_, ?_⟩
   rotate_left
   ·cbv
    exact nG
   ·exact eG
   ·rw [hy1, hy2]
    exact ⟨by simp only; omega, hi2, hq'⟩
 ·rename_i g
  have gi : n ≤ i := by clear hq hp hat; exact eG
  have e : q = p := by rw [hq, hp, show i.toNat = n.toNat by omega]
  simp only [e]

theorem aI0 (C : Cx P gl) {n : Int} {f : FuncId} {a0 a1 a2 : List PV} {y : Nat → Nat → aC} {p : List PV} (hn : 0 ≤ n) (hn4 : n ≤ 100) (hp : p = aB (bY y n.toNat n.toNat))
  (hat : ∀ (i j : Int) (s : Bool) (l : List Int) (e : Int) (q : List PV), 0 ≤ i → i < n → 0 ≤ j → j < n → y i.toNat j.toNat = (s, l, e) → q = aA l → ∀ P', Cx P' gl → FS P' gl f [I i, I j, .ptr a0 0, .ptr a1 0, .ptr a2 0] (· = .agg [B s, .lst q, I e])) :
  FS P gl 154 [I n, .fn f [.ptr a0 0, .ptr a1 0, .ptr a2 0]] (· = .agg [I n, .lst p]) := by
 refine gS C func154 rfl rfl rfl fun A hA hI => ?_
 iterate 2 all_goals try cbv; with_reducible repeat' first | exact ⟨⟩ | apply And.intro | intro _
 all_goals try exact oG
 refine aZ hA [.cell 1 1 121 3] (ι := Int × List PV) (fun x => [(11, .pv (I x.1))]) (fun x => [(2, .row 121 3 x.2)]) (fun x => (n - x.1).toNat) (fun x => 0 ≤ x.1 ∧ x.1 ≤ n ∧ x.2 = aB (bY y n.toNat x.1.toNat)) (0, []) (by rfl) ?_ ?_ ?_
 all_goals try exact tG
 ·exact ⟨Int.le_refl _, hn, rfl⟩
 rintro ⟨i, q⟩ ⟨hi0, hi1, hq⟩
 simp only at hi0 hi1 hq
 iterate 2 all_goals try cbv; with_reducible repeat' first | exact ⟨⟩ | apply And.intro | intro _
 all_goals try exact oG
 ·rename_i g
  have gi : i < n := by clear hq hp hat; exact eG
  have q0 : q = aB (bY y n.toNat i.toNat ++ jP y i.toNat 0) := by rw [hq]; simp [jP]
  have hi2 : i + 1 ≤ n := by omega
  clear g
  refine aZ hA [] (ι := Int × List PV) (fun x => [(15, .pv (I x.1))]) (fun x => [(2, .row 121 3 x.2)]) (fun x => (n - x.1).toNat) (fun x => 0 ≤ x.1 ∧ x.1 ≤ n ∧ x.2 = aB (bY y n.toNat i.toNat ++ jP y i.toNat x.1.toNat)) (0, q) (by rfl) ?_ ?_ ?_
  all_goals try exact tG
  ·exact ⟨Int.le_refl _, hn, q0⟩
  rintro ⟨j, r⟩ ⟨hj0, hj1, hr⟩
  simp only at hj0 hj1 hr
  have hrl : r.length ≤ 20200 := by
   rw [hr, aV, List.length_append, cP, pK]
   have : i.toNat * n.toNat ≤ 100 * 100 := Nat.mul_le_mul (by omega) (by omega)
   omega
  clear q0
  iterate 2 all_goals try cbv; with_reducible repeat' first | exact ⟨⟩ | apply And.intro | intro _
  all_goals try exact oG
  ·rename_i g
   have gj : j < n := by clear hq hp hat hr; exact eG
   obtain ⟨s, hs⟩ : ∃ s, s = (y i.toNat j.toNat).1 := ⟨_, rfl⟩
   obtain ⟨l, hl⟩ : ∃ l, l = (y i.toNat j.toNat).2.1 := ⟨_, rfl⟩
   obtain ⟨e, he⟩ : ∃ e, e = (y i.toNat j.toNat).2.2 := ⟨_, rfl⟩
   obtain ⟨u, hu⟩ : ∃ u, u = aA l := ⟨_, rfl⟩
   have hy : y i.toNat j.toNat = (s, l, e) := by rw [hs, hl, he]
   have hj2 : j + 1 ≤ n := by omega
   refine ⟨_, hat i j s l e u hi0 gi hj0 gj hy hu P C, ?_⟩
   have cR : r ++ [.agg [B s, .lst u, I e]] = aB (bY y n.toNat i.toNat ++ jP y i.toNat (j + 1).toNat) := by
    rw [show (j + 1).toNat = j.toNat + 1 by omega, qN, ← List.append_assoc, ← tF, ← hr, hy, hu]
    rfl
   obtain ⟨r', hr'⟩ : ∃ r', r' = r ++ [.agg [B s, .lst u, I e]] := ⟨_, rfl⟩
   have hra : A.app r [.agg [B s, .lst u, I e]] = r' := by rw [hr']; subst hA; rfl
   rw [← hr'] at cR
   clear hs hl he hu hy hq hp hat hr hr'
   iterate 2 all_goals try cbv; with_reducible repeat' first | exact ⟨⟩ | apply And.intro | intro _
   all_goals try exact oG
   all_goals try exact kP hA (by intro x hx; rw [List.mem_singleton.1 hx]; exact ⟨rfl, rfl⟩)
   all_goals try exact lU hA (by simp only [List.length_singleton]; omega)
   simp only [hra]
   clear hra
   obtain ⟨y1, hy1⟩ : ∃ y, y = j + 1 := ⟨_, rfl⟩
   obtain ⟨y2, hy2⟩ : ∃ y, y = r' := ⟨_, rfl⟩
   refine ⟨⟨(y1, y2), ?_⟩, ?_, ?_⟩
   rotate_left
   ·cbv
    exact nG
   ·exact eG
   ·rw [hy1, hy2]
    exact ⟨by simp only; omega, hj2, cR⟩
  ·rename_i g
   have gj : n ≤ j := by clear hq hp hat hr; exact eG
   have hq' : r = aB (bY y n.toNat (i + 1).toNat) := by
    rw [hr, show j.toNat = n.toNat by omega, show (i + 1).toNat = i.toNat + 1 by omega, iN]
   clear hq hr hp hat
   iterate 2 all_goals try cbv; with_reducible repeat' first | exact ⟨⟩ | apply And.intro | intro _
   all_goals try exact oG
   obtain ⟨y1, hy1⟩ : ∃ y, y = i + 1 := ⟨_, rfl⟩
   obtain ⟨y2, hy2⟩ : ∃ y, y = r := ⟨_, rfl⟩
   refine ⟨⟨(y1, y2), ?_⟩, ?_, ?_⟩
   rotate_left
   ·cbv
    exact nG
   ·exact eG
   ·rw [hy1, hy2]
    exact ⟨by simp only; omega, hi2, hq'⟩
 ·rename_i g
  have gi : n ≤ i := by clear hq hp hat; exact eG
  have e : q = p := by rw [hq, hp, show i.toNat = n.toNat by omega]
  simp only [e]

end Tryz
end Go.Proofs
