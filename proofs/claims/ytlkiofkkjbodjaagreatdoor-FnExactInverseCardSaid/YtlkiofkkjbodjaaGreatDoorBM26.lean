/- Contracts: the greatest sum of sizes of numbers within bounds, in the reference. -/
import Derived.Test.YtlkiofkkjbodjaaGreatDoorBM15
import Derived.Test.YtlkiofkkjbodjaaGreatDoorBEvD
set_option maxHeartbeats 1000000
set_option maxRecDepth 100000
namespace Go.Proofs
open Go Go.Pe Go.Dg
namespace Tryz
set_option linter.unusedSimpArgs false
set_option linter.unusedVariables false
variable {P : Program} {gl : List (Nat × Obj)}

theorem aQL (C : Cx P gl) {n : Nat} {e : Int} {p : List PV} {s : Bool} (hp : p = aA (dg n)) (hl : (dg n).length ≤ 1000000000) : FS P gl 227 [.agg [B s, .lst p, I e]] (· = .agg [B false, .lst p, I e]) := by
 have hm := fun (P' : Program) (C' : Cx P' gl) => dG C' (s := false) (s' := false) hp rfl hl
 clear hp
 refine gS C func227 rfl rfl rfl fun A hA hI => ?_
 iterate 2 all_goals try cbv; with_reducible repeat' first | exact ⟨⟩ | apply And.intro | intro _
 all_goals try exact oG
 refine ⟨_, hm P C, ?_⟩
 iterate 2 all_goals try cbv; with_reducible repeat' first | exact ⟨⟩ | apply And.intro | intro _
 all_goals try exact oG

theorem aML (C : Cx P gl) {z1 e1 z2 e2 f : Int} {p q r : List PV} {s t u : Bool} (hp : p = aA (dg z1.natAbs)) (hs : s = decide (z1 < 0)) (hq : q = aA (dg z2.natAbs)) (ht : t = decide (z2 < 0))
  (hlt : gC (mk z1 e1) (mk z2 e2) < 0 → u = t ∧ r = q ∧ f = e2) (hge : ¬ gC (mk z1 e1) (mk z2 e2) < 0 → u = s ∧ r = p ∧ f = e1)
  (h1 : e1.natAbs ≤ 100000) (h2 : e2.natAbs ≤ 100000) (hl : (dg z1.natAbs).length ≤ 1000000) (hm : (dg z2.natAbs).length ≤ 1000000) :
  FS P gl 205 [.agg [B s, .lst p, I e1], .agg [B t, .lst q, I e2]] (· = .agg [B u, .lst r, I f]) := by
 obtain ⟨c, hc⟩ : ∃ c, c = gC (mk z1 e1) (mk z2 e2) := ⟨_, rfl⟩
 have hm := fun (P' : Program) (C' : Cx P' gl) => aQM C' hp hs hq ht hc h1 h2 hl hm
 rw [← hc] at hlt hge
 clear hp hs hq ht hc
 refine gS C func205 rfl rfl rfl fun A hA hI => ?_
 iterate 2 all_goals try cbv; with_reducible repeat' first | exact ⟨⟩ | apply And.intro | intro _
 all_goals try exact oG
 refine aD hA rfl (hm P C) ?_; rintro _ rfl
 iterate 2 all_goals try cbv; with_reducible repeat' first | exact ⟨⟩ | apply And.intro | intro _
 all_goals try exact oG
 ·rename_i g
  obtain ⟨g1, g2, g3⟩ := hge (by clear hlt hge hm; exact eG)
  rw [g1, g2, g3]
 ·rename_i g
  obtain ⟨g1, g2, g3⟩ := hlt (by clear hlt hge hm; exact eG)
  rw [g1, g2, g3]

end Tryz
end Go.Proofs

set_option maxHeartbeats 1000000
set_option maxRecDepth 100000
namespace Go.Proofs
open Go Go.Pe Go.Dg
namespace Tryz
set_option linter.unusedSimpArgs false
set_option linter.unusedVariables false
variable {P : Program} {gl : List (Nat × Obj)}

theorem aQQ {ys : List aC} {d : Nat → Dyadic} {a0 b0 : Nat} {m j : Nat} (h1 : CL a0 b0 d ys) (hL : a0 ≤ 50000) (hE : b0 ≤ 90000) (hm4 : m ≤ 4) (hyl : ys.length = m * m) (hj : j < m)
  (i : Nat) (hi : i < m) : ∃ (s1 s4 : Bool) (e1 e4 : Int) (u1 u4 : List PV), (ys.getD (i * m + j) noY).1 = s1 ∧ aA (ys.getD (i * m + j) noY).2.1 = u1 ∧ (ys.getD (i * m + j) noY).2.2 = e1 ∧
   (∀ P' gl, Cx P' gl → FS P' gl 227 [.agg [B s1, .lst u1, I e1]] (· = .agg [B false, .lst u1, I e1])) ∧
   (∀ (P' : Program) (gl : List (Nat × Obj)) (s : Bool) (u : List PV) (e : Int), Cx P' gl → s = (aG (bF (fun a => fO (d (a * m + j))) i)).1 → u = aA (aG (bF (fun a => fO (d (a * m + j))) i)).2.1 → e = (aG (bF (fun a => fO (d (a * m + j))) i)).2.2 →
    FS P' gl 70 [.agg [B s, .lst u, I e], .agg [B false, .lst u1, I e1]] (· = .agg [B s4, .lst u4, I e4])) ∧
   s4 = (aG (bF (fun a => fO (d (a * m + j))) (i + 1))).1 ∧ u4 = aA (aG (bF (fun a => fO (d (a * m + j))) (i + 1))).2.1 ∧ e4 = (aG (bF (fun a => fO (d (a * m + j))) (i + 1))).2.2 := by
 obtain ⟨ff, hff⟩ : ∃ ff : Nat → Dyadic, ff = fun a => fO (d (a * m + j)) := ⟨_, rfl⟩
 have hX : ∀ a, a < m → Mg a0 b0 (ff a) := by
  intro a ha
  rw [hff]
  exact (h1 (a * m + j) (by rw [hyl]; exact bQ ha hj)).2.abs
 have mp := Mg.bF hX i (by omega)
 have b1 := eJ mp
 have b2 := iC mp
 have b3 := eO mp
 obtain ⟨e0, m0⟩ := h1 (i * m + j) (by rw [hyl]; exact bQ hi hj)
 have c1 := eJ m0
 have c2 := iC m0
 have c3 := eO m0
 rw [← hff, e0]
 refine ⟨_, _, _, _, _, _, rfl, rfl, rfl, fun P' gl C' => aQL C' rfl (by omega),
  fun P' gl s u e C' h3 h4 h5 => pO C' h4 h3 (z2 := ((cZ (d (i * m + j))).natAbs : Int)) (by rw [Int.natAbs_natCast]; rfl) (decide_eq_false (by omega)).symm (d := bF ff (i + 1)) (by rw [h5]; show bF ff i + ff i = mk (cZ (bF ff i)) (cE (bF ff i)) + mk _ (cE (d (i * m + j))); rw [cH]; congr 1; rw [hff]; simp only; rw [← aKF, cH]) rfl rfl rfl (by rw [h5]; show (cE (bF ff i)).natAbs ≤ _; omega) (by show (cE (d (i * m + j))).natAbs ≤ _; omega) (by omega) (by rw [Int.natAbs_natCast]; omega), rfl, rfl, rfl⟩

theorem aQR {f : Nat → Dyadic} {a0 b0 m : Nat} (hX : ∀ k, k < m → Mg a0 b0 (f k)) (hL : a0 ≤ 50000) (hE : b0 ≤ 95000) (k : Nat) (hk : k < m) : ∃ (s4 : Bool) (e4 : Int) (u4 : List PV),
   (∀ (P' : Program) (gl : List (Nat × Obj)) (s t : Bool) (u v : List PV) (e g : Int), Cx P' gl → s = (aG (eT f k)).1 → u = aA (aG (eT f k)).2.1 → e = (aG (eT f k)).2.2 → t = (aG (f k)).1 → v = aA (aG (f k)).2.1 → g = (aG (f k)).2.2 →
    FS P' gl 205 [.agg [B s, .lst u, I e], .agg [B t, .lst v, I g]] (· = .agg [B s4, .lst u4, I e4])) ∧
   s4 = (aG (eT f (k + 1))).1 ∧ u4 = aA (aG (eT f (k + 1))).2.1 ∧ e4 = (aG (eT f (k + 1))).2.2 := by
 have mp := Mg.eT hX k (by omega)
 have b1 := eJ mp
 have b2 := iC mp
 have b2' := eO mp
 have mq := hX k hk
 have b3 := eJ mq
 have b4 := iC mq
 have b4' := eO mq
 refine ⟨_, _, _, fun P' gl s t u v e g C' h1 h2 h3 h4 h5 h6 => ?_, rfl, rfl, rfl⟩
 have hcm : aG (eT f (k + 1)) = if gC (eT f k) (f k) < 0 then aG (f k) else aG (eT f k) := aPV _ _
 have he : mk (cZ (eT f k)) e = eT f k := by rw [h3]; exact cH _
 have hg : mk (cZ (f k)) g = f k := by rw [h6]; exact cH _
 refine aML C' h2 h1 h5 h4 ?_ ?_ (by rw [h3]; show (cE (eT f k)).natAbs ≤ _; omega) (by rw [h6]; show (cE (f k)).natAbs ≤ _; omega) (by omega) (by omega)
 ·rw [he, hg]
  intro hc
  rw [hcm, if_pos hc, h4, h5, h6]
  exact ⟨rfl, rfl, rfl⟩
 ·rw [he, hg]
  intro hc
  rw [hcm, if_neg hc, h1, h2, h3]
  exact ⟨rfl, rfl, rfl⟩

theorem aIR (C : Cx P gl) {ys : List aC} {d : Nat → Dyadic} {a0 b0 : Nat} {p r : List PV} {n f : Int} {u0 : Bool} (hp : p = aB ys) (h1 : CL a0 b0 d ys) (hL : a0 ≤ 50000) (hE : b0 ≤ 90000) (hn : 0 ≤ n) (hn4 : n ≤ 4)
  (hyl : (ys.length : Int) = n * n) (hu : u0 = (aG (jH n.toNat d)).1) (hr : r = aA (aG (jH n.toNat d)).2.1) (hf : f = (aG (jH n.toNat d)).2.2) :
  FS P gl 164 [.agg [I n, .lst p]] (· = .agg [B u0, .lst r, I f]) := by
 have hnn : n * n = ((n.toNat * n.toNat : Nat) : Int) := by rw [Int.natCast_mul, Int.toNat_of_nonneg hn]
 obtain ⟨w, hw⟩ : ∃ w, w = n.toNat := ⟨_, rfl⟩
 obtain ⟨N, hN⟩ : ∃ N, N = ys.length := ⟨_, rfl⟩
 rw [← hw] at hnn hu hr hf
 have hw4 : w ≤ 4 := by omega
 have hNw : N = w * w := by omega
 have hww : w * w ≤ 4 * 4 := Nat.mul_le_mul hw4 hw4
 have kT : ∀ a b : Int, 0 ≤ a → 0 ≤ b → a < n → b < n → (a * n + b).toNat = a.toNat * w + b.toNat ∧ 0 ≤ a * n ∧ a * n ≤ 16 ∧ a * n + b < N := by
  intro a b h1 h2 h3 h4
  have e1 : a * n = ((a.toNat * w : Nat) : Int) := by rw [Int.natCast_mul, hw, Int.toNat_of_nonneg h1, Int.toNat_of_nonneg hn]
  have := bQ (n := w) (i := a.toNat) (j := b.toNat) (by omega) (by omega)
  omega
 have hpl : p.length = N := by rw [hp, aV, hN]
 have bT : ∀ (i j : Int), 0 ≤ i → 0 ≤ j → i < n → j < n → ∃ (x : Int) (s1 s4 : Bool) (e1 e4 : Int) (u1 u4 : List PV), x = i * n + j ∧ 0 ≤ x ∧ x < N ∧
   ((ys.getD x.toNat noY).1 = s1 ∧ aA (ys.getD x.toNat noY).2.1 = u1 ∧ (ys.getD x.toNat noY).2.2 = e1) ∧
   (∀ P' , Cx P' gl → FS P' gl 227 [.agg [B s1, .lst u1, I e1]] (· = .agg [B false, .lst u1, I e1])) ∧
   (∀ (P' : Program) (s : Bool) (u : List PV) (e : Int), Cx P' gl → s = (aG (bF (fun a => fO (d (a * w + j.toNat))) i.toNat)).1 → u = aA (aG (bF (fun a => fO (d (a * w + j.toNat))) i.toNat)).2.1 → e = (aG (bF (fun a => fO (d (a * w + j.toNat))) i.toNat)).2.2 →
    FS P' gl 70 [.agg [B s, .lst u, I e], .agg [B false, .lst u1, I e1]] (· = .agg [B s4, .lst u4, I e4])) ∧
   s4 = (aG (bF (fun a => fO (d (a * w + j.toNat))) (i + 1).toNat)).1 ∧ u4 = aA (aG (bF (fun a => fO (d (a * w + j.toNat))) (i + 1).toNat)).2.1 ∧ e4 = (aG (bF (fun a => fO (d (a * w + j.toNat))) (i + 1).toNat)).2.2 := by
  intro i j hi0 hj0 hi hj
  obtain ⟨x1, x2, x3, x4⟩ := kT i j hi0 hj0 hi hj
  obtain ⟨s1, s4, e1, e4, u1, u4, g1, g2, g3, g7, g8, g9⟩ := aQQ h1 hL hE hw4 (by omega) (j := j.toNat) (by omega) i.toNat (by omega)
  refine ⟨i * n + j, s1, s4, e1, e4, u1, u4, rfl, by omega, x4, ?_, fun P' C' => g7 P' gl C', fun P' => g8 P' gl, ?_⟩
  ·rw [x1]; exact ⟨g1, g2, g3⟩
  ·rw [show (i + 1).toNat = i.toNat + 1 by omega]; exact g9
 have aQP : ∀ j, j < w → Mg a0 (b0 + 4) (jQ w d j) := fun j hj => Mg.jQ hw4 (fun k hk => (h1 k (by omega)).2) hj
 have aXT : ∀ (j : Int), 0 ≤ j → j < n → ∃ (s4 : Bool) (e4 : Int) (u4 : List PV),
   (∀ (P' : Program) (s t : Bool) (u v : List PV) (e g : Int), Cx P' gl → s = (aG (eT (jQ w d) j.toNat)).1 → u = aA (aG (eT (jQ w d) j.toNat)).2.1 → e = (aG (eT (jQ w d) j.toNat)).2.2 → t = (aG (bF (fun a => fO (d (a * w + j.toNat))) w)).1 → v = aA (aG (bF (fun a => fO (d (a * w + j.toNat))) w)).2.1 → g = (aG (bF (fun a => fO (d (a * w + j.toNat))) w)).2.2 →
    FS P' gl 205 [.agg [B s, .lst u, I e], .agg [B t, .lst v, I g]] (· = .agg [B s4, .lst u4, I e4])) ∧
   s4 = (aG (eT (jQ w d) (j + 1).toNat)).1 ∧ u4 = aA (aG (eT (jQ w d) (j + 1).toNat)).2.1 ∧ e4 = (aG (eT (jQ w d) (j + 1).toNat)).2.2 := by
  intro j hj0 hj
  obtain ⟨s4, e4, u4, g1, g2⟩ := aQR aQP hL (by omega) j.toNat (by omega)
  refine ⟨s4, e4, u4, fun P' => g1 P' gl, ?_⟩
  rw [show (j + 1).toNat = j.toNat + 1 by omega]; exact g2
 have fH : ∀ (s : Bool) (u : List PV) (e : Int), s = (aG (eT (jQ w d) w)).1 → u = aA (aG (eT (jQ w d) w)).2.1 → e = (aG (eT (jQ w d) w)).2.2 → s = u0 ∧ u = r ∧ e = f := by
  intro s u e g1 g2 g3
  rw [g1, g2, g3, hu, hr, hf]
  exact ⟨rfl, rfl, rfl⟩
 clear h1 hyl hnn hr hu hf aQP
 refine gS C func164 rfl rfl rfl fun A hA hI => ?_
 iterate 2 all_goals try cbv; with_reducible repeat' first | exact ⟨⟩ | apply And.intro | intro _
 all_goals try exact oG
 refine aZ hA [.nilc 2 1] (ι := Int × Bool × List PV × Int) (fun x => [(4, .pv (I x.1))]) (fun x => [(2, .box [.pv (B x.2.1), .pv (.lst x.2.2.1), .pv (I x.2.2.2)])]) (fun x => (n - x.1).toNat) (fun x => 0 ≤ x.1 ∧ x.1 ≤ n ∧ x.2.1 = (aG (eT (jQ w d) x.1.toNat)).1 ∧ x.2.2.1 = aA (aG (eT (jQ w d) x.1.toNat)).2.1 ∧ x.2.2.2 = (aG (eT (jQ w d) x.1.toNat)).2.2) (0, false, [], 0) (by rfl) ?_ ?_ ?_
 all_goals try exact tG
 ·refine ⟨Int.le_refl _, hn, ?_, ?_, ?_⟩ <;> simp only [Int.toNat_zero, eT, gJ] <;> rfl
 rintro ⟨j, s, u, e⟩ ⟨hj0, hj1, hs, hu, he⟩
 simp only at hj0 hj1 hs hu he
 have rP : j = n → s = u0 ∧ u = r ∧ e = f := by
  intro h
  have : j.toNat = w := by omega
  rw [this] at hs hu he
  exact fH s u e hs hu he
 have hmx : ∀ _ : Unit, j < n → ∃ (s4 : Bool) (e4 : Int) (u4 : List PV),
   (∀ (P' : Program) (t : Bool) (v : List PV) (g : Int), Cx P' gl → t = (aG (bF (fun a => fO (d (a * w + j.toNat))) w)).1 → v = aA (aG (bF (fun a => fO (d (a * w + j.toNat))) w)).2.1 → g = (aG (bF (fun a => fO (d (a * w + j.toNat))) w)).2.2 →
    FS P' gl 205 [.agg [B s, .lst u, I e], .agg [B t, .lst v, I g]] (· = .agg [B s4, .lst u4, I e4])) ∧
   s4 = (aG (eT (jQ w d) (j + 1).toNat)).1 ∧ u4 = aA (aG (eT (jQ w d) (j + 1).toNat)).2.1 ∧ e4 = (aG (eT (jQ w d) (j + 1).toNat)).2.2 := by
  intro _ hj
  obtain ⟨s4, e4, u4, g1, g2⟩ := aXT j hj0 hj
  exact ⟨s4, e4, u4, fun P' t v g C' k1 k2 k3 => g1 P' s t u v e g C' hs hu he k1 k2 k3, g2⟩
 clear hs hu he aXT fH
 iterate 2 all_goals try cbv; with_reducible repeat' first | exact ⟨⟩ | apply And.intro | intro _
 all_goals try exact oG
 ·rename_i g
  have gj : j < n := by clear rP hmx bT kT; exact eG
  have hj2 : j + 1 ≤ n := by omega
  obtain ⟨s4, e4, u4, hm4, hm5⟩ := hmx () gj
  clear g rP hmx
  refine aZ hA [.nilc 3 1] (ι := Int × Bool × List PV × Int) (fun x => [(6, .pv (I x.1))]) (fun x => [(3, .box [.pv (B x.2.1), .pv (.lst x.2.2.1), .pv (I x.2.2.2)])]) (fun x => (n - x.1).toNat) (fun x => 0 ≤ x.1 ∧ x.1 ≤ n ∧ x.2.1 = (aG (bF (fun a => fO (d (a * w + j.toNat))) x.1.toNat)).1 ∧ x.2.2.1 = aA (aG (bF (fun a => fO (d (a * w + j.toNat))) x.1.toNat)).2.1 ∧ x.2.2.2 = (aG (bF (fun a => fO (d (a * w + j.toNat))) x.1.toNat)).2.2) (0, false, [], 0) (by rfl) ?_ ?_ ?_
  all_goals try exact tG
  ·refine ⟨Int.le_refl _, hn, ?_, ?_, ?_⟩ <;> simp only [Int.toNat_zero, bF, gJ] <;> rfl
  rintro ⟨i, t, v, g⟩ ⟨hi0, hi1, ht, hv, hg⟩
  simp only at hi0 hi1 ht hv hg
  have b4 : i < n → 0 ≤ i * n ∧ i * n ≤ 16 ∧ i * n + j < N := fun h => (kT i j hi0 hj0 h gj).2
  have fI : i = n → ∀ P', Cx P' gl → FS P' gl 205 [.agg [B s, .lst u, I e], .agg [B t, .lst v, I g]] (· = .agg [B s4, .lst u4, I e4]) := by
   intro h P' C'
   have : i.toNat = w := by omega
   rw [this] at ht hv hg
   exact hm4 P' t v g C' ht hv hg
  have hst : ∀ _ : Unit, i < n → ∃ (x : Int) (s1 s4 : Bool) (e1 e4 : Int) (u1 u4 : List PV), x = i * n + j ∧ 0 ≤ x ∧ x < N ∧
    ((ys.getD x.toNat noY).1 = s1 ∧ aA (ys.getD x.toNat noY).2.1 = u1 ∧ (ys.getD x.toNat noY).2.2 = e1) ∧
    (∀ P' , Cx P' gl → FS P' gl 227 [.agg [B s1, .lst u1, I e1]] (· = .agg [B false, .lst u1, I e1])) ∧
    (∀ P', Cx P' gl → FS P' gl 70 [.agg [B t, .lst v, I g], .agg [B false, .lst u1, I e1]] (· = .agg [B s4, .lst u4, I e4])) ∧
    s4 = (aG (bF (fun a => fO (d (a * w + j.toNat))) (i + 1).toNat)).1 ∧ u4 = aA (aG (bF (fun a => fO (d (a * w + j.toNat))) (i + 1).toNat)).2.1 ∧ e4 = (aG (bF (fun a => fO (d (a * w + j.toNat))) (i + 1).toNat)).2.2 := by
   intro _ hi
   obtain ⟨x, s1, s4, e1, e4, u1, u4, x1, x2, x3, g1, g2, g3, g4⟩ := bT i j hi0 hj0 hi gj
   exact ⟨x, s1, s4, e1, e4, u1, u4, x1, x2, x3, g1, g2, fun P' C' => g3 P' t v g C' ht hv hg, g4⟩
  clear ht hv hg bT kT hm4
  iterate 2 all_goals try cbv; with_reducible repeat' first | exact ⟨⟩ | apply And.intro | intro _
  all_goals try exact oG
  ·rename_i g0
   have gi : i < n := by clear hst fI hm5; exact eG
   have hi2 : i + 1 ≤ n := by omega
   obtain ⟨x, s1, s5, e1, e5, u1, u5, x1, x2, x3, ⟨g1, g2, g3⟩, g7, g8, g9⟩ := hst () gi
   have hx1 : A.add .i64 (A.mul .i64 i n) j = x := by clear hst fI hm5 g1 g2 g3 g7 g8 g9; (subst hA; subst_vars; simp only [AR.std, bBG, sG, reduceCtorEq] at *; try simp (disch := omega) only [AR.std, bBG, sG, reduceCtorEq] at *)
   have c1 : A.gb (A.el p (A.nat x)) 0 = s1 := by rw [← g1]; clear hst fI hm5 g1 g2 g3 g7 g8 g9 hx1; (subst hA; subst_vars; simp only [AR.std, bBG, sG, reduceCtorEq] at *; try simp (disch := omega) only [AR.std, bBG, sG, reduceCtorEq] at *)
   have c2 : A.gl (A.el p (A.nat x)) 1 = u1 := by rw [← g2]; clear hst fI hm5 g1 g2 g3 g7 g8 g9 hx1 c1; (subst hA; subst_vars; simp only [AR.std, bBG, sG, reduceCtorEq] at *; try simp (disch := omega) only [AR.std, bBG, sG, reduceCtorEq] at *)
   have c3 : A.gi (A.el p (A.nat x)) 2 = e1 := by rw [← g3]; clear hst fI hm5 g1 g2 g3 g7 g8 g9 hx1 c1 c2; (subst hA; subst_vars; simp only [AR.std, bBG, sG, reduceCtorEq] at *; try simp (disch := omega) only [AR.std, bBG, sG, reduceCtorEq] at *)
   clear hst fI g1 g2 g3 g0
   simp only [hx1, c1, c2, c3]
   clear hx1 c1 c2 c3
   refine ⟨_, g7 P C, ?_⟩
   iterate 2 all_goals try cbv; with_reducible repeat' first | exact ⟨⟩ | apply And.intro | intro _
   all_goals try exact oG
   refine aD hA rfl (g8 P C) ?_; rintro _ rfl
   clear g7 g8
   iterate 2 all_goals try cbv; with_reducible repeat' first | exact ⟨⟩ | apply And.intro | intro _
   all_goals try exact oG
   obtain ⟨y1, hy1⟩ : ∃ y, y = i + 1 := ⟨_, rfl⟩
   obtain ⟨y2, hy2⟩ : ∃ y, y = s5 := ⟨_, rfl⟩
   obtain ⟨y3, hy3⟩ : ∃ y, y = u5 := ⟨_, rfl⟩
   obtain ⟨y4, hy4⟩ : ∃ y, y = e5 := ⟨_, rfl⟩
   refine ⟨⟨(y1, y2, y3, y4), ?_⟩, ?_, ?_⟩
   rotate_left
   ·cbv
    exact nG
   ·exact eG
   ·rw [hy1, hy2, hy3, hy4]
    exact ⟨by simp only; omega, hi2, g9⟩
  ·rename_i g0
   have hm6 := fI (by clear hst fI hm5; exact eG)
   clear hst fI g0
   refine aD hA rfl (hm6 P C) ?_; rintro _ rfl
   clear hm6
   iterate 2 all_goals try cbv; with_reducible repeat' first | exact ⟨⟩ | apply And.intro | intro _
   all_goals try exact oG
   obtain ⟨y1, hy1⟩ : ∃ y, y = j + 1 := ⟨_, rfl⟩
   obtain ⟨y2, hy2⟩ : ∃ y, y = s4 := ⟨_, rfl⟩
   obtain ⟨y3, hy3⟩ : ∃ y, y = u4 := ⟨_, rfl⟩
   obtain ⟨y4, hy4⟩ : ∃ y, y = e4 := ⟨_, rfl⟩
   refine ⟨⟨(y1, y2, y3, y4), ?_⟩, ?_, ?_⟩
   rotate_left
   ·cbv
    exact nG
   ·exact eG
   ·rw [hy1, hy2, hy3, hy4]
    exact ⟨by simp only; omega, hj2, hm5⟩
 ·rename_i g
  obtain ⟨g1, g2, g3⟩ := rP (by clear rP hmx bT kT; exact eG)
  rw [g1, g2, g3]

end Tryz
end Go.Proofs

