/- Contracts: Inverse in the reference. -/
import Derived.Test.YtlkiofkkjbodjaaGreatDoorBN36
import Derived.Test.YtlkiofkkjbodjaaGreatDoorBM37
import Derived.Test.YtlkiofkkjbodjaaGreatDoorBM16C
import Derived.Test.YtlkiofkkjbodjaaGreatDoorBM26
import Derived.Test.YtlkiofkkjbodjaaGreatDoorBM10
import Derived.Test.YtlkiofkkjbodjaaGreatDoorBN40a
import Derived.Test.YtlkiofkkjbodjaaGreatDoorBPeTs
import Derived.Test.YtlkiofkkjbodjaaGreatDoorBPeTk
set_option maxHeartbeats 4000000
set_option maxRecDepth 100000
namespace Go.Proofs
open Go Go.Pe Go.Dg
namespace Tryz
set_option linter.unusedSimpArgs false
set_option linter.unusedVariables false
variable {P : Program} {gl : List (Nat × Obj)}

theorem aYA : fits 0 := ⟨by rw [dT, show Int.natAbs 0 = 0 from rfl, aO]; exact Nat.zero_le _, by decide, by decide⟩

theorem aKM (a b : Dyadic) : a - b = a + -b := by grind

theorem aM9 {x : Int} {N k : Nat} (h0 : 0 ≤ x) (h1 : x < N) (h2 : N = k) : x.toNat < k := by omega

theorem aYB {a b : Nat} {dd : Nat → Dyadic} {ys : List aC} (h : CL a b dd ys) : XL dd ((a + b) / 16 + 1) (max a b) ys := by
 intro k hk
 obtain ⟨e, m⟩ := h k hk
 rw [e]
 refine ⟨cZ (dd k), rfl, rfl, (cH _).symm, eJ m, ?_⟩
 show (cE (dd k)).natAbs ≤ _
 have h1 := iC m
 have h2 := eO m
 omega

theorem aDY (C : Cx P gl) {ys : List aC} {p r q : List PV} {n low e : Int} {s : Bool} (hp : p = aB ys) (hya : nO ys) (n1 : 1 ≤ n) (n4 : n ≤ 4) (hyl : (ys.length : Int) = n * n) (pF : low.natAbs ≤ 200) (hd0 : cF n.toNat (dvY ys) ≠ 0) (hr : r = aB (cW (dH n.toNat (dvY ys) low) ys.length)) (hs : s = (aG (dM n (dvY ys) low)).1) (hq : q = aA (aG (dM n (dvY ys) low)).2.1) (he : e = (aG (dM n (dvY ys) low)).2.2) :
  FS P gl 90 [.agg [I n, .lst p], I low] (· = .tup [.agg [I n, .lst r], .agg [B s, .lst q, I e], B true]) := by
 have hnn : n * n = ((n.toNat * n.toNat : Nat) : Int) := by rw [Int.natCast_mul, Int.toNat_of_nonneg (by omega)]
 obtain ⟨m, hm⟩ : ∃ m, m = n.toNat := ⟨_, rfl⟩
 obtain ⟨N, hN⟩ : ∃ N, N = ys.length := ⟨_, rfl⟩
 have hNm : N = m * m := by rw [hm]; omega
 have hm4 : m ≤ 4 := by omega
 have hN16 : N ≤ 16 := by have := Nat.mul_le_mul hm4 hm4; omega
 have hd : ∀ k, k < m * m → Mg 3000 4600 (dvY ys k) := fun k hk => (nR hya k (by omega)).2
 have bdet := aDX hm4 hd
 have bd0 := aYC bdet (by omega) (by omega)
 have binv : ∀ k, k < m * m → Mg 200 64200 (dH m (dvY ys) low k) := fun k hk => aJE hm4 hk hd pF
 have binv2 : ∀ k, k < n.toNat * n.toNat → Mg 200 64200 (dH n.toNat (dvY ys) low k) := by rw [← hm]; exact binv
 have hd2 : ∀ k, k < n.toNat * n.toNat → Mg 3000 4600 (dvY ys k) := by rw [← hm]; exact hd
 obtain ⟨sv, hsv⟩ : ∃ s, s = (aG (cF n.toNat (dvY ys))).1 := ⟨_, rfl⟩
 obtain ⟨pv, hpv⟩ : ∃ p, p = aA (aG (cF n.toNat (dvY ys))).2.1 := ⟨_, rfl⟩
 obtain ⟨ev, hev⟩ : ∃ e, e = (aG (cF n.toNat (dvY ys))).2.2 := ⟨_, rfl⟩
 have g1 := fun (P' : Program) (C' : Cx P' gl) => zQ C' (d := dvY ys) (n := n) (u0 := sv) (r := pv) (f := ev) hp (nR hya) n1 n4 hyl hsv hpv hev
 have hpl : pv.length ≠ 0 := by
  rw [hpv, bC]
  intro h
  exact hd0 (eI.1 (Int.natAbs_eq_zero.1 (cO.1 h)))
 obtain ⟨aw, haw⟩ : ∃ aw, aw = cW (qR n.toNat (dvY ys)) N := ⟨_, rfl⟩
 obtain ⟨pw, hpw⟩ : ∃ pw, pw = aB aw := ⟨_, rfl⟩
 have g2 := fun (P' : Program) (C' : Cx P' gl) => aQ0 C' (d := dvY ys) (n := n) (r := pw) hp (nR hya) n1 n4 hyl (by rw [hpw, haw, hN])
 obtain ⟨u0, hu0⟩ : ∃ u, u = aB (List.replicate N noY) := ⟨_, rfl⟩
 have cR := fun (P' : Program) (C' : Cx P' gl) => pN C' (n := n) (by omega) (by omega) (by rw [hu0, show N = (n * n).toNat by omega] : u0 = aB (List.replicate (n * n).toNat noY))
 have c1 := xA (n := N) (dd := (dH n.toNat (dvY ys) low)) (fun k hk => by rw [← hm]; exact binv k (by omega))
 have cI := xA (a := 0) (b := 1) (n := N) (dd := idD n.toNat) (fun k _ => Mg.idD n.toNat k)
 have m1 : ∀ k, k < n.toNat * n.toNat → Mg 3200 68804 (nQ n (dvY ys) (dH n.toNat (dvY ys) low) k) := fun k hk => Mg.nQ (by omega) hd2 binv2 hk
 have m2 : ∀ k, k < n.toNat * n.toNat → Mg 3200 68805 (nQ n (dvY ys) (dH n.toNat (dvY ys) low) k - idD n.toNat k) := by
  intro k hk
  rw [aKM]
  exact (m1 k hk).add (((Mg.idD n.toNat k).neg).mono (by omega) (by omega))
 have c2 := xA (n := N) (dd := nQ n (dvY ys) (dH n.toNat (dvY ys) low)) (fun k hk => m1 k (by omega))
 have c3 := xA (n := N) (dd := fun k => nQ n (dvY ys) (dH n.toNat (dvY ys) low) k - idD n.toNat k) (fun k hk => m2 k (by omega))
 obtain ⟨pr, hpr⟩ : ∃ t, t = aB (cW (dH n.toNat (dvY ys) low) N) := ⟨_, rfl⟩
 obtain ⟨pt, hpt⟩ : ∃ t, t = aB (cW (nQ n (dvY ys) (dH n.toNat (dvY ys) low)) N) := ⟨_, rfl⟩
 obtain ⟨pi, hpi⟩ : ∃ t, t = aB (cW (idD n.toNat) N) := ⟨_, rfl⟩
 obtain ⟨pu, hpu⟩ : ∃ t, t = aB (cW (fun k => nQ n (dvY ys) (dH n.toNat (dvY ys) low) k - idD n.toNat k) N) := ⟨_, rfl⟩
 have hrr : r = pr := by rw [hr, hpr, hN]
 have g3 := fun (P' : Program) (C' : Cx P' gl) => aMK C' (n := n) (m := n) (r := pt) hp hpr (nR hya) c1 (by omega) (by omega) (by omega) n4 hyl (by rw [bU]; omega) (by rw [hpt, hN])
 have g4 := fun (P' : Program) (C' : Cx P' gl) => aKI C' (n := n) (r := pi) (by omega) n4 (by rw [hpi, ← hm, hNm])
 have g5 := fun (P' : Program) (C' : Cx P' gl) => aF2 C' (n := n) (m := n) (r := pu) hpt hpi (aYB c2) ((aYB cI).mono (L' := (3200 + 68804) / 16 + 1) (E' := max 3200 68804) (by decide) (by decide)) (by decide) (by decide) (by omega) (by omega) (by rw [bU]; omega) (by rw [bU]; omega) (by rw [hpu, bU])
 have g6 := fun (P' : Program) (C' : Cx P' gl) => aIR C' (n := n) (r := q) (u0 := s) (f := e) hpu c3 (by omega) (by omega) (by omega) n4 (by rw [bU]; omega) hs hq he
 have aA3 : ∀ (i : Int) (t : List PV), 0 ≤ i → i < N → t = aB (lM (dH n.toNat (dvY ys) low) N i.toNat) → ∃ (s1 s2 : Bool) (e1 e2 : Int) (x1 x2 t2 : List PV), ((aw.getD i.toNat noY).1 = s1 ∧ aA (aw.getD i.toNat noY).2.1 = x1 ∧ (aw.getD i.toNat noY).2.2 = e1) ∧
   (∀ P', Cx P' gl → FS P' gl 73 [.agg [B s1, .lst x1, I e1], .agg [B sv, .lst pv, I ev], I low, I 0] (· = .agg [B s2, .lst x2, I e2])) ∧ t2 = t.set i.toNat (.agg [B s2, .lst x2, I e2]) ∧ t2 = aB (lM (dH n.toNat (dvY ys) low) N (i.toNat + 1)) := by
  intro i t h3 h4 ht
  have hlt : i.toNat < m * m := by omega
  have ba := aYC (Mg.adj hm4 hlt hd) (by omega) (by omega)
  rw [hm] at ba bd0
  refine ⟨(aG (qR n.toNat (dvY ys) i.toNat)).1, (aG ((dH n.toNat (dvY ys) low) i.toNat)).1, (aG (qR n.toNat (dvY ys) i.toNat)).2.2, (aG ((dH n.toNat (dvY ys) low) i.toNat)).2.2, aA (aG (qR n.toNat (dvY ys) i.toNat)).2.1, aA (aG ((dH n.toNat (dvY ys) low) i.toNat)).2.1, _, by rw [haw, tI (by omega)]; exact ⟨rfl, rfl, rfl⟩, fun P' C' => ?_, rfl, ?_⟩
  ·exact aM6 C' (d1 := qR n.toNat (dvY ys) i.toNat) (d2 := cF n.toNat (dvY ys)) (d := (dH n.toNat (dvY ys) low) i.toNat) rfl rfl rfl hsv hpv hev hd0 ba bd0 rfl rfl rfl rfl (by decide) (by decide) (by omega)
  ·rw [ht, ← aCF (by omega), ← oA]; rfl
 obtain ⟨G, hG⟩ : ∃ G : Nat → List PV, G = fun k => aB (lM (dH n.toNat (dvY ys) low) N k) := ⟨_, rfl⟩
 have hG0 : u0 = G 0 := by rw [hG, hu0]; simp only [zF]
 have hGN : G N = pr := by rw [hG, hpr]; simp only [aCE]
 have hGl : ∀ k, k ≤ N → (G k).length = N := by intro k hk; rw [hG]; simp only [aV]; exact aCD hk
 have bT : ∀ (i : Int) (t : List PV), 0 ≤ i → i < N → t = G i.toNat → ∃ (s1 s2 : Bool) (e1 e2 : Int) (x1 x2 t2 : List PV), ((aw.getD i.toNat noY).1 = s1 ∧ aA (aw.getD i.toNat noY).2.1 = x1 ∧ (aw.getD i.toNat noY).2.2 = e1) ∧
   (∀ P', Cx P' gl → FS P' gl 73 [.agg [B s1, .lst x1, I e1], .agg [B sv, .lst pv, I ev], I low, I 0] (· = .agg [B s2, .lst x2, I e2])) ∧ t2 = t.set i.toNat (.agg [B s2, .lst x2, I e2]) ∧ t2 = G (i.toNat + 1) := by rw [hG]; exact aA3
 have aYD : aw.length = N := by rw [haw, bU]
 have bA8 : pw.length = N := by rw [hpw, aV, aYD]
 clear binv2 hd2
 clear aA3 hp hya hyl hd bdet bd0 binv hsv hpv hev haw c1 cI m1 m2 c2 c3 hpt hpi hpu hr hs hq he hnn hd0 hu0 hpr hG
 rw [hrr]
 clear hrr
 obtain ⟨rfl, hG⟩ := C
 refine aUZ (args := fun A => [.agg [I n, .lst p], I low]) (R := fun A rr => rr = .tup [.agg [I n, .lst pr], .agg [B s, .lst q, I e], B true]) Tryz.hT Tryz.mix Tryz.func90 rfl rfl (Nat.le_of_ble_eq_true rfl) ?_
 generalize hP : Tryz.prog = P
 intro A hA
 have C : Tryz.Cx P gl := ⟨hP.symm, hG⟩
 have hI : aA = A.ints := by subst hA; rfl
 have q6 : A.eq (A.cast (A.len pv)) 0 = false := by
  clear g1 g2 g3 g4 g5 g6 bT cR
  subst hA
  show (((pv.length : Nat) : Int) == 0) = false
  rw [beq_eq_false_iff_ne]
  omega
 iterate 2 all_goals try cbv; with_reducible repeat' first | exact ⟨⟩ | apply And.intro | intro _
 all_goals try exact oG
 first | (refine aD hA rfl (g1 P C) ?_; rintro _ rfl) | refine ⟨_, g1 P C, ?_⟩
 iterate 2 all_goals try cbv; with_reducible repeat' first | exact ⟨⟩ | apply And.intro | intro _
 all_goals try exact oG
 all_goals try simp only [q6]
 iterate 2 all_goals try cbv; with_reducible repeat' first | exact ⟨⟩ | apply And.intro | intro _
 all_goals try exact oG
 first | (refine aD hA rfl (g2 P C) ?_; rintro _ rfl) | refine ⟨_, g2 P C, ?_⟩
 iterate 2 all_goals try cbv; with_reducible repeat' first | exact ⟨⟩ | apply And.intro | intro _
 all_goals try exact oG
 refine dE hA rfl (cR P C) ?_; rintro _ _ ⟨rfl, rfl⟩; refine ⟨rfl, ?_⟩
 clear cR g1 g2 q6
 iterate 2 all_goals try cbv; with_reducible repeat' first | exact ⟨⟩ | apply And.intro | intro _
 all_goals try exact oG
 refine aZ hA [] (ι := Int × List PV) (fun x => [(10, .pv (I x.1))]) (fun x => [(5, .row 64 3 x.2)]) (fun x => (N - x.1).toNat) (fun x => 0 ≤ x.1 ∧ x.1 ≤ N ∧ x.2 = G x.1.toNat) (0, u0) (by rfl) ?_ ?_ ?_
 all_goals try exact tG
 ·exact ⟨Int.le_refl _, Int.natCast_nonneg _, by rw [hG0]; rfl⟩
 rintro ⟨i, t⟩ ⟨hi0, hi1, ht⟩
 simp only at hi0 hi1 ht
 clear hG0
 have htl : t.length = N := by rw [ht]; exact hGl _ (by omega)
 have hlt : ∀ _ : Unit, A.lt i (A.cast (A.len t)) = true → i < N ∧ i.toNat < N ∧ i + 1 ≤ N := by
  intro _ h; clear bT g3 g4 g5 g6; subst hA; have := of_decide_eq_true (show decide (i < ((t.length : Nat) : Int)) = true from h); rw [htl] at this; omega
 have hge : ∀ _ : Unit, A.lt i (A.cast (A.len t)) = false → i.toNat = N := by
  intro _ h; clear bT g3 g4 g5 g6; subst hA; have := of_decide_eq_false (show decide (i < ((t.length : Nat) : Int)) = false from h); rw [htl] at this; omega
 have pQ : i.toNat = N → t = pr := fun h => by rw [ht, h, hGN]
 have hs' : ∀ _ : Unit, i < N → ∃ (s1 s2 : Bool) (e1 e2 : Int) (x1 x2 t2 : List PV), (A.gb (A.el pw (A.nat i)) 0 = s1 ∧ A.gl (A.el pw (A.nat i)) 1 = x1 ∧ A.gi (A.el pw (A.nat i)) 2 = e1) ∧
   (∀ P', Cx P' gl → FS P' gl 73 [.agg [B s1, .lst x1, I e1], .agg [B sv, .lst pv, I ev], I low, I 0] (· = .agg [B s2, .lst x2, I e2])) ∧ A.set t (A.nat i) (.agg [B s2, .lst x2, I e2]) = t2 ∧ t2 = G (i.toNat + 1) := by
  intro _ h
  obtain ⟨s1, s2, e1, e2, x1, x2, t2, ⟨k1, k2, k3⟩, k4, k5, k6⟩ := bT i t hi0 h ht
  have w1 : A.el pw (A.nat i) = .agg [B s1, .lst x1, I e1] := by
   rw [← k1, ← k2, ← k3, hpw]
   subst hA
   exact aFU (aM9 hi0 h aYD.symm)
  refine ⟨s1, s2, e1, e2, x1, x2, t2, ?_, k4, ?_, k6⟩
  ·rw [w1]; subst hA; exact ⟨rfl, rfl, rfl⟩
  ·rw [k5]; subst hA; rfl
 clear ht bT hGN hGl
 iterate 2 all_goals try cbv; with_reducible repeat' first | exact ⟨⟩ | apply And.intro | intro _
 all_goals try exact oG
 ·rename_i g
  obtain ⟨gi, gi2, gi3⟩ := hlt () g
  obtain ⟨s1, s2, e1, e2, x1, x2, t2, ⟨k1, k2, k3⟩, k4, k5, k6⟩ := hs' () gi
  clear hlt hge pQ hs' g g3 g4 g5 g6
  all_goals try simp only [k1, k2, k3, k5]
  iterate 2 all_goals try cbv; with_reducible repeat' first | exact ⟨⟩ | apply And.intro | intro _
  all_goals try exact oG
  all_goals try simp only [k1, k2, k3, k5]
  first | (refine aD hA rfl (k4 P C) ?_; rintro _ rfl) | refine ⟨_, k4 P C, ?_⟩
  iterate 2 all_goals try cbv; with_reducible repeat' first | exact ⟨⟩ | apply And.intro | intro _
  all_goals try exact oG
  all_goals try simp only [k1, k2, k3, k5]
  clear k1 k2 k3 k4 k5
  obtain ⟨y1, hy1⟩ : ∃ y, y = i + 1 := ⟨_, rfl⟩
  obtain ⟨y2, hy2⟩ : ∃ y, y = t2 := ⟨_, rfl⟩
  refine ⟨⟨(y1, y2), ?_⟩, ?_, ?_⟩
  rotate_left
  ·cbv
   exact nG
  ·exact eG
  ·rw [hy1, hy2]
   refine ⟨by simp only; omega, by simp only; omega, ?_⟩
   simp only
   rw [show (i + 1).toNat = i.toNat + 1 by omega]; exact k6
 ·rename_i g
  have e9 := pQ (hge () g)
  clear hlt hge pQ hs' g
  subst e9
  iterate 2 all_goals try cbv; with_reducible repeat' first | exact ⟨⟩ | apply And.intro | intro _
  all_goals try exact oG
  first | (refine aD hA rfl (g3 P C) ?_; rintro _ rfl) | refine ⟨_, g3 P C, ?_⟩
  iterate 2 all_goals try cbv; with_reducible repeat' first | exact ⟨⟩ | apply And.intro | intro _
  all_goals try exact oG
  first | (refine aD hA rfl (g4 P C) ?_; rintro _ rfl) | refine ⟨_, g4 P C, ?_⟩
  iterate 2 all_goals try cbv; with_reducible repeat' first | exact ⟨⟩ | apply And.intro | intro _
  all_goals try exact oG
  first | (refine aD hA rfl (g5 P C) ?_; rintro _ rfl) | refine ⟨_, g5 P C, ?_⟩
  iterate 2 all_goals try cbv; with_reducible repeat' first | exact ⟨⟩ | apply And.intro | intro _
  all_goals try exact oG
  first | (refine aD hA rfl (g6 P C) ?_; rintro _ rfl) | refine ⟨_, g6 P C, ?_⟩
  iterate 2 all_goals try cbv; with_reducible repeat' first | exact ⟨⟩ | apply And.intro | intro _
  all_goals try exact oG

theorem aA8 (C : Cx P gl) {ys : List aC} {p : List PV} {n low : Int} (hp : p = aB ys) (hya : nO ys) (n1 : 1 ≤ n) (n4 : n ≤ 4) (hyl : (ys.length : Int) = n * n) (hd0 : cF n.toNat (dvY ys) = 0) :
  FS P gl 90 [.agg [I n, .lst p], I low] (· = .tup [.agg [I 0, .lst []], .agg [B false, .lst [], I 0], B false]) := by
 obtain ⟨sv, hsv⟩ : ∃ s, s = (aG (cF n.toNat (dvY ys))).1 := ⟨_, rfl⟩
 obtain ⟨pv, hpv⟩ : ∃ p, p = aA (aG (cF n.toNat (dvY ys))).2.1 := ⟨_, rfl⟩
 obtain ⟨ev, hev⟩ : ∃ e, e = (aG (cF n.toNat (dvY ys))).2.2 := ⟨_, rfl⟩
 have g1 := fun (P' : Program) (C' : Cx P' gl) => zQ C' (d := dvY ys) (n := n) (u0 := sv) (r := pv) (f := ev) hp (nR hya) n1 n4 hyl hsv hpv hev
 have hpl : pv.length = 0 := by rw [hpv, hd0, gJ]; rfl
 clear hp hya hyl hd0 hsv hpv hev
 refine gS C func90 rfl rfl rfl fun A hA hI => ?_
 have q6 : A.eq (A.cast (A.len pv)) 0 = true := by
  clear g1
  subst hA
  show (((pv.length : Nat) : Int) == 0) = true
  rw [hpl]
  rfl
 iterate 2 all_goals try cbv; with_reducible repeat' first | exact ⟨⟩ | apply And.intro | intro _
 all_goals try exact oG
 first | (refine aD hA rfl (g1 P C) ?_; rintro _ rfl) | refine ⟨_, g1 P C, ?_⟩
 iterate 2 all_goals try cbv; with_reducible repeat' first | exact ⟨⟩ | apply And.intro | intro _
 all_goals try exact oG
 all_goals try simp only [q6]
 iterate 2 all_goals try cbv; with_reducible repeat' first | exact ⟨⟩ | apply And.intro | intro _
 all_goals try exact oG

theorem kX (C : Cx P gl) {ys : List aC} {p r x : List PV} {o : List Int} {n n' low g : Int} {u w : Bool} (hp : p = aB ys) (hx : x = aA o) (hw : w = true ↔ ((gM n ys ∧ -200 ≤ low ∧ low ≤ 200) ∧ cF n.toNat (dvY ys) ≠ 0) ∧ (∀ k, k < ys.length → fits ((dH n.toNat (dvY ys) low) k)) ∧ fits (dM n (dvY ys) low))
  (h1 : w = true → r = aB (cW (dH n.toNat (dvY ys) low) ys.length) ∧ n' = n ∧ uV (dM n (dvY ys) low) u o g) (h2 : w = false → r = [] ∧ n' = 0 ∧ u = false ∧ o = [] ∧ g = 0)
  (hl : ys.length ≤ 2000000) (hy : ∀ y ∈ ys, y.2.1.length ≤ 2000000) :
  FS P gl 33 [.agg [I n, .lst p], I low] (· = .tup [.agg [I n', .lst r], .agg [B u, .lst x, I g], B w]) := by
 obtain ⟨b0, hb0⟩ := fV (gM n ys)
 obtain ⟨b2, xE⟩ : ∃ b, b = (decide (-200 ≤ low) && decide (low ≤ 200)) := ⟨_, rfl⟩
 have am := fun (P' : Program) (C' : Cx P' gl) => nW C' (n := n) (b := b0) hp hb0 hl hy
 have lo := fun (P' : Program) (C' : Cx P' gl) => aRC C' (n := low) (b := b2) xE
 have aCL : (b0 = true ∧ b2 = true) ↔ (gM n ys ∧ -200 ≤ low ∧ low ≤ 200) := by
  rw [hb0, xE, Bool.and_eq_true, decide_eq_true_eq, decide_eq_true_eq]
 by_cases cU : b0 = true ∧ b2 = true
 ·have ok := aCL.1 cU
  obtain ⟨rfl, rfl⟩ := cU
  obtain ⟨ok1, okl⟩ := id ok
  obtain ⟨n1, n4, hyl, hya⟩ := ok1
  have aDM := vE n1 n4 hyl
  by_cases hd0 : cF n.toNat (dvY ys) = 0
  ·have hwf : w = false := by
    cases hwc : w with
    | false => rfl
    | true => exact absurd hd0 (hw.1 hwc).1.2
   obtain ⟨e1, e2, e3, e4, e5⟩ := h2 hwf
   have iv := fun (P' : Program) (C' : Cx P' gl) => aA8 C' (low := low) hp hya n1 n4 hyl hd0
   have mo0 := fun (P' : Program) (C' : Cx P' gl) => nW C' (ys := []) (n := 0) (b := false) rfl ⟨fun h => absurd h (by decide), fun h => absurd h.1 (by decide)⟩ (by decide) (fun y hy => by cases hy)
   have dk0 := fun (P' : Program) (C' : Cx P' gl) => aDR C' (l := []) (e := 0) (s := false) (b := true) rfl ⟨fun _ => by have h := (nN (nP 0)).2 aYA; rw [gJ] at h; exact h, fun _ => rfl⟩ (by decide)
   rw [e1, e2, e3, e5, hwf, hx, e4]
   clear h1 h2 hw hb0 xE hp hy aCL hya hyl hl hd0 ok e1 e2 e3 e4 e5 hx
   obtain ⟨rfl, hG⟩ := C
   refine eN (args := fun A => [.agg [I n, .lst p], I low]) (R := fun A rr => rr = .tup [.agg [I 0, .lst []], .agg [B false, .lst (aA []), I 0], B false]) Tryz.hT Tryz.mix Tryz.func33 rfl rfl (Nat.le_of_ble_eq_true rfl) ?_
   generalize hP : Tryz.prog = P
   intro A hA
   have C : Tryz.Cx P gl := ⟨hP.symm, hG⟩
   have hI : aA = A.ints := by subst hA; rfl
   have q1 : A.bnot true = false := by subst hA; rfl
   have q2 : A.bnot false = true := by subst hA; rfl
   have q3 : ∀ x, A.pick false true x = x := fun x => by subst hA; cases x <;> rfl
   have q4 : ∀ x, A.pick true true x = true := fun x => by subst hA; cases x <;> rfl
   have qA : A.ints [] = [] := by subst hA; rfl
   iterate 2 all_goals try cbv; with_reducible repeat' first | exact ⟨⟩ | apply And.intro | intro _
   all_goals try exact oG
   first | (refine aD hA rfl (am P C) ?_; rintro _ rfl) | refine ⟨_, am P C, ?_⟩
   iterate 2 all_goals try cbv; with_reducible repeat' first | exact ⟨⟩ | apply And.intro | intro _
   all_goals try exact oG
   all_goals try simp only [q1, q2, q3, q4]
   refine ⟨_, fun _ => lo P C, ?_⟩
   iterate 2 all_goals try cbv; with_reducible repeat' first | exact ⟨⟩ | apply And.intro | intro _
   all_goals try exact oG
   all_goals try simp only [q1, q2, q3, q4]
   iterate 2 all_goals try cbv; with_reducible repeat' first | exact ⟨⟩ | apply And.intro | intro _
   all_goals try exact oG
   first | (refine aD hA rfl (iv P C) ?_; rintro _ rfl) | refine ⟨_, iv P C, ?_⟩
   iterate 2 all_goals try cbv; with_reducible repeat' first | exact ⟨⟩ | apply And.intro | intro _
   all_goals try exact oG
   all_goals try simp only [q1, q2, q3, q4, qA]
   refine ⟨_, fun _ => mo0 P C, ?_⟩
   iterate 2 all_goals try cbv; with_reducible repeat' first | exact ⟨⟩ | apply And.intro | intro _
   all_goals try exact oG
   all_goals try simp only [q1, q2, q3, q4, qA]
   refine ⟨_, fun _ => dk0 P C, ?_⟩
   iterate 2 all_goals try cbv; with_reducible repeat' first | exact ⟨⟩ | apply And.intro | intro _
   all_goals try exact oG
   all_goals try simp only [q1, q2, q3, q4, qA]
   iterate 2 all_goals try cbv; with_reducible repeat' first | exact ⟨⟩ | apply And.intro | intro _
   all_goals try exact oG
   all_goals try simp only [q1, q2, q3, q4, qA]
  ·obtain ⟨rx, hrx⟩ : ∃ r, r = aB (cW (dH n.toNat (dvY ys) low) ys.length) := ⟨_, rfl⟩
   obtain ⟨s, hs⟩ : ∃ s, s = (aG (dM n (dvY ys) low)).1 := ⟨_, rfl⟩
   obtain ⟨q, hq⟩ : ∃ q, q = aA (aG (dM n (dvY ys) low)).2.1 := ⟨_, rfl⟩
   obtain ⟨e, he⟩ : ∃ e, e = (aG (dM n (dvY ys) low)).2.2 := ⟨_, rfl⟩
   have iv := fun (P' : Program) (C' : Cx P' gl) => aDY C' (low := low) hp hya n1 n4 hyl (by omega) hd0 hrx hs hq he
   obtain ⟨b3, hb3⟩ := fV (∀ k, k < ys.length → fits ((dH n.toNat (dvY ys) low) k))
   obtain ⟨b4, hb4⟩ := fV (fits (dM n (dvY ys) low))
   have hnn : n * n = ((n.toNat * n.toNat : Nat) : Int) := by rw [Int.natCast_mul, Int.toNat_of_nonneg (by omega)]
   have hd : ∀ k, k < n.toNat * n.toNat → Mg 3000 4600 (dvY ys k) := fun k hk => (nR hya k (by omega)).2
   have hil : ∀ k, k < ys.length → (dg (cZ ((dH n.toNat (dvY ys) low) k)).natAbs).length ≤ 5000 := fun k hk => by
    have := eJ (aJE (w := n.toNat) (by omega) (show k < n.toNat * n.toNat by omega) hd (show low.natAbs ≤ 200 by omega))
    omega
   have hDl : (dg (cZ (dM n (dvY ys) low)).natAbs).length ≤ 100000 := by
    have m1 : ∀ k, k < n.toNat * n.toNat → Mg 3200 68804 (nQ n (dvY ys) (dH n.toNat (dvY ys) low) k) := fun k hk => Mg.nQ (by omega) hd (fun k hk => aJE (by omega) hk hd (by omega)) hk
    have m2 : ∀ k, k < n.toNat * n.toNat → Mg 3200 68805 (nQ n (dvY ys) (dH n.toNat (dvY ys) low) k - idD n.toNat k) := by
     intro k hk
     rw [aKM]
     exact (m1 k hk).add (((Mg.idD n.toNat k).neg).mono (by omega) (by omega))
    have m3 : Mg 3200 68809 (dM n (dvY ys) low) := Mg.eT (n := n.toNat) (fun j hj => Mg.jQ (by omega) m2 hj) n.toNat (Nat.le_refl _)
    have := eJ m3
    omega
   have mo := fun (P' : Program) (C' : Cx P' gl) => nW C' (n := n) (b := b3) hrx (by
    rw [hb3]
    unfold gM
    rw [aS1, bU]
    exact ⟨fun h => ⟨n1, n4, hyl, h⟩, fun h => h.2.2.2⟩) (by rw [bU]; omega) (fun y hy => by
     obtain ⟨k, hk, rfl⟩ := List.mem_map.1 hy
     have := hil k (List.mem_range.1 hk)
     show (dg (cZ ((dH n.toNat (dvY ys) low) k)).natAbs).length ≤ _
     omega)
   have dk := fun (P' : Program) (C' : Cx P' gl) => aDR C' (l := (aG (dM n (dvY ys) low)).2.1) (e := e) (s := s) (b := b4) hq (by rw [hb4, hs, he]; exact (nN (nP (dM n (dvY ys) low))).symm) (by show (dg (cZ (dM n (dvY ys) low)).natAbs).length ≤ _; omega)
   have ow := fun (P' : Program) (C' : Cx P' gl) => aQC C' (n := n) (L := 5000) hrx (aVJ hil) (by omega) (by rw [bU]; omega)
   have od := fun (P' : Program) (C' : Cx P' gl) => aCG C' (z := cZ (dM n (dvY ys) low)) (e := e) (p := q) (s := s) hq hs (by omega)
   by_cases hb : b3 = true ∧ b4 = true
   ·obtain ⟨rfl, rfl⟩ := hb
    have hwt : w = true := hw.2 ⟨⟨ok, hd0⟩, hb3.1 rfl, hb4.1 rfl⟩
    obtain ⟨e1, e2, e3, e4, e5⟩ := h1 hwt
    have f1 : r = rx := by rw [e1, hrx]
    have f2 : u = s := by rw [e3, hs]; rfl
    have f3 : x = q := by rw [hx, e4, hq]; rfl
    have f4 : g = e := by rw [e5, he]; rfl
    rw [f1, f2, f3, f4, e2, hwt]
    clear h1 h2 hw hb0 xE hp hy aCL hya hyl hl hd0 ok e1 e2 e3 e4 e5 hx f1 f2 f3 f4 hrx hs hq he hb3 hb4 hd hil hDl hnn
    obtain ⟨rfl, hG⟩ := C
    refine eN (args := fun A => [.agg [I n, .lst p], I low]) (R := fun A rr => rr = .tup [.agg [I n, .lst rx], .agg [B s, .lst q, I e], B true]) Tryz.hT Tryz.mix Tryz.func33 rfl rfl (Nat.le_of_ble_eq_true rfl) ?_
    generalize hP : Tryz.prog = P
    intro A hA
    have C : Tryz.Cx P gl := ⟨hP.symm, hG⟩
    have hI : aA = A.ints := by subst hA; rfl
    have q1 : A.bnot true = false := by subst hA; rfl
    have q2 : A.bnot false = true := by subst hA; rfl
    have q3 : ∀ x, A.pick false true x = x := fun x => by subst hA; cases x <;> rfl
    have q4 : ∀ x, A.pick true true x = true := fun x => by subst hA; cases x <;> rfl
    iterate 2 all_goals try cbv; with_reducible repeat' first | exact ⟨⟩ | apply And.intro | intro _
    all_goals try exact oG
    first | (refine aD hA rfl (am P C) ?_; rintro _ rfl) | refine ⟨_, am P C, ?_⟩
    iterate 2 all_goals try cbv; with_reducible repeat' first | exact ⟨⟩ | apply And.intro | intro _
    all_goals try exact oG
    all_goals try simp only [q1, q2, q3, q4]
    refine ⟨_, fun _ => lo P C, ?_⟩
    iterate 2 all_goals try cbv; with_reducible repeat' first | exact ⟨⟩ | apply And.intro | intro _
    all_goals try exact oG
    all_goals try simp only [q1, q2, q3, q4]
    iterate 2 all_goals try cbv; with_reducible repeat' first | exact ⟨⟩ | apply And.intro | intro _
    all_goals try exact oG
    first | (refine aD hA rfl (iv P C) ?_; rintro _ rfl) | refine ⟨_, iv P C, ?_⟩
    iterate 2 all_goals try cbv; with_reducible repeat' first | exact ⟨⟩ | apply And.intro | intro _
    all_goals try exact oG
    all_goals try simp only [q1, q2, q3, q4]
    refine ⟨_, fun _ => mo P C, ?_⟩
    iterate 2 all_goals try cbv; with_reducible repeat' first | exact ⟨⟩ | apply And.intro | intro _
    all_goals try exact oG
    all_goals try simp only [q1, q2, q3, q4]
    refine ⟨_, fun _ => dk P C, ?_⟩
    iterate 2 all_goals try cbv; with_reducible repeat' first | exact ⟨⟩ | apply And.intro | intro _
    all_goals try exact oG
    all_goals try simp only [q1, q2, q3, q4]
    iterate 2 all_goals try cbv; with_reducible repeat' first | exact ⟨⟩ | apply And.intro | intro _
    all_goals try exact oG
    first | (refine aD hA rfl (ow P C) ?_; rintro _ rfl) | refine ⟨_, ow P C, ?_⟩
    iterate 2 all_goals try cbv; with_reducible repeat' first | exact ⟨⟩ | apply And.intro | intro _
    all_goals try exact oG
    first | (refine aD hA rfl (od P C) ?_; rintro _ rfl) | refine ⟨_, od P C, ?_⟩
    iterate 2 all_goals try cbv; with_reducible repeat' first | exact ⟨⟩ | apply And.intro | intro _
    all_goals try exact oG
   ·have hwf : w = false := by
     cases hwc : w with
     | false => rfl
     | true => exact absurd ⟨hb3.2 (hw.1 hwc).2.1, hb4.2 (hw.1 hwc).2.2⟩ hb
    obtain ⟨e1, e2, e3, e4, e5⟩ := h2 hwf
    have f3 : x = [] := by rw [hx, e4]; rfl
    rw [e1, e2, e3, e5, hwf, f3]
    clear h1 h2 hw hb0 xE hp hy aCL hya hyl hl hd0 ok e1 e2 e3 e4 e5 hx f3 hrx hs hq he hb3 hb4 hd hil hDl hnn ow od
    obtain ⟨rfl, hG⟩ := C
    refine eN (args := fun A => [.agg [I n, .lst p], I low]) (R := fun A rr => rr = .tup [.agg [I 0, .lst []], .agg [B false, .lst [], I 0], B false]) Tryz.hT Tryz.mix Tryz.func33 rfl rfl (Nat.le_of_ble_eq_true rfl) ?_
    generalize hP : Tryz.prog = P
    intro A hA
    have C : Tryz.Cx P gl := ⟨hP.symm, hG⟩
    have hI : aA = A.ints := by subst hA; rfl
    have q1 : A.bnot true = false := by subst hA; rfl
    have q2 : A.bnot false = true := by subst hA; rfl
    have q3 : ∀ x, A.pick false true x = x := fun x => by subst hA; cases x <;> rfl
    have q4 : ∀ x, A.pick true true x = true := fun x => by subst hA; cases x <;> rfl
    iterate 2 all_goals try cbv; with_reducible repeat' first | exact ⟨⟩ | apply And.intro | intro _
    all_goals try exact oG
    first | (refine aD hA rfl (am P C) ?_; rintro _ rfl) | refine ⟨_, am P C, ?_⟩
    iterate 2 all_goals try cbv; with_reducible repeat' first | exact ⟨⟩ | apply And.intro | intro _
    all_goals try exact oG
    all_goals try simp only [q1, q2, q3, q4]
    refine ⟨_, fun _ => lo P C, ?_⟩
    iterate 2 all_goals try cbv; with_reducible repeat' first | exact ⟨⟩ | apply And.intro | intro _
    all_goals try exact oG
    all_goals try simp only [q1, q2, q3, q4]
    iterate 2 all_goals try cbv; with_reducible repeat' first | exact ⟨⟩ | apply And.intro | intro _
    all_goals try exact oG
    first | (refine aD hA rfl (iv P C) ?_; rintro _ rfl) | refine ⟨_, iv P C, ?_⟩
    iterate 2 all_goals try cbv; with_reducible repeat' first | exact ⟨⟩ | apply And.intro | intro _
    all_goals try exact oG
    all_goals try simp only [q1, q2, q3, q4]
    refine ⟨_, fun _ => mo P C, ?_⟩
    iterate 2 all_goals try cbv; with_reducible repeat' first | exact ⟨⟩ | apply And.intro | intro _
    all_goals try exact oG
    all_goals try simp only [q1, q2, q3, q4]
    refine ⟨_, fun _ => dk P C, ?_⟩
    iterate 2 all_goals try cbv; with_reducible repeat' first | exact ⟨⟩ | apply And.intro | intro _
    all_goals try exact oG
    all_goals try simp only [q1, q2, q3, q4]
    iterate 2 all_goals try cbv; with_reducible repeat' first | exact ⟨⟩ | apply And.intro | intro _
    all_goals try exact oG
    all_goals (
     exfalso
     rename_i gg
     clear am lo iv mo dk hI q1 q2 q3 q4
     subst hA
     revert gg hb
     cases b3 <;> cases b4 <;> intro hb gg <;> first | exact hb ⟨rfl, rfl⟩ | exact absurd gg (by decide))
 ·have hwf : w = false := by
   cases hwc : w with
   | false => rfl
   | true => exact absurd (aCL.2 (hw.1 hwc).1.1) cU
  obtain ⟨e1, e2, e3, e4, e5⟩ := h2 hwf
  have f3 : x = [] := by rw [hx, e4]; rfl
  rw [e1, e2, e3, e5, hwf, f3]
  clear h1 h2 hw hb0 xE hp hy aCL hl e1 e2 e3 e4 e5 hx f3
  refine gS C func33 rfl rfl rfl fun A hA hI => ?_
  iterate 2 all_goals try cbv; with_reducible repeat' first | exact ⟨⟩ | apply And.intro | intro _
  all_goals try exact oG
  first | (refine aD hA rfl (am P C) ?_; rintro _ rfl) | refine ⟨_, am P C, ?_⟩
  iterate 2 all_goals try cbv; with_reducible repeat' first | exact ⟨⟩ | apply And.intro | intro _
  all_goals try exact oG
  refine ⟨_, fun _ => lo P C, ?_⟩
  iterate 2 all_goals try cbv; with_reducible repeat' first | exact ⟨⟩ | apply And.intro | intro _
  all_goals try exact oG
  iterate 2 all_goals try cbv; with_reducible repeat' first | exact ⟨⟩ | apply And.intro | intro _
  all_goals try exact oG
  all_goals (
   exfalso
   rename_i gg
   clear am lo hI
   subst hA
   revert gg cU
   cases b0 <;> cases b2 <;> intro cU gg <;> first | exact cU ⟨rfl, rfl⟩ | exact absurd gg (by decide))

end Tryz
end Go.Proofs
