/- Contracts: inverses in the program, up to the rounded matrix and how far it is off. -/
import Derived.Test.YtlkiofkkjbodjaaGreatDoorBN36
import Derived.Test.YtlkiofkkjbodjaaGreatDoorBM20
import Derived.Test.YtlkiofkkjbodjaaGreatDoorBM21
import Derived.Test.YtlkiofkkjbodjaaGreatDoorBM6
import Derived.Test.YtlkiofkkjbodjaaGreatDoorBM7
import Derived.Test.YtlkiofkkjbodjaaGreatDoorBN29
import Derived.Test.YtlkiofkkjbodjaaGreatDoorBN20
set_option maxHeartbeats 2000000
set_option maxRecDepth 100000
namespace Go.Proofs
open Go Go.Pe Go.Dg
namespace Tryz
set_option linter.unusedSimpArgs false
set_option linter.unusedVariables false
variable {P : Program} {gl : List (Nat × Obj)}

theorem aV0 {a b : Dyadic} {y1 y2 : aC} {L E L2 E2 : Nat} {low m : Int} (h1 : X a L E y1) (h2 : X b L2 E2 y2) (h0 : b ≠ 0) (ba : (dg (cZ a).natAbs).length ≤ 1500 ∧ (cE a).natAbs ≤ 14000) (bb : (cE b).natAbs ≤ 19000) (hb : low.natAbs ≤ 300) (hL : L ≤ 400000) (hE : E ≤ 50000) (hL2 : L2 ≤ 400000) (hE2 : E2 ≤ 50000) :
  ∃ (y : aC) (ex : Bool), X (uY a b low m) 4000 300 y ∧
   ∀ (P : Program) (gl : List (Nat × Obj)) (p q r : List PV), Cx P gl → p = aA y1.2.1 → q = aA y2.2.1 → r = aA y.2.1 → FS P gl 110 [.agg [B y1.1, .lst p, I y1.2.2], .agg [B y2.1, .lst q, I y2.2.2], I low, I m] (· = .tup [.agg [B y.1, .lst r, I y.2.2], B ex]) := by
 obtain ⟨z1, a1, a2, a3, a4, a5⟩ := h1
 obtain ⟨z2, b1, b2, b3, b4, b5⟩ := h2
 have hz2 : z2 ≠ 0 := fun h => h0 (by rw [b3, h, mk_zero])
 obtain ⟨z, hz⟩ : ∃ z, z = eW z1 z2 (y1.2.2 - y2.2.2 - low) m := ⟨_, rfl⟩
 have hd : mk z low = uY a b low m ∧ (dg z.natAbs).length ≤ 4000 := by
  by_cases h : z1 = 0
  ·have e : a = 0 := by rw [a3, h, mk_zero]
   have z0 : z = 0 := by rw [hz, h, aRL]
   refine ⟨?_, by rw [z0, show Int.natAbs 0 = 0 from rfl, aO]; exact Nat.zero_le _⟩
   unfold uY
   rw [z0, e, dT, aRL]
  ·have hf := (aJD (L := low) (m := m) (e1 := y1.2.2) (e2 := y2.2.2) h hz2).1
   rw [← a3, ← b3] at hf
   have h3 := aB7 (cZ a) (cZ b) (cE a - cE b - low) m
   refine ⟨?_, by rw [hz, hf]; omega⟩
   unfold uY
   rw [hz, hf]
 refine ⟨(decide (z < 0), dg z.natAbs, low), decide (z1.natAbs * 2 ^ (y1.2.2 - y2.2.2 - low).toNat % (z2.natAbs * 2 ^ (-(y1.2.2 - y2.2.2 - low)).toNat) = 0), ⟨z, rfl, rfl, hd.1.symm, hd.2, hb⟩, ?_⟩
 intro P gl p q r C hp hq hr
 exact aRV C (by rw [hp, a2]) (by rw [hq, b2]) a1 b1 hz2 hz hr rfl rfl (by omega) (by omega) (by omega) (by omega) (by omega)

theorem aGO (C : Cx P gl) {n i j low : Int} {p pv pa r : List PV} {sv sa s ex : Bool} {ev ea e : Int}
  (h1 : ∀ P', Cx P' gl → FS P' gl 82 [.agg [I n, .lst p], I i, I j] (· = .agg [B sa, .lst pa, I ea]))
  (h2 : ∀ P', Cx P' gl → FS P' gl 110 [.agg [B sa, .lst pa, I ea], .agg [B sv, .lst pv, I ev], I low, I 0] (· = .tup [.agg [B s, .lst r, I e], B ex])) :
  FS P gl 170 [I i, I j, .ptr [I n, .lst p] 0, .ptr [B sv, .lst pv, I ev] 0, .ptr [I low] 0] (· = .agg [B s, .lst r, I e]) := by
 refine gS C func170 rfl rfl rfl fun A hA hI => ?_
 iterate 2 all_goals try cbv; with_reducible repeat' first | exact ⟨⟩ | apply And.intro | intro _
 all_goals try exact oG
 first | (refine aD hA rfl (h1 P C) ?_; rintro _ rfl) | refine ⟨_, h1 P C, ?_⟩
 iterate 2 all_goals try cbv; with_reducible repeat' first | exact ⟨⟩ | apply And.intro | intro _
 all_goals try exact oG
 first | (refine aD hA rfl (h2 P C) ?_; rintro _ rfl) | refine ⟨_, h2 P C, ?_⟩
 iterate 2 all_goals try cbv; with_reducible repeat' first | exact ⟨⟩ | apply And.intro | intro _
 all_goals try exact oG

theorem aAB (C : Cx P gl) {n low : Int} {p pv pw r : List PV} {sv : Bool} {ev : Int}
  (g1 : ∀ P', Cx P' gl → FS P' gl 78 [.agg [I n, .lst p]] (· = .agg [B sv, .lst pv, I ev])) (iz : ∀ P', Cx P' gl → FS P' gl 79 [.agg [B sv, .lst pv, I ev]] (· = B false))
  (g2 : ∀ P', Cx P' gl → FS P' gl 80 [.agg [I n, .lst p]] (· = .agg [I n, .lst pw]))
  (g3 : ∀ P', Cx P' gl → FS P' gl 154 [I n, .fn 170 [.ptr [I n, .lst pw] 0, .ptr [B sv, .lst pv, I ev] 0, .ptr [I low] 0]] (· = .agg [I n, .lst r])) :
  FS P gl 94 [.agg [I n, .lst p], I low] (· = .tup [.agg [I n, .lst r], B true]) := by
 refine gS C func94 rfl rfl rfl fun A hA hI => ?_
 have q1 : A.bnot true = false := by subst hA; rfl
 have q2 : A.bnot false = true := by subst hA; rfl
 iterate 2 all_goals try cbv; with_reducible repeat' first | exact ⟨⟩ | apply And.intro | intro _
 all_goals try exact oG
 first | (refine aD hA rfl (g1 P C) ?_; rintro _ rfl) | refine ⟨_, g1 P C, ?_⟩
 iterate 2 all_goals try cbv; with_reducible repeat' first | exact ⟨⟩ | apply And.intro | intro _
 all_goals try exact oG
 first | (refine aD hA rfl (iz P C) ?_; rintro _ rfl) | refine ⟨_, iz P C, ?_⟩
 iterate 2 all_goals try cbv; with_reducible repeat' first | exact ⟨⟩ | apply And.intro | intro _
 all_goals try exact oG
 iterate 2 all_goals try cbv; with_reducible repeat' first | exact ⟨⟩ | apply And.intro | intro _
 all_goals try exact oG
 first | (refine aD hA rfl (g2 P C) ?_; rintro _ rfl) | refine ⟨_, g2 P C, ?_⟩
 iterate 2 all_goals try cbv; with_reducible repeat' first | exact ⟨⟩ | apply And.intro | intro _
 all_goals try exact oG
 first | (refine aD hA rfl (g3 P C) ?_; rintro _ rfl) | refine ⟨_, g3 P C, ?_⟩
 iterate 2 all_goals try cbv; with_reducible repeat' first | exact ⟨⟩ | apply And.intro | intro _
 all_goals try exact oG

theorem wR (C : Cx P gl) {n low : Int} {p pv : List PV} {sv : Bool} {ev : Int}
  (g1 : ∀ P', Cx P' gl → FS P' gl 78 [.agg [I n, .lst p]] (· = .agg [B sv, .lst pv, I ev])) (iz : ∀ P', Cx P' gl → FS P' gl 79 [.agg [B sv, .lst pv, I ev]] (· = B true)) :
  FS P gl 94 [.agg [I n, .lst p], I low] (· = .tup [.agg [I 0, .lst []], B false]) := by
 refine gS C func94 rfl rfl rfl fun A hA hI => ?_
 iterate 2 all_goals try cbv; with_reducible repeat' first | exact ⟨⟩ | apply And.intro | intro _
 all_goals try exact oG
 first | (refine aD hA rfl (g1 P C) ?_; rintro _ rfl) | refine ⟨_, g1 P C, ?_⟩
 iterate 2 all_goals try cbv; with_reducible repeat' first | exact ⟨⟩ | apply And.intro | intro _
 all_goals try exact oG
 first | (refine aD hA rfl (iz P C) ?_; rintro _ rfl) | refine ⟨_, iz P C, ?_⟩
 iterate 2 all_goals try cbv; with_reducible repeat' first | exact ⟨⟩ | apply And.intro | intro _
 all_goals try exact oG
 iterate 2 all_goals try cbv; with_reducible repeat' first | exact ⟨⟩ | apply And.intro | intro _
 all_goals try exact oG

theorem kW {ys : List aC} {n low : Int} (hya : nO ys) (n1 : 1 ≤ n) (n4 : n ≤ 4) (hyl : (ys.length : Int) = n * n) (h0 : cF n.toNat (dvY ys) ≠ 0) (pF : low.natAbs ≤ 300) :
  ∃ ws, (ws.length : Int) = n * n ∧ XL (dH n.toNat (dvY ys) low) 4000 300 ws ∧
   ∀ (P : Program) (gl : List (Nat × Obj)) (p r : List PV), Cx P gl → p = aB ys → r = aB ws → FS P gl 94 [.agg [I n, .lst p], I low] (· = .tup [.agg [I n, .lst r], B true]) := by
 have hnn : n * n = ((n.toNat * n.toNat : Nat) : Int) := by rw [Int.natCast_mul, Int.toNat_of_nonneg (by omega)]
 obtain ⟨yd, yx, yc⟩ := zO (qO hya) (by omega) (by omega) (by omega) n4 hyl
 obtain ⟨aw, a1, a2, a3⟩ := aIX (qO hya) (by omega) (by omega) (by omega) n4 hyl
 have hd : ∀ k, k < n.toNat * n.toNat → Mg 3000 4600 (dvY ys k) := fun k hk => (nR hya k (by omega)).2
 have bdet := aDX (w := n.toNat) (by omega) hd
 have bd1 := iC bdet
 have bd2 := eO bdet
 obtain ⟨Y, hY⟩ := places (n := n.toNat) (Q := fun i j y => ∃ ex : Bool, X (dH n.toNat (dvY ys) low (i * n.toNat + j)) 4000 300 y ∧
   ∀ (P : Program) (gl : List (Nat × Obj)) (p q r : List PV), Cx P gl → p = aA (aw.getD (i * n.toNat + j) noY).2.1 → q = aA yd.2.1 → r = aA y.2.1 → FS P gl 110 [.agg [B (aw.getD (i * n.toNat + j) noY).1, .lst p, I (aw.getD (i * n.toNat + j) noY).2.2], .agg [B yd.1, .lst q, I yd.2.2], I low, I 0] (· = .tup [.agg [B y.1, .lst r, I y.2.2], B ex])) (by
  intro i j hi hj
  have hpl := bQ hi hj
  have ba := Mg.adj (w := n.toNat) (by omega) hpl hd
  have b1 := eJ ba
  have b2 := iC ba
  have b3 := eO ba
  obtain ⟨y, ex, x1, x2⟩ := aV0 (low := low) (m := 0) (a2 (i * n.toNat + j) (by omega)) yx h0 (by omega) (by omega) pF (by omega) (by omega) (by omega) (by omega)
  exact ⟨y, ex, x1, x2⟩)
 refine ⟨bY Y n.toNat n.toNat, by rw [cP, hnn], pL (fun i j hi hj => (hY i j hi hj).choose_spec.1), ?_⟩
 intro P gl p r C hp hr
 obtain ⟨zd, e1, e2, e3, e4, e5⟩ := yx
 obtain ⟨pv, hpv⟩ : ∃ pv, pv = aA yd.2.1 := ⟨_, rfl⟩
 obtain ⟨pw, hpw⟩ : ∃ pw, pw = aB aw := ⟨_, rfl⟩
 refine aAB C (fun P' C' => yc P' gl p pv C' hp hpv) (fun P' C' => aCK C' (b := false) hpv (by rw [e2, eq_comm, decide_eq_false_iff_not, cO]; exact fun h => h0 (by rw [e3, show zd = 0 by omega, mk_zero]))) (fun P' C' => a3 P' gl p pw C' hp hpw)
  (fun P' C' => aI0 C' (y := Y) (by omega) (by omega) hr (fun i j s l e q hi0 hi hj0 hj hy hq P2 C2 => ?_))
 obtain ⟨ex, x1, x2⟩ := hY i.toNat j.toNat (by omega) (by omega)
 have hmul : (i * n + j).toNat = i.toNat * n.toNat + j.toNat ∧ i * n + j < aw.length := by
  have e1 : i * n = ((i.toNat * n.toNat : Nat) : Int) := by rw [Int.natCast_mul, Int.toNat_of_nonneg hi0, Int.toNat_of_nonneg (show 0 ≤ n by omega)]
  have := bQ (n := n.toNat) (i := i.toNat) (j := j.toNat) (by omega) (by omega)
  omega
 refine aGO (ex := ex) C2 (fun P3 C3 => gL C3 hpw hi0 hj0 (by omega) n4 (by omega) (by omega) hmul.2 (by rw [hmul.1]) rfl) (fun P3 C3 => ?_)
 have h := x2 P3 gl _ _ q C3 rfl hpv (by rw [hy]; exact hq)
 rw [hy] at h
 exact h

theorem wS (C : Cx P gl) {n e g : Int} {p q r x : List PV} {s v : Bool}
  (h1 : ∀ P', Cx P' gl → FN P' gl 171 [.agg [I n, .lst p]] (fun own rr => own = [.tree 64 3 3 r] ∧ rr = .tup [.agg [.pv (I n), .own 0], .pv (B true)]))
  (h2 : ∀ P', Cx P' gl → FN P' gl 111 [.agg [B s, .lst q, I e]] (fun own rr => own = [.row 3 1 x] ∧ rr = .tup [.agg [.pv (B v), .own 0, .pv (I g)], .pv (B true)])) :
  FX P gl 95 [] [.pv (.agg [I n, .lst p]), .pv (.agg [B s, .lst q, I e])] (fun own rr => own = [.tree 64 3 3 r, .row 3 1 x] ∧ rr = .tup [.agg [.pv (I n), .own 0], .agg [.pv (B v), .own 1, .pv (I g)], .pv (B true)]) := by
 obtain ⟨rfl, hG⟩ := C
 refine aDA (own := fun A => []) (args := fun A => [.pv (.agg [I n, .lst p]), .pv (.agg [B s, .lst q, I e])]) (R := fun A ow rr => ow = [.tree 64 3 3 r, .row 3 1 x] ∧ rr = .tup [.agg [.pv (I n), .own 0], .agg [.pv (B v), .own 1, .pv (I g)], .pv (B true)]) Tryz.hT Tryz.mix Tryz.func95 rfl rfl (Nat.le_of_ble_eq_true rfl) ?_
 generalize hP : Tryz.prog = P
 intro A hA
 have C : Tryz.Cx P gl := ⟨hP.symm, hG⟩
 have hI : aA = A.ints := by subst hA; rfl
 have q1 : A.bnot true = false := by subst hA; rfl
 have q3 : ∀ x, A.pick false true x = x := fun x => by subst hA; cases x <;> rfl
 iterate 2 all_goals try cbv; with_reducible repeat' first | exact ⟨⟩ | apply And.intro | intro _
 all_goals try exact oG
 refine dE hA rfl (h1 P C) ?_; rintro _ _ ⟨rfl, rfl⟩; refine ⟨rfl, ?_⟩
 iterate 2 all_goals try cbv; with_reducible repeat' first | exact ⟨⟩ | apply And.intro | intro _
 all_goals try exact oG
 refine dE hA rfl (h2 P C) ?_; rintro _ _ ⟨rfl, rfl⟩; refine ⟨rfl, ?_⟩
 iterate 2 all_goals try cbv; with_reducible repeat' first | exact ⟨⟩ | apply And.intro | intro _
 all_goals try exact oG
 all_goals try simp only [q1, q3]
 iterate 2 all_goals try cbv; with_reducible repeat' first | exact ⟨⟩ | apply And.intro | intro _
 all_goals try exact oG
 subst hA
 exact ⟨[4, 6], _, _, by decide, Nat.zero_le _, rfl, rfl, rfl, rfl, rfl, rfl⟩

theorem wT (C : Cx P gl) {n e : Int} {p q r : List PV} {s : Bool}
  (h1 : ∀ P', Cx P' gl → FN P' gl 171 [.agg [I n, .lst p]] (fun own rr => own = [.tree 64 3 3 r] ∧ rr = .tup [.agg [.pv (I n), .own 0], .pv (B true)]))
  (h2 : ∀ P', Cx P' gl → FS P' gl 111 [.agg [B s, .lst q, I e]] (· = .tup [.agg [B false, .lst [], I 0], B true])) :
  FX P gl 95 [] [.pv (.agg [I n, .lst p]), .pv (.agg [B s, .lst q, I e])] (fun own rr => own = [.tree 64 3 3 r] ∧ rr = .tup [.agg [.pv (I n), .own 0], .agg [.pv (B false), .pv (.lst []), .pv (I 0)], .pv (B true)]) := by
 obtain ⟨rfl, hG⟩ := C
 refine aDA (own := fun A => []) (args := fun A => [.pv (.agg [I n, .lst p]), .pv (.agg [B s, .lst q, I e])]) (R := fun A ow rr => ow = [.tree 64 3 3 r] ∧ rr = .tup [.agg [.pv (I n), .own 0], .agg [.pv (B false), .pv (.lst []), .pv (I 0)], .pv (B true)]) Tryz.hT Tryz.mix Tryz.func95 rfl rfl (Nat.le_of_ble_eq_true rfl) ?_
 generalize hP : Tryz.prog = P
 intro A hA
 have C : Tryz.Cx P gl := ⟨hP.symm, hG⟩
 have hI : aA = A.ints := by subst hA; rfl
 have q1 : A.bnot true = false := by subst hA; rfl
 have q3 : ∀ x, A.pick false true x = x := fun x => by subst hA; cases x <;> rfl
 iterate 2 all_goals try cbv; with_reducible repeat' first | exact ⟨⟩ | apply And.intro | intro _
 all_goals try exact oG
 refine dE hA rfl (h1 P C) ?_; rintro _ _ ⟨rfl, rfl⟩; refine ⟨rfl, ?_⟩
 iterate 2 all_goals try cbv; with_reducible repeat' first | exact ⟨⟩ | apply And.intro | intro _
 all_goals try exact oG
 refine aD hA rfl (h2 P C) ?_; rintro _ rfl
 iterate 2 all_goals try cbv; with_reducible repeat' first | exact ⟨⟩ | apply And.intro | intro _
 all_goals try exact oG
 all_goals try simp only [q1, q3]
 iterate 2 all_goals try cbv; with_reducible repeat' first | exact ⟨⟩ | apply And.intro | intro _
 all_goals try exact oG
 subst hA
 exact ⟨[4], _, _, by decide, Nat.zero_le _, rfl, rfl, rfl, rfl, rfl, rfl⟩

theorem iP (C : Cx P gl) {n e : Int} {p q : List PV} {s b : Bool} {R : PV}
  (h1 : ∀ P', Cx P' gl → FS P' gl 171 [.agg [I n, .lst p]] (· = .tup [.agg [I 0, .lst []], B false]))
  (h2 : ∀ P', Cx P' gl → ∃ (v : Bool) (x : List PV) (g : Int), FS P' gl 111 [.agg [B s, .lst q, I e]] (· = .tup [.agg [B v, .lst x, I g], B b])) :
  FS P gl 95 [.agg [I n, .lst p], .agg [B s, .lst q, I e]] (· = .tup [.agg [I 0, .lst []], .agg [B false, .lst [], I 0], B false]) := by
 obtain ⟨rfl, hG⟩ := C
 refine aC9 (args := fun A => [.agg [I n, .lst p], .agg [B s, .lst q, I e]]) (R := fun A rr => rr = .tup [.agg [I 0, .lst []], .agg [B false, .lst [], I 0], B false]) Tryz.hT Tryz.mix Tryz.func95 rfl rfl (Nat.le_of_ble_eq_true rfl) ?_
 generalize hP : Tryz.prog = P
 intro A hA
 have C : Tryz.Cx P gl := ⟨hP.symm, hG⟩
 have hI : aA = A.ints := by subst hA; rfl
 have q1 : A.bnot true = false := by subst hA; rfl
 have q2 : A.bnot false = true := by subst hA; rfl
 have q4 : ∀ x, A.pick true true x = true := fun x => by subst hA; cases x <;> rfl
 obtain ⟨v, x, g, h3⟩ := h2 P C
 clear h2
 iterate 2 all_goals try cbv; with_reducible repeat' first | exact ⟨⟩ | apply And.intro | intro _
 all_goals try exact oG
 refine aD hA rfl (h1 P C) ?_; rintro _ rfl
 iterate 2 all_goals try cbv; with_reducible repeat' first | exact ⟨⟩ | apply And.intro | intro _
 all_goals try exact oG
 refine aD hA rfl (h3) ?_; rintro _ rfl
 iterate 2 all_goals try cbv; with_reducible repeat' first | exact ⟨⟩ | apply And.intro | intro _
 all_goals try exact oG
 all_goals try simp only [q1, q2, q4]
 iterate 2 all_goals try cbv; with_reducible repeat' first | exact ⟨⟩ | apply And.intro | intro _
 all_goals try exact oG

theorem vH (C : Cx P gl) {n e : Int} {p q r : List PV} {s : Bool}
  (h1 : ∀ P', Cx P' gl → FN P' gl 171 [.agg [I n, .lst p]] (fun own rr => own = [.tree 64 3 3 r] ∧ rr = .tup [.agg [.pv (I n), .own 0], .pv (B true)]))
  (h2 : ∀ P', Cx P' gl → FS P' gl 111 [.agg [B s, .lst q, I e]] (· = .tup [.agg [B false, .lst [], I 0], B false])) :
  FS P gl 95 [.agg [I n, .lst p], .agg [B s, .lst q, I e]] (· = .tup [.agg [I 0, .lst []], .agg [B false, .lst [], I 0], B false]) := by
 have h1s : ∀ P', Cx P' gl → FS P' gl 171 [.agg [I n, .lst p]] (· = .tup [.agg [I n, .lst r], B true]) := fun P' C' => wX (h1 P' C') (by rintro _ _ ⟨rfl, rfl⟩; rfl)
 clear h1
 obtain ⟨rfl, hG⟩ := C
 refine aC9 (args := fun A => [.agg [I n, .lst p], .agg [B s, .lst q, I e]]) (R := fun A rr => rr = .tup [.agg [I 0, .lst []], .agg [B false, .lst [], I 0], B false]) Tryz.hT Tryz.mix Tryz.func95 rfl rfl (Nat.le_of_ble_eq_true rfl) ?_
 generalize hP : Tryz.prog = P
 intro A hA
 have C : Tryz.Cx P gl := ⟨hP.symm, hG⟩
 have hI : aA = A.ints := by subst hA; rfl
 have q1 : A.bnot true = false := by subst hA; rfl
 have q2 : A.bnot false = true := by subst hA; rfl
 have q3 : ∀ x, A.pick false true x = x := fun x => by subst hA; cases x <;> rfl
 iterate 2 all_goals try cbv; with_reducible repeat' first | exact ⟨⟩ | apply And.intro | intro _
 all_goals try exact oG
 refine aD hA rfl (h1s P C) ?_; rintro _ rfl
 iterate 2 all_goals try cbv; with_reducible repeat' first | exact ⟨⟩ | apply And.intro | intro _
 all_goals try exact oG
 refine aD hA rfl (h2 P C) ?_; rintro _ rfl
 iterate 2 all_goals try cbv; with_reducible repeat' first | exact ⟨⟩ | apply And.intro | intro _
 all_goals try exact oG
 all_goals try simp only [q1, q2, q3]
 iterate 2 all_goals try cbv; with_reducible repeat' first | exact ⟨⟩ | apply And.intro | intro _
 all_goals try exact oG

end Tryz
end Go.Proofs
