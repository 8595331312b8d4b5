/- Contracts: Solve in the program. -/
import Derived.Test.YtlkiofkkjbodjaaGreatDoorDP2
import Derived.Test.YtlkiofkkjbodjaaGreatDoorDM38
import Derived.Test.YtlkiofkkjbodjaaGreatDoorDM13
import Derived.Test.YtlkiofkkjbodjaaGreatDoorDN35
import Derived.Test.YtlkiofkkjbodjaaGreatDoorDN21
import Derived.Test.YtlkiofkkjbodjaaGreatDoorDN40a
set_option maxHeartbeats 4000000
set_option maxRecDepth 100000
namespace Go.Proofs
open Go Go.Pe Go.Dg
namespace Tryz
set_option linter.unusedSimpArgs false
set_option linter.unusedVariables false
variable {P : Program} {gl : List (Nat × Obj)}

theorem toNat_ltJ {x n : Int} {k N : Nat} (h0 : 0 ≤ x) (h1 : x < n) (h2 : N = n.toNat) (h3 : k = N) : x.toNat < k := by omega

def solOk (n : Int) (ys bs : List Cell3) (low : Int) : Prop := matOk n ys ∧ (bs.length : Int) = n ∧ allY bs ∧ -200 ≤ low ∧ low ≤ 200

theorem solRow_ex {bs ws : List Cell3} {d b : Nat → Dyadic} {w : Nat} {low : Int} {yd : Cell3} (hws : XL (adjD w d) 150001 9000 ws) (hb : XL b 100 3000 bs) (hyd : X (detD w d) 200001 12000 yd) (h0 : detD w d ≠ 0) (hlow : low.natAbs ≤ 300) (hwl : ws.length = w * w) (hbl : bs.length = w) (hw4 : w ≤ 4) {i : Nat} (hi : i < w) :
  ∃ (c t : Nat → Cell3) (u1 u2 : Cell3), c 0 = noY ∧ (∀ j, j < w → ∀ gl, callP gl 83 (ws.getD (i * w + j) noY) (bs.getD j noY) (t j) ∧ callP gl 81 (c j) (t j) (c (j + 1))) ∧ X (solLo w d b low i) 410000 300 u1 ∧ X (solHi w d b low i) 410000 300 u2 ∧
   ∀ (P : Program) (gl : List (Nat × Obj)) (p q r x : List PV), Cx P gl → p = intsL (c w).2.1 → q = intsL yd.2.1 → r = intsL u1.2.1 → x = intsL u2.2.1 →
    FS P gl 85 [.agg [B (c w).1, .lst p, I (c w).2.2, B (c w).1, .lst p, I (c w).2.2], .agg [B yd.1, .lst q, I yd.2.2, B yd.1, .lst q, I yd.2.2], I low] (· = .agg [B u1.1, .lst r, I u1.2.2, B u2.1, .lst x, I u2.2.2]) := by
 obtain ⟨c, t, c0, cs, cx⟩ := chain (S := psum (fun j => adjD w d (i * w + j) * b j)) (Lf := fun k => 150101 + k * 12002) (E := 12000) (y0 := noY)
  (Q := fun k y t y' => ∀ gl, callP gl 83 (ws.getD (i * w + k) noY) (bs.getD k noY) t ∧ callP gl 81 y t y') X_zero (n := w) (by
   intro k y hk hx
   obtain ⟨t, t1, t2⟩ := xTimes (hws (i * w + k) (by rw [hwl]; exact place_lt hi hk)) (hb k (by omega)) (by omega) (by omega) (by omega) (by omega)
   obtain ⟨y', y1, y2⟩ := xPlus hx (t1.mono (L' := 150101 + k * 12002) (by omega) (Nat.le_refl _)) (by omega) (by omega)
   exact ⟨t, y', fun gl => ⟨fun P p q r C h3 h4 h5 => t2 P gl p q r C h3 h4 h5, fun P p q r C h3 h4 h5 => y2 P gl p q r C h3 h4 h5⟩, y1.mono (by omega) (Nat.le_refl _)⟩)
 obtain ⟨u1, u2, x1, x2, x3⟩ := spanOverX_ex (low := low) (cx w (Nat.le_refl _)) hyd h0 hlow (by omega) (by omega) (by omega) (by omega)
 exact ⟨c, t, u1, u2, c0, cs, x1, x2, x3⟩

theorem implSolve_fx (C : Cx P gl) {ys bs : List Cell3} {p q r : List PV} {n low : Int} {w : Bool} (hp : p = cells3 ys) (hq : q = cells3 bs) (ok : solOk n ys bs low) (hd0 : detD n.toNat (dvY ys) ≠ 0) (hw : w = true ↔ ∀ k, k < n.toNat → fits ((solLo n.toNat (dvY ys) (dvY bs) low) k) ∧ fits ((solHi n.toNat (dvY ys) (dvY bs) low) k)) (hr : r = cells6 (canV (solLo n.toNat (dvY ys) (dvY bs) low) (solHi n.toNat (dvY ys) (dvY bs) low) n.toNat))
  (hl : ys.length ≤ 2000000) (hy : ∀ y ∈ ys, y.2.1.length ≤ 2000000) (hbl2 : bs.length ≤ 2000000) (hby : ∀ y ∈ bs, y.2.1.length ≤ 2000000) :
  FX P gl 25 [] [.pv (.agg [I n, .lst p]), .pv (.lst q), .pv (I low)] (fun own rr => (w = true ∧ own = [.tree 110 6 3 r] ∧ rr = .tup [.own 0, .pv (B true)]) ∨ (w = false ∧ own = [] ∧ rr = .tup [.pv (.val (.slice none 0 0)), .pv (B false)])) := by
 obtain ⟨ok1, okb, oka, okl⟩ := ok
 have am := fun (P' : Program) (C' : Cx P' gl) => implMatOk_fs C' (n := n) (b := true) hp ⟨fun _ => ok1, fun _ => rfl⟩ hl hy
 have ad := fun (P' : Program) (C' : Cx P' gl) => areDys_fs C' (b := true) hq ⟨fun _ => oka, fun _ => rfl⟩ (by omega) hby
 have lo := fun (P' : Program) (C' : Cx P' gl) => isFine_fs C' (n := low) (b := true) (by rw [decide_eq_true okl.1, decide_eq_true okl.2]; rfl)
 obtain ⟨n1, n4, hyl, hya⟩ := ok1
 have g1 := fun (P' : Program) (C' : Cx P' gl) => matGrid_fs C' (n := n) hp hl
 obtain ⟨yd, yx, yc⟩ := gridDet_ex (allY_XL hya) (by omega) (by omega) (by omega) n4 hyl
 obtain ⟨sv, hsv⟩ : ∃ s, s = yd.1 := ⟨_, rfl⟩
 obtain ⟨pv, hpv⟩ : ∃ p, p = intsL yd.2.1 := ⟨_, rfl⟩
 obtain ⟨ev, hev⟩ : ∃ e, e = yd.2.2 := ⟨_, rfl⟩
 have g2 := fun (P' : Program) (C' : Cx P' gl) => yc P' gl p pv C' hp hpv
 rw [← hsv, ← hev] at g2
 have hv0 : ∃ zd : Int, yd.2.1 = dg zd.natAbs ∧ zd ≠ 0 := by
  obtain ⟨z, a1, a2, a3, a4, a5⟩ := yx
  exact ⟨z, a2, fun h => hd0 (by rw [a3, h, mk_zero])⟩
 obtain ⟨zd, hzd, hzd0⟩ := hv0
 have iz := fun (P' : Program) (C' : Cx P' gl) => isZero_fs C' (s := sv) (b := false) (e := ev) hpv (by rw [hzd, eq_comm, decide_eq_false_iff_not, dg_len0]; omega)
 obtain ⟨ws, w1, w2, w3⟩ := gridAdj_ex (allY_XL hya) (by omega) (by omega) (by omega) n4 hyl
 obtain ⟨pw, hpw⟩ : ∃ pw, pw = cells3 ws := ⟨_, rfl⟩
 have g3 := fun (P' : Program) (C' : Cx P' gl) => w3 P' gl p pw C' hp hpw
 obtain ⟨dA, hdA⟩ : ∃ f, f = (solLo n.toNat (dvY ys) (dvY bs) low) := ⟨_, rfl⟩
 obtain ⟨dB, hdB⟩ : ∃ f, f = (solHi n.toNat (dvY ys) (dvY bs) low) := ⟨_, rfl⟩
 have hnn : n * n = ((n.toNat * n.toNat : Nat) : Int) := by rw [Int.natCast_mul, Int.toNat_of_nonneg (by omega)]
 have hql : q.length = bs.length := by rw [hq, cells3_len]
 have hpair : ∀ a b : Int, 0 ≤ a → 0 ≤ b → a < n → b < n → (a * n + b).toNat = a.toNat * n.toNat + b.toNat ∧ a * n + b < ws.length := by
  intro a b h1 h2 h3 h4
  have e1 : a * n = ((a.toNat * n.toNat : Nat) : Int) := by rw [Int.natCast_mul, Int.toNat_of_nonneg h1, Int.toNat_of_nonneg (show 0 ≤ n by omega)]
  have := place_lt (n := n.toNat) (i := a.toNat) (j := b.toNat) (by omega) (by omega)
  omega
 have hrow : ∀ i : Int, 0 ≤ i → i < n → ∃ (c : Nat → Cell3) (s1 s2 : Bool) (p1 p2 : List PV) (e1 e2 : Int) (z1 z2 : Int), c 0 = noY ∧ (∀ j : Int, 0 ≤ j → j < n → ∃ (sa sb sc sd : Bool) (pa pb pc pd : List PV) (ea eb ec ed : Int), (∀ P', Cx P' gl → FS P' gl 82 [.agg [I n, .lst pw], I i, I j] (· = .agg [B sa, .lst pa, I ea])) ∧ (bs.getD j.toNat noY = bs.getD j.toNat noY ∧ (bs.getD j.toNat noY).1 = sb ∧ intsL (bs.getD j.toNat noY).2.1 = pb ∧ (bs.getD j.toNat noY).2.2 = eb) ∧ (∀ P', Cx P' gl → FS P' gl 83 [.agg [B sa, .lst pa, I ea], .agg [B sb, .lst pb, I eb]] (· = .agg [B sc, .lst pc, I ec])) ∧ (∀ (P' : Program) (s : Bool) (u : List PV) (e : Int), Cx P' gl → s = (c j.toNat).1 → u = intsL (c j.toNat).2.1 → e = (c j.toNat).2.2 → FS P' gl 81 [.agg [B s, .lst u, I e], .agg [B sc, .lst pc, I ec]] (· = .agg [B sd, .lst pd, I ed])) ∧ sd = (c (j + 1).toNat).1 ∧ pd = intsL (c (j + 1).toNat).2.1 ∧ ed = (c (j + 1).toNat).2.2) ∧ (∀ (P' : Program) (s : Bool) (u : List PV) (e : Int), Cx P' gl → s = (c n.toNat).1 → u = intsL (c n.toNat).2.1 → e = (c n.toNat).2.2 → FS P' gl 85 [.agg [B s, .lst u, I e, B s, .lst u, I e], .agg [B sv, .lst pv, I ev, B sv, .lst pv, I ev], I low] (· = .agg [B s1, .lst p1, I e1, B s2, .lst p2, I e2])) ∧ (p1 = intsL (dg z1.natAbs) ∧ s1 = decide (z1 < 0) ∧ p2 = intsL (dg z2.natAbs) ∧ s2 = decide (z2 < 0) ∧ dA i.toNat = mk z1 e1 ∧ dB i.toNat = mk z2 e2 ∧ e1.natAbs ≤ 100000 ∧ e2.natAbs ≤ 100000 ∧ (dg z1.natAbs).length ≤ 1000000 ∧ (dg z2.natAbs).length ≤ 1000000) := by
  intro i hi0 hi
  obtain ⟨c, t, u1, u2, c0, cs, x1, x2, x3⟩ := solRow_ex (low := low) w2 (allY_XL oka) yx hd0 (by omega) (by omega) (by omega) (by omega) (i := i.toNat) (by omega)
  obtain ⟨z1, a1, a2, a3, a4, a5⟩ := x1
  obtain ⟨z2, b1, b2, b3, b4, b5⟩ := x2
  refine ⟨c, u1.1, u2.1, intsL u1.2.1, intsL u2.2.1, u1.2.2, u2.2.2, z1, z2, c0, ?_, ?_, by rw [a2], a1, by rw [b2], b1, by rw [hdA]; exact a3, by rw [hdB]; exact b3, by omega, by omega, by omega, by omega⟩
  ·intro j hj0 hj
   obtain ⟨k1, k2⟩ := cs j.toNat (by omega) gl
   obtain ⟨e1, e2⟩ := hpair i j hi0 hj0 hi hj
   refine ⟨(ws.getD (i.toNat * n.toNat + j.toNat) noY).1, _, _, _, intsL (ws.getD (i.toNat * n.toNat + j.toNat) noY).2.1, _, _, _, (ws.getD (i.toNat * n.toNat + j.toNat) noY).2.2, _, _, _, fun P' C' => gridAt_fs C' hpw hi0 hj0 (by omega) n4 (by omega) (by omega) e2 (by rw [e1]) rfl, ⟨rfl, rfl, rfl, rfl⟩, fun P' C' => k1 P' _ _ _ C' rfl rfl rfl, ?_, rfl, rfl, rfl⟩
   intro P' s u e C' h1 h2 h3
   rw [h1, h2, h3, show (j + 1).toNat = j.toNat + 1 by omega]
   exact k2 P' _ _ _ C' rfl rfl rfl
  ·intro P' s u e C' h1 h2 h3
   rw [h1, h2, h3, hsv, hev]
   exact x3 P' gl _ _ _ _ C' rfl hpv rfl rfl
 rw [← hdA, ← hdB] at hw hr
 obtain ⟨N, hN⟩ : ∃ N, N = n.toNat := ⟨_, rfl⟩
 rw [← hN] at hw hr
 have hbn : (bs.length : Int) = n := okb
 have hbN : bs.length = N := by omega
 have hqN : q.length = N := by omega
 clear w1 w2 w3 hya hyl hpw hp hy hby oka hdA hdB hpair yc yx hzd hzd0 hsv hpv hev hd0 hnn okb hl
 obtain ⟨rfl, hG⟩ := C
 refine FX_ofC (own := fun A => []) (args := fun A => [.pv (.agg [I n, .lst p]), .pv (.lst q), .pv (I low)]) (R := fun A ow rr => (w = true ∧ ow = [.tree 110 6 3 r] ∧ rr = .tup [.own 0, .pv (B true)]) ∨ (w = false ∧ ow = [] ∧ rr = .tup [.pv (.val (.slice none 0 0)), .pv (B false)])) Tryz.hT Tryz.mix Tryz.func25 rfl rfl (Nat.le_of_ble_eq_true rfl) ?_
 generalize hP : Tryz.prog = P
 intro A hA
 have C : Tryz.Cx P gl := ⟨hP.symm, hG⟩
 have hI : intsL = A.ints := by subst hA; rfl
 have q1 : A.bnot true = false := by subst hA; rfl
 have q2 : A.bnot false = true := by subst hA; rfl
 have q3 : ∀ x, A.pick false true x = x := fun x => by subst hA; cases x <;> rfl
 have q4 : ∀ x, A.pick true true x = true := fun x => by subst hA; cases x <;> rfl
 have q5 : A.ne (A.cast (A.len q)) n = false := by
  subst hA
  show (((q.length : Nat) : Int) != n) = false
  rw [hql, hbn]
  simp
 iterate 2 all_goals try cbv; with_reducible repeat' first | exact ⟨⟩ | apply And.intro | intro _
 all_goals try exact oI
 refine callS hA rfl (am P C) ?_; rintro _ rfl
 iterate 2 all_goals try cbv; with_reducible repeat' first | exact ⟨⟩ | apply And.intro | intro _
 all_goals try exact oI
 all_goals try simp only [q1, q2, q3, q4, q5]
 iterate 2 all_goals try cbv; with_reducible repeat' first | exact ⟨⟩ | apply And.intro | intro _
 all_goals try exact oI
 all_goals try simp only [q1, q2, q3, q4, q5]
 refine ⟨_, fun _ => ad P C, ?_⟩
 iterate 2 all_goals try cbv; with_reducible repeat' first | exact ⟨⟩ | apply And.intro | intro _
 all_goals try exact oI
 all_goals try simp only [q1, q2, q3, q4, q5]
 refine ⟨_, fun _ => lo P C, ?_⟩
 iterate 2 all_goals try cbv; with_reducible repeat' first | exact ⟨⟩ | apply And.intro | intro _
 all_goals try exact oI
 all_goals try simp only [q1, q2, q3, q4, q5]
 iterate 2 all_goals try cbv; with_reducible repeat' first | exact ⟨⟩ | apply And.intro | intro _
 all_goals try exact oI
 first | (refine callS hA rfl (g1 P C) ?_; rintro _ rfl) | refine ⟨_, g1 P C, ?_⟩
 iterate 2 all_goals try cbv; with_reducible repeat' first | exact ⟨⟩ | apply And.intro | intro _
 all_goals try exact oI
 first | (refine callS hA rfl (g2 P C) ?_; rintro _ rfl) | refine ⟨_, g2 P C, ?_⟩
 iterate 2 all_goals try cbv; with_reducible repeat' first | exact ⟨⟩ | apply And.intro | intro _
 all_goals try exact oI
 first | (refine callS hA rfl (iz P C) ?_; rintro _ rfl) | refine ⟨_, iz P C, ?_⟩
 iterate 2 all_goals try cbv; with_reducible repeat' first | exact ⟨⟩ | apply And.intro | intro _
 all_goals try exact oI
 all_goals try simp only [q1, q2, q3, q4, q5]
 iterate 2 all_goals try cbv; with_reducible repeat' first | exact ⟨⟩ | apply And.intro | intro _
 all_goals try exact oI
 first | (refine callS hA rfl (g3 P C) ?_; rintro _ rfl) | refine ⟨_, g3 P C, ?_⟩
 clear am ad lo g1 g2 iz g3 q1 q2 q3 q4 q5
 iterate 2 all_goals try cbv; with_reducible repeat' first | exact ⟨⟩ | apply And.intro | intro _
 all_goals try exact oI
 refine loopT hA [.slot 11 110 6, .tree 4 3] (ι := Int × List PV) (fun x => [(11, .own 4), (48, .pv (I x.1))]) (fun x => [(4, .tree 110 6 3 x.2)]) (fun x => (n - x.1).toNat) (fun x => 0 ≤ x.1 ∧ x.1 ≤ n ∧ x.2 = cells6 (canV dA dB x.1.toNat) ∧ ∀ k, k < x.1.toNat → fits (dA k) ∧ fits (dB k)) (0, []) (by rfl) ?_ ?_ ?_ ?_
 all_goals try exact tI
 ·exact ⟨trivial, ⟨Nat.zero_le _, fun x hx => by cases hx⟩, trivial⟩
 ·exact ⟨Int.le_refl _, by omega, rfl, fun k hk => by simp at hk⟩
 rintro ⟨i, q0⟩ ⟨hi0, hi1, hq0, hf⟩
 simp only at hi0 hi1 hq0 hf
 have hq0l : q0.length ≤ 1000 := by rw [hq0, c6len, canV_len]; omega
 obtain ⟨d1, hd1⟩ : ∃ d, d = dA i.toNat := ⟨_, rfl⟩
 obtain ⟨d2, hd2⟩ : ∃ d, d = dB i.toNat := ⟨_, rfl⟩
 have hnx : fits d1 ∧ fits d2 → ∀ k, k < i.toNat + 1 → fits (dA k) ∧ fits (dB k) := by
  intro h k hk
  by_cases hki : k = i.toNat
  ·rw [hki, ← hd1, ← hd2]; exact h
  ·exact hf k (by omega)
 have hfin : i = n → w = true := fun h => hw.2 (by rw [hN, ← h]; exact hf)
 have hfail : i < n → ¬(fits d1 ∧ fits d2) → w = false := by
  intro h1 h2
  cases hwc : w with
  | false => rfl
  | true => exact absurd (hw.1 hwc i.toNat (by omega)) (by rw [← hd1, ← hd2]; exact h2)
 have hq2 : q0 ++ [cell6 (canY d1, canY d2)] = cells6 (canV dA dB (i.toNat + 1)) := by rw [hq0, canV_succ, ← c6app, hd1, hd2]; rfl
 have hdone : i = n → q0 = r := fun h => by rw [hq0, hr, hN, h]
 clear hf hw hq0 hr
 iterate 2 all_goals try cbv; with_reducible repeat' first | exact ⟨⟩ | apply And.intro | intro _
 all_goals try exact oI
 ·rename_i g
  have gi : i < n := by clear hrow hnx hfin hfail hq2 hdone; (subst hA; subst_vars; simp only [AR.std, natCast_eq, sI, reduceCtorEq] at *; try simp (disch := omega) only [AR.std, natCast_eq, sI, reduceCtorEq] at *); omega
  have hi2 : i + 1 ≤ n := by omega
  obtain ⟨c, s1, s2, p1, p2, e1, e2, z1, z2, c0, cs, cover, k1, k2, k3, k4, m1, m2, c1, c2, l1, l2⟩ := hrow i hi0 gi
  rw [← hd1] at m1
  rw [← hd2] at m2
  have hfl := hfail gi
  clear g hrow hfin hdone hfail
  refine loopI hA [.nilc 5 1] (ι := Int × Bool × List PV × Int) (fun x => [(53, .pv (I x.1))]) (fun x => [(5, .box [.pv (B x.2.1), .pv (.lst x.2.2.1), .pv (I x.2.2.2)])]) (fun x => (n - x.1).toNat) (fun x => 0 ≤ x.1 ∧ x.1 ≤ n ∧ x.2.1 = (c x.1.toNat).1 ∧ x.2.2.1 = intsL (c x.1.toNat).2.1 ∧ x.2.2.2 = (c x.1.toNat).2.2) (0, false, [], 0) (by rfl) ?_ ?_ ?_
  all_goals try exact tI
  ·refine ⟨Int.le_refl _, by simp only; omega, ?_, ?_, ?_⟩ <;> simp only [Int.toNat_zero, c0] <;> rfl
  rintro ⟨j, s, u, e⟩ ⟨hj0, hj1, hs, hu, he⟩
  simp only at hj0 hj1 hs hu he
  have hov : j = n → ∀ P', Cx P' gl → FS P' gl 85 [.agg [B s, .lst u, I e, B s, .lst u, I e], .agg [B sv, .lst pv, I ev, B sv, .lst pv, I ev], I low] (· = .agg [B s1, .lst p1, I e1, B s2, .lst p2, I e2]) := by
   intro h P' C'
   rw [h] at hs hu he
   exact cover P' s u e C' hs hu he
  have hst : ∀ _ : Unit, j < n → ∃ (sa sb sc sd : Bool) (pa pb pc pd : List PV) (ea eb ec ed : Int), (∀ P', Cx P' gl → FS P' gl 82 [.agg [I n, .lst pw], I i, I j] (· = .agg [B sa, .lst pa, I ea])) ∧ (A.gb (A.el q (A.nat j)) 0 = sb ∧ A.gl (A.el q (A.nat j)) 1 = pb ∧ A.gi (A.el q (A.nat j)) 2 = eb) ∧ (∀ P', Cx P' gl → FS P' gl 83 [.agg [B sa, .lst pa, I ea], .agg [B sb, .lst pb, I eb]] (· = .agg [B sc, .lst pc, I ec])) ∧ (∀ P', Cx P' gl → FS P' gl 81 [.agg [B s, .lst u, I e], .agg [B sc, .lst pc, I ec]] (· = .agg [B sd, .lst pd, I ed])) ∧ sd = (c (j + 1).toNat).1 ∧ pd = intsL (c (j + 1).toNat).2.1 ∧ ed = (c (j + 1).toNat).2.2 := by
   intro _ hj
   obtain ⟨sa, sb, sc, sd, pa, pb, pc, pd, ea, eb, ec, ed, x1, ⟨_, x2, x3, x4⟩, x5, x6, x7⟩ := cs j hj0 hj
   have w1 : A.el q (A.nat j) = .agg [B sb, .lst pb, I eb] := by
    rw [← x2, ← x3, ← x4, hq]
    subst hA
    exact c3el (toNat_ltJ hj0 hj hN hbN)
   refine ⟨sa, sb, sc, sd, pa, pb, pc, pd, ea, eb, ec, ed, x1, ?_, x5, fun P' C' => x6 P' s u e C' hs hu he, x7⟩
   rw [w1]
   subst hA
   exact ⟨rfl, rfl, rfl⟩
  have hlt : ∀ _ : Unit, A.lt j (A.cast (A.len q)) = true → j < n := by
   intro _ h; subst hA; have := of_decide_eq_true (show decide (j < ((q.length : Nat) : Int)) = true from h); omega
  have hge : ∀ _ : Unit, A.lt j (A.cast (A.len q)) = false → j = n := by
   intro _ h; subst hA; have := of_decide_eq_false (show decide (j < ((q.length : Nat) : Int)) = false from h); omega
  clear hs hu he cs cover c0
  iterate 2 all_goals try cbv; with_reducible repeat' first | exact ⟨⟩ | apply And.intro | intro _
  all_goals try exact oI
  ·rename_i g
   have gj := hlt () g
   have hjq : j.toNat < q.length := toNat_ltJ hj0 gj hN hqN
   obtain ⟨sa, sb, sc, sd, pa, pb, pc, pd, ea, eb, ec, ed, x1, ⟨x2, x3, x4⟩, x5, x6, x7, x8, x9⟩ := hst () gj
   have hj2 : j + 1 ≤ n := by omega
   clear hst hov hlt hge g hnx hfl k1 k2 k3 k4 m1 m2
   all_goals try simp only [x2, x3, x4]
   iterate 2 all_goals try cbv; with_reducible repeat' first | exact ⟨⟩ | apply And.intro | intro _
   all_goals try exact oI
   all_goals try simp only [x2, x3, x4]
   first | (refine callS hA rfl (x1 P C) ?_; rintro _ rfl) | refine ⟨_, x1 P C, ?_⟩
   iterate 2 all_goals try cbv; with_reducible repeat' first | exact ⟨⟩ | apply And.intro | intro _
   all_goals try exact oI
   first | (refine callS hA rfl (dyExact_fs C) ?_; rintro _ rfl) | refine ⟨_, dyExact_fs C, ?_⟩
   iterate 2 all_goals try cbv; with_reducible repeat' first | exact ⟨⟩ | apply And.intro | intro _
   all_goals try exact oI
   first | (refine callS hA rfl (x5 P C) ?_; rintro _ rfl) | refine ⟨_, x5 P C, ?_⟩
   iterate 2 all_goals try cbv; with_reducible repeat' first | exact ⟨⟩ | apply And.intro | intro _
   all_goals try exact oI
   first | (refine callS hA rfl (x6 P C) ?_; rintro _ rfl) | refine ⟨_, x6 P C, ?_⟩
   clear x1 x2 x3 x4 x5 x6
   iterate 2 all_goals try cbv; with_reducible repeat' first | exact ⟨⟩ | apply And.intro | intro _
   all_goals try exact oI
   obtain ⟨y1, hy1⟩ : ∃ y, y = j + 1 := ⟨_, rfl⟩
   obtain ⟨y2, hy2⟩ : ∃ y, y = sd := ⟨_, rfl⟩
   obtain ⟨y3, hy3⟩ : ∃ y, y = pd := ⟨_, rfl⟩
   obtain ⟨y4, hy4⟩ : ∃ y, y = ed := ⟨_, rfl⟩
   refine ⟨⟨(y1, y2, y3, y4), ?_⟩, ?_, ?_⟩
   rotate_left
   ·cbv
    exact nI
   ·(subst hA; subst_vars; simp only [AR.std, natCast_eq, sI, reduceCtorEq] at *; try simp (disch := omega) only [AR.std, natCast_eq, sI, reduceCtorEq] at *); omega
   ·rw [hy1, hy2, hy3, hy4]
    exact ⟨by simp only; omega, hj2, x7, x8, x9⟩
  ·rename_i g
   have ov := hov (hge () g)
   clear hst hov hlt hge g
   first | (refine callS hA rfl (ov P C) ?_; rintro _ rfl) | refine ⟨_, ov P C, ?_⟩
   clear ov
   iterate 2 all_goals try cbv; with_reducible repeat' first | exact ⟨⟩ | apply And.intro | intro _
   all_goals try exact oI
   by_cases hfits : fits d1 ∧ fits d2
   ·obtain ⟨hfit1, hfit2⟩ := id hfits
    have hnx2 := hnx hfits
    have hfail : True := trivial
    clear hfits hnx hfl
    by_cases hz1 : z1 = 0
    ·by_cases hz2 : z2 = 0
     ·have hd10 : d1 = 0 := by rw [m1, hz1, mk_zero]
      have hp10 : p1 = [] := by rw [k1, hz1, show Int.natAbs 0 = 0 from rfl, dg_zero]; rfl
      have hd20 : d2 = 0 := by rw [m2, hz2, mk_zero]
      have hp20 : p2 = [] := by rw [k3, hz2, show Int.natAbs 0 = 0 from rfl, dg_zero]; rfl
      have hq3 : q0 ++ [.agg [B false, .lst [], I 0, B false, .lst [], I 0]] = cells6 (canV dA dB (i.toNat + 1)) := by rw [← hq2, hd10, canY_zero, hd20, canY_zero]; rfl
      obtain ⟨r', hr'⟩ : ∃ r', r' = q0 ++ [.agg [B false, .lst [], I 0, B false, .lst [], I 0]] := ⟨_, rfl⟩
      have hra : A.app q0 [.agg [B false, .lst [], I 0, B false, .lst [], I 0]] = r' := by rw [hr']; subst hA; rfl
      rw [← hr'] at hq3
      simp only [hp10, hp20]
      refine callS hA rfl (spanIv_nn_fs C) ?_; rintro _ rfl
      clear k1 k2 k3 k4 m1 m2 c1 c2 l1 l2 hq2 hfit1 hfit2 hz1 hz2 hd1 hd2 hfail hd10 hp10 hd20 hp20
      iterate 2 all_goals try cbv; with_reducible repeat' first | exact ⟨⟩ | apply And.intro | intro _
      all_goals try exact oI
      all_goals try exact okA_of hA (by intro x hx; rw [List.mem_singleton.1 hx]; exact ⟨rfl, rfl⟩)
      all_goals try exact lfA_of hA (by intro x hx; rw [List.mem_singleton.1 hx]; rfl)
      all_goals try exact cap_of hA (by simp only [List.length_singleton]; omega)
      iterate 2 all_goals try cbv; with_reducible repeat' first | exact ⟨⟩ | apply And.intro | intro _
      all_goals try exact oI
      all_goals try exact okA_of hA (by intro x hx; rw [List.mem_singleton.1 hx]; exact ⟨rfl, rfl⟩)
      all_goals try exact lfA_of hA (by intro x hx; rw [List.mem_singleton.1 hx]; rfl)
      all_goals try exact cap_of hA (by simp only [List.length_singleton]; omega)
      all_goals try simp only [hra]
      clear hra
      obtain ⟨y1, hy1⟩ : ∃ y, y = i + 1 := ⟨_, rfl⟩
      obtain ⟨y2, hy2⟩ : ∃ y, y = r' := ⟨_, rfl⟩
      refine ⟨⟨(y1, y2), ?_⟩, ?_, ?_⟩
      rotate_left
      ·cbv
       exact nI
      ·(subst hA; subst_vars; simp only [AR.std, natCast_eq, sI, reduceCtorEq] at *; try simp (disch := omega) only [AR.std, natCast_eq, sI, reduceCtorEq] at *); omega
      ·rw [hy1, hy2]
       refine ⟨by simp only; omega, hi2, ?_, ?_⟩ <;> simp only <;> rw [show (i + 1).toNat = i.toNat + 1 by omega]
       ·exact hq3
       ·exact hnx2
     ·have hd10 : d1 = 0 := by rw [m1, hz1, mk_zero]
      have hp10 : p1 = [] := by rw [k1, hz1, show Int.natAbs 0 = 0 from rfl, dg_zero]; rfl
      obtain ⟨rr2, hrr2⟩ : ∃ rr, rr = intsL (dg (cZ d2).natAbs) := ⟨_, rfl⟩
      obtain ⟨u2, hu2⟩ : ∃ u, u = decide (cZ d2 < 0) := ⟨_, rfl⟩
      obtain ⟨f2, hf2⟩ : ∃ f, f = cE d2 := ⟨_, rfl⟩
      have hva2 : A.vals rr2 := vals_of hA (by rw [hrr2]; exact vals_ints)
      have hq3 : q0 ++ [.agg [B false, .lst [], I 0, B u2, .lst rr2, I f2]] = cells6 (canV dA dB (i.toNat + 1)) := by rw [← hq2, hd10, canY_zero, hrr2, hu2, hf2]; rfl
      obtain ⟨r', hr'⟩ : ∃ r', r' = q0 ++ [.agg [B false, .lst [], I 0, B u2, .lst rr2, I f2]] := ⟨_, rfl⟩
      have hra : A.app q0 [.agg [B false, .lst [], I 0, B u2, .lst rr2, I f2]] = r' := by rw [hr']; subst hA; rfl
      rw [← hr'] at hq3
      refine callN hA rfl (spanIv_no_fn C k1 k2 k3 k4 m1 m2 c1 c2 l1 l2 hz1 hfit2 hz2 hrr2 hu2 hf2) ?_; rintro _ _ ⟨rfl, rfl⟩; refine ⟨rfl, ?_⟩
      clear k1 k2 k3 k4 m1 m2 c1 c2 l1 l2 hq2 hfit1 hfit2 hz1 hz2 hd1 hd2 hfail hd10 hp10 hrr2 hu2 hf2
      iterate 2 all_goals try cbv; with_reducible repeat' first | exact ⟨⟩ | apply And.intro | intro _
      all_goals try exact oI
      all_goals try exact hva2
      all_goals try exact okA_of hA (by intro x hx; rw [List.mem_singleton.1 hx]; exact ⟨rfl, rfl⟩)
      all_goals try exact lfA_of hA (by intro x hx; rw [List.mem_singleton.1 hx]; rfl)
      all_goals try exact cap_of hA (by simp only [List.length_singleton]; omega)
      iterate 2 all_goals try cbv; with_reducible repeat' first | exact ⟨⟩ | apply And.intro | intro _
      all_goals try exact oI
      all_goals try exact hva2
      all_goals try exact okA_of hA (by intro x hx; rw [List.mem_singleton.1 hx]; exact ⟨rfl, rfl⟩)
      all_goals try exact lfA_of hA (by intro x hx; rw [List.mem_singleton.1 hx]; rfl)
      all_goals try exact cap_of hA (by simp only [List.length_singleton]; omega)
      all_goals try simp only [hra]
      clear hra hva2
      obtain ⟨y1, hy1⟩ : ∃ y, y = i + 1 := ⟨_, rfl⟩
      obtain ⟨y2, hy2⟩ : ∃ y, y = r' := ⟨_, rfl⟩
      refine ⟨⟨(y1, y2), ?_⟩, ?_, ?_⟩
      rotate_left
      ·cbv
       exact nI
      ·(subst hA; subst_vars; simp only [AR.std, natCast_eq, sI, reduceCtorEq] at *; try simp (disch := omega) only [AR.std, natCast_eq, sI, reduceCtorEq] at *); omega
      ·rw [hy1, hy2]
       refine ⟨by simp only; omega, hi2, ?_, ?_⟩ <;> simp only <;> rw [show (i + 1).toNat = i.toNat + 1 by omega]
       ·exact hq3
       ·exact hnx2
    ·by_cases hz2 : z2 = 0
     ·obtain ⟨rr1, hrr1⟩ : ∃ rr, rr = intsL (dg (cZ d1).natAbs) := ⟨_, rfl⟩
      obtain ⟨u1, hu1⟩ : ∃ u, u = decide (cZ d1 < 0) := ⟨_, rfl⟩
      obtain ⟨f1, hf1⟩ : ∃ f, f = cE d1 := ⟨_, rfl⟩
      have hva1 : A.vals rr1 := vals_of hA (by rw [hrr1]; exact vals_ints)
      have hd20 : d2 = 0 := by rw [m2, hz2, mk_zero]
      have hp20 : p2 = [] := by rw [k3, hz2, show Int.natAbs 0 = 0 from rfl, dg_zero]; rfl
      have hq3 : q0 ++ [.agg [B u1, .lst rr1, I f1, B false, .lst [], I 0]] = cells6 (canV dA dB (i.toNat + 1)) := by rw [← hq2, hrr1, hu1, hf1, hd20, canY_zero]; rfl
      obtain ⟨r', hr'⟩ : ∃ r', r' = q0 ++ [.agg [B u1, .lst rr1, I f1, B false, .lst [], I 0]] := ⟨_, rfl⟩
      have hra : A.app q0 [.agg [B u1, .lst rr1, I f1, B false, .lst [], I 0]] = r' := by rw [hr']; subst hA; rfl
      rw [← hr'] at hq3
      refine callN hA rfl (spanIv_on_fn C k1 k2 k3 k4 m1 m2 c1 c2 l1 l2 hfit1 hz1 hrr1 hu1 hf1 hz2) ?_; rintro _ _ ⟨rfl, rfl⟩; refine ⟨rfl, ?_⟩
      clear k1 k2 k3 k4 m1 m2 c1 c2 l1 l2 hq2 hfit1 hfit2 hz1 hz2 hd1 hd2 hfail hrr1 hu1 hf1 hd20 hp20
      iterate 2 all_goals try cbv; with_reducible repeat' first | exact ⟨⟩ | apply And.intro | intro _
      all_goals try exact oI
      all_goals try exact hva1
      all_goals try exact okA_of hA (by intro x hx; rw [List.mem_singleton.1 hx]; exact ⟨rfl, rfl⟩)
      all_goals try exact lfA_of hA (by intro x hx; rw [List.mem_singleton.1 hx]; rfl)
      all_goals try exact cap_of hA (by simp only [List.length_singleton]; omega)
      iterate 2 all_goals try cbv; with_reducible repeat' first | exact ⟨⟩ | apply And.intro | intro _
      all_goals try exact oI
      all_goals try exact hva1
      all_goals try exact okA_of hA (by intro x hx; rw [List.mem_singleton.1 hx]; exact ⟨rfl, rfl⟩)
      all_goals try exact lfA_of hA (by intro x hx; rw [List.mem_singleton.1 hx]; rfl)
      all_goals try exact cap_of hA (by simp only [List.length_singleton]; omega)
      all_goals try simp only [hra]
      clear hra hva1
      obtain ⟨y1, hy1⟩ : ∃ y, y = i + 1 := ⟨_, rfl⟩
      obtain ⟨y2, hy2⟩ : ∃ y, y = r' := ⟨_, rfl⟩
      refine ⟨⟨(y1, y2), ?_⟩, ?_, ?_⟩
      rotate_left
      ·cbv
       exact nI
      ·(subst hA; subst_vars; simp only [AR.std, natCast_eq, sI, reduceCtorEq] at *; try simp (disch := omega) only [AR.std, natCast_eq, sI, reduceCtorEq] at *); omega
      ·rw [hy1, hy2]
       refine ⟨by simp only; omega, hi2, ?_, ?_⟩ <;> simp only <;> rw [show (i + 1).toNat = i.toNat + 1 by omega]
       ·exact hq3
       ·exact hnx2
     ·obtain ⟨rr1, hrr1⟩ : ∃ rr, rr = intsL (dg (cZ d1).natAbs) := ⟨_, rfl⟩
      obtain ⟨u1, hu1⟩ : ∃ u, u = decide (cZ d1 < 0) := ⟨_, rfl⟩
      obtain ⟨f1, hf1⟩ : ∃ f, f = cE d1 := ⟨_, rfl⟩
      have hva1 : A.vals rr1 := vals_of hA (by rw [hrr1]; exact vals_ints)
      obtain ⟨rr2, hrr2⟩ : ∃ rr, rr = intsL (dg (cZ d2).natAbs) := ⟨_, rfl⟩
      obtain ⟨u2, hu2⟩ : ∃ u, u = decide (cZ d2 < 0) := ⟨_, rfl⟩
      obtain ⟨f2, hf2⟩ : ∃ f, f = cE d2 := ⟨_, rfl⟩
      have hva2 : A.vals rr2 := vals_of hA (by rw [hrr2]; exact vals_ints)
      have hq3 : q0 ++ [.agg [B u1, .lst rr1, I f1, B u2, .lst rr2, I f2]] = cells6 (canV dA dB (i.toNat + 1)) := by rw [← hq2, hrr1, hu1, hf1, hrr2, hu2, hf2]; rfl
      obtain ⟨r', hr'⟩ : ∃ r', r' = q0 ++ [.agg [B u1, .lst rr1, I f1, B u2, .lst rr2, I f2]] := ⟨_, rfl⟩
      have hra : A.app q0 [.agg [B u1, .lst rr1, I f1, B u2, .lst rr2, I f2]] = r' := by rw [hr']; subst hA; rfl
      rw [← hr'] at hq3
      refine callN hA rfl (spanIv_oo_fn C k1 k2 k3 k4 m1 m2 c1 c2 l1 l2 hfit1 hz1 hrr1 hu1 hf1 hfit2 hz2 hrr2 hu2 hf2) ?_; rintro _ _ ⟨rfl, rfl⟩; refine ⟨rfl, ?_⟩
      clear k1 k2 k3 k4 m1 m2 c1 c2 l1 l2 hq2 hfit1 hfit2 hz1 hz2 hd1 hd2 hfail hrr1 hu1 hf1 hrr2 hu2 hf2
      iterate 2 all_goals try cbv; with_reducible repeat' first | exact ⟨⟩ | apply And.intro | intro _
      all_goals try exact oI
      all_goals try exact hva1
      all_goals try exact hva2
      all_goals try exact okA_of hA (by intro x hx; rw [List.mem_singleton.1 hx]; exact ⟨rfl, rfl⟩)
      all_goals try exact lfA_of hA (by intro x hx; rw [List.mem_singleton.1 hx]; rfl)
      all_goals try exact cap_of hA (by simp only [List.length_singleton]; omega)
      iterate 2 all_goals try cbv; with_reducible repeat' first | exact ⟨⟩ | apply And.intro | intro _
      all_goals try exact oI
      all_goals try exact hva1
      all_goals try exact hva2
      all_goals try exact okA_of hA (by intro x hx; rw [List.mem_singleton.1 hx]; exact ⟨rfl, rfl⟩)
      all_goals try exact lfA_of hA (by intro x hx; rw [List.mem_singleton.1 hx]; rfl)
      all_goals try exact cap_of hA (by simp only [List.length_singleton]; omega)
      all_goals try simp only [hra]
      clear hra hva1 hva2
      obtain ⟨y1, hy1⟩ : ∃ y, y = i + 1 := ⟨_, rfl⟩
      obtain ⟨y2, hy2⟩ : ∃ y, y = r' := ⟨_, rfl⟩
      refine ⟨⟨(y1, y2), ?_⟩, ?_, ?_⟩
      rotate_left
      ·cbv
       exact nI
      ·(subst hA; subst_vars; simp only [AR.std, natCast_eq, sI, reduceCtorEq] at *; try simp (disch := omega) only [AR.std, natCast_eq, sI, reduceCtorEq] at *); omega
      ·rw [hy1, hy2]
       refine ⟨by simp only; omega, hi2, ?_, ?_⟩ <;> simp only <;> rw [show (i + 1).toNat = i.toNat + 1 by omega]
       ·exact hq3
       ·exact hnx2
   ·have hwf := hfl hfits
    refine callS hA rfl (spanIv_X_fs C k1 k2 k3 k4 m1 m2 c1 c2 l1 l2 hfits) ?_; rintro _ rfl
    clear k1 k2 k3 k4 m1 m2 c1 c2 l1 l2 hfits hfl hnx hd1 hd2 hq2
    iterate 2 all_goals try cbv; with_reducible repeat' first | exact ⟨⟩ | apply And.intro | intro _
    all_goals try exact oI
    iterate 2 all_goals try cbv; with_reducible repeat' first | exact ⟨⟩ | apply And.intro | intro _
    all_goals try exact oI
    all_goals subst hA
    all_goals exact ⟨[], [], _, by decide, Nat.zero_le _, rfl, rfl, rfl, rfl, .inr ⟨hwf, rfl, rfl⟩⟩
 ·rename_i g
  have gi : i = n := by clear hrow hnx hfin hfail hq2 hdone; (subst hA; subst_vars; simp only [AR.std, natCast_eq, sI, reduceCtorEq] at *; try simp (disch := omega) only [AR.std, natCast_eq, sI, reduceCtorEq] at *); omega
  have hwt := hfin gi
  have e := hdone gi
  simp only [e]
  subst hA
  exact ⟨[4], _, _, by decide, Nat.zero_le _, rfl, rfl, rfl, rfl, .inl ⟨hwt, rfl, rfl⟩⟩

theorem implSolve_o_fn (C : Cx P gl) {ys bs : List Cell3} {p q r : List PV} {n low : Int} (hp : p = cells3 ys) (hq : q = cells3 bs) (ok : solOk n ys bs low) (hd0 : detD n.toNat (dvY ys) ≠ 0) (fit : ∀ k, k < n.toNat → fits ((solLo n.toNat (dvY ys) (dvY bs) low) k) ∧ fits ((solHi n.toNat (dvY ys) (dvY bs) low) k)) (hr : r = cells6 (canV (solLo n.toNat (dvY ys) (dvY bs) low) (solHi n.toNat (dvY ys) (dvY bs) low) n.toNat))
  (hl : ys.length ≤ 2000000) (hy : ∀ y ∈ ys, y.2.1.length ≤ 2000000) (hbl2 : bs.length ≤ 2000000) (hby : ∀ y ∈ bs, y.2.1.length ≤ 2000000) :
  FN P gl 25 [.agg [I n, .lst p], .lst q, I low] (fun own rr => own = [.tree 110 6 3 r] ∧ rr = .tup [.own 0, .pv (B true)]) :=
 FN_of ((implSolve_fx C hp hq ok hd0 (w := true) ⟨fun _ => fit, fun _ => rfl⟩ hr hl hy hbl2 hby).mono (by
  rintro o r (⟨_, h1, h2⟩ | ⟨h, _⟩)
  ·exact ⟨h1, h2⟩
  ·cases h)) (by rintro _ _ ⟨rfl, rfl⟩; exact ⟨by simp [closedB], rfl⟩)

theorem implSolve_X_fs (C : Cx P gl) {ys bs : List Cell3} {p q : List PV} {n low : Int} (hp : p = cells3 ys) (hq : q = cells3 bs) (ok : solOk n ys bs low) (hd0 : detD n.toNat (dvY ys) ≠ 0) (fit : ¬∀ k, k < n.toNat → fits ((solLo n.toNat (dvY ys) (dvY bs) low) k) ∧ fits ((solHi n.toNat (dvY ys) (dvY bs) low) k))
  (hl : ys.length ≤ 2000000) (hy : ∀ y ∈ ys, y.2.1.length ≤ 2000000) (hbl2 : bs.length ≤ 2000000) (hby : ∀ y ∈ bs, y.2.1.length ≤ 2000000) :
  FS P gl 25 [.agg [I n, .lst p], .lst q, I low] (· = .tup [.lst [], B false]) :=
 FS_ofFN (R := fun own rr => own = [] ∧ rr = .tup [.pv (.val (.slice none 0 0)), .pv (B false)]) (FN_of ((implSolve_fx C hp hq ok hd0 (w := false) ⟨fun h => absurd h (by decide), fun h => absurd h fit⟩ rfl hl hy hbl2 hby).mono (by
  rintro o r (⟨h, _⟩ | ⟨_, h1, h2⟩)
  ·cases h
  ·exact ⟨h1, h2⟩)) (by rintro _ _ ⟨rfl, rfl⟩; exact ⟨by simp, rfl⟩)) (by rintro _ _ ⟨rfl, rfl⟩; rfl)

theorem implSolve_Z_fs (C : Cx P gl) {ys bs : List Cell3} {p q : List PV} {n low : Int} (hp : p = cells3 ys) (hq : q = cells3 bs) (ok : solOk n ys bs low) (hd0 : detD n.toNat (dvY ys) = 0)
  (hl : ys.length ≤ 2000000) (hy : ∀ y ∈ ys, y.2.1.length ≤ 2000000) (hbl2 : bs.length ≤ 2000000) (hby : ∀ y ∈ bs, y.2.1.length ≤ 2000000) :
  FS P gl 25 [.agg [I n, .lst p], .lst q, I low] (· = .tup [.lst [], B false]) := by
 obtain ⟨ok1, okb, oka, okl⟩ := ok
 have am := fun (P' : Program) (C' : Cx P' gl) => implMatOk_fs C' (n := n) (b := true) hp ⟨fun _ => ok1, fun _ => rfl⟩ hl hy
 have ad := fun (P' : Program) (C' : Cx P' gl) => areDys_fs C' (b := true) hq ⟨fun _ => oka, fun _ => rfl⟩ (by omega) hby
 have lo := fun (P' : Program) (C' : Cx P' gl) => isFine_fs C' (n := low) (b := true) (by rw [decide_eq_true okl.1, decide_eq_true okl.2]; rfl)
 obtain ⟨n1, n4, hyl, hya⟩ := ok1
 have g1 := fun (P' : Program) (C' : Cx P' gl) => matGrid_fs C' (n := n) hp hl
 obtain ⟨yd, yx, yc⟩ := gridDet_ex (allY_XL hya) (by omega) (by omega) (by omega) n4 hyl
 obtain ⟨sv, hsv⟩ : ∃ s, s = yd.1 := ⟨_, rfl⟩
 obtain ⟨pv, hpv⟩ : ∃ p, p = intsL yd.2.1 := ⟨_, rfl⟩
 obtain ⟨ev, hev⟩ : ∃ e, e = yd.2.2 := ⟨_, rfl⟩
 have g2 := fun (P' : Program) (C' : Cx P' gl) => yc P' gl p pv C' hp hpv
 rw [← hsv, ← hev] at g2
 have hv0 : yd.2.1 = [] := by
  obtain ⟨z, a1, a2, a3, a4, a5⟩ := yx
  have hz : z = 0 := by rw [hd0, ← mk_zero yd.2.2, mk_inj] at a3; exact a3.symm
  rw [a2, hz, show Int.natAbs 0 = 0 from rfl, dg_zero]
 have iz := fun (P' : Program) (C' : Cx P' gl) => isZero_fs C' (s := sv) (b := true) (e := ev) hpv (by rw [hv0]; rfl)
 have hql : q.length = bs.length := by rw [hq, cells3_len]
 have hbn : (bs.length : Int) = n := okb
 clear hya hyl hp hq hy hby oka yc yx hv0 hsv hpv hev hd0 okb hl
 obtain ⟨rfl, hG⟩ := C
 refine FS_ofC (args := fun A => [.agg [I n, .lst p], .lst q, I low]) (R := fun A rr => rr = .tup [.lst [], B false]) Tryz.hT Tryz.mix Tryz.func25 rfl rfl (Nat.le_of_ble_eq_true rfl) ?_
 generalize hP : Tryz.prog = P
 intro A hA
 have C : Tryz.Cx P gl := ⟨hP.symm, hG⟩
 have hI : intsL = A.ints := by subst hA; rfl
 have q1 : A.bnot true = false := by subst hA; rfl
 have q2 : A.bnot false = true := by subst hA; rfl
 have q3 : ∀ x, A.pick false true x = x := fun x => by subst hA; cases x <;> rfl
 have q4 : ∀ x, A.pick true true x = true := fun x => by subst hA; cases x <;> rfl
 have q5 : A.ne (A.cast (A.len q)) n = false := by
  subst hA
  show (((q.length : Nat) : Int) != n) = false
  rw [hql, hbn]
  simp
 iterate 2 all_goals try cbv; with_reducible repeat' first | exact ⟨⟩ | apply And.intro | intro _
 all_goals try exact oI
 refine callS hA rfl (am P C) ?_; rintro _ rfl
 iterate 2 all_goals try cbv; with_reducible repeat' first | exact ⟨⟩ | apply And.intro | intro _
 all_goals try exact oI
 all_goals try simp only [q1, q2, q3, q4, q5]
 iterate 2 all_goals try cbv; with_reducible repeat' first | exact ⟨⟩ | apply And.intro | intro _
 all_goals try exact oI
 all_goals try simp only [q1, q2, q3, q4, q5]
 refine ⟨_, fun _ => ad P C, ?_⟩
 iterate 2 all_goals try cbv; with_reducible repeat' first | exact ⟨⟩ | apply And.intro | intro _
 all_goals try exact oI
 all_goals try simp only [q1, q2, q3, q4, q5]
 refine ⟨_, fun _ => lo P C, ?_⟩
 iterate 2 all_goals try cbv; with_reducible repeat' first | exact ⟨⟩ | apply And.intro | intro _
 all_goals try exact oI
 all_goals try simp only [q1, q2, q3, q4, q5]
 iterate 2 all_goals try cbv; with_reducible repeat' first | exact ⟨⟩ | apply And.intro | intro _
 all_goals try exact oI
 first | (refine callS hA rfl (g1 P C) ?_; rintro _ rfl) | refine ⟨_, g1 P C, ?_⟩
 iterate 2 all_goals try cbv; with_reducible repeat' first | exact ⟨⟩ | apply And.intro | intro _
 all_goals try exact oI
 first | (refine callS hA rfl (g2 P C) ?_; rintro _ rfl) | refine ⟨_, g2 P C, ?_⟩
 iterate 2 all_goals try cbv; with_reducible repeat' first | exact ⟨⟩ | apply And.intro | intro _
 all_goals try exact oI
 first | (refine callS hA rfl (iz P C) ?_; rintro _ rfl) | refine ⟨_, iz P C, ?_⟩
 iterate 2 all_goals try cbv; with_reducible repeat' first | exact ⟨⟩ | apply And.intro | intro _
 all_goals try exact oI
 all_goals try simp only [q1, q2, q3, q4, q5]
 iterate 2 all_goals try cbv; with_reducible repeat' first | exact ⟨⟩ | apply And.intro | intro _
 all_goals try exact oI

theorem implSolve_N_fs (C : Cx P gl) {ys bs : List Cell3} {p q : List PV} {n low : Int} (hp : p = cells3 ys) (hq : q = cells3 bs) (ok : ¬solOk n ys bs low)
  (hl : ys.length ≤ 2000000) (hy : ∀ y ∈ ys, y.2.1.length ≤ 2000000) (hbl2 : bs.length ≤ 2000000) (hby : ∀ y ∈ bs, y.2.1.length ≤ 2000000) :
  FS P gl 25 [.agg [I n, .lst p], .lst q, I low] (· = .tup [.lst [], B false]) := by
 obtain ⟨b0, hb0⟩ := bool_of (matOk n ys)
 obtain ⟨b1, hb1⟩ := bool_of (allY bs)
 obtain ⟨b2, hlb2⟩ : ∃ b, b = (decide (-200 ≤ low) && decide (low ≤ 200)) := ⟨_, rfl⟩
 obtain ⟨b3, hb3⟩ : ∃ b, b = ((bs.length : Int) != n) := ⟨_, rfl⟩
 have am := fun (P' : Program) (C' : Cx P' gl) => implMatOk_fs C' (n := n) (b := b0) hp hb0 hl hy
 have ad := fun (P' : Program) (C' : Cx P' gl) => areDys_fs C' (b := b1) hq hb1 (by omega) hby
 have lo := fun (P' : Program) (C' : Cx P' gl) => isFine_fs C' (n := low) (b := b2) hlb2
 have hno : b0 = true → b3 = false → b1 = true → b2 = true → False := by
  intro h1 h2 h3 h4
  rw [hlb2, Bool.and_eq_true, decide_eq_true_eq, decide_eq_true_eq] at h4
  rw [hb3, bne_eq_false_iff_eq] at h2
  exact ok ⟨hb0.1 h1, h2, hb1.1 h3, h4⟩
 have hql : q.length = bs.length := by rw [hq, cells3_len]
 clear ok hp hq hy hby hb0 hb1 hlb2 hl hbl2
 refine gS C func25 rfl rfl rfl fun A hA hI => ?_
 have q5 : A.ne (A.cast (A.len q)) n = b3 := by
  subst hA
  show (((q.length : Nat) : Int) != n) = b3
  rw [hql, hb3]
 clear hb3
 iterate 2 all_goals try cbv; with_reducible repeat' first | exact ⟨⟩ | apply And.intro | intro _
 all_goals try exact oI
 refine callS hA rfl (am P C) ?_; rintro _ rfl
 iterate 2 all_goals try cbv; with_reducible repeat' first | exact ⟨⟩ | apply And.intro | intro _
 all_goals try exact oI
 all_goals try simp only [q5]
 refine ⟨_, fun _ => ad P C, ?_⟩
 iterate 2 all_goals try cbv; with_reducible repeat' first | exact ⟨⟩ | apply And.intro | intro _
 all_goals try exact oI
 all_goals try simp only [q5]
 refine ⟨_, fun _ => lo P C, ?_⟩
 iterate 2 all_goals try cbv; with_reducible repeat' first | exact ⟨⟩ | apply And.intro | intro _
 all_goals try exact oI
 all_goals try simp only [q5] at *
 iterate 2 all_goals try cbv; with_reducible repeat' first | exact ⟨⟩ | apply And.intro | intro _
 all_goals try exact oI
 all_goals (
  exfalso
  rename_i gg
  clear am ad lo hI
  try simp only [q5] at gg
  clear q5
  subst hA
  revert gg hno
  cases b0 <;> cases b1 <;> cases b2 <;> cases b3 <;> intro hno gg <;> first | exact hno rfl rfl rfl rfl | exact absurd gg (by decide))

end Tryz
end Go.Proofs
