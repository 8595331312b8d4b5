/- Contracts: products of interval matrices, in the program. -/
import Derived.Test.YtlkiofkkjbodjaaGreatDoorAM15
import Derived.Test.YtlkiofkkjbodjaaGreatDoorAN41
import Derived.Test.YtlkiofkkjbodjaaGreatDoorAPeTp
set_option maxHeartbeats 2000000
set_option maxRecDepth 100000
namespace Go.Proofs
open Go Go.Pe Go.Dg
namespace Tryz
set_option linter.unusedSimpArgs false
set_option linter.unusedVariables false
variable {P : Program} {gl : List (Nat × Obj)}

theorem spanTimes_fs (C : Cx P gl) {s1 s2 : Bool} {p1 p2 : List PV} {e1 e2 : Int} {t1 t2 : Bool} {q1 q2 : List PV} {f1 f2 : Int} {u v : Bool} {l r x : List PV} {g h : Int}
  (h1 : ∀ P', Cx P' gl → FS P' gl 160 [.agg [B s1, .lst p1, I e1, B s2, .lst p2, I e2], .agg [B t1, .lst q1, I f1, B t2, .lst q2, I f2], .fn 83 []] (· = .lst l))
  (k3 : ∀ P', Cx P' gl → FS P' gl 162 [.lst l] (· = .agg [B u, .lst r, I g])) (k2 : ∀ P', Cx P' gl → FS P' gl 163 [.lst l] (· = .agg [B v, .lst x, I h])) :
  FS P gl 137 [.agg [B s1, .lst p1, I e1, B s2, .lst p2, I e2], .agg [B t1, .lst q1, I f1, B t2, .lst q2, I f2]] (· = .agg [B u, .lst r, I g, B v, .lst x, I h]) := by
 obtain ⟨rfl, hG⟩ := C
 refine FS_ofT (args := fun A => [.agg [B s1, .lst p1, I e1, B s2, .lst p2, I e2], .agg [B t1, .lst q1, I f1, B t2, .lst q2, I f2]]) (R := fun A rr => rr = .agg [B u, .lst r, I g, B v, .lst x, I h]) Tryz.hT Tryz.mix Tryz.func137 rfl rfl (Nat.le_of_ble_eq_true rfl) ?_
 generalize hP : Tryz.prog = P
 intro A hA
 have C : Tryz.Cx P gl := ⟨hP.symm, hG⟩
 have hI : intsL = A.ints := by subst hA; rfl
 iterate 2 (all_goals try cbv; all_goals with_reducible repeat' first | exact True.intro | refine And.intro ?_ ?_ | intro _)
 all_goals try exact oI
 first | (refine callS hA rfl (h1 P C) ?_; rintro _ rfl) | refine ⟨_, h1 P C, ?_⟩
 iterate 2 (all_goals try cbv; all_goals with_reducible repeat' first | exact True.intro | refine And.intro ?_ ?_ | intro _)
 all_goals try exact oI
 first | (refine callS hA rfl (k3 P C) ?_; rintro _ rfl) | refine ⟨_, k3 P C, ?_⟩
 iterate 2 (all_goals try cbv; all_goals with_reducible repeat' first | exact True.intro | refine And.intro ?_ ?_ | intro _)
 all_goals try exact oI
 first | (refine callS hA rfl (k2 P C) ?_; rintro _ rfl) | refine ⟨_, k2 P C, ?_⟩
 iterate 2 (all_goals try cbv; all_goals with_reducible repeat' first | exact True.intro | refine And.intro ?_ ?_ | intro _)
 all_goals try exact oI

theorem xSpanTimes {a b : Cell6} {d1 d2 d3 d4 : Dyadic} {L E L2 E2 : Nat} (h1 : X d1 L E a.1) (h2 : X d2 L E a.2) (h3 : X d3 L2 E2 b.1) (h4 : X d4 L2 E2 b.2) (hL : L ≤ 300000) (hE : E ≤ 50000) (hL2 : L2 ≤ 300000) (hE2 : E2 ≤ 50000) :
  ∃ y : Cell6, X (mulLo d1 d2 d3 d4) (L + L2) (E + E2) y.1 ∧ X (mulHi d1 d2 d3 d4) (L + L2) (E + E2) y.2 ∧ ∀ (P : Program) (gl : List (Nat × Obj)), Cx P gl → FS P gl 137 [cell6 a, cell6 b] (· = cell6 y) := by
 obtain ⟨y0, x0, c0⟩ := xTimes h1 h3 (by omega) (by omega) (by omega) (by omega)
 obtain ⟨y1, x1, c1⟩ := xTimes h1 h4 (by omega) (by omega) (by omega) (by omega)
 obtain ⟨y2, x2, c2⟩ := xTimes h2 h3 (by omega) (by omega) (by omega) (by omega)
 obtain ⟨y3, x3, c3⟩ := xTimes h2 h4 (by omega) (by omega) (by omega) (by omega)
 obtain ⟨ys, hys⟩ : ∃ ys : List Cell3, ys = [y0, y1, y2, y3] := ⟨_, rfl⟩
 have ly : ys.length = 4 := by rw [hys]; rfl
 have xl : XL (mulE d1 d2 d3 d4) (L + L2) (E + E2) ys := by
  intro k hk
  rw [hys] at hk ⊢
  have hk : k < 4 := hk
  rcases (by omega : k = 0 ∨ k = 1 ∨ k = 2 ∨ k = 3) with rfl | rfl | rfl | rfl
  ·exact x0
  ·exact x1
  ·exact x2
  ·exact x3
 have m1 := amin_le (mulE d1 d2 d3 d4) 3
 have m2 := amax_le (mulE d1 d2 d3 d4) 3
 refine ⟨(ys.getD (amin (mulE d1 d2 d3 d4) 3) noY, ys.getD (amax (mulE d1 d2 d3 d4) 3) noY), xl _ (by omega), xl _ (by omega), ?_⟩
 intro P gl C
 obtain ⟨l, hl⟩ : ∃ l, l = cells3 ys := ⟨_, rfl⟩
 exact spanTimes_fs C (l := l) (fun P' C' => by
   have h := ends0_fs C' (f := 83) (h0 := fun P2 C2 => c0 P2 gl _ _ _ C2 rfl rfl rfl) (h1 := fun P2 C2 => c1 P2 gl _ _ _ C2 rfl rfl rfl) (h2 := fun P2 C2 => c2 P2 gl _ _ _ C2 rfl rfl rfl) (h3 := fun P2 C2 => c3 P2 gl _ _ _ C2 rfl rfl rfl)
   rw [hl, hys]
   exact h)
  (fun P' C' => leastN_fs C' hl xl (by omega) (by omega) (by omega) (by omega) (by rw [ly]) (by rw [ly]) (by rw [ly]))
  (fun P' C' => mostN_fs C' hl xl (by omega) (by omega) (by omega) (by omega) (by rw [ly]) (by rw [ly]) (by rw [ly]))

theorem fieldAt_fs (C : Cx P gl) {vs : List Cell6} {p q x : List PV} {n i j : Int} {s t : Bool} {l m : List Int} {e f : Int} (hp : p = cells6 vs) (hi : 0 ≤ i) (hj : 0 ≤ j) (hn : 0 ≤ n) (hn4 : n ≤ 4) (hi4 : i ≤ 4) (hj4 : j ≤ 4) (hk : i * n + j < vs.length) (hg : vs.getD (i * n + j).toNat noV = ((s, l, e), (t, m, f))) (hq : q = intsL l) (hx : x = intsL m) :
  FS P gl 136 [.agg [I n, .lst p], I i, I j] (· = .agg [B s, .lst q, I e, B t, .lst x, I f]) := by
 have hm : 0 ≤ i * n ∧ i * n ≤ 16 := by
  rcases (by omega : n = 0 ∨ n = 1 ∨ n = 2 ∨ n = 3 ∨ n = 4) with rfl | rfl | rfl | rfl | rfl <;> omega
 obtain ⟨k, hk'⟩ : ∃ k, k = i * n + j := ⟨_, rfl⟩
 rw [← hk'] at hk hg
 have hk0 : 0 ≤ k := by omega
 have hlt : k.toNat < vs.length := by omega
 obtain ⟨rfl, hG⟩ := C
 refine FS_ofT (args := fun A => [.agg [I n, .lst p], I i, I j]) (R := fun A rr => rr = .agg [B s, .lst q, I e, B t, .lst x, I f]) Tryz.hT Tryz.mix Tryz.func136 rfl rfl (Nat.le_of_ble_eq_true rfl) ?_
 generalize hP : Tryz.prog = P
 intro A hA
 have C : Tryz.Cx P gl := ⟨hP.symm, hG⟩
 have hI : intsL = A.ints := by subst hA; rfl
 have ek : A.add .i64 (A.mul .i64 i n) j = k := by
  clear hg
  subst hA
  simp only [AR.std]
  rw [wrapi (n := i * n) (by omega) (by omega), ← hk', wrapi (by omega) (by omega)]
 have hel : (A.gb (A.el p (A.nat k)) 0 = s ∧ A.gl (A.el p (A.nat k)) 1 = q ∧ A.gi (A.el p (A.nat k)) 2 = e) ∧ A.gb (A.el p (A.nat k)) 3 = t ∧ A.gl (A.el p (A.nat k)) 4 = x ∧ A.gi (A.el p (A.nat k)) 5 = f := by
  have w : A.el p (A.nat k) = cell6 (vs.getD k.toNat noV) := by rw [hp]; subst hA; exact c6el hlt
  rw [w, hg, hq, hx]
  subst hA
  exact ⟨⟨rfl, rfl, rfl⟩, rfl, rfl, rfl⟩
 obtain ⟨⟨h0, h1, h2⟩, h3, h4, h5⟩ := hel
 clear hg hq hx
 iterate 2 (all_goals try cbv; all_goals with_reducible repeat' first | exact True.intro | refine And.intro ?_ ?_ | intro _)
 all_goals try exact oI
 all_goals simp only [ek]
 all_goals try clear ek hk'
 all_goals try simp only [h0, h1, h2, h3, h4, h5]
 iterate 2 (all_goals try cbv; all_goals with_reducible repeat' first | exact True.intro | refine And.intro ?_ ?_ | intro _)
 all_goals try exact oI
 all_goals try simp only [h0, h1, h2, h3, h4, h5]

def callV (gl : List (Nat × Obj)) (f : FuncId) (v w y : Cell6) : Prop := ∀ P, Cx P gl → FS P gl f [cell6 v, cell6 w] (· = cell6 y)

theorem fieldTimes_fs (C : Cx P gl) {vs ws : List Cell6} {p q r : List PV} {n : Int} {Y : Nat → Cell6} (hp : p = cells6 vs) (hq : q = cells6 ws) (hr : r = cells6 (listV Y vs.length)) (hn : 0 ≤ n) (hn4 : n ≤ 4) (hvl : (vs.length : Int) = n * n) (hwl : (ws.length : Int) = n * n)
  (hY : ∀ i j : Nat, i < n.toNat → j < n.toNat → ∃ c t : Nat → Cell6, c 0 = noV ∧ c n.toNat = Y (i * n.toNat + j) ∧ ∀ k : Nat, k < n.toNat → callV gl 137 (vs.getD (i * n.toNat + k) noV) (ws.getD (k * n.toNat + j) noV) (t k) ∧ callV gl 135 (c k) (t k) (c (k + 1))) :
  FS P gl 64 [.agg [I n, .lst p], .agg [I n, .lst q]] (· = .agg [I n, .lst r]) := by
 have hnn : n * n = ((n.toNat * n.toNat : Nat) : Int) := by rw [Int.natCast_mul, Int.toNat_of_nonneg hn]
 obtain ⟨w, hw⟩ : ∃ w, w = n.toNat := ⟨_, rfl⟩
 rw [← hw] at hY hnn
 have hw4 : w ≤ 4 := by omega
 have hNw : vs.length = w * w := by omega
 have hww : w * w ≤ 4 * 4 := Nat.mul_le_mul hw4 hw4
 obtain ⟨G, hG⟩ : ∃ G : Nat → List PV, G = fun k => cells6 (listV Y k) := ⟨_, rfl⟩
 have hG0 : G 0 = [] := by rw [hG]; rfl
 have hGN : G (w * w) = r := by rw [hG, hr, hNw]
 have hGl : ∀ k, (G k).length = k := by intro k; rw [hG]; simp only [c6len, listV_len]
 have hGs : ∀ k, G k ++ [cell6 (Y k)] = G (k + 1) := by intro k; rw [hG]; simp only [listV_succ, ← c6app]; rfl
 have hmul : ∀ a b : Int, 0 ≤ a → 0 ≤ b → a < n → b < n → (a * n + b).toNat = a.toNat * w + b.toNat ∧ a.toNat * w + b.toNat < w * w ∧ a * n + b = ((a.toNat * w + b.toNat : Nat) : Int) := by
  intro a b h1 h2 h3 h4
  have e1 : a * n = ((a.toNat * w : Nat) : Int) := by rw [Int.natCast_mul, hw, Int.toNat_of_nonneg h1, Int.toNat_of_nonneg hn]
  have := place_lt (n := w) (i := a.toNat) (j := b.toNat) (by omega) (by omega)
  omega
 have hij : ∀ (i j : Int), 0 ≤ i → 0 ≤ j → i < n → j < n → ∃ c : Nat → Cell6, c 0 = noV ∧ c w = Y (i.toNat * w + j.toNat) ∧ ∀ k : Int, 0 ≤ k → k < n →
   ∃ (s1 s2 t1 t2 u1 u2 b1 b2 : Bool) (p1 p2 q1 q2 x1 x2 z1 z2 : List PV) (e1 e2 f1 f2 g1 g2 d1 d2 : Int), (∀ P', Cx P' gl → FS P' gl 136 [.agg [I n, .lst p], I i, I k] (· = .agg [B s1, .lst p1, I e1, B s2, .lst p2, I e2])) ∧ (∀ P', Cx P' gl → FS P' gl 136 [.agg [I n, .lst q], I k, I j] (· = .agg [B t1, .lst q1, I f1, B t2, .lst q2, I f2])) ∧ (∀ P', Cx P' gl → FS P' gl 137 [.agg [B s1, .lst p1, I e1, B s2, .lst p2, I e2], .agg [B t1, .lst q1, I f1, B t2, .lst q2, I f2]] (· = .agg [B u1, .lst x1, I g1, B u2, .lst x2, I g2])) ∧ (∀ (P' : Program) (a1 a2 : Bool) (r1 r2 : List PV) (h1 h2 : Int), Cx P' gl → (a1 = (c k.toNat).1.1 ∧ r1 = intsL (c k.toNat).1.2.1 ∧ h1 = (c k.toNat).1.2.2) → (a2 = (c k.toNat).2.1 ∧ r2 = intsL (c k.toNat).2.2.1 ∧ h2 = (c k.toNat).2.2.2) → FS P' gl 135 [.agg [B a1, .lst r1, I h1, B a2, .lst r2, I h2], .agg [B u1, .lst x1, I g1, B u2, .lst x2, I g2]] (· = .agg [B b1, .lst z1, I d1, B b2, .lst z2, I d2])) ∧ (b1 = (c (k + 1).toNat).1.1 ∧ z1 = intsL (c (k + 1).toNat).1.2.1 ∧ d1 = (c (k + 1).toNat).1.2.2) ∧ b2 = (c (k + 1).toNat).2.1 ∧ z2 = intsL (c (k + 1).toNat).2.2.1 ∧ d2 = (c (k + 1).toNat).2.2.2 := by
  intro i j hi0 hj0 hi hj
  obtain ⟨c, t, c0, cw, cs⟩ := hY i.toNat j.toNat (by omega) (by omega)
  refine ⟨c, c0, cw, ?_⟩
  intro k hk0 hk
  obtain ⟨x1, x2, x3⟩ := hmul i k hi0 hk0 hi hk
  obtain ⟨y1, y2, y3⟩ := hmul k j hk0 hj0 hk hj
  obtain ⟨g1, g2⟩ := cs k.toNat (by omega)
  obtain ⟨v, hv⟩ : ∃ v, v = vs.getD (i.toNat * w + k.toNat) noV := ⟨_, rfl⟩
  obtain ⟨u, hu⟩ : ∃ v, v = ws.getD (k.toNat * w + j.toNat) noV := ⟨_, rfl⟩
  rw [← hv, ← hu] at g1
  refine ⟨v.1.1, v.2.1, u.1.1, u.2.1, (t k.toNat).1.1, (t k.toNat).2.1, (c (k + 1).toNat).1.1, (c (k + 1).toNat).2.1, intsL v.1.2.1, intsL v.2.2.1, intsL u.1.2.1, intsL u.2.2.1, intsL (t k.toNat).1.2.1, intsL (t k.toNat).2.2.1, intsL (c (k + 1).toNat).1.2.1, intsL (c (k + 1).toNat).2.2.1, v.1.2.2, v.2.2.2, u.1.2.2, u.2.2.2, (t k.toNat).1.2.2, (t k.toNat).2.2.2, (c (k + 1).toNat).1.2.2, (c (k + 1).toNat).2.2.2,
   fun P' C' => fieldAt_fs C' hp hi0 hk0 hn hn4 (by omega) (by omega) (by omega) (by rw [x1, ← hv]) rfl rfl, fun P' C' => fieldAt_fs C' hq hk0 hj0 hn hn4 (by omega) (by omega) (by omega) (by rw [y1, ← hu]) rfl rfl, fun P' C' => g1 P' C', ?_, ⟨rfl, rfl, rfl⟩, rfl, rfl, rfl⟩
  rintro P' a1 a2 r1 r2 h1 h2 C' ⟨k1, k2, k3⟩ ⟨k4, k5, k6⟩
  rw [k1, k2, k3, k4, k5, k6, show (k + 1).toNat = k.toNat + 1 by omega]
  exact g2 P' C'
 clear hY hmul hp hq hr hvl hwl hnn hG
 obtain ⟨rfl, hG⟩ := C
 refine FS_ofT (args := fun A => [.agg [I n, .lst p], .agg [I n, .lst q]]) (R := fun A rr => rr = .agg [I n, .lst r]) Tryz.hT Tryz.mix Tryz.func64 rfl rfl (Nat.le_of_ble_eq_true rfl) ?_
 generalize hP : Tryz.prog = P
 intro A hA
 have C : Tryz.Cx P gl := ⟨hP.symm, hG⟩
 have hI : intsL = A.ints := by subst hA; rfl
 iterate 2 (all_goals try cbv; all_goals with_reducible repeat' first | exact True.intro | refine And.intro ?_ ?_ | intro _)
 all_goals try exact oI
 refine loopI hA [.cell 3 1 126 6] (ι := Int × List PV) (fun x => [(15, .pv (I x.1))]) (fun x => [(4, .row 126 6 x.2)]) (fun x => (n - x.1).toNat) (fun x => 0 ≤ x.1 ∧ x.1 ≤ n ∧ x.2 = G (x.1.toNat * w)) (0, []) (by rfl) ?_ ?_ ?_
 all_goals try exact tI
 ·exact ⟨Int.le_refl _, hn, by simp only [Int.toNat_zero, Nat.zero_mul]; exact hG0.symm⟩
 rintro ⟨i, o⟩ ⟨hi0, hi1, ho⟩
 simp only at hi0 hi1 ho
 clear hG0
 have o0 : o = G (i.toNat * w + (0 : Int).toNat) := by rw [ho]; simp only [Int.toNat_zero, Nat.add_zero]
 have hexi : i = n → o = r := by intro h; rw [ho, h, ← hw, hGN]
 clear ho
 iterate 2 (all_goals try cbv; all_goals with_reducible repeat' first | exact True.intro | refine And.intro ?_ ?_ | intro _)
 all_goals try exact oI
 ·rename_i g
  have gi : i < n := by clear hij hexi hGl hGN hGs o0; (subst hA; subst_vars; simp only [AR.std, natCast_eq, sI, reduceCtorEq] at *; try simp (disch := omega) only [AR.std, natCast_eq, sI, reduceCtorEq] at *); omega
  have hi2 : i + 1 ≤ n := by omega
  clear g hexi
  refine loopI hA [] (ι := Int × List PV) (fun x => [(20, .pv (I x.1))]) (fun x => [(4, .row 126 6 x.2)]) (fun x => (n - x.1).toNat) (fun x => 0 ≤ x.1 ∧ x.1 ≤ n ∧ x.2 = G (i.toNat * w + x.1.toNat)) (0, o) (by rfl) ?_ ?_ ?_
  all_goals try exact tI
  ·exact ⟨Int.le_refl _, hn, o0⟩
  rintro ⟨j, o2⟩ ⟨hj0, hj1, ho2⟩
  simp only at hj0 hj1 ho2
  clear o0
  have ho2l : o2.length ≤ 1000 := by
   rw [ho2, hGl]
   have := Nat.mul_le_mul_right w (show i.toNat ≤ 4 by omega)
   omega
  have hexj : j = n → o2 = G ((i + 1).toNat * w) := by intro h; rw [ho2, h, ← hw, show (i + 1).toNat = i.toNat + 1 by omega, Nat.add_mul, Nat.one_mul]
  iterate 2 (all_goals try cbv; all_goals with_reducible repeat' first | exact True.intro | refine And.intro ?_ ?_ | intro _)
  all_goals try exact oI
  ·rename_i g
   have gj : j < n := by clear hij hexj hGl hGN hGs ho2 ho2l; (subst hA; subst_vars; simp only [AR.std, natCast_eq, sI, reduceCtorEq] at *; try simp (disch := omega) only [AR.std, natCast_eq, sI, reduceCtorEq] at *); omega
   have hj2 : j + 1 ≤ n := by omega
   clear g hexj
   obtain ⟨c, c0, cw, cs⟩ := hij i j hi0 hj0 gi gj
   clear hij
   refine loopI hA [.nilc 5 1, .nilc 5 4] (ι := Int × Bool × List PV × Int × Bool × List PV × Int) (fun x => [(25, .pv (I x.1))]) (fun x => [(5, .box [.pv (B x.2.1), .pv (.lst x.2.2.1), .pv (I x.2.2.2.1), .pv (B x.2.2.2.2.1), .pv (.lst x.2.2.2.2.2.1), .pv (I x.2.2.2.2.2.2)])]) (fun x => (n - x.1).toNat) (fun x => 0 ≤ x.1 ∧ x.1 ≤ n ∧ (x.2.1 = (c x.1.toNat).1.1 ∧ x.2.2.1 = intsL (c x.1.toNat).1.2.1 ∧ x.2.2.2.1 = (c x.1.toNat).1.2.2) ∧ x.2.2.2.2.1 = (c x.1.toNat).2.1 ∧ x.2.2.2.2.2.1 = intsL (c x.1.toNat).2.2.1 ∧ x.2.2.2.2.2.2 = (c x.1.toNat).2.2.2) (0, false, [], 0, false, [], 0) (by rfl) ?_ ?_ ?_
   all_goals try exact tI
   ·refine ⟨Int.le_refl _, hn, ⟨?_, ?_, ?_⟩, ?_, ?_, ?_⟩ <;> simp only [Int.toNat_zero, c0] <;> rfl
   rintro ⟨k, a1, r1, h1, a2, r2, h2⟩ ⟨hk0, hk1, hk2, hk3⟩
   simp only at hk0 hk1 hk2 hk3
   have hexk : k = n → o2 ++ [.agg [B a1, .lst r1, I h1, B a2, .lst r2, I h2]] = G (i.toNat * w + (j + 1).toNat) := by
    intro h
    have hkw : k.toNat = w := by rw [h, hw]
    rw [hkw, cw] at hk2 hk3
    obtain ⟨k1, k2, k3⟩ := hk2
    obtain ⟨k4, k5, k6⟩ := hk3
    rw [k1, k2, k3, k4, k5, k6, show (j + 1).toNat = j.toNat + 1 by omega, ← Nat.add_assoc, ← hGs, ho2]
    rfl
   have hst : ∀ _ : Unit, k < n → ∃ (s1 s2 t1 t2 u1 u2 b1 b2 : Bool) (p1 p2 q1 q2 x1 x2 z1 z2 : List PV) (e1 e2 f1 f2 g1 g2 d1 d2 : Int), (∀ P', Cx P' gl → FS P' gl 136 [.agg [I n, .lst p], I i, I k] (· = .agg [B s1, .lst p1, I e1, B s2, .lst p2, I e2])) ∧ (∀ P', Cx P' gl → FS P' gl 136 [.agg [I n, .lst q], I k, I j] (· = .agg [B t1, .lst q1, I f1, B t2, .lst q2, I f2])) ∧ (∀ P', Cx P' gl → FS P' gl 137 [.agg [B s1, .lst p1, I e1, B s2, .lst p2, I e2], .agg [B t1, .lst q1, I f1, B t2, .lst q2, I f2]] (· = .agg [B u1, .lst x1, I g1, B u2, .lst x2, I g2])) ∧ (∀ P', Cx P' gl → FS P' gl 135 [.agg [B a1, .lst r1, I h1, B a2, .lst r2, I h2], .agg [B u1, .lst x1, I g1, B u2, .lst x2, I g2]] (· = .agg [B b1, .lst z1, I d1, B b2, .lst z2, I d2])) ∧ (b1 = (c (k + 1).toNat).1.1 ∧ z1 = intsL (c (k + 1).toNat).1.2.1 ∧ d1 = (c (k + 1).toNat).1.2.2) ∧ b2 = (c (k + 1).toNat).2.1 ∧ z2 = intsL (c (k + 1).toNat).2.2.1 ∧ d2 = (c (k + 1).toNat).2.2.2 := by
    intro _ hk
    obtain ⟨s1, s2, t1, t2, u1, u2, b1, b2, p1, p2, q1, q2, x1, x2, z1, z2, e1, e2, f1, f2, g1, g2, d1, d2, m1, m2, m3, m4, m5⟩ := cs k hk0 hk
    exact ⟨s1, s2, t1, t2, u1, u2, b1, b2, p1, p2, q1, q2, x1, x2, z1, z2, e1, e2, f1, f2, g1, g2, d1, d2, m1, m2, m3, fun P' C' => m4 P' a1 a2 r1 r2 h1 h2 C' hk2 hk3, m5⟩
   clear hk2 hk3 cs c0 cw ho2 hGs
   iterate 2 (all_goals try cbv; all_goals with_reducible repeat' first | exact True.intro | refine And.intro ?_ ?_ | intro _)
   all_goals try exact oI
   all_goals try exact okA_of hA (by intro x hx; rw [List.mem_singleton.1 hx]; exact ⟨rfl, rfl⟩)
   all_goals try exact cap_of hA (by simp only [List.length_singleton]; omega)
   ·rename_i g
    have gk : k < n := by clear hst hexk hGl hGN; (subst hA; subst_vars; simp only [AR.std, natCast_eq, sI, reduceCtorEq] at *; try simp (disch := omega) only [AR.std, natCast_eq, sI, reduceCtorEq] at *); omega
    have hk2 : k + 1 ≤ n := by omega
    obtain ⟨s1, s2, t1, t2, u1, u2, b1, b2, p1, p2, q1, q2, x1, x2, z1, z2, e1, e2, f1, f2, g1, g2, d1, d2, m1, m2, m3, m4, m5⟩ := hst () gk
    clear hst hexk g
    first | (refine callS hA rfl (m1 P C) ?_; rintro _ rfl) | refine ⟨_, m1 P C, ?_⟩
    iterate 2 (all_goals try cbv; all_goals with_reducible repeat' first | exact True.intro | refine And.intro ?_ ?_ | intro _)
    all_goals try exact oI
    first | (refine callS hA rfl (m2 P C) ?_; rintro _ rfl) | refine ⟨_, m2 P C, ?_⟩
    iterate 2 (all_goals try cbv; all_goals with_reducible repeat' first | exact True.intro | refine And.intro ?_ ?_ | intro _)
    all_goals try exact oI
    first | (refine callS hA rfl (m3 P C) ?_; rintro _ rfl) | refine ⟨_, m3 P C, ?_⟩
    iterate 2 (all_goals try cbv; all_goals with_reducible repeat' first | exact True.intro | refine And.intro ?_ ?_ | intro _)
    all_goals try exact oI
    first | (refine callS hA rfl (m4 P C) ?_; rintro _ rfl) | refine ⟨_, m4 P C, ?_⟩
    clear m1 m2 m3 m4
    iterate 2 (all_goals try cbv; all_goals with_reducible repeat' first | exact True.intro | refine And.intro ?_ ?_ | intro _)
    all_goals try exact oI
    obtain ⟨⟨m6, m7, m8⟩, m9, m10, m11⟩ := m5
    obtain ⟨y1, hy1⟩ : ∃ y, y = k + 1 := ⟨_, rfl⟩
    obtain ⟨y2, hy2⟩ : ∃ y, y = b1 := ⟨_, rfl⟩
    obtain ⟨y3, hy3⟩ : ∃ y, y = z1 := ⟨_, rfl⟩
    obtain ⟨y4, hy4⟩ : ∃ y, y = d1 := ⟨_, rfl⟩
    obtain ⟨y5, hy5⟩ : ∃ y, y = b2 := ⟨_, rfl⟩
    obtain ⟨y6, hy6⟩ : ∃ y, y = z2 := ⟨_, rfl⟩
    obtain ⟨y7, hy7⟩ : ∃ y, y = d2 := ⟨_, rfl⟩
    refine ⟨⟨(y1, y2, y3, y4, y5, y6, y7), ?_⟩, ?_, ?_⟩
    rotate_left
    ·cbv
     exact nI
    ·(subst hA; subst_vars; simp only [AR.std, natCast_eq, sI, reduceCtorEq] at *; try simp (disch := omega) only [AR.std, natCast_eq, sI, reduceCtorEq] at *); omega
    ·rw [hy1, hy2, hy3, hy4, hy5, hy6, hy7]
     exact ⟨by simp only; omega, hk2, ⟨m6, m7, m8⟩, m9, m10, m11⟩
   ·rename_i g
    have hx := hexk (by clear hst hexk hGl hGN; (subst hA; subst_vars; simp only [AR.std, natCast_eq, sI, reduceCtorEq] at *; try simp (disch := omega) only [AR.std, natCast_eq, sI, reduceCtorEq] at *); omega)
    clear hst hexk g
    obtain ⟨o9, ho9⟩ : ∃ o9, o9 = o2 ++ [.agg [B a1, .lst r1, I h1, B a2, .lst r2, I h2]] := ⟨_, rfl⟩
    have hra : A.app o2 [.agg [B a1, .lst r1, I h1, B a2, .lst r2, I h2]] = o9 := by rw [ho9]; clear hGl hGN; subst hA; rfl
    rw [← ho9] at hx
    clear ho9
    simp only [hra]
    clear hra
    obtain ⟨y1, hy1⟩ : ∃ y, y = j + 1 := ⟨_, rfl⟩
    obtain ⟨y2, hy2⟩ : ∃ y, y = o9 := ⟨_, rfl⟩
    refine ⟨⟨(y1, y2), ?_⟩, ?_, ?_⟩
    rotate_left
    ·cbv
     exact nI
    ·(subst hA; subst_vars; simp only [AR.std, natCast_eq, sI, reduceCtorEq] at *; try simp (disch := omega) only [AR.std, natCast_eq, sI, reduceCtorEq] at *); omega
    ·rw [hy1, hy2]
     exact ⟨by simp only; omega, hj2, hx⟩
  ·rename_i g
   have gj : j = n := by clear hij hexj hGl hGN hGs ho2 ho2l; (subst hA; subst_vars; simp only [AR.std, natCast_eq, sI, reduceCtorEq] at *; try simp (disch := omega) only [AR.std, natCast_eq, sI, reduceCtorEq] at *); omega
   have := hexj gj
   clear hexj hij
   iterate 2 (all_goals try cbv; all_goals with_reducible repeat' first | exact True.intro | refine And.intro ?_ ?_ | intro _)
   all_goals try exact oI
   obtain ⟨y1, hy1⟩ : ∃ y, y = i + 1 := ⟨_, rfl⟩
   obtain ⟨y2, hy2⟩ : ∃ y, y = o2 := ⟨_, rfl⟩
   refine ⟨⟨(y1, y2), ?_⟩, ?_, ?_⟩
   rotate_left
   ·cbv
    exact nI
   ·(subst hA; subst_vars; simp only [AR.std, natCast_eq, sI, reduceCtorEq] at *; try simp (disch := omega) only [AR.std, natCast_eq, sI, reduceCtorEq] at *); omega
   ·rw [hy1, hy2]
    exact ⟨by simp only; omega, hi2, this⟩
 ·rename_i g
  have gi : i = n := by clear hij hexi hGl hGN hGs o0; (subst hA; subst_vars; simp only [AR.std, natCast_eq, sI, reduceCtorEq] at *; try simp (disch := omega) only [AR.std, natCast_eq, sI, reduceCtorEq] at *); omega
  have := hexi gi
  simp only [this]

theorem fieldTimes_ex {vs ws : List Cell6} {dA dB dC dD : Nat → Dyadic} {L E L2 E2 : Nat} {n : Int} (hv : XV dA dB L E vs) (hw : XV dC dD L2 E2 ws) (hn : 0 ≤ n) (hn4 : n ≤ 4) (hvl : (vs.length : Int) = n * n) (hwl : (ws.length : Int) = n * n) (hL : L ≤ 100000) (hE : E ≤ 20000) (hL2 : L2 ≤ 100000) (hE2 : E2 ≤ 20000) :
  ∃ xs, xs.length = vs.length ∧ XV (timesLo n dA dB dC dD) (timesHi n dA dB dC dD) (L + L2 + 4 * (E + E2 + 2)) (E + E2) xs ∧
   ∀ (P : Program) (gl : List (Nat × Obj)) (p q r : List PV), Cx P gl → p = cells6 vs → q = cells6 ws → r = cells6 xs → FS P gl 64 [.agg [I n, .lst p], .agg [I n, .lst q]] (· = .agg [I n, .lst r]) := by
 have hnn : n * n = ((n.toNat * n.toNat : Nat) : Int) := by rw [Int.natCast_mul, Int.toNat_of_nonneg hn]
 obtain ⟨m, hm⟩ : ∃ m, m = n.toNat := ⟨_, rfl⟩
 have hm4 : m ≤ 4 := by omega
 have hvm : vs.length = m * m := by rw [hm]; omega
 have hwm : ws.length = m * m := by rw [hm]; omega
 obtain ⟨Y, hY⟩ := pickV6 (n := vs.length) (Q := fun a y => (∃ c t : Nat → Cell6, c 0 = noV ∧ c m = y ∧ ∀ k : Nat, k < m → ∀ gl, callV gl 137 (vs.getD (a / m * m + k) noV) (ws.getD (k * m + a % m) noV) (t k) ∧ callV gl 135 (c k) (t k) (c (k + 1))) ∧ X (timesLo n dA dB dC dD a) (L + L2 + 4 * (E + E2 + 2)) (E + E2) y.1 ∧ X (timesHi n dA dB dC dD a) (L + L2 + 4 * (E + E2 + 2)) (E + E2) y.2) (by
  intro a ha
  rw [hvm] at ha
  obtain ⟨hi, hj, hij⟩ := place ha
  obtain ⟨c, t, c0, cs, cx⟩ := chainG (α := Cell6) (S := fun k y => X (psum (ivLo m dA dB dC dD (a / m) (a % m)) k) (L + L2 + k * (E + E2 + 2)) (E + E2) y.1 ∧ X (psum (ivHi m dA dB dC dD (a / m) (a % m)) k) (L + L2 + k * (E + E2 + 2)) (E + E2) y.2) (y0 := noV)
   (Q := fun k y t y' => ∀ gl, callV gl 137 (vs.getD (a / m * m + k) noV) (ws.getD (k * m + a % m) noV) t ∧ callV gl 135 y t y') ⟨X_zero, X_zero⟩ (n := m) (by
    rintro k y hk ⟨hx1, hx2⟩
    have hle : k * (E + E2 + 2) ≤ 4 * (E + E2 + 2) := Nat.mul_le_mul_right _ (by omega)
    obtain ⟨v1, v2⟩ := hv (a / m * m + k) (by rw [hvm]; exact place_lt hi hk)
    obtain ⟨w1, w2⟩ := hw (k * m + a % m) (by rw [hwm]; exact place_lt hk hj)
    obtain ⟨t, t1, t2, t3⟩ := xSpanTimes v1 v2 w1 w2 (by omega) (by omega) (by omega) (by omega)
    obtain ⟨y', y1, y2, y3⟩ := xSpanPlus hx1 hx2 (t1.mono (L' := L + L2 + k * (E + E2 + 2)) (by omega) (Nat.le_refl _)) (t2.mono (L' := L + L2 + k * (E + E2 + 2)) (by omega) (Nat.le_refl _)) (by omega) (by omega)
    refine ⟨t, y', fun gl => ⟨fun P C => t3 P gl C, fun P C => y3 P gl C⟩, ?_, ?_⟩
    ·exact y1.mono (by rw [Nat.add_mul, Nat.one_mul]; omega) (Nat.le_refl _)
    ·exact y2.mono (by rw [Nat.add_mul, Nat.one_mul]; omega) (Nat.le_refl _))
  obtain ⟨z1, z2⟩ := cx m (Nat.le_refl _)
  have hb : m * (E + E2 + 2) ≤ 4 * (E + E2 + 2) := Nat.mul_le_mul_right _ hm4
  refine ⟨c m, ⟨c, t, c0, rfl, cs⟩, ?_, ?_⟩
  ·unfold timesLo; rw [← hm]; exact z1.mono (by omega) (Nat.le_refl _)
  ·unfold timesHi; rw [← hm]; exact z2.mono (by omega) (Nat.le_refl _))
 refine ⟨listV Y vs.length, listV_len _ _, listV_XV (fun k hk => (hY k hk).2), ?_⟩
 intro P gl p q r C hp hq hr
 subst hm
 refine fieldTimes_fs C hp hq hr hn hn4 hvl hwl (fun i j hi hj => ?_)
 obtain ⟨c, t, c0, cw, cs⟩ := (hY (i * n.toNat + j) (by rw [hvm]; exact place_lt hi hj)).1
 obtain ⟨g1, g2⟩ := place_div (i := i) hj
 rw [g1, g2] at cs
 exact ⟨c, t, c0, cw, fun k hk => cs k hk gl⟩

end Tryz
end Go.Proofs
