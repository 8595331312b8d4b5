/- Contracts: Solve in the reference. -/
import Derived.Test.YtlkiofkkjbodjaaGreatDoorDP2
import Derived.Test.YtlkiofkkjbodjaaGreatDoorDM37
import Derived.Test.YtlkiofkkjbodjaaGreatDoorDM13
import Derived.Test.YtlkiofkkjbodjaaGreatDoorDM15
import Derived.Test.YtlkiofkkjbodjaaGreatDoorDN24
import Derived.Test.YtlkiofkkjbodjaaGreatDoorDP17
set_option maxHeartbeats 4000000
set_option maxRecDepth 100000
namespace Go.Proofs
open Go Go.Pe Go.Dg
namespace Tryz
set_option linter.unusedSimpArgs false
set_option linter.unusedVariables false
variable {P : Program} {gl : List (Nat × Obj)}

theorem toNat_ltM {x : Int} {N k : Nat} (h0 : 0 ≤ x) (h1 : x < N) (h2 : N = k) : x.toNat < k := by omega

theorem toNat_ltK {x n : Int} {k m : Nat} (h0 : 0 ≤ x) (h1 : x < n) (h2 : m = n.toNat) (h3 : k = m) : x.toNat < k := by omega

theorem solRowR {gl : List (Nat × Obj)} {ys bs aw : List Cell3} {n low : Int} {m N : Nat} {dA dB : Nat → Dyadic} {sv : Bool} {pv : List PV} {ev : Int} (hm : m = n.toNat) (hN : N = m * m) (hn1 : 1 ≤ n) (hn4 : n ≤ 4) (hyl : ys.length = m * m) (hbl : bs.length = m) (hya : allY ys) (hba : allY bs) (haw : aw = canL (adjD m (dvY ys)) N) (hlow : low.natAbs ≤ 300)
  (h0 : detD m (dvY ys) ≠ 0) (hsv : sv = (canY (detD m (dvY ys))).1) (hpv : pv = intsL (canY (detD m (dvY ys))).2.1) (hev : ev = (canY (detD m (dvY ys))).2.2) (hdA : dA = solLo m (dvY ys) (dvY bs) low) (hdB : dB = solHi m (dvY ys) (dvY bs) low)
  {i : Int} (hi0 : 0 ≤ i) (hi : i < n) : ∃ (s1 s2 t1 t2 b0 : Bool) (p1 p2 x1 x2 : List PV) (e1 e2 f1 f2 : Int), (∀ j : Int, 0 ≤ j → j < n → ∃ (x : Int) (sa sb sc sd : Bool) (pa pb pc pd : List PV) (ea eb ec ed : Int), (x = i * n + j ∧ 0 ≤ x ∧ x < N) ∧ (aw.getD x.toNat noY).1 = sa ∧ intsL (aw.getD x.toNat noY).2.1 = pa ∧ (aw.getD x.toNat noY).2.2 = ea ∧ (bs.getD j.toNat noY).1 = sb ∧ intsL (bs.getD j.toNat noY).2.1 = pb ∧ (bs.getD j.toNat noY).2.2 = eb ∧ (∀ P', Cx P' gl → FS P' gl 71 [.agg [B sa, .lst pa, I ea], .agg [B sb, .lst pb, I eb]] (· = .agg [B sc, .lst pc, I ec])) ∧ (∀ (P' : Program) (s : Bool) (u : List PV) (e : Int), Cx P' gl → s = (canY (psum (fun j => adjD m (dvY ys) (i.toNat * m + j) * dvY bs j) j.toNat)).1 → u = intsL (canY (psum (fun j => adjD m (dvY ys) (i.toNat * m + j) * dvY bs j) j.toNat)).2.1 → e = (canY (psum (fun j => adjD m (dvY ys) (i.toNat * m + j) * dvY bs j) j.toNat)).2.2 → FS P' gl 70 [.agg [B s, .lst u, I e], .agg [B sc, .lst pc, I ec]] (· = .agg [B sd, .lst pd, I ed])) ∧ sd = (canY (psum (fun j => adjD m (dvY ys) (i.toNat * m + j) * dvY bs j) (j + 1).toNat)).1 ∧ pd = intsL (canY (psum (fun j => adjD m (dvY ys) (i.toNat * m + j) * dvY bs j) (j + 1).toNat)).2.1 ∧ ed = (canY (psum (fun j => adjD m (dvY ys) (i.toNat * m + j) * dvY bs j) (j + 1).toNat)).2.2) ∧ (∀ (P' : Program) (s : Bool) (u : List PV) (e : Int), Cx P' gl → s = (canY (psum (fun j => adjD m (dvY ys) (i.toNat * m + j) * dvY bs j) m)).1 → u = intsL (canY (psum (fun j => adjD m (dvY ys) (i.toNat * m + j) * dvY bs j) m)).2.1 → e = (canY (psum (fun j => adjD m (dvY ys) (i.toNat * m + j) * dvY bs j) m)).2.2 → FS P' gl 73 [.agg [B s, .lst u, I e], .agg [B sv, .lst pv, I ev], I low, I 3] (· = .agg [B s1, .lst p1, I e1]) ∧ FS P' gl 73 [.agg [B s, .lst u, I e], .agg [B sv, .lst pv, I ev], I low, I 2] (· = .agg [B s2, .lst p2, I e2])) ∧ (∀ P', Cx P' gl → FS P' gl 72 [.agg [B s1, .lst p1, I e1, B s2, .lst p2, I e2]] (· = .tup [.agg [B t1, .lst x1, I f1, B t2, .lst x2, I f2], B b0])) ∧ (b0 = true ↔ fits (dA i.toNat) ∧ fits (dB i.toNat)) ∧ (b0 = true → PV.agg [B t1, .lst x1, I f1, B t2, .lst x2, I f2] = cell6 (canY (dA i.toNat), canY (dB i.toNat))) := by
 have hm4 : m ≤ 4 := by omega
 have hd : ∀ k, k < m * m → Mg 3000 4600 (dvY ys k) := fun k hk => (allY_CL hya k (by omega)).2
 have hb : ∀ k, k < m → Mg 3000 4600 (dvY bs k) := fun k hk => (allY_CL hba k (by omega)).2
 have hmul : ∀ a b : Int, 0 ≤ a → 0 ≤ b → a < n → b < n → (a * n + b).toNat = a.toNat * m + b.toNat ∧ a.toNat * m + b.toNat < m * m ∧ a * n + b = ((a.toNat * m + b.toNat : Nat) : Int) := by
  intro a b h1 h2 h3 h4
  have e1 : a * n = ((a.toNat * m : Nat) : Int) := by rw [Int.natCast_mul, hm, Int.toNat_of_nonneg h1, Int.toNat_of_nonneg (show 0 ≤ n by omega)]
  have := place_lt (n := m) (i := a.toNat) (j := b.toNat) (by omega) (by omega)
  omega
 have bdet := Mg_b (Mg_detB hm4 hd) (by omega) (by omega)
 have bS : ∀ k, k ≤ m → _ := fun k hk => Mg_b (Mg_solP hm4 (show i.toNat < m by omega) hd hb hk) (by omega) (by omega)
 have bD3 := div_bounds (low := low) (m := 3) (bS m (Nat.le_refl _)) bdet (by omega)
 have bD2 := div_bounds (low := low) (m := 2) (bS m (Nat.le_refl _)) bdet (by omega)
 obtain ⟨b0, hb0⟩ := bool_of (fits (dA i.toNat) ∧ fits (dB i.toNat))
 obtain ⟨tt, htt⟩ : ∃ t : Cell6, t = if b0 = true then (canY (dA i.toNat), canY (dB i.toNat)) else noV := ⟨_, rfl⟩
 refine ⟨(canY (dA i.toNat)).1, (canY (dB i.toNat)).1, tt.1.1, tt.2.1, b0, intsL (canY (dA i.toNat)).2.1, intsL (canY (dB i.toNat)).2.1, intsL tt.1.2.1, intsL tt.2.2.1, (canY (dA i.toNat)).2.2, (canY (dB i.toNat)).2.2, tt.1.2.2, tt.2.2.2, ?_, ?_, ?_, hb0, ?_⟩
 ·intro j hj0 hj
  obtain ⟨x1, x2, x3⟩ := hmul i j hi0 hj0 hi hj
  have k1 := Mg_b ((Mg.adj hm4 x2 hd).mono (Nat.le_refl _) (Nat.le_refl _)) (by omega) (by omega)
  have k2 := Mg_b (hb j.toNat (by omega)) (by omega) (by omega)
  have k3 := bS j.toNat (by omega)
  have k4 := Mg_b (Mg_solStep hm4 (show i.toNat < m by omega) hd hb (show j.toNat < m by omega)) (by omega) (by omega)
  have ha : aw.getD (i * n + j).toNat noY = canY (adjD m (dvY ys) (i.toNat * m + j.toNat)) := by rw [x1, haw, canL_get (by omega)]
  have hbj : bs.getD j.toNat noY = canY (dvY bs j.toNat) := (allY_CL hba j.toNat (by omega)).1
  refine ⟨i * n + j, (canY (adjD m (dvY ys) (i.toNat * m + j.toNat))).1, (canY (dvY bs j.toNat)).1, (canY (adjD m (dvY ys) (i.toNat * m + j.toNat) * dvY bs j.toNat)).1, _, intsL (canY (adjD m (dvY ys) (i.toNat * m + j.toNat))).2.1, intsL (canY (dvY bs j.toNat)).2.1, intsL (canY (adjD m (dvY ys) (i.toNat * m + j.toNat) * dvY bs j.toNat)).2.1, _, (canY (adjD m (dvY ys) (i.toNat * m + j.toNat))).2.2, (canY (dvY bs j.toNat)).2.2, (canY (adjD m (dvY ys) (i.toNat * m + j.toNat) * dvY bs j.toNat)).2.2, _, ⟨rfl, by omega, by omega⟩, by rw [ha], by rw [ha], by rw [ha], by rw [hbj], by rw [hbj], by rw [hbj], ?_, ?_, rfl, rfl, rfl⟩
  ·intro P' C'
   exact l4mul_fs C' (z1 := cZ (adjD m (dvY ys) (i.toNat * m + j.toNat))) (z2 := cZ (dvY bs j.toNat)) rfl rfl rfl rfl (by show _ = mk _ (cE (adjD m (dvY ys) (i.toNat * m + j.toNat))) * mk _ (cE (dvY bs j.toNat)); rw [mk_canon, mk_canon]) rfl rfl rfl (by show (cE (adjD m (dvY ys) (i.toNat * m + j.toNat))).natAbs ≤ _; omega) (by show (cE (dvY bs j.toNat)).natAbs ≤ _; omega) (by omega) (by omega)
  ·intro P' s u e C' h1 h2 h3
   rw [show (j + 1).toNat = j.toNat + 1 by omega]
   exact l4add_fs C' (z1 := cZ (psum (fun j => adjD m (dvY ys) (i.toNat * m + j) * dvY bs j) j.toNat)) (z2 := cZ (adjD m (dvY ys) (i.toNat * m + j.toNat) * dvY bs j.toNat)) h2 h1 rfl rfl (d := psum (fun j => adjD m (dvY ys) (i.toNat * m + j) * dvY bs j) (j.toNat + 1)) (by rw [h3]; show psum _ j.toNat + _ = mk _ (cE (psum _ j.toNat)) + mk _ (cE _); rw [mk_canon, mk_canon]) rfl rfl rfl (by rw [h3]; show (cE (psum _ j.toNat)).natAbs ≤ _; omega) (by show (cE (adjD m (dvY ys) (i.toNat * m + j.toNat) * dvY bs j.toNat)).natAbs ≤ _; omega) (by omega) (by omega)
 ·intro P' s u e C' h1 h2 h3
  refine ⟨?_, ?_⟩
  ·exact l4divB_fs C' (d1 := solS m (dvY ys) (dvY bs) i.toNat) (d2 := detD m (dvY ys)) (d := dA i.toNat) h1 h2 h3 hsv hpv hev h0 (bS m (Nat.le_refl _)) bdet (by rw [hdA]; rfl) rfl rfl rfl (by decide) (by decide) (by omega)
  ·exact l4divB_fs C' (d1 := solS m (dvY ys) (dvY bs) i.toNat) (d2 := detD m (dvY ys)) (d := dB i.toNat) h1 h2 h3 hsv hpv hev h0 (bS m (Nat.le_refl _)) bdet (by rw [hdB]; rfl) rfl rfl rfl (by decide) (by decide) (by omega)
 ·intro P' C'
  refine l7fits_fs C' (d1 := dA i.toNat) (d2 := dB i.toNat) rfl rfl rfl rfl rfl rfl (by rw [hdA]; exact Nat.le_trans bD3.1 (by decide)) (by rw [hdB]; exact Nat.le_trans bD2.1 (by decide)) hb0 ⟨fun h => ?_, fun h => ?_⟩
  ·rw [if_pos h] at htt; rw [htt]; exact ⟨rfl, rfl, rfl, rfl, rfl, rfl⟩
  ·rw [if_neg (by rw [h]; decide)] at htt; rw [htt]; exact ⟨rfl, rfl, rfl, rfl, rfl, rfl⟩
 ·intro h
  rw [if_pos h] at htt
  rw [htt]; rfl

theorem specSolve_fs (C : Cx P gl) {ys bs : List Cell3} {p q r : List PV} {n low : Int} {w : Bool} (hp : p = cells3 ys) (hq : q = cells3 bs) (hw : w = true ↔ (solOk n ys bs low ∧ detD n.toNat (dvY ys) ≠ 0) ∧ ∀ k, k < n.toNat → fits ((solLo n.toNat (dvY ys) (dvY bs) low) k) ∧ fits ((solHi n.toNat (dvY ys) (dvY bs) low) k))
  (h1 : w = true → r = cells6 (canV (solLo n.toNat (dvY ys) (dvY bs) low) (solHi n.toNat (dvY ys) (dvY bs) low) n.toNat)) (h2 : w = false → r = [])
  (hl : ys.length ≤ 2000000) (hy : ∀ y ∈ ys, y.2.1.length ≤ 2000000) (hbl2 : bs.length ≤ 2000000) (hby : ∀ y ∈ bs, y.2.1.length ≤ 2000000) :
  FS P gl 22 [.agg [I n, .lst p], .lst q, I low] (· = .tup [.lst r, B w]) := by
 obtain ⟨b0, hb0⟩ := bool_of (matOk n ys)
 obtain ⟨b1, hb1⟩ := bool_of (allY bs)
 obtain ⟨b2, hlb2⟩ : ∃ b, b = (decide (-200 ≤ low) && decide (low ≤ 200)) := ⟨_, rfl⟩
 obtain ⟨b3, hb3⟩ : ∃ b, b = ((bs.length : Int) != n) := ⟨_, rfl⟩
 obtain ⟨qf, hqf⟩ : ∃ qf, qf = if b1 = true then q else [] := ⟨_, rfl⟩
 have am := fun (P' : Program) (C' : Cx P' gl) => specMatOk_fs C' (n := n) (b := b0) hp hb0 hl hy
 have ft := fun (P' : Program) (C' : Cx P' gl) => l9fits_fs C' (q := qf) (b := b1) hq hb1 hbl2 hby (fun h => by rw [hqf, if_pos h]) (fun h => by rw [hqf, if_neg (by rw [h]; decide)])
 have lo := fun (P' : Program) (C' : Cx P' gl) => l7low_fs C' (n := low) (b := b2) hlb2
 have hql : q.length = bs.length := by rw [hq, cells3_len]
 have hallb : (b0 = true ∧ b3 = false ∧ b1 = true ∧ b2 = true) ↔ solOk n ys bs low := by
  rw [hb0, hb1, hlb2, hb3, bne_eq_false_iff_eq, Bool.and_eq_true, decide_eq_true_eq, decide_eq_true_eq]
  exact Iff.rfl
 by_cases hall : b0 = true ∧ b3 = false ∧ b1 = true ∧ b2 = true
 ·have ok := hallb.1 hall
  obtain ⟨rfl, hb3f, rfl, rfl⟩ := hall
  obtain ⟨ok1, okb, oka, okl⟩ := id ok
  obtain ⟨n1, n4, hyl, hya⟩ := ok1
  obtain ⟨m, hm⟩ : ∃ m, m = n.toNat := ⟨_, rfl⟩
  rw [← hm] at hw h1
  have hnn : n * n = ((m * m : Nat) : Int) := by rw [Int.natCast_mul, hm, Int.toNat_of_nonneg (by omega)]
  obtain ⟨N, hN⟩ : ∃ N, N = m * m := ⟨_, rfl⟩
  have hN16 : N ≤ 16 := by have := Nat.mul_le_mul (show m ≤ 4 by omega) (show m ≤ 4 by omega); omega
  obtain ⟨sv, hsv⟩ : ∃ s, s = (canY (detD m (dvY ys))).1 := ⟨_, rfl⟩
  obtain ⟨pv, hpv⟩ : ∃ p, p = intsL (canY (detD m (dvY ys))).2.1 := ⟨_, rfl⟩
  obtain ⟨ev, hev⟩ : ∃ e, e = (canY (detD m (dvY ys))).2.2 := ⟨_, rfl⟩
  have g1 := fun (P' : Program) (C' : Cx P' gl) => l8det_fs C' (d := dvY ys) (n := n) (u0 := sv) (r := pv) (f := ev) hp (allY_CL hya) n1 n4 hyl (by rw [← hm]; exact hsv) (by rw [← hm]; exact hpv) (by rw [← hm]; exact hev)
  have hz : detD m (dvY ys) = 0 ↔ pv.length = 0 := by
   rw [hpv, ints_len]
   show _ ↔ (dg (cZ (detD m (dvY ys))).natAbs).length = 0
   rw [dg_len0, Int.natAbs_eq_zero, cZ_eq_zero]
  by_cases hd0 : detD m (dvY ys) = 0
  ·have hwf : w = false := by
    cases hwc : w with
    | false => rfl
    | true => exact absurd hd0 (hw.1 hwc).1.2
   have e1 := h2 hwf
   have hpl := hz.1 hd0
   have hbn : (bs.length : Int) = n := okb
   clear h1 h2 hw hb0 hb1 hlb2 hb3 hb3f hp hq hy hby hallb hz hsv hpv hev hya oka hyl hl hbl2 hd0 hqf ok okb
   rw [e1, hwf]
   obtain ⟨rfl, hG⟩ := C
   refine FS_ofT (args := fun A => [.agg [I n, .lst p], .lst q, I low]) (R := fun A rr => rr = .tup [.lst [], B false]) Tryz.hT Tryz.mix Tryz.func22 rfl rfl (Nat.le_of_ble_eq_true rfl) ?_
   generalize hP : Tryz.prog = P
   intro A hA
   have C : Tryz.Cx P gl := ⟨hP.symm, hG⟩
   have hI : intsL = A.ints := by subst hA; rfl
   have q1 : A.bnot true = false := by subst hA; rfl
   have q2 : A.bnot false = true := by subst hA; rfl
   have q3 : ∀ x, A.pick false true x = x := fun x => by subst hA; cases x <;> rfl
   have q4 : ∀ x, A.pick true true x = true := fun x => by subst hA; cases x <;> rfl
   have q5 : A.ne (A.cast (A.len q)) n = false := by
    clear am ft lo g1
    subst hA
    show (((q.length : Nat) : Int) != n) = false
    rw [hql, hbn]
    simp
   have q6 : A.eq (A.cast (A.len pv)) 0 = true := by
    clear am ft lo g1
    subst hA
    show (((pv.length : Nat) : Int) == 0) = true
    rw [hpl]
    rfl
   iterate 2 all_goals try cbv; with_reducible repeat' first | exact ⟨⟩ | apply And.intro | intro _
   all_goals try exact oI
   first | (refine callS hA rfl (ft P C) ?_; rintro _ rfl) | refine ⟨_, ft P C, ?_⟩
   iterate 2 all_goals try cbv; with_reducible repeat' first | exact ⟨⟩ | apply And.intro | intro _
   all_goals try exact oI
   first | (refine callS hA rfl (am P C) ?_; rintro _ rfl) | refine ⟨_, am P C, ?_⟩
   iterate 2 all_goals try cbv; with_reducible repeat' first | exact ⟨⟩ | apply And.intro | intro _
   all_goals try exact oI
   all_goals try simp only [q1, q2, q3, q4, q5, q6]
   refine ⟨_, fun _ => lo P C, ?_⟩
   iterate 2 all_goals try cbv; with_reducible repeat' first | exact ⟨⟩ | apply And.intro | intro _
   all_goals try exact oI
   all_goals try simp only [q1, q2, q3, q4, q5, q6]
   iterate 2 all_goals try cbv; with_reducible repeat' first | exact ⟨⟩ | apply And.intro | intro _
   all_goals try exact oI
   first | (refine callS hA rfl (g1 P C) ?_; rintro _ rfl) | refine ⟨_, g1 P C, ?_⟩
   iterate 2 all_goals try cbv; with_reducible repeat' first | exact ⟨⟩ | apply And.intro | intro _
   all_goals try exact oI
   all_goals try simp only [q1, q2, q3, q4, q5, q6]
   iterate 2 all_goals try cbv; with_reducible repeat' first | exact ⟨⟩ | apply And.intro | intro _
   all_goals try exact oI
  ·obtain ⟨aw, haw⟩ : ∃ aw, aw = canL (adjD m (dvY ys)) N := ⟨_, rfl⟩
   obtain ⟨pw, hpw⟩ : ∃ pw, pw = cells3 aw := ⟨_, rfl⟩
   have g3 := fun (P' : Program) (C' : Cx P' gl) => l9adj_fs C' (d := dvY ys) (n := n) (r := pw) hp (allY_CL hya) n1 n4 hyl (by rw [hpw, haw, ← hm, hN]; congr 2; omega)
   obtain ⟨dA, hdA⟩ : ∃ f, f = solLo m (dvY ys) (dvY bs) low := ⟨_, rfl⟩
   obtain ⟨dB, hdB⟩ : ∃ f, f = solHi m (dvY ys) (dvY bs) low := ⟨_, rfl⟩
   have hrow := fun (i : Int) (hi0 : 0 ≤ i) (hi : i < n) => solRowR (gl := gl) (low := low) hm hN n1 n4 (by omega) (by omega) hya oka haw (by omega) hd0 hsv hpv hev hdA hdB hi0 hi
   obtain ⟨S, hS⟩ : ∃ S : Nat → Nat → Dyadic, S = fun a => psum (fun j => adjD m (dvY ys) (a * m + j) * dvY bs j) := ⟨_, rfl⟩
   have hS0 : ∀ a, S a 0 = 0 := fun a => by rw [hS]; rfl
   have hrow2 : ∀ i : Int, 0 ≤ i → i < n → ∃ (s1 s2 t1 t2 b0 : Bool) (p1 p2 x1 x2 : List PV) (e1 e2 f1 f2 : Int), (∀ j : Int, 0 ≤ j → j < n → ∃ (x : Int) (sa sb sc sd : Bool) (pa pb pc pd : List PV) (ea eb ec ed : Int), (x = i * n + j ∧ 0 ≤ x ∧ x < N) ∧ (aw.getD x.toNat noY).1 = sa ∧ intsL (aw.getD x.toNat noY).2.1 = pa ∧ (aw.getD x.toNat noY).2.2 = ea ∧ (bs.getD j.toNat noY).1 = sb ∧ intsL (bs.getD j.toNat noY).2.1 = pb ∧ (bs.getD j.toNat noY).2.2 = eb ∧ (∀ P', Cx P' gl → FS P' gl 71 [.agg [B sa, .lst pa, I ea], .agg [B sb, .lst pb, I eb]] (· = .agg [B sc, .lst pc, I ec])) ∧ (∀ (P' : Program) (s : Bool) (u : List PV) (e : Int), Cx P' gl → s = (canY (S i.toNat j.toNat)).1 → u = intsL (canY (S i.toNat j.toNat)).2.1 → e = (canY (S i.toNat j.toNat)).2.2 → FS P' gl 70 [.agg [B s, .lst u, I e], .agg [B sc, .lst pc, I ec]] (· = .agg [B sd, .lst pd, I ed])) ∧ sd = (canY (S i.toNat (j + 1).toNat)).1 ∧ pd = intsL (canY (S i.toNat (j + 1).toNat)).2.1 ∧ ed = (canY (S i.toNat (j + 1).toNat)).2.2) ∧ (∀ (P' : Program) (s : Bool) (u : List PV) (e : Int), Cx P' gl → s = (canY (S i.toNat m)).1 → u = intsL (canY (S i.toNat m)).2.1 → e = (canY (S i.toNat m)).2.2 → FS P' gl 73 [.agg [B s, .lst u, I e], .agg [B sv, .lst pv, I ev], I low, I 3] (· = .agg [B s1, .lst p1, I e1]) ∧ FS P' gl 73 [.agg [B s, .lst u, I e], .agg [B sv, .lst pv, I ev], I low, I 2] (· = .agg [B s2, .lst p2, I e2])) ∧ (∀ P', Cx P' gl → FS P' gl 72 [.agg [B s1, .lst p1, I e1, B s2, .lst p2, I e2]] (· = .tup [.agg [B t1, .lst x1, I f1, B t2, .lst x2, I f2], B b0])) ∧ (b0 = true ↔ fits (dA i.toNat) ∧ fits (dB i.toNat)) ∧ (b0 = true → PV.agg [B t1, .lst x1, I f1, B t2, .lst x2, I f2] = cell6 (canY (dA i.toNat), canY (dB i.toNat))) := by rw [hS]; exact hrow
   clear hrow
   rw [← hdA, ← hdB] at hw h1
   have hpl : pv.length ≠ 0 := fun h => hd0 (hz.2 h)
   have hbn : (bs.length : Int) = n := okb
   have hw' : w = true ↔ ∀ k, k < m → fits (dA k) ∧ fits (dB k) := by rw [hw]; exact ⟨fun h => h.2, fun h => ⟨⟨ok, hd0⟩, h⟩⟩
   have hawl : aw.length = N := by rw [haw, canL_len]
   have hbm : bs.length = m := by omega
   have hqm : q.length = m := by omega
   clear hw hb0 hb1 hlb2 hb3 hb3f hp hy hby hallb hz hsv hpv hev hya oka hyl hl hbl2 hd0 hqf ok okb haw hdA hdB hS hnn
   obtain ⟨rfl, hG⟩ := C
   refine FS_ofT (args := fun A => [.agg [I n, .lst p], .lst q, I low]) (R := fun A rr => rr = .tup [.lst r, B w]) Tryz.hT Tryz.mix Tryz.func22 rfl rfl (Nat.le_of_ble_eq_true rfl) ?_
   generalize hP : Tryz.prog = P
   intro A hA
   have C : Tryz.Cx P gl := ⟨hP.symm, hG⟩
   have hI : intsL = A.ints := by subst hA; rfl
   have q1 : A.bnot true = false := by subst hA; rfl
   have q2 : A.bnot false = true := by subst hA; rfl
   have q3 : ∀ x, A.pick false true x = x := fun x => by subst hA; cases x <;> rfl
   have q4 : ∀ x, A.pick true true x = true := fun x => by subst hA; cases x <;> rfl
   have q5 : A.ne (A.cast (A.len q)) n = false := by
    clear am ft lo g1 g3 hrow2
    subst hA
    show (((q.length : Nat) : Int) != n) = false
    rw [hql, hbn]
    simp
   have q6 : A.eq (A.cast (A.len pv)) 0 = false := by
    clear am ft lo g1 g3 hrow2
    subst hA
    show (((pv.length : Nat) : Int) == 0) = false
    rw [beq_eq_false_iff_ne]
    omega
   iterate 2 all_goals try cbv; with_reducible repeat' first | exact ⟨⟩ | apply And.intro | intro _
   all_goals try exact oI
   first | (refine callS hA rfl (ft P C) ?_; rintro _ rfl) | refine ⟨_, ft P C, ?_⟩
   iterate 2 all_goals try cbv; with_reducible repeat' first | exact ⟨⟩ | apply And.intro | intro _
   all_goals try exact oI
   first | (refine callS hA rfl (am P C) ?_; rintro _ rfl) | refine ⟨_, am P C, ?_⟩
   iterate 2 all_goals try cbv; with_reducible repeat' first | exact ⟨⟩ | apply And.intro | intro _
   all_goals try exact oI
   all_goals try simp only [q1, q2, q3, q4, q5, q6]
   refine ⟨_, fun _ => lo P C, ?_⟩
   iterate 2 all_goals try cbv; with_reducible repeat' first | exact ⟨⟩ | apply And.intro | intro _
   all_goals try exact oI
   all_goals try simp only [q1, q2, q3, q4, q5, q6]
   iterate 2 all_goals try cbv; with_reducible repeat' first | exact ⟨⟩ | apply And.intro | intro _
   all_goals try exact oI
   first | (refine callS hA rfl (g1 P C) ?_; rintro _ rfl) | refine ⟨_, g1 P C, ?_⟩
   iterate 2 all_goals try cbv; with_reducible repeat' first | exact ⟨⟩ | apply And.intro | intro _
   all_goals try exact oI
   all_goals try simp only [q1, q2, q3, q4, q5, q6]
   iterate 2 all_goals try cbv; with_reducible repeat' first | exact ⟨⟩ | apply And.intro | intro _
   all_goals try exact oI
   first | (refine callS hA rfl (g3 P C) ?_; rintro _ rfl) | refine ⟨_, g3 P C, ?_⟩
   clear am ft lo g1 g3 q1 q2 q3 q4 q5 q6
   iterate 2 all_goals try cbv; with_reducible repeat' first | exact ⟨⟩ | apply And.intro | intro _
   all_goals try exact oI
   refine loopI hA [.slot 12 110 6] (ι := Int × List PV) (fun x => [(12, .own 3), (13, .pv (I x.1))]) (fun x => [(3, .row 110 6 x.2)]) (fun x => (n - x.1).toNat) (fun x => 0 ≤ x.1 ∧ x.1 ≤ n ∧ x.2 = cells6 (canV dA dB x.1.toNat) ∧ ∀ k, k < x.1.toNat → fits (dA k) ∧ fits (dB k)) (0, []) (by rfl) ?_ ?_ ?_
   all_goals try exact tI
   ·exact ⟨Int.le_refl _, by simp only; omega, rfl, fun k hk => by simp at hk⟩
   rintro ⟨i, q0⟩ ⟨hi0, hi1, hq0, hf⟩
   simp only at hi0 hi1 hq0 hf
   have hq0l : q0.length ≤ 1000 := by rw [hq0, c6len, canV_len]; omega
   have hnx : fits (dA i.toNat) ∧ fits (dB i.toNat) → ∀ k, k < i.toNat + 1 → fits (dA k) ∧ fits (dB k) := by
    intro h k hk
    by_cases hki : k = i.toNat
    ·rw [hki]; exact h
    ·exact hf k (by omega)
   have hfin : i = n → w = true := fun h => hw'.2 (by rw [hm, ← h]; exact hf)
   have hfail : i < n → ¬(fits (dA i.toNat) ∧ fits (dB i.toNat)) → w = false ∧ r = [] := by
    intro h3 h4
    have : w = false := by
     cases hwc : w with
     | false => rfl
     | true => exact absurd (hw'.1 hwc i.toNat (by omega)) h4
    exact ⟨this, h2 this⟩
   have hdone : i = n → q0 = r := fun h => by rw [hq0, h1 (hfin h), hm, h]
   have hq2 : q0 ++ [cell6 (canY (dA i.toNat), canY (dB i.toNat))] = cells6 (canV dA dB (i.toNat + 1)) := by rw [hq0, canV_succ, ← c6app]; rfl
   clear hf hw' hq0 h1 h2
   iterate 2 all_goals try cbv; with_reducible repeat' first | exact ⟨⟩ | apply And.intro | intro _
   all_goals try exact oI
   ·rename_i g
    have gi : i < n := by clear hrow2 hnx hfin hfail hq2 hdone; (subst hA; subst_vars; simp only [AR.std, natCast_eq, sI, reduceCtorEq] at *; try simp (disch := omega) only [AR.std, natCast_eq, sI, reduceCtorEq] at *); omega
    have hi2 : i + 1 ≤ n := by omega
    obtain ⟨s1, s2, t1, t2, b0, p1, p2, x1, x2, e1, e2, f1, f2, cs, cdiv, cfit, hb0, hc6⟩ := hrow2 i hi0 gi
    have hfl := hfail gi
    have hin : i * n ≤ 12 := by
     have := Int.mul_le_mul_of_nonneg_right (show i ≤ 3 by omega) (show 0 ≤ n by omega)
     omega
    have hin0 : 0 ≤ i * n := Int.mul_nonneg hi0 (by omega)
    clear g hrow2 hfin hdone hfail
    refine loopI hA [.nilc 4 1] (ι := Int × Bool × List PV × Int) (fun x => [(15, .pv (I x.1))]) (fun x => [(4, .box [.pv (B x.2.1), .pv (.lst x.2.2.1), .pv (I x.2.2.2)])]) (fun x => (n - x.1).toNat) (fun x => 0 ≤ x.1 ∧ x.1 ≤ n ∧ x.2.1 = (canY (S i.toNat x.1.toNat)).1 ∧ x.2.2.1 = intsL (canY (S i.toNat x.1.toNat)).2.1 ∧ x.2.2.2 = (canY (S i.toNat x.1.toNat)).2.2) (0, false, [], 0) (by rfl) ?_ ?_ ?_
    all_goals try exact tI
    ·refine ⟨Int.le_refl _, by simp only; omega, ?_, ?_, ?_⟩ <;> simp only [Int.toNat_zero, hS0, canY_zero] <;> rfl
    rintro ⟨j, s, u, e⟩ ⟨hj0, hj1, hs, hu, he⟩
    simp only at hj0 hj1 hs hu he
    have hdv : j = n → (∀ P', Cx P' gl → FS P' gl 73 [.agg [B s, .lst u, I e], .agg [B sv, .lst pv, I ev], I low, I 3] (· = .agg [B s1, .lst p1, I e1])) ∧ (∀ P', Cx P' gl → FS P' gl 73 [.agg [B s, .lst u, I e], .agg [B sv, .lst pv, I ev], I low, I 2] (· = .agg [B s2, .lst p2, I e2])) := by
     intro h
     rw [h, ← hm] at hs hu he
     exact ⟨fun P' C' => (cdiv P' s u e C' hs hu he).1, fun P' C' => (cdiv P' s u e C' hs hu he).2⟩
    have hst : ∀ _ : Unit, j < n → ∃ (x : Int) (sa sb sc sd : Bool) (pa pb pc pd : List PV) (ea eb ec ed : Int), (x = i * n + j ∧ 0 ≤ x ∧ x < N) ∧ (A.gb (A.el pw (A.nat x)) 0 = sa ∧ A.gl (A.el pw (A.nat x)) 1 = pa ∧ A.gi (A.el pw (A.nat x)) 2 = ea) ∧ (A.gb (A.el q (A.nat j)) 0 = sb ∧ A.gl (A.el q (A.nat j)) 1 = pb ∧ A.gi (A.el q (A.nat j)) 2 = eb) ∧ (∀ P', Cx P' gl → FS P' gl 71 [.agg [B sa, .lst pa, I ea], .agg [B sb, .lst pb, I eb]] (· = .agg [B sc, .lst pc, I ec])) ∧ (∀ P', Cx P' gl → FS P' gl 70 [.agg [B s, .lst u, I e], .agg [B sc, .lst pc, I ec]] (· = .agg [B sd, .lst pd, I ed])) ∧ sd = (canY (S i.toNat (j + 1).toNat)).1 ∧ pd = intsL (canY (S i.toNat (j + 1).toNat)).2.1 ∧ ed = (canY (S i.toNat (j + 1).toNat)).2.2 := by
     intro _ hj
     obtain ⟨x, sa, sb, sc, sd, pa, pb, pc, pd, ea, eb, ec, ed, ⟨m1, m2, m3⟩, x1, x2, x3, x4, x5, x6, x7, x8, x9⟩ := cs j hj0 hj
     have w1 : A.el pw (A.nat x) = .agg [B sa, .lst pa, I ea] := by
      rw [← x1, ← x2, ← x3, hpw]
      subst hA
      exact c3el (toNat_ltM m2 m3 hawl.symm)
     have w2 : A.el q (A.nat j) = .agg [B sb, .lst pb, I eb] := by
      rw [← x4, ← x5, ← x6, hq]
      subst hA
      exact c3el (toNat_ltK hj0 hj hm hbm)
     refine ⟨x, sa, sb, sc, sd, pa, pb, pc, pd, ea, eb, ec, ed, ⟨m1, m2, m3⟩, ?_, ?_, x7, fun P' C' => x8 P' s u e C' hs hu he, x9⟩
     ·rw [w1]; subst hA; exact ⟨rfl, rfl, rfl⟩
     ·rw [w2]; subst hA; exact ⟨rfl, rfl, rfl⟩
    have hpwl : pw.length = N := by rw [hpw, cells3_len, hawl]
    have b4 : j < n → i * n + j < N := fun hj => by
     obtain ⟨x, sa, sb, sc, sd, pa, pb, pc, pd, ea, eb, ec, ed, ⟨m1, m2, m3⟩, _⟩ := cs j hj0 hj
     rw [← m1]; exact m3
    clear hs hu he cs cdiv
    iterate 2 all_goals try cbv; with_reducible repeat' first | exact ⟨⟩ | apply And.intro | intro _
    all_goals try exact oI
    ·rename_i g
     have gj : j < n := by clear hst hdv hnx hfl hq2 cfit hb0 hc6; (subst hA; subst_vars; simp only [AR.std, natCast_eq, sI, reduceCtorEq] at *; try simp (disch := omega) only [AR.std, natCast_eq, sI, reduceCtorEq] at *); omega
     obtain ⟨x, sa, sb, sc, sd, pa, pb, pc, pd, ea, eb, ec, ed, ⟨m1, m2, m3⟩, ⟨x1, x2, x3⟩, ⟨x4, x5, x6⟩, x7, x8, x9, x10, x11⟩ := hst () gj
     have hj2 : j + 1 ≤ n := by omega
     have hjq : j.toNat < q.length := toNat_ltK hj0 gj hm hqm
     clear hst hdv g hnx hfl cfit hb0 hc6 hq2
     have hx1 : A.add .i64 (A.mul .i64 i n) j = x := by clear x1 x2 x3 x4 x5 x6 x7 x8 x9 x10 x11; (subst hA; subst_vars; simp only [AR.std, natCast_eq, sI, reduceCtorEq] at *; try simp (disch := omega) only [AR.std, natCast_eq, sI, reduceCtorEq] at *)
     all_goals try simp only [hx1, x1, x2, x3, x4, x5, x6]
     iterate 2 all_goals try cbv; with_reducible repeat' first | exact ⟨⟩ | apply And.intro | intro _
     all_goals try exact oI
     all_goals try simp only [hx1, x1, x2, x3, x4, x5, x6]
     first | (refine callS hA rfl (x7 P C) ?_; rintro _ rfl) | refine ⟨_, x7 P C, ?_⟩
     iterate 2 all_goals try cbv; with_reducible repeat' first | exact ⟨⟩ | apply And.intro | intro _
     all_goals try exact oI
     all_goals try simp only [hx1, x1, x2, x3, x4, x5, x6]
     first | (refine callS hA rfl (x8 P C) ?_; rintro _ rfl) | refine ⟨_, x8 P C, ?_⟩
     clear x7 x8
     iterate 2 all_goals try cbv; with_reducible repeat' first | exact ⟨⟩ | apply And.intro | intro _
     all_goals try exact oI
     clear hx1 x1 x2 x3 x4 x5 x6
     obtain ⟨y1, hy1⟩ : ∃ y, y = j + 1 := ⟨_, rfl⟩
     obtain ⟨y2, hy2⟩ : ∃ y, y = sd := ⟨_, rfl⟩
     obtain ⟨y3, hy3⟩ : ∃ y, y = pd := ⟨_, rfl⟩
     obtain ⟨y4, hy4⟩ : ∃ y, y = ed := ⟨_, rfl⟩
     refine ⟨⟨(y1, y2, y3, y4), ?_⟩, ?_, ?_⟩
     rotate_left
     ·cbv
      exact nI
     ·(subst hA; subst_vars; simp only [AR.std, natCast_eq, sI, reduceCtorEq] at *; try simp (disch := omega) only [AR.std, natCast_eq, sI, reduceCtorEq] at *); omega
     ·rw [hy1, hy2, hy3, hy4]
      exact ⟨by simp only; omega, hj2, x9, x10, x11⟩
    ·rename_i g
     obtain ⟨dv3, dv2⟩ := hdv (by clear hst hdv hnx hfl hq2 cfit hb0 hc6; (subst hA; subst_vars; simp only [AR.std, natCast_eq, sI, reduceCtorEq] at *; try simp (disch := omega) only [AR.std, natCast_eq, sI, reduceCtorEq] at *); omega)
     clear hst hdv g
     first | (refine callS hA rfl (dv3 P C) ?_; rintro _ rfl) | refine ⟨_, dv3 P C, ?_⟩
     iterate 2 all_goals try cbv; with_reducible repeat' first | exact ⟨⟩ | apply And.intro | intro _
     all_goals try exact oI
     first | (refine callS hA rfl (dv2 P C) ?_; rintro _ rfl) | refine ⟨_, dv2 P C, ?_⟩
     iterate 2 all_goals try cbv; with_reducible repeat' first | exact ⟨⟩ | apply And.intro | intro _
     all_goals try exact oI
     first | (refine callS hA rfl (cfit P C) ?_; rintro _ rfl) | refine ⟨_, cfit P C, ?_⟩
     clear dv3 dv2 cfit
     cases b0 with
     | false =>
      obtain ⟨e7, e8⟩ := hfl (fun h => absurd (hb0.2 h) (by decide))
      subst e7; subst e8
      clear hb0 hc6 hnx hfl hq2
      iterate 2 all_goals try cbv; with_reducible repeat' first | exact ⟨⟩ | apply And.intro | intro _
      all_goals try exact oI
      iterate 2 all_goals try cbv; with_reducible repeat' first | exact ⟨⟩ | apply And.intro | intro _
      all_goals try exact oI
     | true =>
      have hnx2 := hnx (hb0.1 rfl)
      have hc := hc6 rfl
      rw [← hc] at hq2
      clear hc hb0 hc6 hnx hfl
      obtain ⟨r', hr'⟩ : ∃ r', r' = q0 ++ [.agg [B t1, .lst x1, I f1, B t2, .lst x2, I f2]] := ⟨_, rfl⟩
      have hra : A.app q0 [.agg [B t1, .lst x1, I f1, B t2, .lst x2, I f2]] = r' := by rw [hr']; subst hA; rfl
      rw [← hr'] at hq2
      clear hr'
      iterate 2 all_goals try cbv; with_reducible repeat' first | exact ⟨⟩ | apply And.intro | intro _
      all_goals try exact oI
      iterate 2 all_goals try cbv; with_reducible repeat' first | exact ⟨⟩ | apply And.intro | intro _
      all_goals try exact oI
      all_goals try exact okA_of hA (by intro x hx; rw [List.mem_singleton.1 hx]; exact ⟨rfl, rfl⟩)
      all_goals try exact cap_of hA (by simp only [List.length_singleton]; omega)
      all_goals try simp only [hra]
      clear hra
      obtain ⟨y1, hy1⟩ : ∃ y, y = i + 1 := ⟨_, rfl⟩
      obtain ⟨y2, hy2⟩ : ∃ y, y = r' := ⟨_, rfl⟩
      refine ⟨⟨(y1, y2), ?_⟩, ?_, ?_⟩
      rotate_left
      ·cbv
       exact nI
      ·(subst hA; subst_vars; simp only [AR.std, natCast_eq, sI, reduceCtorEq] at *; try simp (disch := omega) only [AR.std, natCast_eq, sI, reduceCtorEq] at *); omega
      ·rw [hy1, hy2]
       refine ⟨by simp only; omega, hi2, ?_, ?_⟩ <;> simp only <;> rw [show (i + 1).toNat = i.toNat + 1 by omega]
       ·exact hq2
       ·exact hnx2
   ·rename_i g
    have gi : i = n := by clear hrow2 hnx hfin hfail hq2 hdone; (subst hA; subst_vars; simp only [AR.std, natCast_eq, sI, reduceCtorEq] at *; try simp (disch := omega) only [AR.std, natCast_eq, sI, reduceCtorEq] at *); omega
    have hwt := hfin gi
    have e := hdone gi
    simp only [e, hwt]
 ·have hwf : w = false := by
   cases hwc : w with
   | false => rfl
   | true => exact absurd (hallb.2 (hw.1 hwc).1.1) hall
  have e1 := h2 hwf
  clear h1 h2 hw hb0 hb1 hlb2 hp hq hy hby hallb hl hbl2 hqf
  rw [e1, hwf]
  refine gS C func22 rfl rfl rfl fun A hA hI => ?_
  have q5 : A.ne (A.cast (A.len q)) n = b3 := by
   clear am ft lo
   subst hA
   show (((q.length : Nat) : Int) != n) = b3
   rw [hql, hb3]
  clear hb3
  iterate 2 all_goals try cbv; with_reducible repeat' first | exact ⟨⟩ | apply And.intro | intro _
  all_goals try exact oI
  first | (refine callS hA rfl (ft P C) ?_; rintro _ rfl) | refine ⟨_, ft P C, ?_⟩
  iterate 2 all_goals try cbv; with_reducible repeat' first | exact ⟨⟩ | apply And.intro | intro _
  all_goals try exact oI
  first | (refine callS hA rfl (am P C) ?_; rintro _ rfl) | refine ⟨_, am P C, ?_⟩
  iterate 2 all_goals try cbv; with_reducible repeat' first | exact ⟨⟩ | apply And.intro | intro _
  all_goals try exact oI
  all_goals try simp only [q5]
  refine ⟨_, fun _ => lo P C, ?_⟩
  iterate 2 all_goals try cbv; with_reducible repeat' first | exact ⟨⟩ | apply And.intro | intro _
  all_goals try exact oI
  all_goals try simp only [q5] at *
  iterate 2 all_goals try cbv; with_reducible repeat' first | exact ⟨⟩ | apply And.intro | intro _
  all_goals try exact oI
  all_goals (
   exfalso
   rename_i gg
   clear am ft lo hI
   try simp only [q5] at gg
   clear q5
   subst hA
   revert gg hall
   cases b0 <;> cases b1 <;> cases b2 <;> cases b3 <;> intro hall gg <;> first | exact hall ⟨rfl, rfl, rfl, rfl⟩ | exact absurd gg (by decide))

end Tryz
end Go.Proofs
