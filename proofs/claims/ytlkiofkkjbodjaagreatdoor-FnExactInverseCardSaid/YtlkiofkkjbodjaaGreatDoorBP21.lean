/- Contracts: Inverse in the program. -/
import Derived.Test.YtlkiofkkjbodjaaGreatDoorBP19
import Derived.Test.YtlkiofkkjbodjaaGreatDoorBN40a
import Derived.Test.YtlkiofkkjbodjaaGreatDoorBPeTs
set_option maxHeartbeats 4000000
set_option maxRecDepth 100000
namespace Go.Proofs
open Go Go.Pe Go.Dg
namespace Tryz
set_option linter.unusedSimpArgs false
set_option linter.unusedVariables false
variable {P : Program} {gl : List (Nat × Obj)}

theorem aAC {r x : List PV} {l : List Int} (hx : x = aA l) : ∀ b ∈ [Blk.tree 64 3 3 r, Blk.row 3 1 x], fU b := by
 intro b hb
 simp only [List.mem_cons, List.not_mem_nil, or_false] at hb
 rcases hb with rfl | rfl
 ·simp [fU]
 ·exact gI hx _ _

theorem vI (C : Cx P gl) {ys : List aC} {p r x : List PV} {n low g : Int} {v : Bool} (hp : p = aB ys) (ok : gM n ys ∧ -200 ≤ low ∧ low ≤ 200) (hd0 : cF n.toNat (dvY ys) ≠ 0) (fit : ∀ k, k < ys.length → fits ((dH n.toNat (dvY ys) low) k)) (fitD : fits (dM n (dvY ys) low)) (nz : (dM n (dvY ys) low) ≠ 0) (hr : r = aB (cW (dH n.toNat (dvY ys) low) ys.length)) (hx : x = aA (dg (cZ (dM n (dvY ys) low)).natAbs)) (hv : v = decide (cZ (dM n (dvY ys) low) < 0)) (hg : g = cE (dM n (dvY ys) low))
  (hl : ys.length ≤ 2000000) (hy : ∀ y ∈ ys, y.2.1.length ≤ 2000000) :
  FX P gl 34 [] [.pv (.agg [I n, .lst p]), .pv (I low)] (fun own rr => own = [.tree 64 3 3 r, .row 3 1 x] ∧ rr = .tup [.agg [.pv (I n), .own 0], .agg [.pv (B v), .own 1, .pv (I g)], .pv (B true)]) := by
 obtain ⟨ok1, okl⟩ := ok
 have am := fun (P' : Program) (C' : Cx P' gl) => iA C' (n := n) (b := true) hp ⟨fun _ => ok1, fun _ => rfl⟩ hl hy
 have lo := fun (P' : Program) (C' : Cx P' gl) => mO C' (n := low) (b := true) (by rw [decide_eq_true okl.1, decide_eq_true okl.2]; rfl)
 obtain ⟨n1, n4, hyl, hya⟩ := ok1
 have aDM := vE n1 n4 hyl
 have g1 := fun (P' : Program) (C' : Cx P' gl) => nU C' (n := n) hp hl
 obtain ⟨ws, w1, w2, w3⟩ := kW (low := low) hya n1 n4 hyl hd0 (by omega)
 obtain ⟨pw, hpw⟩ : ∃ pw, pw = aB ws := ⟨_, rfl⟩
 have gv := fun (P' : Program) (C' : Cx P' gl) => w3 P' gl p pw C' hp hpw
 obtain ⟨ts, t1, t2, t3⟩ := nS ((qO hya).mono (L' := 4000) (E' := 3000) (by omega) (by omega)) (w2.mono (L' := 4000) (E' := 3000) (by omega) (by omega)) (by omega) (by omega) (by omega) n4 hyl w1
 obtain ⟨pt, hpt⟩ : ∃ pt, pt = aB ts := ⟨_, rfl⟩
 have gt := fun (P' : Program) (C' : Cx P' gl) => t3 P' gl p pw pt C' hp hpw hpt
 obtain ⟨is, i1, i2, i3⟩ := pS (n := n) (by omega) n4
 obtain ⟨pi, hpi⟩ : ∃ pi, pi = aB is := ⟨_, rfl⟩
 have gi := fun (P' : Program) (C' : Cx P' gl) => i3 P' gl pi C' hpi
 obtain ⟨us, u1, u2, u3⟩ := nV t2 (i2.mono (L' := 4000 + 4000 + 4 * (3000 + 3000 + 2)) (E' := 3000 + 3000) (by omega) (by omega)) (by omega) (by omega) (by omega) n4 t1 i1
 obtain ⟨pu, hpu⟩ : ∃ pu, pu = aB us := ⟨_, rfl⟩
 have gm := fun (P' : Program) (C' : Cx P' gl) => u3 P' gl pt pi pu C' hpt hpi hpu
 obtain ⟨y, y1, y2⟩ := pP u2 (by omega) (by omega) (by omega) n4 u1
 obtain ⟨pn, hpn⟩ : ∃ pn, pn = aA y.2.1 := ⟨_, rfl⟩
 obtain ⟨sn, hsn⟩ : ∃ s, s = y.1 := ⟨_, rfl⟩
 obtain ⟨en, hen⟩ : ∃ e, e = y.2.2 := ⟨_, rfl⟩
 have gn := fun (P' : Program) (C' : Cx P' gl) => y2 P' gl pu pn C' hpu hpn
 rw [← hsn, ← hen] at gn
 have y3 : X (dM n (dvY ys) low) 62018 6000 y := y1.mono (by omega) (by omega)
 obtain ⟨zn, m1, m2, m3, m4, m5⟩ := y3
 have hlw : ws.length = ys.length := by omega
 have hpz : pn = aA (dg zn.natAbs) := by rw [hpn, m2]
 have hsz : sn = decide (zn < 0) := by rw [hsn, m1]
 have hdz : (dM n (dvY ys) low) = mk zn en := by rw [hen]; exact m3
 have hez : en.natAbs ≤ 6000 := by rw [hen]; exact m5
 have hzn : zn ≠ 0 := fun h => nz (by rw [hdz, h, mk_zero])
 have wn : ∀ P', Cx P' gl → FN P' gl 95 [.agg [I n, .lst pw], .agg [B sn, .lst pn, I en]] (fun own rr => own = [.tree 64 3 3 r, .row 3 1 x] ∧ rr = .tup [.agg [.pv (I n), .own 0], .agg [.pv (B v), .own 1, .pv (I g)], .pv (B true)]) := fun P' C' => kO (wS C' (n := n) (fun P2 C2 => rR C2 (n := n) (r := r) hpw w2 (by omega) (by omega) (fun k hk => fit k (by omega)) (by rw [hr, hlw]) (by omega)) (fun P2 C2 => aQ1 C2 hpz hsz hdz hx hv hg (by omega) (by omega) hzn fitD)) (by rintro _ _ ⟨rfl, rfl⟩; exact ⟨aAC hx, rfl⟩)
 clear w1 w2 w3 t1 t2 t3 i1 i2 i3 u1 u2 u3 y1 y2 m1 m2 m3 m4 m5 hya hyl hpw hpt hpi hpu hpn hsn hen hpz hsz hdz hez hd0 hp hy hl hlw aDM hzn fit fitD nz hr hx hv hg
 obtain ⟨rfl, hG⟩ := C
 refine aDA (own := fun A => []) (args := fun A => [.pv (.agg [I n, .lst p]), .pv (I low)]) (R := fun A ow rr => ow = [.tree 64 3 3 r, .row 3 1 x] ∧ rr = .tup [.agg [.pv (I n), .own 0], .agg [.pv (B v), .own 1, .pv (I g)], .pv (B true)]) Tryz.hT Tryz.mix Tryz.func34 rfl rfl (Nat.le_of_ble_eq_true rfl) ?_
 generalize hP : Tryz.prog = P
 intro A hA
 have C : Tryz.Cx P gl := ⟨hP.symm, hG⟩
 have hI : aA = A.ints := by subst hA; rfl
 have q1 : A.bnot true = false := by subst hA; rfl
 have q2 : A.bnot false = true := by subst hA; rfl
 have q3 : ∀ x, A.pick false true x = x := fun x => by subst hA; cases x <;> rfl
 have q4 : ∀ x, A.pick true true x = true := fun x => by subst hA; cases x <;> rfl
 iterate 2 all_goals try cbv; with_reducible repeat' first | exact ⟨⟩ | apply And.intro | intro _
 all_goals try exact oG
 refine aD hA rfl (am P C) ?_; rintro _ rfl
 iterate 2 all_goals try cbv; with_reducible repeat' first | exact ⟨⟩ | apply And.intro | intro _
 all_goals try exact oG
 all_goals try simp only [q1, q2, q3, q4]
 refine ⟨_, fun _ => lo P C, ?_⟩
 iterate 2 all_goals try cbv; with_reducible repeat' first | exact ⟨⟩ | apply And.intro | intro _
 all_goals try exact oG
 all_goals try simp only [q1, q2, q3, q4]
 iterate 2 all_goals try cbv; with_reducible repeat' first | exact ⟨⟩ | apply And.intro | intro _
 all_goals try exact oG
 first | (refine aD hA rfl (g1 P C) ?_; rintro _ rfl) | refine ⟨_, g1 P C, ?_⟩
 iterate 2 all_goals try cbv; with_reducible repeat' first | exact ⟨⟩ | apply And.intro | intro _
 all_goals try exact oG
 first | (refine aD hA rfl (gv P C) ?_; rintro _ rfl) | refine ⟨_, gv P C, ?_⟩
 iterate 2 all_goals try cbv; with_reducible repeat' first | exact ⟨⟩ | apply And.intro | intro _
 all_goals try exact oG
 all_goals try simp only [q1, q2, q3, q4]
 iterate 2 all_goals try cbv; with_reducible repeat' first | exact ⟨⟩ | apply And.intro | intro _
 all_goals try exact oG
 first | (refine aD hA rfl (g1 P C) ?_; rintro _ rfl) | refine ⟨_, g1 P C, ?_⟩
 iterate 2 all_goals try cbv; with_reducible repeat' first | exact ⟨⟩ | apply And.intro | intro _
 all_goals try exact oG
 first | (refine aD hA rfl (gt P C) ?_; rintro _ rfl) | refine ⟨_, gt P C, ?_⟩
 iterate 2 all_goals try cbv; with_reducible repeat' first | exact ⟨⟩ | apply And.intro | intro _
 all_goals try exact oG
 first | (refine aD hA rfl (gi P C) ?_; rintro _ rfl) | refine ⟨_, gi P C, ?_⟩
 iterate 2 all_goals try cbv; with_reducible repeat' first | exact ⟨⟩ | apply And.intro | intro _
 all_goals try exact oG
 first | (refine aD hA rfl (gm P C) ?_; rintro _ rfl) | refine ⟨_, gm P C, ?_⟩
 iterate 2 all_goals try cbv; with_reducible repeat' first | exact ⟨⟩ | apply And.intro | intro _
 all_goals try exact oG
 first | (refine aD hA rfl (gn P C) ?_; rintro _ rfl) | refine ⟨_, gn P C, ?_⟩
 iterate 2 all_goals try cbv; with_reducible repeat' first | exact ⟨⟩ | apply And.intro | intro _
 all_goals try exact oG
 refine dE hA rfl (wn P C) ?_; rintro _ _ ⟨rfl, rfl⟩; refine ⟨rfl, ?_⟩
 iterate 2 all_goals try cbv; with_reducible repeat' first | exact ⟨⟩ | apply And.intro | intro _
 all_goals try exact oG
 subst hA
 exact ⟨[4, 5], _, _, by decide, Nat.zero_le _, rfl, rfl, rfl, rfl, rfl, rfl⟩

theorem vJ (C : Cx P gl) {ys : List aC} {p r : List PV} {n low : Int} (hp : p = aB ys) (ok : gM n ys ∧ -200 ≤ low ∧ low ≤ 200) (hd0 : cF n.toNat (dvY ys) ≠ 0) (fit : ∀ k, k < ys.length → fits ((dH n.toNat (dvY ys) low) k)) (nz : (dM n (dvY ys) low) = 0) (hr : r = aB (cW (dH n.toNat (dvY ys) low) ys.length))
  (hl : ys.length ≤ 2000000) (hy : ∀ y ∈ ys, y.2.1.length ≤ 2000000) :
  FX P gl 34 [] [.pv (.agg [I n, .lst p]), .pv (I low)] (fun own rr => own = [.tree 64 3 3 r] ∧ rr = .tup [.agg [.pv (I n), .own 0], .agg [.pv (B false), .pv (.lst []), .pv (I 0)], .pv (B true)]) := by
 obtain ⟨ok1, okl⟩ := ok
 have am := fun (P' : Program) (C' : Cx P' gl) => iA C' (n := n) (b := true) hp ⟨fun _ => ok1, fun _ => rfl⟩ hl hy
 have lo := fun (P' : Program) (C' : Cx P' gl) => mO C' (n := low) (b := true) (by rw [decide_eq_true okl.1, decide_eq_true okl.2]; rfl)
 obtain ⟨n1, n4, hyl, hya⟩ := ok1
 have aDM := vE n1 n4 hyl
 have g1 := fun (P' : Program) (C' : Cx P' gl) => nU C' (n := n) hp hl
 obtain ⟨ws, w1, w2, w3⟩ := kW (low := low) hya n1 n4 hyl hd0 (by omega)
 obtain ⟨pw, hpw⟩ : ∃ pw, pw = aB ws := ⟨_, rfl⟩
 have gv := fun (P' : Program) (C' : Cx P' gl) => w3 P' gl p pw C' hp hpw
 obtain ⟨ts, t1, t2, t3⟩ := nS ((qO hya).mono (L' := 4000) (E' := 3000) (by omega) (by omega)) (w2.mono (L' := 4000) (E' := 3000) (by omega) (by omega)) (by omega) (by omega) (by omega) n4 hyl w1
 obtain ⟨pt, hpt⟩ : ∃ pt, pt = aB ts := ⟨_, rfl⟩
 have gt := fun (P' : Program) (C' : Cx P' gl) => t3 P' gl p pw pt C' hp hpw hpt
 obtain ⟨is, i1, i2, i3⟩ := pS (n := n) (by omega) n4
 obtain ⟨pi, hpi⟩ : ∃ pi, pi = aB is := ⟨_, rfl⟩
 have gi := fun (P' : Program) (C' : Cx P' gl) => i3 P' gl pi C' hpi
 obtain ⟨us, u1, u2, u3⟩ := nV t2 (i2.mono (L' := 4000 + 4000 + 4 * (3000 + 3000 + 2)) (E' := 3000 + 3000) (by omega) (by omega)) (by omega) (by omega) (by omega) n4 t1 i1
 obtain ⟨pu, hpu⟩ : ∃ pu, pu = aB us := ⟨_, rfl⟩
 have gm := fun (P' : Program) (C' : Cx P' gl) => u3 P' gl pt pi pu C' hpt hpi hpu
 obtain ⟨y, y1, y2⟩ := pP u2 (by omega) (by omega) (by omega) n4 u1
 obtain ⟨pn, hpn⟩ : ∃ pn, pn = aA y.2.1 := ⟨_, rfl⟩
 obtain ⟨sn, hsn⟩ : ∃ s, s = y.1 := ⟨_, rfl⟩
 obtain ⟨en, hen⟩ : ∃ e, e = y.2.2 := ⟨_, rfl⟩
 have gn := fun (P' : Program) (C' : Cx P' gl) => y2 P' gl pu pn C' hpu hpn
 rw [← hsn, ← hen] at gn
 have y3 : X (dM n (dvY ys) low) 62018 6000 y := y1.mono (by omega) (by omega)
 obtain ⟨zn, m1, m2, m3, m4, m5⟩ := y3
 have hlw : ws.length = ys.length := by omega
 have hpz : pn = aA (dg zn.natAbs) := by rw [hpn, m2]
 have hsz : sn = decide (zn < 0) := by rw [hsn, m1]
 have hdz : (dM n (dvY ys) low) = mk zn en := by rw [hen]; exact m3
 have hez : en.natAbs ≤ 6000 := by rw [hen]; exact m5
 have hzn : zn = 0 := by rw [nz, ← mk_zero en, mk_inj] at hdz; exact hdz.symm
 have aTG : pn = [] := by rw [hpz, hzn, show Int.natAbs 0 = 0 from rfl, aO]; rfl
 have wn : ∀ P', Cx P' gl → FN P' gl 95 [.agg [I n, .lst pw], .agg [B sn, .lst pn, I en]] (fun own rr => own = [.tree 64 3 3 r] ∧ rr = .tup [.agg [.pv (I n), .own 0], .agg [.pv (B false), .pv (.lst []), .pv (I 0)], .pv (B true)]) := fun P' C' => kO (wT C' (n := n) (e := en) (q := pn) (s := sn) (fun P2 C2 => rR C2 (n := n) (r := r) hpw w2 (by omega) (by omega) (fun k hk => fit k (by omega)) (by rw [hr, hlw]) (by omega)) (fun P2 C2 => by rw [aTG]; exact aI1 C2)) (by rintro _ _ ⟨rfl, rfl⟩; exact ⟨by simp [fU], rfl⟩)
 clear w1 w2 w3 t1 t2 t3 i1 i2 i3 u1 u2 u3 y1 y2 m1 m2 m3 m4 m5 hya hyl hpw hpt hpi hpu hpn hsn hen hpz hsz hdz hez hd0 hp hy hl hlw aDM hzn aTG fit nz hr
 obtain ⟨rfl, hG⟩ := C
 refine aDA (own := fun A => []) (args := fun A => [.pv (.agg [I n, .lst p]), .pv (I low)]) (R := fun A ow rr => ow = [.tree 64 3 3 r] ∧ rr = .tup [.agg [.pv (I n), .own 0], .agg [.pv (B false), .pv (.lst []), .pv (I 0)], .pv (B true)]) Tryz.hT Tryz.mix Tryz.func34 rfl rfl (Nat.le_of_ble_eq_true rfl) ?_
 generalize hP : Tryz.prog = P
 intro A hA
 have C : Tryz.Cx P gl := ⟨hP.symm, hG⟩
 have hI : aA = A.ints := by subst hA; rfl
 have q1 : A.bnot true = false := by subst hA; rfl
 have q2 : A.bnot false = true := by subst hA; rfl
 have q3 : ∀ x, A.pick false true x = x := fun x => by subst hA; cases x <;> rfl
 have q4 : ∀ x, A.pick true true x = true := fun x => by subst hA; cases x <;> rfl
 iterate 2 all_goals try cbv; with_reducible repeat' first | exact ⟨⟩ | apply And.intro | intro _
 all_goals try exact oG
 refine aD hA rfl (am P C) ?_; rintro _ rfl
 iterate 2 all_goals try cbv; with_reducible repeat' first | exact ⟨⟩ | apply And.intro | intro _
 all_goals try exact oG
 all_goals try simp only [q1, q2, q3, q4]
 refine ⟨_, fun _ => lo P C, ?_⟩
 iterate 2 all_goals try cbv; with_reducible repeat' first | exact ⟨⟩ | apply And.intro | intro _
 all_goals try exact oG
 all_goals try simp only [q1, q2, q3, q4]
 iterate 2 all_goals try cbv; with_reducible repeat' first | exact ⟨⟩ | apply And.intro | intro _
 all_goals try exact oG
 first | (refine aD hA rfl (g1 P C) ?_; rintro _ rfl) | refine ⟨_, g1 P C, ?_⟩
 iterate 2 all_goals try cbv; with_reducible repeat' first | exact ⟨⟩ | apply And.intro | intro _
 all_goals try exact oG
 first | (refine aD hA rfl (gv P C) ?_; rintro _ rfl) | refine ⟨_, gv P C, ?_⟩
 iterate 2 all_goals try cbv; with_reducible repeat' first | exact ⟨⟩ | apply And.intro | intro _
 all_goals try exact oG
 all_goals try simp only [q1, q2, q3, q4]
 iterate 2 all_goals try cbv; with_reducible repeat' first | exact ⟨⟩ | apply And.intro | intro _
 all_goals try exact oG
 first | (refine aD hA rfl (g1 P C) ?_; rintro _ rfl) | refine ⟨_, g1 P C, ?_⟩
 iterate 2 all_goals try cbv; with_reducible repeat' first | exact ⟨⟩ | apply And.intro | intro _
 all_goals try exact oG
 first | (refine aD hA rfl (gt P C) ?_; rintro _ rfl) | refine ⟨_, gt P C, ?_⟩
 iterate 2 all_goals try cbv; with_reducible repeat' first | exact ⟨⟩ | apply And.intro | intro _
 all_goals try exact oG
 first | (refine aD hA rfl (gi P C) ?_; rintro _ rfl) | refine ⟨_, gi P C, ?_⟩
 iterate 2 all_goals try cbv; with_reducible repeat' first | exact ⟨⟩ | apply And.intro | intro _
 all_goals try exact oG
 first | (refine aD hA rfl (gm P C) ?_; rintro _ rfl) | refine ⟨_, gm P C, ?_⟩
 iterate 2 all_goals try cbv; with_reducible repeat' first | exact ⟨⟩ | apply And.intro | intro _
 all_goals try exact oG
 first | (refine aD hA rfl (gn P C) ?_; rintro _ rfl) | refine ⟨_, gn P C, ?_⟩
 iterate 2 all_goals try cbv; with_reducible repeat' first | exact ⟨⟩ | apply And.intro | intro _
 all_goals try exact oG
 refine dE hA rfl (wn P C) ?_; rintro _ _ ⟨rfl, rfl⟩; refine ⟨rfl, ?_⟩
 iterate 2 all_goals try cbv; with_reducible repeat' first | exact ⟨⟩ | apply And.intro | intro _
 all_goals try exact oG
 subst hA
 exact ⟨[4], _, _, by decide, Nat.zero_le _, rfl, rfl, rfl, rfl, rfl, rfl⟩

theorem vK (C : Cx P gl) {ys : List aC} {p r x : List PV} {n low g : Int} {v : Bool} (hp : p = aB ys) (ok : gM n ys ∧ -200 ≤ low ∧ low ≤ 200) (hd0 : cF n.toNat (dvY ys) ≠ 0) (fit : ∀ k, k < ys.length → fits ((dH n.toNat (dvY ys) low) k)) (fitD : fits (dM n (dvY ys) low)) (nz : (dM n (dvY ys) low) ≠ 0) (hr : r = aB (cW (dH n.toNat (dvY ys) low) ys.length)) (hx : x = aA (dg (cZ (dM n (dvY ys) low)).natAbs)) (hv : v = decide (cZ (dM n (dvY ys) low) < 0)) (hg : g = cE (dM n (dvY ys) low))
  (hl : ys.length ≤ 2000000) (hy : ∀ y ∈ ys, y.2.1.length ≤ 2000000) :
  FN P gl 34 [.agg [I n, .lst p], I low] (fun own rr => own = [.tree 64 3 3 r, .row 3 1 x] ∧ rr = .tup [.agg [.pv (I n), .own 0], .agg [.pv (B v), .own 1, .pv (I g)], .pv (B true)]) :=
 kO (vI C hp ok hd0 fit fitD nz hr hx hv hg hl hy) (by rintro _ _ ⟨rfl, rfl⟩; exact ⟨aAC hx, rfl⟩)

theorem vL (C : Cx P gl) {ys : List aC} {p r : List PV} {n low : Int} (hp : p = aB ys) (ok : gM n ys ∧ -200 ≤ low ∧ low ≤ 200) (hd0 : cF n.toNat (dvY ys) ≠ 0) (fit : ∀ k, k < ys.length → fits ((dH n.toNat (dvY ys) low) k)) (nz : (dM n (dvY ys) low) = 0) (hr : r = aB (cW (dH n.toNat (dvY ys) low) ys.length))
  (hl : ys.length ≤ 2000000) (hy : ∀ y ∈ ys, y.2.1.length ≤ 2000000) :
  FN P gl 34 [.agg [I n, .lst p], I low] (fun own rr => own = [.tree 64 3 3 r] ∧ rr = .tup [.agg [.pv (I n), .own 0], .agg [.pv (B false), .pv (.lst []), .pv (I 0)], .pv (B true)]) :=
 kO (vJ C hp ok hd0 fit nz hr hl hy) (by rintro _ _ ⟨rfl, rfl⟩; exact ⟨by simp [fU], rfl⟩)

theorem vM (C : Cx P gl) {ys : List aC} {p : List PV} {n low : Int} (hp : p = aB ys) (ok : gM n ys ∧ -200 ≤ low ∧ low ≤ 200) (hd0 : cF n.toNat (dvY ys) ≠ 0) (fit : ¬((∀ k, k < ys.length → fits ((dH n.toNat (dvY ys) low) k)) ∧ fits (dM n (dvY ys) low)))
  (hl : ys.length ≤ 2000000) (hy : ∀ y ∈ ys, y.2.1.length ≤ 2000000) :
  FS P gl 34 [.agg [I n, .lst p], I low] (· = .tup [.agg [I 0, .lst []], .agg [B false, .lst [], I 0], B false]) := by
 obtain ⟨ok1, okl⟩ := ok
 have am := fun (P' : Program) (C' : Cx P' gl) => iA C' (n := n) (b := true) hp ⟨fun _ => ok1, fun _ => rfl⟩ hl hy
 have lo := fun (P' : Program) (C' : Cx P' gl) => mO C' (n := low) (b := true) (by rw [decide_eq_true okl.1, decide_eq_true okl.2]; rfl)
 obtain ⟨n1, n4, hyl, hya⟩ := ok1
 have aDM := vE n1 n4 hyl
 have g1 := fun (P' : Program) (C' : Cx P' gl) => nU C' (n := n) hp hl
 obtain ⟨ws, w1, w2, w3⟩ := kW (low := low) hya n1 n4 hyl hd0 (by omega)
 obtain ⟨pw, hpw⟩ : ∃ pw, pw = aB ws := ⟨_, rfl⟩
 have gv := fun (P' : Program) (C' : Cx P' gl) => w3 P' gl p pw C' hp hpw
 obtain ⟨ts, t1, t2, t3⟩ := nS ((qO hya).mono (L' := 4000) (E' := 3000) (by omega) (by omega)) (w2.mono (L' := 4000) (E' := 3000) (by omega) (by omega)) (by omega) (by omega) (by omega) n4 hyl w1
 obtain ⟨pt, hpt⟩ : ∃ pt, pt = aB ts := ⟨_, rfl⟩
 have gt := fun (P' : Program) (C' : Cx P' gl) => t3 P' gl p pw pt C' hp hpw hpt
 obtain ⟨is, i1, i2, i3⟩ := pS (n := n) (by omega) n4
 obtain ⟨pi, hpi⟩ : ∃ pi, pi = aB is := ⟨_, rfl⟩
 have gi := fun (P' : Program) (C' : Cx P' gl) => i3 P' gl pi C' hpi
 obtain ⟨us, u1, u2, u3⟩ := nV t2 (i2.mono (L' := 4000 + 4000 + 4 * (3000 + 3000 + 2)) (E' := 3000 + 3000) (by omega) (by omega)) (by omega) (by omega) (by omega) n4 t1 i1
 obtain ⟨pu, hpu⟩ : ∃ pu, pu = aB us := ⟨_, rfl⟩
 have gm := fun (P' : Program) (C' : Cx P' gl) => u3 P' gl pt pi pu C' hpt hpi hpu
 obtain ⟨y, y1, y2⟩ := pP u2 (by omega) (by omega) (by omega) n4 u1
 obtain ⟨pn, hpn⟩ : ∃ pn, pn = aA y.2.1 := ⟨_, rfl⟩
 obtain ⟨sn, hsn⟩ : ∃ s, s = y.1 := ⟨_, rfl⟩
 obtain ⟨en, hen⟩ : ∃ e, e = y.2.2 := ⟨_, rfl⟩
 have gn := fun (P' : Program) (C' : Cx P' gl) => y2 P' gl pu pn C' hpu hpn
 rw [← hsn, ← hen] at gn
 have y3 : X (dM n (dvY ys) low) 62018 6000 y := y1.mono (by omega) (by omega)
 obtain ⟨zn, m1, m2, m3, m4, m5⟩ := y3
 have hlw : ws.length = ys.length := by omega
 have hpz : pn = aA (dg zn.natAbs) := by rw [hpn, m2]
 have hsz : sn = decide (zn < 0) := by rw [hsn, m1]
 have hdz : (dM n (dvY ys) low) = mk zn en := by rw [hen]; exact m3
 have hez : en.natAbs ≤ 6000 := by rw [hen]; exact m5
 have wn : ∀ P', Cx P' gl → FS P' gl 95 [.agg [I n, .lst pw], .agg [B sn, .lst pn, I en]] (· = .tup [.agg [I 0, .lst []], .agg [B false, .lst [], I 0], B false]) := by
  by_cases hf : ∀ k, k < ys.length → fits ((dH n.toNat (dvY ys) low) k)
  ·have hfd : ¬fits (dM n (dvY ys) low) := fun h => fit ⟨hf, h⟩
   have hzn : zn ≠ 0 := fun h => hfd (by rw [hdz, h, mk_zero]; exact ⟨by rw [dT, show Int.natAbs 0 = 0 from rfl, aO]; exact Nat.zero_le _, by decide, by decide⟩)
   exact fun P' C' => vH C' (n := n) (fun P2 C2 => rR C2 (n := n) (r := _) hpw w2 (by omega) (by omega) (fun k hk => hf k (by omega)) rfl (by omega)) (fun P2 C2 => aI2 C2 hpz hsz (by omega) (by omega) hzn (by rw [← hdz]; exact hfd))
  ·have hm := fun (P' : Program) (C' : Cx P' gl) => aI4 C' (n := n) hpw w2 (by omega) (by omega) (fun h => hf (fun k hk => h k (by omega))) (by omega)
   by_cases hzn : zn = 0
   ·have aTG : pn = [] := by rw [hpz, hzn, show Int.natAbs 0 = 0 from rfl, aO]; rfl
    exact fun P' C' => iP C' (n := n) (b := true) (R := B true) hm (fun P2 C2 => ⟨_, _, _, by rw [aTG]; exact aI1 C2⟩)
   ·by_cases hfd : fits (dM n (dvY ys) low)
    ·exact fun P' C' => iP C' (n := n) (b := true) (R := B true) hm (fun P2 C2 => ⟨_, _, _, wX (aQ1 C2 hpz hsz hdz rfl rfl rfl (by omega) (by omega) hzn hfd) (by rintro _ _ ⟨rfl, rfl⟩; rfl)⟩)
    ·exact fun P' C' => iP C' (n := n) (b := false) (R := B true) hm (fun P2 C2 => ⟨_, _, _, aI2 C2 hpz hsz (by omega) (by omega) hzn (by rw [← hdz]; exact hfd)⟩)
 clear w1 w2 w3 t1 t2 t3 i1 i2 i3 u1 u2 u3 y1 y2 m1 m2 m3 m4 m5 hya hyl hpw hpt hpi hpu hpn hsn hen hpz hsz hdz hez hd0 hp hy hl hlw aDM fit
 obtain ⟨rfl, hG⟩ := C
 refine aC9 (args := fun A => [.agg [I n, .lst p], I low]) (R := fun A rr => rr = .tup [.agg [I 0, .lst []], .agg [B false, .lst [], I 0], B false]) Tryz.hT Tryz.mix Tryz.func34 rfl rfl (Nat.le_of_ble_eq_true rfl) ?_
 generalize hP : Tryz.prog = P
 intro A hA
 have C : Tryz.Cx P gl := ⟨hP.symm, hG⟩
 have hI : aA = A.ints := by subst hA; rfl
 have q1 : A.bnot true = false := by subst hA; rfl
 have q2 : A.bnot false = true := by subst hA; rfl
 have q3 : ∀ x, A.pick false true x = x := fun x => by subst hA; cases x <;> rfl
 have q4 : ∀ x, A.pick true true x = true := fun x => by subst hA; cases x <;> rfl
 iterate 2 all_goals try cbv; with_reducible repeat' first | exact ⟨⟩ | apply And.intro | intro _
 all_goals try exact oG
 refine aD hA rfl (am P C) ?_; rintro _ rfl
 iterate 2 all_goals try cbv; with_reducible repeat' first | exact ⟨⟩ | apply And.intro | intro _
 all_goals try exact oG
 all_goals try simp only [q1, q2, q3, q4]
 refine ⟨_, fun _ => lo P C, ?_⟩
 iterate 2 all_goals try cbv; with_reducible repeat' first | exact ⟨⟩ | apply And.intro | intro _
 all_goals try exact oG
 all_goals try simp only [q1, q2, q3, q4]
 iterate 2 all_goals try cbv; with_reducible repeat' first | exact ⟨⟩ | apply And.intro | intro _
 all_goals try exact oG
 first | (refine aD hA rfl (g1 P C) ?_; rintro _ rfl) | refine ⟨_, g1 P C, ?_⟩
 iterate 2 all_goals try cbv; with_reducible repeat' first | exact ⟨⟩ | apply And.intro | intro _
 all_goals try exact oG
 first | (refine aD hA rfl (gv P C) ?_; rintro _ rfl) | refine ⟨_, gv P C, ?_⟩
 iterate 2 all_goals try cbv; with_reducible repeat' first | exact ⟨⟩ | apply And.intro | intro _
 all_goals try exact oG
 all_goals try simp only [q1, q2, q3, q4]
 iterate 2 all_goals try cbv; with_reducible repeat' first | exact ⟨⟩ | apply And.intro | intro _
 all_goals try exact oG
 first | (refine aD hA rfl (g1 P C) ?_; rintro _ rfl) | refine ⟨_, g1 P C, ?_⟩
 iterate 2 all_goals try cbv; with_reducible repeat' first | exact ⟨⟩ | apply And.intro | intro _
 all_goals try exact oG
 first | (refine aD hA rfl (gt P C) ?_; rintro _ rfl) | refine ⟨_, gt P C, ?_⟩
 iterate 2 all_goals try cbv; with_reducible repeat' first | exact ⟨⟩ | apply And.intro | intro _
 all_goals try exact oG
 first | (refine aD hA rfl (gi P C) ?_; rintro _ rfl) | refine ⟨_, gi P C, ?_⟩
 iterate 2 all_goals try cbv; with_reducible repeat' first | exact ⟨⟩ | apply And.intro | intro _
 all_goals try exact oG
 first | (refine aD hA rfl (gm P C) ?_; rintro _ rfl) | refine ⟨_, gm P C, ?_⟩
 iterate 2 all_goals try cbv; with_reducible repeat' first | exact ⟨⟩ | apply And.intro | intro _
 all_goals try exact oG
 first | (refine aD hA rfl (gn P C) ?_; rintro _ rfl) | refine ⟨_, gn P C, ?_⟩
 iterate 2 all_goals try cbv; with_reducible repeat' first | exact ⟨⟩ | apply And.intro | intro _
 all_goals try exact oG
 first | (refine aD hA rfl (wn P C) ?_; rintro _ rfl) | refine ⟨_, wn P C, ?_⟩
 iterate 2 all_goals try cbv; with_reducible repeat' first | exact ⟨⟩ | apply And.intro | intro _
 all_goals try exact oG

theorem vN (C : Cx P gl) {ys : List aC} {p : List PV} {n low : Int} (hp : p = aB ys) (ok : gM n ys ∧ -200 ≤ low ∧ low ≤ 200) (hd0 : cF n.toNat (dvY ys) = 0)
  (hl : ys.length ≤ 2000000) (hy : ∀ y ∈ ys, y.2.1.length ≤ 2000000) :
  FS P gl 34 [.agg [I n, .lst p], I low] (· = .tup [.agg [I 0, .lst []], .agg [B false, .lst [], I 0], B false]) := by
 obtain ⟨ok1, okl⟩ := ok
 have am := fun (P' : Program) (C' : Cx P' gl) => iA C' (n := n) (b := true) hp ⟨fun _ => ok1, fun _ => rfl⟩ hl hy
 have lo := fun (P' : Program) (C' : Cx P' gl) => mO C' (n := low) (b := true) (by rw [decide_eq_true okl.1, decide_eq_true okl.2]; rfl)
 obtain ⟨n1, n4, hyl, hya⟩ := ok1
 have aDM := vE n1 n4 hyl
 have g1 := fun (P' : Program) (C' : Cx P' gl) => nU C' (n := n) hp hl
 obtain ⟨yd, yx, yc⟩ := zO (qO hya) (by omega) (by omega) (by omega) n4 hyl
 have hv0 : yd.2.1 = [] := by
  obtain ⟨z, a1, a2, a3, a4, a5⟩ := yx
  have hz : z = 0 := by rw [hd0, ← mk_zero yd.2.2, mk_inj] at a3; exact a3.symm
  rw [a2, hz, show Int.natAbs 0 = 0 from rfl, aO]
 have gv := fun (P' : Program) (C' : Cx P' gl) => wR C' (low := low) (fun P2 C2 => yc P2 gl p _ C2 hp rfl) (fun P2 C2 => aCK C2 (b := true) rfl (by rw [hv0]; rfl))
 clear hya hyl hp hy hl aDM yx yc hv0 hd0
 obtain ⟨rfl, hG⟩ := C
 refine aC9 (args := fun A => [.agg [I n, .lst p], I low]) (R := fun A rr => rr = .tup [.agg [I 0, .lst []], .agg [B false, .lst [], I 0], B false]) Tryz.hT Tryz.mix Tryz.func34 rfl rfl (Nat.le_of_ble_eq_true rfl) ?_
 generalize hP : Tryz.prog = P
 intro A hA
 have C : Tryz.Cx P gl := ⟨hP.symm, hG⟩
 have hI : aA = A.ints := by subst hA; rfl
 have q1 : A.bnot true = false := by subst hA; rfl
 have q2 : A.bnot false = true := by subst hA; rfl
 have q3 : ∀ x, A.pick false true x = x := fun x => by subst hA; cases x <;> rfl
 have q4 : ∀ x, A.pick true true x = true := fun x => by subst hA; cases x <;> rfl
 iterate 2 all_goals try cbv; with_reducible repeat' first | exact ⟨⟩ | apply And.intro | intro _
 all_goals try exact oG
 refine aD hA rfl (am P C) ?_; rintro _ rfl
 iterate 2 all_goals try cbv; with_reducible repeat' first | exact ⟨⟩ | apply And.intro | intro _
 all_goals try exact oG
 all_goals try simp only [q1, q2, q3, q4]
 refine ⟨_, fun _ => lo P C, ?_⟩
 iterate 2 all_goals try cbv; with_reducible repeat' first | exact ⟨⟩ | apply And.intro | intro _
 all_goals try exact oG
 all_goals try simp only [q1, q2, q3, q4]
 iterate 2 all_goals try cbv; with_reducible repeat' first | exact ⟨⟩ | apply And.intro | intro _
 all_goals try exact oG
 first | (refine aD hA rfl (g1 P C) ?_; rintro _ rfl) | refine ⟨_, g1 P C, ?_⟩
 iterate 2 all_goals try cbv; with_reducible repeat' first | exact ⟨⟩ | apply And.intro | intro _
 all_goals try exact oG
 first | (refine aD hA rfl (gv P C) ?_; rintro _ rfl) | refine ⟨_, gv P C, ?_⟩
 iterate 2 all_goals try cbv; with_reducible repeat' first | exact ⟨⟩ | apply And.intro | intro _
 all_goals try exact oG
 all_goals try simp only [q1, q2, q3, q4]
 iterate 2 all_goals try cbv; with_reducible repeat' first | exact ⟨⟩ | apply And.intro | intro _
 all_goals try exact oG

theorem vO (C : Cx P gl) {ys : List aC} {p : List PV} {n low : Int} (hp : p = aB ys) (ok : ¬(gM n ys ∧ -200 ≤ low ∧ low ≤ 200))
  (hl : ys.length ≤ 2000000) (hy : ∀ y ∈ ys, y.2.1.length ≤ 2000000) :
  FS P gl 34 [.agg [I n, .lst p], I low] (· = .tup [.agg [I 0, .lst []], .agg [B false, .lst [], I 0], B false]) := by
 obtain ⟨b0, hb0⟩ := fV (gM n ys)
 obtain ⟨b2, xE⟩ : ∃ b, b = (decide (-200 ≤ low) && decide (low ≤ 200)) := ⟨_, rfl⟩
 have am := fun (P' : Program) (C' : Cx P' gl) => iA C' (n := n) (b := b0) hp hb0 hl hy
 have lo := fun (P' : Program) (C' : Cx P' gl) => mO C' (n := low) (b := b2) xE
 have hno : b0 = true → b2 = true → False := by
  intro h1 h4
  rw [xE, Bool.and_eq_true, decide_eq_true_eq, decide_eq_true_eq] at h4
  exact ok ⟨hb0.1 h1, h4⟩
 clear ok hp hy hb0 xE hl
 refine gS C func34 rfl rfl rfl fun A hA hI => ?_
 iterate 2 all_goals try cbv; with_reducible repeat' first | exact ⟨⟩ | apply And.intro | intro _
 all_goals try exact oG
 refine aD hA rfl (am P C) ?_; rintro _ rfl
 iterate 2 all_goals try cbv; with_reducible repeat' first | exact ⟨⟩ | apply And.intro | intro _
 all_goals try exact oG
 refine ⟨_, fun _ => lo P C, ?_⟩
 iterate 2 all_goals try cbv; with_reducible repeat' first | exact ⟨⟩ | apply And.intro | intro _
 all_goals try exact oG
 iterate 2 all_goals try cbv; with_reducible repeat' first | exact ⟨⟩ | apply And.intro | intro _
 all_goals try exact oG
 all_goals (
  exfalso
  rename_i gg
  clear am lo hI
  subst hA
  revert gg hno
  cases b0 <;> cases b2 <;> intro hno gg <;> first | exact hno rfl rfl | exact absurd gg (by decide))

end Tryz
end Go.Proofs
