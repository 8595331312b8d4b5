/- Contracts: division in the reference. -/
import Derived.Test.YtlkiofkkjbodjaaGreatDoorDN5
import Derived.Test.YtlkiofkkjbodjaaGreatDoorDEvD
set_option maxHeartbeats 4000000
set_option maxRecDepth 100000
namespace Go.Proofs
open Go Go.Pe Go.Dg
namespace Tryz
set_option linter.unusedSimpArgs false
set_option linter.unusedVariables false
variable {P : Program} {gl : List (Nat × Obj)}

theorem l2div_fs (C : Cx P gl) {X Y : Nat} {p q r1 r2 : List PV} (hp : p = intsL (dg X)) (hq : q = intsL (dg Y)) (hY : 0 < Y) (h1 : r1 = intsL (dg (X / Y))) (h2 : r2 = intsL (dg (X % Y))) (hlx : (dg X).length ≤ 1000000) (hly : (dg Y).length ≤ 1000000) :
  FS P gl 213 [.agg [.lst p], .agg [.lst q]] (· = .tup [.agg [.lst r1], .agg [.lst r2]]) := by
 obtain ⟨a, ha⟩ : ∃ a, a = dg X := ⟨_, rfl⟩
 obtain ⟨b, hb⟩ : ∃ b, b = dg Y := ⟨_, rfl⟩
 have n0 : 0 < b.length := by rw [hb]; exact dg_ne_nil hY
 have pa : p = intsL a := by rw [hp, ha]
 have qb : q = intsL b := by rw [hq, hb]
 have hla : a.length ≤ 1000000 := by rw [ha]; exact hlx
 have hst := sdI_zero (X := X) (Y := Y) (L := a.length) (by rw [ha])
 obtain ⟨rfl, hG⟩ := C
 refine FS_ofR (args := fun A => [.agg [.lst p], .agg [.lst q]]) (R := fun A rr => rr = .tup [.agg [.lst r1], .agg [.lst r2]]) Tryz.hT Tryz.mix Tryz.func213 rfl rfl (Nat.le_of_ble_eq_true rfl) ?_
 generalize hP : Tryz.prog = P
 intro A hA
 have C : Tryz.Cx P gl := ⟨hP.symm, hG⟩
 have hI : intsL = A.ints := by subst hA; rfl
 have g1 : ∀ {t : Bool}, A.eq (A.cast (A.len q)) 1 = t → t = decide (b.length = 1) := by
  intro t h
  rw [← h]; subst hA; subst qb; rw [Bool.eq_iff_iff]; simp [AR.std, ints_len]; omega
 iterate 2 all_goals try cbv; with_reducible repeat' first | exact ⟨⟩ | apply And.intro | intro _
 all_goals try exact oH
 ·rename_i g'
  have hb1 : b.length = 1 := of_decide_eq_true (g1 g').symm
  have hY1 : Y < 65536 := by have := lt_pow_of (X := Y) rfl; rw [← hb, hb1] at this; exact this
  have e1 : b.getD 0 0 = Y := by rw [hb, dg_getD, Nat.pow_zero, Nat.div_one, Nat.mod_eq_of_lt hY1]
  have e2 : A.gi (A.el q (A.nat 0)) 0 = Y := by subst hA; subst qb; rw [← e1]; exact ints_getI b 0
  obtain ⟨m, hm⟩ : ∃ m : Nat, m = X % Y := ⟨_, rfl⟩
  have hmY : m < Y := by rw [hm]; exact Nat.mod_lt _ hY
  rw [← hm] at h2
  obtain ⟨mi, hmi⟩ : ∃ mi : Int, mi = m := ⟨_, rfl⟩
  iterate 2 all_goals try cbv; with_reducible repeat' first | exact ⟨⟩ | apply And.intro | intro _
  all_goals try exact oH
  refine ⟨_, l2small_fs C (n := X) (e := Y) (r := r1) (q := mi) pa (by rw [ha]; exact valid_dg X) (by rw [ha, val_dg]) e2 hY hY1 h1 (by rw [hmi, hm]) (by omega), ?_⟩
  iterate 2 all_goals try cbv; with_reducible repeat' first | exact ⟨⟩ | apply And.intro | intro _
  all_goals try exact oH
  refine ⟨_, l2of_fs C hmi h2 (by omega), ?_⟩
  iterate 2 all_goals try cbv; with_reducible repeat' first | exact ⟨⟩ | apply And.intro | intro _
  all_goals try exact oH
 ·rename_i g'
  have hb1 : ¬ b.length = 1 := of_decide_eq_false (g1 g').symm
  have hlp : (A.cast (A.len p)) = a.length := by subst hA; rw [pa]; show (((intsL a).length : Nat) : Int) = _; rw [ints_len]
  obtain ⟨j0, hj0⟩ : ∃ j0 : Int, j0 = (a.length : Int) - 1 := ⟨_, rfl⟩
  have e20 : A.sub .i64 (A.cast (A.len p)) 1 = j0 := by
   rw [hlp, hj0]; subst hA; exact wrapi (by omega) (by omega)
  have e19 : A.rep (A.cast (A.len p)) (I 0) = A.ints (List.replicate a.length 0) := by rw [hlp]; subst hA; exact ints_rep a.length 0
  rw [← hj0] at hst
  obtain ⟨w0, hw0⟩ : ∃ w0, w0 = List.replicate a.length (0 : Int) := ⟨_, rfl⟩
  rw [← hw0] at hst e19
  clear hw0
  iterate 2 all_goals try cbv; with_reducible repeat' first | exact ⟨⟩ | apply And.intro | intro _
  all_goals try exact oH
  simp only [e20, e19]
  refine loopI hA [.nilc 5 0] (ι := Int × Nat × List PV × List Int) (fun x => [(8, .own 4), (10, .pv (I x.1))]) (fun x => [(4, .row 3 1 (A.ints x.2.2.2)), (5, .box [.pv (.lst x.2.2.1)])]) (fun x => (x.1 + 1).toNat) (fun x => sdI X Y a.length x.1 x.2.1 x.2.2.2 ∧ x.2.2.1 = intsL (dg x.2.1)) (j0, 0, [], w0) (by rfl) ?_ ?_ ?_
  ·rfl
  ·exact ⟨hst, by rw [dg_zero]; rfl⟩
  rintro ⟨i, n, w, o⟩ hinv
  simp only at hinv
  obtain ⟨hs, hw⟩ := hinv
  obtain ⟨hi0, hi1, hol, hov, hnn, _⟩ := id hs
  have hnY : n < Y := by rw [hnn]; exact Nat.mod_lt _ hY
  have hge : ∀ {t : Bool}, A.le 0 i = t → t = decide (0 ≤ i) := fun h => by rw [← h]; subst hA; rfl
  have hile : i ≤ 1000000 := by omega
  have hio : 0 ≤ i → i.toNat < o.length := by omega
  have hlo : o.length ≤ 1000000000 := by omega
  have hgv := (valid_dg X).get i.toNat
  obtain ⟨x, hx⟩ : ∃ x, x = (dg X).getD i.toNat 0 := ⟨_, rfl⟩
  rw [← hx] at hgv
  obtain ⟨R, hR⟩ : ∃ R : Nat, (R : Int) = x + 65536 * n := ⟨(x + 65536 * n).toNat, by omega⟩
  obtain ⟨pr, hpr⟩ : ∃ pr, pr = intsL (dg R) := ⟨_, rfl⟩
  have hnext := fun {q : Nat} hi hq => sdI_next (q := q) hY hs hi hx hR hq
  have hxi : 0 ≤ i → A.gi (A.el p (A.nat i)) 0 = x := by
   intro hi
   subst hA; rw [hx, ← ha, pa]; exact ints_getI a i.toNat
  have happ : A.app [I x] w = intsL (x :: dg n) := by rw [hw]; subst hA; rfl
  have htr : trimL (x :: dg n) = dg R := by
   have hval : Valid (x :: dg n) := (Valid.one hgv.1 hgv.2).append (valid_dg n)
   rw [trim_dg hval]
   congr 1
   show (x + 65536 * val (dg n)).toNat = R
   rw [val_dg]; omega
  have hln : (dg n).length ≤ 1000000 := by
   refine Nat.le_trans (dg_len_le (dg Y).length _ (Nat.lt_trans hnY (lt_pow_of rfl))) hly
  iterate 2 all_goals try cbv; with_reducible repeat' first | exact ⟨⟩ | apply And.intro | intro _
  all_goals try exact oH
  ·rename_i gi
   have hi : 0 ≤ i := of_decide_eq_true (hge gi).symm
   have hset : ∀ x : Int, A.set (A.ints o) (A.nat i) (I x) = A.ints (o.set i.toNat x) := by intro x; subst hA; exact ints_set o i.toNat x
   obtain ⟨q0, hq0⟩ : ∃ q0, q0 = R / Y := ⟨_, rfl⟩
   obtain ⟨hRlt, hq1, hn'⟩ := hnext (q := q0) hi hq0
   iterate 2 all_goals try cbv; with_reducible repeat' first | exact ⟨⟩ | apply And.intro | intro _
   all_goals try exact oH
   all_goals simp only [hxi hi]
   iterate 2 all_goals try cbv; with_reducible repeat' first | exact ⟨⟩ | apply And.intro | intro _
   all_goals try exact oH
   refine callS hA rfl (l2norm_fs C (l := x :: dg n) (r := pr) happ (by rw [htr, hpr]) (by simp only [List.length_cons]; omega)) ?_; rintro _ rfl
   clear happ hxi
   iterate 2 all_goals try cbv; with_reducible repeat' first | exact ⟨⟩ | apply And.intro | intro _
   all_goals try exact oH
   refine loopI hA [] (ι := Int × Int) (fun x => [(11, .pv (I x.1)), (12, .pv (I x.2))]) (fun x => []) (fun x => (x.2 - x.1).toNat) (fun x => bsI Y R x.1 x.2) (0, 65536) (by rfl) ?_ ?_ ?_
   ·rfl
   ·exact ⟨Int.le_refl _, by decide, by decide, by simp, by simpa using hRlt⟩
   rintro ⟨lo, hi'⟩ hbs
   simp only at hbs
   obtain ⟨c0, c1, c2, c3, c4⟩ := id hbs
   obtain ⟨md, hmd⟩ : ∃ md : Int, md = (lo + hi') / 2 := ⟨_, rfl⟩
   have hm0 : 0 ≤ md := by omega
   have hm1 : md < 65536 := by omega
   obtain ⟨mn, hmn⟩ : ∃ mn : Nat, md = mn := ⟨md.toNat, by omega⟩
   have hmn1 : mn < 65536 := by omega
   have emd : A.quo .i64 (A.add .i64 lo hi') 2 = md := by
    have m1 : A.add .i64 lo hi' = lo + hi' := by subst hA; exact wrapi (by omega) (by omega)
    rw [m1, hmd]; subst hA
    show IntKind.i64.wrap ((lo + hi').tdiv 2) = _
    rw [Int.tdiv_eq_ediv_of_nonneg (by omega), wrapi (by omega) (by omega)]
   have egt : ∀ {t : Bool}, A.lt 1 (A.sub .i64 hi' lo) = t → t = decide (1 < hi' - lo) := by
    intro t h
    have m1 : A.sub .i64 hi' lo = hi' - lo := by subst hA; exact wrapi (by omega) (by omega)
    rw [← h, m1]; subst hA; rfl
   have hbexit := fun h => bsI_exit hY hbs h
   obtain ⟨pm, hpm⟩ : ∃ pm, pm = intsL (dg mn) := ⟨_, rfl⟩
   obtain ⟨py, hpy⟩ : ∃ py, py = intsL (dg (Y * mn)) := ⟨_, rfl⟩
   obtain ⟨cc, hcc⟩ : ∃ cc, cc = cmpN (Y * mn) R := ⟨_, rfl⟩
   have hml : (dg mn).length ≤ 100 := dg_len mn (by omega)
   have hlym : (dg (Y * mn)).length ≤ 1000001 := by
    refine Nat.le_trans (dg_len_le ((dg Y).length + 1) _ ?_) (by omega)
    rw [Nat.pow_succ]
    have := lt_pow_of (X := Y) rfl
    exact Nat.mul_lt_mul'' this hmn1
   have hlR : (dg R).length ≤ 1000001 := by
    refine Nat.le_trans (dg_len_le ((dg Y).length + 1) _ ?_) (by omega)
    rw [Nat.pow_succ]
    have := lt_pow_of (X := Y) rfl
    omega
   have ecc : ∀ {t : Bool}, A.le cc 0 = t → t = decide (Y * mn ≤ R) := by
    intro t h
    rw [← h, hcc]
    have : (cmpN (Y * mn) R ≤ 0) ↔ Y * mn ≤ R := by
     rcases Nat.lt_trichotomy (Y * mn) R with h | h | h
     ·rw [cmpN_lt h]; omega
     ·rw [cmpN_eq h]; omega
     ·rw [cmpN_gt h]; omega
    subst hA; exact decide_eq_decide.2 this
   iterate 2 all_goals try cbv; with_reducible repeat' first | exact ⟨⟩ | apply And.intro | intro _
   all_goals try exact oH
   ·rename_i gg
    have hgt := of_decide_eq_true (egt gg).symm
    simp only [emd]
    iterate 2 all_goals try cbv; with_reducible repeat' first | exact ⟨⟩ | apply And.intro | intro _
    all_goals try exact oH
    refine ⟨_, l2of_fs C hmn hpm (by omega), ?_⟩
    iterate 2 all_goals try cbv; with_reducible repeat' first | exact ⟨⟩ | apply And.intro | intro _
    all_goals try exact oH
    refine ⟨_, l2mul_fs C (a := b) (b := dg mn) (n := Y * mn) (r := py) qb hpm (by rw [hb]; exact valid_dg Y) (valid_dg mn) (by rw [hb, val_dg, val_dg]; rfl) hpy (by rw [hb]; omega), ?_⟩
    iterate 2 all_goals try cbv; with_reducible repeat' first | exact ⟨⟩ | apply And.intro | intro _
    all_goals try exact oH
    refine callS hA rfl (l2cmp_fs C (x := Y * mn) (y := R) hpy hpr hcc (by omega) (by omega)) ?_; rintro _ rfl
    iterate 2 all_goals try cbv; with_reducible repeat' first | exact ⟨⟩ | apply And.intro | intro _
    all_goals try exact oH
    ·rename_i ge
     have hle : Y * mn ≤ R := of_decide_eq_true (ecc ge).symm
     clear hbexit egt emd ecc hset hnext hge
     obtain ⟨y1, hy1⟩ : ∃ y, y = md := ⟨_, rfl⟩
     obtain ⟨y2, hy2⟩ : ∃ y, y = hi' := ⟨_, rfl⟩
     refine ⟨⟨(y1, y2), ?_⟩, ?_, ?_⟩
     rotate_left
     ·cbv
      exact nH
     ·exact eH
     ·rw [hy1, hy2]
      exact ⟨hm0, by omega, c2, by rw [hmn, Int.toNat_natCast, Nat.mul_comm]; exact hle, c4⟩
    ·rename_i ge
     have hle : ¬ Y * mn ≤ R := of_decide_eq_false (ecc ge).symm
     clear hbexit egt emd ecc hset hnext hge
     obtain ⟨y1, hy1⟩ : ∃ y, y = lo := ⟨_, rfl⟩
     obtain ⟨y2, hy2⟩ : ∃ y, y = md := ⟨_, rfl⟩
     refine ⟨⟨(y1, y2), ?_⟩, ?_, ?_⟩
     rotate_left
     ·cbv
      exact nH
     ·exact eH
     ·rw [hy1, hy2]
      exact ⟨c0, by omega, by omega, c3, by rw [hmn, Int.toNat_natCast, Nat.mul_comm]; omega⟩
   rename_i ge
   have hq := hbexit (by have := of_decide_eq_false (egt ge).symm; omega)
   obtain ⟨pl, hpl⟩ : ∃ pl, pl = intsL (dg lo.toNat) := ⟨_, rfl⟩
   obtain ⟨py2, hpy2⟩ : ∃ py2, py2 = intsL (dg (Y * lo.toNat)) := ⟨_, rfl⟩
   obtain ⟨pr2, hpr2⟩ : ∃ pr2, pr2 = intsL (dg (R % Y)) := ⟨_, rfl⟩
   have hloN : lo.toNat < 65536 := by omega
   have hlo2 : lo = q0 := by rw [hq0, ← hq]; omega
   have hmd2 : R = Y * lo.toNat + R % Y := by rw [hq]; exact (Nat.div_add_mod R Y).symm
   refine ⟨_, l2of_fs C (k := lo) (n := lo.toNat) (by omega) hpl (by omega), ?_⟩
   iterate 2 all_goals try cbv; with_reducible repeat' first | exact ⟨⟩ | apply And.intro | intro _
   all_goals try exact oH
   refine ⟨_, l2mul_fs C (a := b) (b := dg lo.toNat) (n := Y * lo.toNat) (r := py2) qb hpl (by rw [hb]; exact valid_dg Y) (valid_dg _) (by rw [hb, val_dg, val_dg]; rfl) hpy2 (by rw [hb]; have := dg_len lo.toNat (by omega); omega), ?_⟩
   iterate 2 all_goals try cbv; with_reducible repeat' first | exact ⟨⟩ | apply And.intro | intro _
   all_goals try exact oH
   refine callS hA rfl (l2sub_fs C (a := dg R) (b := dg (Y * lo.toNat)) (n := R % Y) (r := pr2) hpr hpy2 (valid_dg R) (valid_dg _) (by rw [val_dg, val_dg]; omega) hpr2 (by omega) (dg_len_le _ _ (Nat.lt_of_le_of_lt (by omega) (lt_pow_of (X := R) rfl)))) ?_; rintro _ rfl
   iterate 2 all_goals try cbv; with_reducible repeat' first | exact ⟨⟩ | apply And.intro | intro _
   all_goals try exact oH
   simp only [hset]
   have e22 : A.sub .i64 i 1 = i - 1 := by subst hA; exact wrapi (by omega) (by omega)
   obtain ⟨i', hi'⟩ : ∃ i', i' = i - 1 := ⟨_, rfl⟩
   rw [← hi'] at e22 hn'
   simp only [e22]
   obtain ⟨o', ho'⟩ : ∃ o', o' = o.set i.toNat lo := ⟨_, rfl⟩
   rw [← hlo2, ← ho'] at hn'
   simp only [← ho']
   exact ⟨⟨(i', R % Y, pr2, o'), hn', hpr2⟩, by cbv, by simp only; omega⟩
  ·rename_i gi
   have hi : ¬ 0 ≤ i := of_decide_eq_false (hge gi).symm
   obtain ⟨hx1, hx2⟩ := sdI_exit hs (by omega)
   iterate 2 all_goals try cbv; with_reducible repeat' first | exact ⟨⟩ | apply And.intro | intro _
   all_goals try exact oH
   refine ⟨_, l2norm_fs C (l := o) (p := A.ints o) (r := r1) (by subst hA; rfl) (by rw [hx1, h1]) hlo, ?_⟩
   iterate 2 all_goals try cbv; with_reducible repeat' first | exact ⟨⟩ | apply And.intro | intro _
   all_goals try exact oH
   rw [h2, hw, hx2]

end Tryz
end Go.Proofs
