/- Contracts: long division. -/
import Derived.Test.YtlkiofkkjbodjaaGreatDoorDD1
import Derived.Test.YtlkiofkkjbodjaaGreatDoorDD2
import Derived.Test.YtlkiofkkjbodjaaGreatDoorDD4
import Derived.Test.YtlkiofkkjbodjaaGreatDoorDN15
set_option maxHeartbeats 4000000
set_option maxRecDepth 100000
namespace Go.Proofs
open Go Go.Pe Go.Dg
namespace Tryz
set_option linter.unusedSimpArgs false
set_option linter.unusedVariables false
variable {P : Program} {gl : List (Nat × Obj)}

theorem divide_fs (C : Cx P gl) {X Y : Nat} {p q r1 r2 : List PV} (hp : p = intsL (dg X)) (hq : q = intsL (dg Y)) (hY : 0 < Y) (h1 : r1 = intsL (dg (X / Y))) (h2 : r2 = intsL (dg (X % Y))) (hlx : (dg X).length ≤ 1000000) (hly : (dg Y).length ≤ 1000000) :
  FS P gl 235 [.lst p, .lst q] (· = .tup [.lst r1, .lst r2]) := by
 obtain ⟨a, ha⟩ : ∃ a, a = dg X := ⟨_, rfl⟩
 obtain ⟨b, hb⟩ : ∃ b, b = dg Y := ⟨_, rfl⟩
 have n0 : 0 < b.length := by rw [hb]; exact dg_ne_nil hY
 have pa : p = intsL a := by rw [hp, ha]
 have qb : q = intsL b := by rw [hq, hb]
 obtain ⟨c, hc⟩ : ∃ c, c = cmpN X Y := ⟨_, rfl⟩
 have hcn : c < 0 ↔ X < Y := by
  rw [hc]
  rcases Nat.lt_trichotomy X Y with h | h | h
  ·rw [cmpN_lt h]; omega
  ·rw [cmpN_eq h]; omega
  ·rw [cmpN_gt h]; omega
 refine gS C func235 rfl rfl rfl fun A hA hI => ?_
 have g0 : ∀ {t : Bool}, A.lt c 0 = t → t = decide (X < Y) := by
  intro t h
  rw [← h, ← decide_eq_decide.2 hcn]; subst hA; rfl
 have g1 : ∀ {t : Bool}, A.eq (A.cast (A.len q)) 1 = t → t = decide (b.length = 1) := by
  intro t h
  rw [← h]; subst hA; subst qb; rw [Bool.eq_iff_iff]; simp [AR.std, ints_len]; omega
 iterate 2 all_goals try cbv; with_reducible repeat' first | exact ⟨⟩ | apply And.intro | intro _
 all_goals try exact oH
 refine callS hA rfl (compare_fs C hp hq hc (Nat.le_trans hlx (by decide))) ?_; rintro _ rfl
 iterate 2 all_goals try cbv; with_reducible repeat' first | exact ⟨⟩ | apply And.intro | intro _
 all_goals try exact oH
 ·rename_i g
  have hXY : X < Y := of_decide_eq_true (g0 g).symm
  have e1 : r1 = [] := by rw [h1, Nat.div_eq_of_lt hXY, dg_zero]; rfl
  have e2 : r2 = p := by rw [h2, Nat.mod_eq_of_lt hXY, hp]
  by_cases hX : X = 0
  ·have e3 : p = [] := by rw [hp, hX, dg_zero]; rfl
   rw [e3] at e2
   simp only [e3] at *
   refine callS hA rfl (clone0_fs C) ?_; rintro _ rfl
   iterate 2 all_goals try cbv; with_reducible repeat' first | exact ⟨⟩ | apply And.intro | intro _
   all_goals try exact oH
   subst hA; subst e1; subst e2; rfl
  ·have e3 : 0 < a.length := by rw [ha]; exact dg_ne_nil (by omega)
   refine callX hA [] List.nodup_nil rfl rfl rfl (clone_fx C pa e3 (by rw [ha]; omega)) ?_; rintro _ _ ⟨rfl, rfl⟩; refine ⟨rfl, ?_⟩
   iterate 2 all_goals try cbv; with_reducible repeat' first | exact ⟨⟩ | apply And.intro | intro _
   all_goals try exact oH
   subst hA; rw [e1, e2]
 ·rename_i g g'
  have hb1 : b.length = 1 := of_decide_eq_true (g1 g').symm
  have hY1 : Y < 65536 := by have := lt_pow_of (X := Y) rfl; rw [← hb, hb1] at this; exact this
  have e1 : b.getD 0 0 = Y := by rw [hb, dg_getD, Nat.pow_zero, Nat.div_one, Nat.mod_eq_of_lt hY1]
  have e2 : A.gi (A.el q (A.nat 0)) 0 = Y := by subst hA; subst qb; rw [← e1]; exact ints_getI b 0
  iterate 2 all_goals try cbv; with_reducible repeat' first | exact ⟨⟩ | apply And.intro | intro _
  all_goals try exact oH
  refine callS hA rfl (divideSmall_fs C (n := X) (e := Y) (r := r1) (q := ((X % Y : Nat) : Int)) pa (by rw [ha]; exact valid_dg X) (by rw [ha, val_dg]) e2 hY hY1 h1 rfl (by rw [ha]; omega)) ?_; rintro _ rfl
  obtain ⟨m, hm⟩ : ∃ m : Nat, m = X % Y := ⟨_, rfl⟩
  have hmY : m < Y := by rw [hm]; exact Nat.mod_lt _ hY
  rw [← hm] at h2 ⊢
  obtain ⟨mi, hmi⟩ : ∃ mi : Int, mi = m := ⟨_, rfl⟩
  rw [← hmi]
  iterate 2 all_goals try cbv; with_reducible repeat' first | exact ⟨⟩ | apply And.intro | intro _
  all_goals try exact oH
  refine callS hA rfl (small_fs C hmi h2 (by omega)) ?_; rintro _ rfl
  iterate 2 all_goals try cbv; with_reducible repeat' first | exact ⟨⟩ | apply And.intro | intro _
  all_goals try exact oH
 ·rename_i g g'
  have hb1 : ¬ b.length = 1 := of_decide_eq_false (g1 g').symm
  have hXY : ¬ X < Y := of_decide_eq_false (g0 g).symm
  have hlab : b.length ≤ a.length := by
   apply Nat.le_of_not_lt
   intro hlt
   rw [ha, hb] at hlt
   exact hXY (dg_len_lt hlt)
  have hgv := (valid_dg Y).get (b.length - 1)
  have ht := bl_top Y (by omega)
  rw [← hb] at hgv ht
  obtain ⟨x, hx⟩ : ∃ x : Nat, b.getD (b.length - 1) 0 = x := ⟨_, (Int.toNat_of_nonneg hgv.1).symm⟩
  have hnl := fun {s : Nat} (h : s + bl ((dg Y).getD ((dg Y).length - 1) 0).toNat = 16) => norm_law hY h
  rw [← hb, hx, Int.toNat_natCast] at hnl
  rw [hx] at hgv
  have hxn : x < 65536 := by omega
  have hxb : bl x ≤ 16 := (bl_le 16 x).2 (by omega)
  obtain ⟨sh, hsh⟩ : ∃ sh, sh = 16 - bl x := ⟨_, rfl⟩
  have hn2 := hnl (s := sh) (by omega)
  clear ht hnl
  obtain ⟨l, hl⟩ : ∃ l : Int, l = bl x := ⟨_, rfl⟩
  have hgi : A.conv .u64 (A.gi (A.el q (A.nat (A.sub .i64 (A.cast (A.len q)) 1))) 0) = (x : Int) := by
   clear hn2 hXY g0 g1 hsh hxb hl
   subst hA
   subst_vars
   simp only [AR.std, natCast_eq, sH, reduceCtorEq] at *
   try simp (disch := omega) only [AR.std, natCast_eq, sH, reduceCtorEq] at *
   have e1 : (((dg Y).length : Int) - 1).toNat = (dg Y).length - 1 := by omega
   rw [e1, hx, IntKind.wrap_u64]
   omega
  obtain ⟨k, hk⟩ : ∃ k : Int, k = sh := ⟨_, rfl⟩
  have e16 : A.sub .i64 16 l = k := by
   have : (16 : Int) - l = k := by omega
   rw [← this]; subst hA; exact wrapi (by omega) (by omega)
  have hks : k.toNat = sh := by omega
  have hk0 : 0 ≤ k := by omega
  have hk1 : k ≤ 16 := by omega
  obtain ⟨v, hv⟩ : ∃ v, v = dg (Y * 2 ^ sh) := ⟨_, rfl⟩
  obtain ⟨pv, hpv⟩ : ∃ pv, pv = intsL v := ⟨_, rfl⟩
  obtain ⟨u, hu⟩ : ∃ u, u = dg (X * 2 ^ sh) := ⟨_, rfl⟩
  obtain ⟨pu, hpu⟩ : ∃ pu, pu = intsL u := ⟨_, rfl⟩
  iterate 2 all_goals try cbv; with_reducible repeat' first | exact ⟨⟩ | apply And.intro | intro _
  all_goals try exact oH
  refine callS hA rfl (len_fs C hgi hxn hl) ?_; rintro _ rfl
  clear hl
  iterate 2 all_goals try cbv; with_reducible repeat' first | exact ⟨⟩ | apply And.intro | intro _
  all_goals try exact oH
  simp only [e16]
  iterate 2 all_goals try cbv; with_reducible repeat' first | exact ⟨⟩ | apply And.intro | intro _
  all_goals try exact oH
  refine callS hA rfl (up_fs C (k := k) (n := Y * 2 ^ sh) (r := pv) qb (by rw [hb]; exact valid_dg Y) rfl (by rw [hb, val_dg, hks, Int.natCast_mul, Int.natCast_pow]; rfl) (by rw [hpv, hv]) hk0 (by omega) (by rw [hb]; omega)) ?_; rintro _ rfl
  clear hgi
  iterate 2 all_goals try cbv; with_reducible repeat' first | exact ⟨⟩ | apply And.intro | intro _
  all_goals try exact oH
  refine callX hA [] List.nodup_nil rfl rfl rfl (up_fx C (k := k) (n := X * 2 ^ sh) (r := pu) pa (by rw [ha]; exact valid_dg X) (by omega) hk0 (by omega) (by rw [ha]; omega) (by rw [ha, val_dg, hks, Int.natCast_mul, Int.natCast_pow]; rfl) (by rw [hpu, hu])) ?_; rintro _ _ ⟨rfl, rfl⟩; refine ⟨rfl, ?_⟩
  clear e16
  obtain ⟨z, hz⟩ : ∃ z, u.length + z = a.length + 1 := ⟨a.length + 1 - u.length, by have := up_len (X := X) (s := sh) rfl (by omega); rw [← hu, ← ha] at this; omega⟩
  obtain ⟨zi, hzi⟩ : ∃ zi : Int, zi = z := ⟨_, rfl⟩
  have hla : a.length ≤ 1000000 := by rw [ha]; exact hlx
  have hlu : (A.cast (A.len pu)) = u.length := by subst hA; rw [hpu]; show (((intsL u).length : Nat) : Int) = _; rw [ints_len]
  have hlp : (A.cast (A.len p)) = a.length := by subst hA; rw [pa]; show (((intsL a).length : Nat) : Int) = _; rw [ints_len]
  have hlq : (A.cast (A.len q)) = b.length := by subst hA; rw [qb]; show (((intsL b).length : Nat) : Int) = _; rw [ints_len]
  have e17 : A.sub .i64 (A.add .i64 (A.cast (A.len p)) 1) (A.cast (A.len pu)) = zi := by
   rw [hlu, hlp]
   have m1 : A.add .i64 a.length 1 = (a.length : Int) + 1 := by subst hA; exact wrapi (by omega) (by omega)
   have m2 : zi = (a.length : Int) + 1 - u.length := by omega
   rw [m1, m2]; subst hA; exact wrapi (by omega) (by omega)
  obtain ⟨M, hM⟩ : ∃ M, M = a.length - b.length + 1 := ⟨_, rfl⟩
  obtain ⟨mi, hmi⟩ : ∃ mi : Int, mi = M := ⟨_, rfl⟩
  have e18 : A.add .i64 (A.sub .i64 (A.cast (A.len p)) (A.cast (A.len q))) 1 = mi := by
   rw [hlp, hlq]
   have m1 : A.sub .i64 a.length b.length = (a.length : Int) - b.length := by subst hA; exact wrapi (by omega) (by omega)
   have m2 : mi = (a.length : Int) - b.length + 1 := by omega
   rw [m1, m2]; subst hA; exact wrapi (by omega) (by omega)
  have hst := dvI_zero (X := X) (Y := Y) (s := sh) (z := z) rfl rfl hY (by rw [← ha, ← hb]; exact hlab) (by rw [← ha, ← hu]; exact hz)
  rw [← ha, ← hb, ← hu, ← hM] at hst
  obtain ⟨N, hN⟩ : ∃ N : Int, N = ((X * 2 ^ sh : Nat) : Int) := ⟨_, rfl⟩
  obtain ⟨V, hV⟩ : ∃ V : Int, V = ((Y * 2 ^ sh : Nat) : Int) := ⟨_, rfl⟩
  have hvV : val v = V := by rw [hv, val_dg, hV]
  have hval : Valid v := by rw [hv]; exact valid_dg _
  have hvl : v.length = b.length := by rw [hv]; exact hn2.1
  have hv1 : 32768 ≤ v.getD (v.length - 1) 0 := by rw [hvl, hv]; exact hn2.2
  have hV0 : 0 < V := by rw [hV]; exact Int.ofNat_lt.2 (Nat.mul_pos hY (Nat.pow_pos (by decide)))
  rw [← hN, ← hV] at hst
  iterate 2 all_goals try cbv; with_reducible repeat' first | exact ⟨⟩ | apply And.intro | intro _
  all_goals try exact oH
  all_goals simp only [e17, e18]
  iterate 2 all_goals try cbv; with_reducible repeat' first | exact ⟨⟩ | apply And.intro | intro _
  all_goals try exact oH
  clear hcn hn2 hgv hx hxn hxb
  have e19 : A.rep mi (I 0) = A.ints (List.replicate M 0) := by rw [hmi]; subst hA; exact ints_rep M 0
  have e20 : A.app pu (A.rep zi (I 0)) = A.ints (u ++ List.replicate z 0) := by
   rw [hpu, hzi]; subst hA
   show intsL u ++ _ = intsL (u ++ _)
   rw [← ints_app, ← ints_rep]; rfl
  simp only [e19, e20]
  obtain ⟨u0, hu0⟩ : ∃ u0, u0 = u ++ List.replicate z 0 := ⟨_, rfl⟩
  obtain ⟨w0, hw0⟩ : ∃ w0, w0 = List.replicate M (0 : Int) := ⟨_, rfl⟩
  rw [← hu0, ← hw0] at hst
  simp only [← hu0, ← hw0]
  obtain ⟨j0, hj0⟩ : ∃ j0 : Int, j0 = (a.length : Int) - b.length := ⟨_, rfl⟩
  rw [← hj0] at hst
  have e21 : A.sub .i64 (A.cast (A.len (A.ints w0))) 1 = j0 := by
   have m0 : A.cast (A.len (A.ints w0)) = M := by subst hA; show (((intsL w0).length : Nat) : Int) = _; rw [ints_len, hw0, List.length_replicate]
   have m1 : j0 = (M : Int) - 1 := by omega
   rw [m0, m1]; subst hA; exact wrapi (by omega) (by omega)
  simp only [e21]
  have hI2 : ∀ l : List Int, A.ints l = intsL l := fun l => by subst hA; rfl
  have hvl2 : 2 ≤ v.length := by omega
  have hbig : a.length + 1 ≤ 100000000 := by omega
  have hMlen : (M : Int) + v.length = a.length + 1 := by omega
  clear hu0 hw0 e19 e20 e21 hj0
  refine loopI hA [] (ι := Int × List Int × List Int) (fun x => [(10, .own 0), (11, .own 1), (12, .pv (I x.1))]) (fun x => [(0, .row 3 1 (A.ints x.2.1)), (1, .row 3 1 (A.ints x.2.2))]) (fun x => (x.1 + 1).toNat) (fun x => dvI N V (a.length + 1) M x.1 x.2.1 x.2.2) (j0, u0, w0) (by rfl) ?_ ?_ ?_
  ·rfl
  ·exact hst
  rintro ⟨j, o, w⟩ hinv
  simp only at hinv
  obtain ⟨hj0, hj1, hol, hwl, hov, hwv, _⟩ := id hinv
  have hjl' : 0 ≤ j → j + v.length < o.length := by omega
  have hjn : 0 ≤ j → j.toNat + v.length < o.length := by omega
  have hjw : 0 ≤ j → j.toNat < w.length := by omega
  have hle : o.length ≤ 100000000 := by omega
  have hlw : w.length ≤ 2000000000 := by omega
  have hge : ∀ {t : Bool}, A.le 0 j = t → t = decide (0 ≤ j) := fun h => by rw [← h]; subst hA; rfl
  have hsub : A.sub .i64 j 1 = j - 1 := by subst hA; exact wrapi (by omega) (by omega)
  iterate 2 all_goals try cbv; with_reducible repeat' first | exact ⟨⟩ | apply And.intro | intro _
  all_goals try exact oH
  ·rename_i gj
   have hj : 0 ≤ j := of_decide_eq_true (hge gj).symm
   obtain ⟨hR, hR0, _⟩ := dvI_part hinv hj
   have hinv' := hinv
   rw [← hvV] at hinv'
   refine callB hA rfl (digitOf_fs C (u := o) (v := v) (R := val (o.drop j.toNat)) (V := V) (hI2 o) hpv hov hval hvl2 hv1 hj (hjl' hj) hle rfl hvV.symm hR) ?_
   rintro _ ⟨d, rfl, hlo, hhi, hd0, hd1⟩
   refine ⟨⟨_, rfl⟩, ?_⟩
   iterate 2 all_goals try cbv; with_reducible repeat' first | exact ⟨⟩ | apply And.intro | intro _
   all_goals try exact oH
   refine callX hA [0] (by decide) rfl rfl rfl (takeAway_fx C (u := o) (v := v) (jn := j.toNat) (hI2 o) hpv hov hval (Int.toNat_of_nonneg hj).symm (hjn hj) hd0 hd1 hle) ?_
   rintro _ _ ⟨o1, bb, rfl, rfl, htk⟩
   refine ⟨rfl, ?_⟩
   have htk' := id htk
   obtain ⟨t1, t2, t3, t4, t5, t6, t7⟩ := htk'
   rw [← hI2 o1]
   rw [← hvV] at hlo hhi
   obtain ⟨j', hj'⟩ : ∃ j', j' = j - 1 := ⟨_, rfl⟩
   obtain ⟨d', hd'⟩ : ∃ d', d' = d - 1 := ⟨_, rfl⟩
   have hds : A.sub .i64 d 1 = d' := by rw [hd']; subst hA; exact wrapi (by omega) (by omega)
   rw [← hj'] at hsub
   have hwl2 : (A.cast (A.len (A.ints w))) = w.length := by subst hA; show (((intsL w).length : Nat) : Int) = _; rw [ints_len]
   have hjw : A.nat j = j.toNat := by subst hA; rfl
   have hset : ∀ x : Int, A.set (A.ints w) (A.nat j) (I x) = A.ints (w.set j.toNat x) := by intro x; subst hA; exact ints_set w j.toNat x
   iterate 2 all_goals try cbv; with_reducible repeat' first | exact ⟨⟩ | apply And.intro | intro _
   all_goals try exact oH
   ·rename_i gb
    have hmono : j.toNat + v.length < o1.length := by rw [t1]; exact hjn hj
    refine callX hA [0] (by decide) rfl rfl rfl (addBack_fx C (u := o1) (v := v) (jn := j.toNat) (hI2 o1) hpv t3 ⟨t5, t6⟩ hval (Int.toNat_of_nonneg hj).symm hmono (by rw [t1]; exact hle)) ?_
    rintro _ _ ⟨o2, rfl, rfl, had⟩
    refine ⟨rfl, ?_⟩
    have hn := dvI_great hinv' hj hval (by omega) hd0 hd1 hlo htk gb had
    rw [hvV, ← hd', ← hj'] at hn
    rw [← hI2 o2]
    simp only [hds]
    iterate 2 all_goals try cbv; with_reducible repeat' first | exact ⟨⟩ | apply And.intro | intro _
    all_goals try exact oH
    simp only [hsub, hset]
    obtain ⟨w', hw'⟩ : ∃ w', w' = w.set j.toNat d' := ⟨_, rfl⟩
    rw [← hw'] at hn
    simp only [← hw']
    exact ⟨⟨(j', o2, w'), hn⟩, by cbv, by simp only; omega⟩
   ·rename_i gb
    have hn := dvI_right hinv' hj hval (by omega) hd0 hd1 hhi htk gb
    rw [hvV, ← hj'] at hn
    simp only [hsub, hset]
    obtain ⟨w', hw'⟩ : ∃ w', w' = w.set j.toNat d := ⟨_, rfl⟩
    rw [← hw'] at hn
    simp only [← hw']
    exact ⟨⟨(j', o1, w'), hn⟩, by cbv, by simp only; omega⟩
  ·rename_i gj
   have hj : ¬ 0 ≤ j := of_decide_eq_false (hge gj).symm
   obtain ⟨hx1, hx2⟩ := dvI_exit hinv (by omega) hN hV hY
   have htv : trimL o = dg (X % Y * 2 ^ sh) := by rw [trim_dg hov, hx2, Int.toNat_natCast]
   have htl : (dg (X % Y * 2 ^ sh)).length ≤ 100000000 := Nat.le_trans (dg_len_le o.length _ (Int.ofNat_lt.1 (by rw [← hx2, pow_cast]; exact val_lt_pow hov))) hle
   refine callS hA rfl (trim_fs C (l := w) (p := A.ints w) (r := r1) (hI2 w) (by rw [hx1, h1]) hlw) ?_; rintro _ rfl
   obtain ⟨pu2, hpu2⟩ : ∃ pu2, pu2 = intsL (trimL o) := ⟨_, rfl⟩
   iterate 2 all_goals try cbv; with_reducible repeat' first | exact ⟨⟩ | apply And.intro | intro _
   all_goals try exact oH
   refine callS hA rfl (trim_fs C (l := o) (p := A.ints o) (r := pu2) (hI2 o) hpu2 (by omega)) ?_; rintro _ rfl
   iterate 2 all_goals try cbv; with_reducible repeat' first | exact ⟨⟩ | apply And.intro | intro _
   all_goals try exact oH
   refine callS hA rfl (down_fs C (a := trimL o) (k := k) (r := r2) hpu2 (by rw [htv]; exact valid_dg _) (by rw [htv, val_dg]) rfl (by rw [h2, hks, Nat.mul_div_cancel _ (Nat.pow_pos (by decide))]) hk0 (by omega) (by rw [htv]; exact htl)) ?_; rintro _ rfl
   iterate 2 all_goals try cbv; with_reducible repeat' first | exact ⟨⟩ | apply And.intro | intro _
   all_goals try exact oH

end Tryz
end Go.Proofs
