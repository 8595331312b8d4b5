/- Contracts: intervals in lists, over a whole number. -/
import Derived.Test.YtlkiofkkjbodjaaGreatDoorAP11d
import Derived.Test.YtlkiofkkjbodjaaGreatDoorAN42k
import Derived.Test.YtlkiofkkjbodjaaGreatDoorAP14
import Derived.Test.YtlkiofkkjbodjaaGreatDoorAN35
import Derived.Test.YtlkiofkkjbodjaaGreatDoorAN8
import Derived.Test.YtlkiofkkjbodjaaGreatDoorAPeTm
set_option maxHeartbeats 1000000
set_option maxRecDepth 100000
namespace Go.Proofs
open Go Go.Pe Go.Dg
namespace Tryz
set_option linter.unusedSimpArgs false
set_option linter.unusedVariables false
variable {P : Program} {gl : List (Nat × Obj)}

theorem mkK_ne {kd : Int} (h : 1 ≤ kd) : mk kd 0 ≠ 0 := fun e => by rw [← mk_zero 0, mk_inj] at e; omega

theorem mkK_pos {kd : Int} (h : 1 ≤ kd) : 0 < cZ (mk kd 0) := by
 obtain ⟨t, k, htk⟩ := odd_ex kd.natAbs (by omega)
 obtain ⟨c1, c2, c3⟩ := make_law (e := 0) htk
 have h0 : ¬ cZ (mk kd 0) < 0 := by
  intro g
  rw [decide_eq_true g, eq_comm, decide_eq_true_iff] at c3
  omega
 omega

theorem divLo_K {a1 a2 b : Dyadic} {low : Int} (hb : 0 < cZ b) (h : a1 ≤ a2) : divLo a1 a2 b b low = divD a1 b low 3 := by
 have h1 : divLo a1 a2 b b low ≤ divD a1 b low 3 := amin_min (d := divE a1 a2 b b low 3) (k := 3) (j := 0) (by omega)
 have h2 : divD a1 b low 3 ≤ divLo a1 a2 b b low := by
  obtain ⟨j, hj⟩ : ∃ j, j = amin (divE a1 a2 b b low 3) 3 := ⟨_, rfl⟩
  show _ ≤ divE a1 a2 b b low 3 (amin (divE a1 a2 b b low 3) 3)
  rw [← hj]
  unfold divE
  have e : endB b b j = b := by rcases endB_cases b b j with g | g <;> exact g
  rw [e]
  rcases endA_cases a1 a2 j with g | g <;> rw [g]
  ·exact Dyadic.le_refl _
  ·exact divD_dn_mono hb h
 grind

theorem divHi_K {a1 a2 b : Dyadic} {low : Int} (hb : 0 < cZ b) (h : a1 ≤ a2) : divHi a1 a2 b b low = divD a2 b low 2 := by
 have h1 : divD a2 b low 2 ≤ divHi a1 a2 b b low := amax_max (d := divE a1 a2 b b low 2) (k := 3) (j := 3) (by omega)
 have h2 : divHi a1 a2 b b low ≤ divD a2 b low 2 := by
  obtain ⟨j, hj⟩ : ∃ j, j = amax (divE a1 a2 b b low 2) 3 := ⟨_, rfl⟩
  show divE a1 a2 b b low 2 (amax (divE a1 a2 b b low 2) 3) ≤ _
  rw [← hj]
  unfold divE
  have e : endB b b j = b := by rcases endB_cases b b j with g | g <;> exact g
  rw [e]
  rcases endA_cases a1 a2 j with g | g <;> rw [g]
  ·exact divD_up_mono hb h
  ·exact Dyadic.le_refl _
 grind

theorem divided1_fs (C : Cx P gl) {s1 s2 u v : Bool} {p1 p2 q r x : List PV} {e1 e2 g h low : Int}
  (h1 : ∀ P', Cx P' gl → FS P' gl 85 [.agg [B s1, .lst p1, I e1, B s2, .lst p2, I e2], .agg [B false, .lst q, I 0, B false, .lst q, I 0], I low] (· = .agg [B u, .lst r, I g, B v, .lst x, I h])) :
  FS P gl 132 [.agg [B s1, .lst p1, I e1, B s2, .lst p2, I e2], .ptr [B false, .lst q, I 0] 0, .ptr [I low] 0] (· = .agg [B u, .lst r, I g, B v, .lst x, I h]) := by
 obtain ⟨rfl, hG⟩ := C
 refine FS_ofT (args := fun A => [.agg [B s1, .lst p1, I e1, B s2, .lst p2, I e2], .ptr [B false, .lst q, I 0] 0, .ptr [I low] 0]) (R := fun A rr => rr = .agg [B u, .lst r, I g, B v, .lst x, I h]) Tryz.hT Tryz.mix Tryz.func132 rfl rfl (Nat.le_of_ble_eq_true rfl) ?_
 generalize hP : Tryz.prog = P
 intro A hA
 have C : Tryz.Cx P gl := ⟨hP.symm, hG⟩
 have hI : intsL = A.ints := by subst hA; rfl
 iterate 2 (all_goals try cbv; all_goals with_reducible repeat' first | exact True.intro | refine And.intro ?_ ?_ | intro _)
 all_goals try exact oI
 first | (refine callS hA rfl (h1 P C) ?_; rintro _ rfl) | refine ⟨_, h1 P C, ?_⟩
 iterate 2 (all_goals try cbv; all_goals with_reducible repeat' first | exact True.intro | refine And.intro ?_ ?_ | intro _)
 all_goals try exact oI

theorem divided_fs (C : Cx P gl) {p q r : List PV} {n kd low : Int} {kn : Nat} (hkn : kd = kn) (hq : q = intsL (dg kn)) (hk : kd ≤ 1000000) (h : ∀ P', Cx P' gl → FS P' gl 126 [.agg [I n, .lst p], .fn 132 [.ptr [B false, .lst q, I 0] 0, .ptr [I low] 0]] (· = .agg [I n, .lst r])) :
  FS P gl 60 [.agg [I n, .lst p], I kd, I low] (· = .agg [I n, .lst r]) := by
 have sm := fun (P' : Program) (C' : Cx P' gl) => small_fs C' hkn hq (by omega)
 clear hkn hq hk
 obtain ⟨rfl, hG⟩ := C
 refine FS_ofT (args := fun A => [.agg [I n, .lst p], I kd, I low]) (R := fun A rr => rr = .agg [I n, .lst r]) Tryz.hT Tryz.mix Tryz.func60 rfl rfl (Nat.le_of_ble_eq_true rfl) ?_
 generalize hP : Tryz.prog = P
 intro A hA
 have C : Tryz.Cx P gl := ⟨hP.symm, hG⟩
 have hI : intsL = A.ints := by subst hA; rfl
 iterate 2 (all_goals try cbv; all_goals with_reducible repeat' first | exact True.intro | refine And.intro ?_ ?_ | intro _)
 all_goals try exact oI
 first | (refine callS hA rfl (sm P C) ?_; rintro _ rfl) | refine ⟨_, sm P C, ?_⟩
 iterate 2 (all_goals try cbv; all_goals with_reducible repeat' first | exact True.intro | refine And.intro ?_ ?_ | intro _)
 all_goals try exact oI
 first | (refine callS hA rfl (h P C) ?_; rintro _ rfl) | refine ⟨_, h P C, ?_⟩
 iterate 2 (all_goals try cbv; all_goals with_reducible repeat' first | exact True.intro | refine And.intro ?_ ?_ | intro _)
 all_goals try exact oI

theorem xDivided {d1 d2 : Dyadic} {kn : Nat} {low : Int} (f1 : fits d1) (f2 : fits d2) (hle : d1 ≤ d2) (h0 : 1 ≤ kn) (hk : kn ≤ 1000000) (hlow : low.natAbs ≤ 200) :
  ∃ y : Cell6, X (divD d1 (mk kn 0) low 3) 3102 3000 y.1 ∧ X (divD d2 (mk kn 0) low 2) 3102 3000 y.2 ∧ ∀ (P : Program) (gl : List (Nat × Obj)) (q : List PV), Cx P gl → q = intsL (dg kn) →
   FS P gl 132 [cell6 (canY d1, canY d2), .ptr [B false, .lst q, I 0] 0, .ptr [I low] 0] (· = cell6 y) := by
 obtain ⟨y1, y2, h1, h2, h3⟩ := spanOverK_ex (low := low) f1 f2 h0 hk (by omega)
 rw [divLo_K (mkK_pos (by omega)) hle] at h1
 rw [divHi_K (mkK_pos (by omega)) hle] at h2
 obtain ⟨z1, a1, a2, a3, a4, a5⟩ := h1
 obtain ⟨z2, b1, b2, b3, b4, b5⟩ := h2
 refine ⟨(y1, y2), ⟨z1, a1, a2, a3, by omega, by show y1.2.2.natAbs ≤ 3000; omega⟩, ⟨z2, b1, b2, b3, by omega, by show y2.2.2.natAbs ≤ 3000; omega⟩, ?_⟩
 intro P gl q C hq
 exact divided1_fs C (fun P' C' => h3 P' gl _ _ q _ _ C' rfl rfl hq rfl rfl)

theorem ivDivided_ex {vs : List Cell6} {n kd low : Int} (hva : allV vs) (h0 : 1 ≤ kd) (hk : kd ≤ 1000000) (hlow : low.natAbs ≤ 200) (hvl : vs.length ≤ 16) :
  ∃ xs, xs.length = vs.length ∧ XV (fun k => divD (dvA vs k) (mk kd 0) low 3) (fun k => divD (dvB vs k) (mk kd 0) low 2) 3102 3000 xs ∧
   ∀ (P : Program) (gl : List (Nat × Obj)) (p r : List PV), Cx P gl → p = cells6 vs → r = cells6 xs → FS P gl 60 [.agg [I n, .lst p], I kd, I low] (· = .agg [I n, .lst r]) := by
 obtain ⟨kn, rfl⟩ : ∃ kn : Nat, kd = kn := ⟨kd.toNat, by omega⟩
 obtain ⟨Y, hY⟩ := pickV6 (n := vs.length) (fun k hk' => xDivided (kn := kn) (allV_fits hva hk').1 (allV_fits hva hk').2 (allV_le hva hk') (by omega) (by omega) hlow)
 refine ⟨listV Y vs.length, listV_len _ _, listV_XV (fun k hk => ⟨(hY k hk).1, (hY k hk).2.1⟩), ?_⟩
 intro P gl p r C hp hr
 exact divided_fs C rfl rfl (by omega) (fun P' C' => each2_fs C' hp hr (by omega) (fun k hk P2 C2 => by rw [endV hva hk]; exact (hY k hk).2.2 P2 gl _ C2 rfl))

theorem l3ofK_fs (C : Cx P gl) {kd : Int} {kn : Nat} {q : List PV} (hkn : kd = kn) (hq : q = intsL (dg kn)) (hk : kd ≤ 1000000) : FS P gl 130 [I kd] (· = .agg [B false, .lst q]) := by
 have h1 := fun (P' : Program) (C' : Cx P' gl) => l2of_fs C' hkn hq (by omega)
 have h2 := fun (P' : Program) (C' : Cx P' gl) => l3make_fs C' (s := false) (s' := false) hq (by simp) (Nat.le_trans (dg_len_le 2 kn (Nat.lt_of_le_of_lt (show kn ≤ 1000000 by omega) (by decide))) (by decide))
 have h0 : 0 ≤ kd := by omega
 clear hkn hq
 obtain ⟨rfl, hG⟩ := C
 refine FS_ofT (args := fun A => [I kd]) (R := fun A rr => rr = .agg [B false, .lst q]) Tryz.hT Tryz.mix Tryz.func130 rfl rfl (Nat.le_of_ble_eq_true rfl) ?_
 generalize hP : Tryz.prog = P
 intro A hA
 have C : Tryz.Cx P gl := ⟨hP.symm, hG⟩
 have hI : intsL = A.ints := by subst hA; rfl
 all_goals try cbv
 all_goals with_reducible repeat' first | exact True.intro | refine And.intro ?_ ?_ | intro _
 all_goals try exact oI
 ·rename_i gg
  clear gg
  iterate 2 (all_goals try cbv; all_goals with_reducible repeat' first | exact True.intro | refine And.intro ?_ ?_ | intro _)
  all_goals try exact oI
  first | (refine callS hA rfl (h1 P C) ?_; rintro _ rfl) | refine ⟨_, h1 P C, ?_⟩
  iterate 2 (all_goals try cbv; all_goals with_reducible repeat' first | exact True.intro | refine And.intro ?_ ?_ | intro _)
  all_goals try exact oI
  first | (refine callS hA rfl (h2 P C) ?_; rintro _ rfl) | refine ⟨_, h2 P C, ?_⟩
  iterate 2 (all_goals try cbv; all_goals with_reducible repeat' first | exact True.intro | refine And.intro ?_ ?_ | intro _)
  all_goals try exact oI

theorem l4makeK_fs (C : Cx P gl) {kd : Int} {kn : Nat} {q : List PV} (hkn : kd = kn) (hq : q = intsL (dg kn)) (hk : kd ≤ 1000000) :
  FS P gl 129 [.agg [B false, .lst q], I 0] (· = .agg [B (decide (cZ (mk kd 0) < 0)), .lst (intsL (dg (cZ (mk kd 0)).natAbs)), I (cE (mk kd 0))]) := by
 have hl : (dg kn).length ≤ 2 := dg_len_le 2 _ (Nat.lt_of_le_of_lt (show kn ≤ 1000000 by omega) (by decide))
 have hn : kd.natAbs = kn := by omega
 exact l4make_fs C (z := kd) (e := 0) (by rw [hq, hn]) (by rw [eq_comm, decide_eq_false_iff_not]; omega) rfl rfl rfl rfl (by decide) (by rw [hn]; omega)

theorem fitsK {kd : Int} (h0 : 1 ≤ kd) (hk : kd ≤ 1000000) : fits (mk kd 0) := by
 have hl : (dg kd.natAbs).length ≤ 2 := dg_len_le 2 _ (Nat.lt_of_le_of_lt (show kd.natAbs ≤ 1000000 by omega) (by decide))
 have h1 := cZ_len kd 0
 obtain ⟨t, k, htk⟩ := odd_ex kd.natAbs (by omega)
 obtain ⟨c1, c2, c3⟩ := make_law (e := 0) htk
 have ht : t ≤ 20 := by
  refine (Nat.pow_le_pow_iff_right (by decide : 1 < 2)).1 (Nat.le_trans (Nat.le_trans ?_ (show kd.natAbs ≤ 1000000 by omega)) (by decide))
  rw [htk]
  exact Nat.le_mul_of_pos_right _ (by omega)
 exact ⟨by omega, by omega, by omega⟩

theorem l4divV {gl : List (Nat × Obj)} {vs : List Cell6} {kd low : Int} (hva : allV vs) {k : Nat} (hk : k < vs.length) (h0 : 1 ≤ kd) (hkd : kd ≤ 1000000) (hlow : low.natAbs ≤ 200) :
  (∀ P', Cx P' gl → FS P' gl 73 [cell3 (vs.getD k noV).1, .agg [B (decide (cZ (mk kd 0) < 0)), .lst (intsL (dg (cZ (mk kd 0)).natAbs)), I (cE (mk kd 0))], I low, I 3] (· = cell3 (canY (divD (dvA vs k) (mk kd 0) low 3), canY (divD (dvB vs k) (mk kd 0) low 2)).1)) ∧
  (∀ P', Cx P' gl → FS P' gl 73 [cell3 (vs.getD k noV).2, .agg [B (decide (cZ (mk kd 0) < 0)), .lst (intsL (dg (cZ (mk kd 0)).natAbs)), I (cE (mk kd 0))], I low, I 2] (· = cell3 (canY (divD (dvA vs k) (mk kd 0) low 3), canY (divD (dvB vs k) (mk kd 0) low 2)).2)) := by
 obtain ⟨f1, f2⟩ := allV_fits hva hk
 rw [endV hva hk]
 refine ⟨fun P' C' => ?_, fun P' C' => ?_⟩
 ·exact l4div_fs C' (d1 := dvA vs k) (d2 := mk kd 0) rfl rfl rfl rfl rfl rfl (mkK_ne h0) f1 (fitsK h0 hkd) rfl rfl rfl rfl (by decide) (by decide) (by omega)
 ·exact l4div_fs C' (d1 := dvB vs k) (d2 := mk kd 0) rfl rfl rfl rfl rfl rfl (mkK_ne h0) f2 (fitsK h0 hkd) rfl rfl rfl rfl (by decide) (by decide) (by omega)

theorem vdiv_len {vs : List Cell6} {kd low : Int} (hva : allV vs) {k : Nat} (hk : k < vs.length) (h0 : 1 ≤ kd) (hkd : kd ≤ 1000000) (hlow : low.natAbs ≤ 200) :
  (dg (cZ (divD (dvA vs k) (mk kd 0) low 3)).natAbs).length ≤ 100000 ∧ (dg (cZ (divD (dvB vs k) (mk kd 0) low 2)).natAbs).length ≤ 100000 := by
 have h1 := divD_can (m := 3) (allV_fits hva hk).1 (fitsK h0 hkd) (show low.natAbs ≤ 300 by omega)
 have h2 := divD_can (m := 2) (allV_fits hva hk).2 (fitsK h0 hkd) (show low.natAbs ≤ 300 by omega)
 omega

end Tryz
end Go.Proofs
