/- Contracts: sums of intervals in lists, intervals made wider. -/
import Derived.Test.YtcbagjglchpagaaGreatDoorHP11
import Derived.Test.YtcbagjglchpagaaGreatDoorHN13
namespace Go.Proofs
open Go Go.Pe Go.Dg
namespace Tryz
set_option linter.unusedSimpArgs false
set_option linter.unusedVariables false
variable {P : Program} {gl : List (Nat × Obj)}

theorem sub_eqV (a b : Dyadic) : a - b = a + -b := by grind

/-- the sum of two intervals in any form -/
theorem xSpanPlus {a b : Cell6} {d1 d2 d3 d4 : Dyadic} {L E : Nat} (h1 : X d1 L E a.1) (h2 : X d2 L E a.2) (h3 : X d3 L E b.1) (h4 : X d4 L E b.2) (hL : L ≤ 1000000) (hE : E ≤ 100000) :
    ∃ y : Cell6, X (d1 + d3) (L + E + 2) E y.1 ∧ X (d2 + d4) (L + E + 2) E y.2 ∧ ∀ (P : Program) (gl : List (Nat × Obj)), Cx P gl → FS P gl 120 [cell6 a, cell6 b] (· = cell6 y) := by
  have one : ∀ {d d' : Dyadic} {y y' : Cell3}, X d L E y → X d' L E y' → ∃ z z' w f : Int, y.1 = decide (z < 0) ∧ y.2.1 = dg z.natAbs ∧ y'.1 = decide (z' < 0) ∧ y'.2.1 = dg z'.natAbs ∧ sumD z y.2.2 z' y'.2.2 w f ∧ y.2.2.natAbs ≤ 100000 ∧ y'.2.2.natAbs ≤ 100000 ∧ (dg z.natAbs).length ≤ 1000000 ∧ (dg z'.natAbs).length ≤ 1000000 ∧
      X (d + d') (L + E + 2) E (decide (w < 0), dg w.natAbs, f) := by
    intro d d' y y' h h'
    obtain ⟨z1, a1, a2, a3, a4, a5⟩ := h
    obtain ⟨z2, b1, b2, b3, b4, b5⟩ := h'
    obtain ⟨w, f, hd⟩ := sumD_ex z1 y.2.2 z2 y'.2.2
    have hlen : (dg w.natAbs).length ≤ L + E + 2 ∧ f.natAbs ≤ E := by
      obtain ⟨x, y, ha, rfl⟩ := hd
      obtain ⟨c2, c1, c3⟩ := align_len ha b4 a4 b5 a5
      exact ⟨by have := Go.Pe.dg_len_add c1 c2; omega, c3⟩
    exact ⟨z1, z2, w, f, a1, a2, b1, b2, hd, by omega, by omega, by omega, by omega, w, rfl, rfl, by rw [sumD_mk hd, a3, b3], hlen.1, hlen.2⟩
  obtain ⟨z1, z3, w1, f1, a1, a2, a3, a4, a5, a6, a7, a8, a9, a10⟩ := one h1 h3
  obtain ⟨z2, z4, w2, f2, b1, b2, b3, b4, b5, b6, b7, b8, b9, b10⟩ := one h2 h4
  refine ⟨((decide (w1 < 0), dg w1.natAbs, f1), (decide (w2 < 0), dg w2.natAbs, f2)), a10, b10, ?_⟩
  intro P gl C
  exact spanPlus_fs C (by rw [a2]) a1 (by rw [b2]) b1 (by rw [a4]) a3 (by rw [b4]) b3 a5 b5 rfl rfl rfl rfl a6 b6 a7 b7 a8 b8 a9 b9

theorem ivPlus_ex {vs ws : List Cell6} {n m : Int} (hva : allV vs) (hwa : allV ws) (hl : ws.length = vs.length) (hvl : vs.length ≤ 10000 := by omega) :
    ∃ xs, xs.length = vs.length ∧ XV (fun k => dvA vs k + dvA ws k) (fun k => dvB vs k + dvB ws k) 3102 3000 xs ∧
      ∀ (P : Program) (gl : List (Nat × Obj)) (p q r : List PV), Cx P gl → p = cells6 vs → q = cells6 ws → r = cells6 xs → FS P gl 69 [.agg [I n, .lst p], .agg [I m, .lst q]] (· = .agg [I n, .lst r]) := by
  obtain ⟨Y, hY⟩ := pickV6 (n := vs.length) (fun k hk => xSpanPlus (allV_XV hva k hk).1 (allV_XV hva k hk).2 (allV_XV hwa k (by omega)).1 (allV_XV hwa k (by omega)).2 (by omega) (by omega))
  refine ⟨listV Y vs.length, listV_len _ _, listV_XV (fun k hk => ⟨(hY k hk).1, (hY k hk).2.1⟩), ?_⟩
  intro P gl p q r C hp hq hr
  exact fieldPlus_fs C hp hq hr hvl hl (fun k hk P' C' => (hY k hk).2.2 P' gl C')

/-- an end of an interval in form -/
theorem endV {vs : List Cell6} (hva : allV vs) {k : Nat} (hk : k < vs.length) : vs.getD k noV = (canY (dvA vs k), canY (dvB vs k)) := allV_can hva hk

theorem l7addV {gl : List (Nat × Obj)} {vs ws : List Cell6} {P : Program} (C : Cx P gl) (hva : allV vs) (hwa : allV ws) {k : Nat} (hk : k < vs.length) (hk2 : k < ws.length) :
    FS P gl 119 [cell6 (vs.getD k noV), cell6 (ws.getD k noV)] (· = cell6 (canY (dvA vs k + dvA ws k), canY (dvB vs k + dvB ws k))) := by
  have f1 := allV_fits hva hk
  have f2 := allV_fits hwa hk2
  rw [endV hva hk, endV hwa hk2]
  obtain ⟨⟨a1, a2, a3⟩, a4, a5, a6⟩ := f1
  obtain ⟨⟨b1, b2, b3⟩, b4, b5, b6⟩ := f2
  exact l7add_fs C (y1 := cZ (dvA vs k)) (y2 := cZ (dvB vs k)) (y3 := cZ (dvA ws k)) (y4 := cZ (dvB ws k)) rfl rfl rfl rfl rfl rfl rfl rfl (by rw [show (canY (dvA vs k), canY (dvB vs k)).1.2.2 = cE (dvA vs k) from rfl, show (canY (dvA ws k), canY (dvB ws k)).1.2.2 = cE (dvA ws k) from rfl, mk_canon, mk_canon])
    (by rw [show (canY (dvA vs k), canY (dvB vs k)).2.2.2 = cE (dvB vs k) from rfl, show (canY (dvA ws k), canY (dvB ws k)).2.2.2 = cE (dvB ws k) from rfl, mk_canon, mk_canon]) rfl rfl rfl rfl rfl rfl
    (by show (cE (dvA vs k)).natAbs ≤ _; omega) (by show (cE (dvB vs k)).natAbs ≤ _; omega) (by show (cE (dvA ws k)).natAbs ≤ _; omega) (by show (cE (dvB ws k)).natAbs ≤ _; omega) (by omega) (by omega) (by omega) (by omega)

theorem vsum_len {a b a' b' : Nat → Dyadic} {vs ws : List Cell6} (h1 : XV a b 100 3000 vs) (h2 : XV a' b' 100 3000 ws) {k : Nat} (hk : k < vs.length) (hk2 : k < ws.length) : (dg (cZ (a k + a' k)).natAbs).length ≤ 100000 := by
  obtain ⟨y, hy⟩ := X_plus (h1 k hk).1 (h2 k hk2).1
  have := X_can hy
  omega

theorem vsum_len2 {a b a' b' : Nat → Dyadic} {vs ws : List Cell6} (h1 : XV a b 100 3000 vs) (h2 : XV a' b' 100 3000 ws) {k : Nat} (hk : k < vs.length) (hk2 : k < ws.length) : (dg (cZ (b k + b' k)).natAbs).length ≤ 100000 := by
  obtain ⟨y, hy⟩ := X_plus (h1 k hk).2 (h2 k hk2).2
  have := X_can hy
  omega

theorem dval_nonneg {s : Bool} {l : List Int} {e : Int} (h : dyOk s l e) (hs : s = false) : 0 ≤ dval s l e := by
  obtain ⟨⟨x1, _, _⟩, _⟩ := dyOk_val h
  rw [ge0_iff]
  rw [hs] at x1
  have := of_decide_eq_false x1.symm
  rw [hs]; omega

set_option maxHeartbeats 1000000 in
set_option maxRecDepth 100000 in
theorem fat1_fs (C : Cx P gl) {s1 s2 sb u v : Bool} {p1 p2 pb r x : List PV} {e1 e2 eb g h : Int}
    (h1 : ∀ P', Cx P' gl → FS P' gl 127 [.agg [B s1, .lst p1, I e1], .agg [B sb, .lst pb, I eb]] (· = .agg [B u, .lst r, I g])) (h2 : ∀ P', Cx P' gl → FS P' gl 128 [.agg [B s2, .lst p2, I e2], .agg [B sb, .lst pb, I eb]] (· = .agg [B v, .lst x, I h])) :
    FS P gl 143 [.agg [B s1, .lst p1, I e1, B s2, .lst p2, I e2], .ptr [B sb, .lst pb, I eb] 0] (· = .agg [B u, .lst r, I g, B v, .lst x, I h]) := by
  obtain ⟨rfl, hG⟩ := C
  refine FS_ofT (args := fun A => [.agg [B s1, .lst p1, I e1, B s2, .lst p2, I e2], .ptr [B sb, .lst pb, I eb] 0]) (R := fun A rr => rr = .agg [B u, .lst r, I g, B v, .lst x, I h]) Tryz.hT Tryz.mix Tryz.func143 rfl rfl (Nat.le_of_ble_eq_true rfl) ?_
  generalize hP : Tryz.prog = P
  intro A hA
  have C : Tryz.Cx P gl := ⟨hP.symm, hG⟩
  have hI : intsL = A.ints := by subst hA; rfl
  iterate 2 (all_goals try cbv; all_goals repeat' (first | with_reducible exact True.intro | with_reducible refine And.intro ?_ ?_ | intro _))
  all_goals try exact oI
  first | (refine callS hA rfl (h1 P C) ?_; rintro _ rfl) | refine ⟨_, h1 P C, ?_⟩
  iterate 2 (all_goals try cbv; all_goals repeat' (first | with_reducible exact True.intro | with_reducible refine And.intro ?_ ?_ | intro _))
  all_goals try exact oI
  first | (refine callS hA rfl (h2 P C) ?_; rintro _ rfl) | refine ⟨_, h2 P C, ?_⟩
  iterate 2 (all_goals try cbv; all_goals repeat' (first | with_reducible exact True.intro | with_reducible refine And.intro ?_ ?_ | intro _))
  all_goals try exact oI

set_option maxHeartbeats 1000000 in
set_option maxRecDepth 100000 in
theorem fat_fs (C : Cx P gl) {sb : Bool} {p pb r : List PV} {n eb : Int} (h : ∀ P', Cx P' gl → FS P' gl 142 [.agg [I n, .lst p], .fn 143 [.ptr [B sb, .lst pb, I eb] 0]] (· = .agg [I n, .lst r])) :
    FS P gl 89 [.agg [I n, .lst p], .agg [B sb, .lst pb, I eb]] (· = .agg [I n, .lst r]) := by
  obtain ⟨rfl, hG⟩ := C
  refine FS_ofT (args := fun A => [.agg [I n, .lst p], .agg [B sb, .lst pb, I eb]]) (R := fun A rr => rr = .agg [I n, .lst r]) Tryz.hT Tryz.mix Tryz.func89 rfl rfl (Nat.le_of_ble_eq_true rfl) ?_
  generalize hP : Tryz.prog = P
  intro A hA
  have C : Tryz.Cx P gl := ⟨hP.symm, hG⟩
  have hI : intsL = A.ints := by subst hA; rfl
  iterate 2 (all_goals try cbv; all_goals repeat' (first | with_reducible exact True.intro | with_reducible refine And.intro ?_ ?_ | intro _))
  all_goals try exact oI
  first | (refine callS hA rfl (h P C) ?_; rintro _ rfl) | refine ⟨_, h P C, ?_⟩
  iterate 2 (all_goals try cbv; all_goals repeat' (first | with_reducible exact True.intro | with_reducible refine And.intro ?_ ?_ | intro _))
  all_goals try exact oI

/-- an interval made wider -/
theorem xFat {a : Cell6} {b : Cell3} {d1 d2 d3 : Dyadic} {L E : Nat} (h1 : X d1 L E a.1) (h2 : X d2 L E a.2) (h3 : X d3 L E b) (hL : L ≤ 1000000) (hE : E ≤ 100000) :
    ∃ y : Cell6, X (d1 - d3) (L + E + 2) E y.1 ∧ X (d2 + d3) (L + E + 2) E y.2 ∧ ∀ (P : Program) (gl : List (Nat × Obj)) (pb : List PV), Cx P gl → pb = intsL b.2.1 → FS P gl 143 [cell6 a, .ptr [B b.1, .lst pb, I b.2.2] 0] (· = cell6 y) := by
  obtain ⟨z1, a1, a2, a3, a4, a5⟩ := h1
  obtain ⟨z2, b1, b2, b3, b4, b5⟩ := h2
  obtain ⟨z3, c1, c2, c3, c4, c5⟩ := h3
  obtain ⟨w1, f1, hd1⟩ := sumD_ex z1 a.1.2.2 (-z3) b.2.2
  obtain ⟨w2, f2, hd2⟩ := sumD_ex z2 a.2.2.2 z3 b.2.2
  have l1 : (dg w1.natAbs).length ≤ L + E + 2 ∧ f1.natAbs ≤ E := by
    obtain ⟨x, y, ha, rfl⟩ := hd1
    obtain ⟨k2, k1, k3⟩ := align_len ha (by rw [Int.natAbs_neg]; exact c4) a4 c5 a5
    exact ⟨by have := Go.Pe.dg_len_add k1 k2; omega, k3⟩
  have l2 : (dg w2.natAbs).length ≤ L + E + 2 ∧ f2.natAbs ≤ E := by
    obtain ⟨x, y, ha, rfl⟩ := hd2
    obtain ⟨k2, k1, k3⟩ := align_len ha c4 b4 c5 b5
    exact ⟨by have := Go.Pe.dg_len_add k1 k2; omega, k3⟩
  refine ⟨((decide (w1 < 0), dg w1.natAbs, f1), (decide (w2 < 0), dg w2.natAbs, f2)), ⟨w1, rfl, rfl, by rw [sumD_mk hd1, a3, c3, ← mk_neg]; exact sub_eqV _ _, l1.1, l1.2⟩, ⟨w2, rfl, rfl, by rw [sumD_mk hd2, b3, c3], l2.1, l2.2⟩, ?_⟩
  intro P gl pb C hpb
  exact fat1_fs C (fun P' C' => exactMinus_fs C' (by rw [a2]) a1 (by rw [hpb, c2]) c1 hd1 rfl rfl (by omega) (by omega) (by omega) (by omega)) (fun P' C' => exactPlus_fs C' (by rw [b2]) b1 (by rw [hpb, c2]) c1 hd2 rfl rfl (by omega) (by omega) (by omega) (by omega))

theorem ivFat_ex {vs : List Cell6} {n : Int} {sb : Bool} {lb : List Int} {eb : Int} (hva : allV vs) (hok : dyOk sb lb eb) (hvl : vs.length ≤ 16) :
    ∃ xs, xs.length = vs.length ∧ XV (fun k => dvA vs k - dval sb lb eb) (fun k => dvB vs k + dval sb lb eb) 3102 3000 xs ∧
      ∀ (P : Program) (gl : List (Nat × Obj)) (p pb r : List PV), Cx P gl → p = cells6 vs → pb = intsL lb → r = cells6 xs → FS P gl 89 [.agg [I n, .lst p], .agg [B sb, .lst pb, I eb]] (· = .agg [I n, .lst r]) := by
  obtain ⟨Y, hY⟩ := pickV6 (n := vs.length) (fun k hk => xFat (allV_XV hva k hk).1 (allV_XV hva k hk).2 (X_ok (y := (sb, lb, eb)) hok) (by omega) (by omega))
  refine ⟨listV Y vs.length, listV_len _ _, listV_XV (fun k hk => ⟨(hY k hk).1, (hY k hk).2.1⟩), ?_⟩
  intro P gl p pb r C hp hpb hr
  exact fat_fs C (fun P' C' => each1_fs C' hp hr (by omega) (fun k hk P2 C2 => (hY k hk).2.2 P2 gl pb C2 hpb))

theorem l4negV {gl : List (Nat × Obj)} {lb : List Int} {pb : List PV} {sb : Bool} {eb : Int} (hpb : pb = intsL lb) (hok : dyOk sb lb eb) :
    ∀ P', Cx P' gl → FS P' gl 125 [.agg [B sb, .lst pb, I eb]] (· = .agg [B (decide (0 < cZ (dval sb lb eb))), .lst pb, I eb]) := by
  intro P' C'
  obtain ⟨⟨x1, x2, x3⟩, x4, _, _⟩ := dyOk_val hok
  exact l4neg_fs C' (z := cZ (dval sb lb eb)) (by rw [hpb, ← x2]) x1 rfl (by omega)

theorem l4fatV {gl : List (Nat × Obj)} {vs : List Cell6} {lb : List Int} {pb : List PV} {sb : Bool} {eb : Int} (hva : allV vs) (hpb : pb = intsL lb) (hok : dyOk sb lb eb) {k : Nat} (hk : k < vs.length) :
    (∀ P', Cx P' gl → FS P' gl 124 [cell3 (vs.getD k noV).1, .agg [B (decide (0 < cZ (dval sb lb eb))), .lst pb, I eb]] (· = cell3 (canY (dvA vs k - dval sb lb eb), canY (dvB vs k + dval sb lb eb)).1)) ∧
    (∀ P', Cx P' gl → FS P' gl 124 [cell3 (vs.getD k noV).2, .agg [B sb, .lst pb, I eb]] (· = cell3 (canY (dvA vs k - dval sb lb eb), canY (dvB vs k + dval sb lb eb)).2)) := by
  obtain ⟨⟨x1, x2, x3⟩, x4, x5, x6⟩ := dyOk_val hok
  obtain ⟨⟨a1, a2, a3⟩, a4, a5, a6⟩ := allV_fits hva hk
  obtain ⟨D, hD⟩ : ∃ D, D = dval sb lb eb := ⟨_, rfl⟩
  rw [← hD] at x1 x2 x3 x4 x5 x6 ⊢
  rw [endV hva hk]
  refine ⟨fun P' C' => ?_, fun P' C' => ?_⟩
  · exact l4add_fs C' (z1 := cZ (dvA vs k)) (z2 := -cZ D) (e1 := cE (dvA vs k)) (e2 := eb) rfl rfl (by rw [Int.natAbs_neg, hpb, ← x2]) (by rw [decide_eq_decide]; omega) (by rw [mk_canon, x3, ← mk_neg, mk_canon]; exact sub_eqV _ _) rfl rfl rfl (by omega) (by omega) (by omega) (by rw [Int.natAbs_neg]; omega)
  · exact l4add_fs C' (z1 := cZ (dvB vs k)) (z2 := cZ D) (e1 := cE (dvB vs k)) (e2 := eb) rfl rfl (by rw [hpb, ← x2]) x1 (by rw [mk_canon, x3, mk_canon]) rfl rfl rfl (by omega) (by omega) (by omega) (by omega)

theorem vfat_len {vs : List Cell6} {lb : List Int} {sb : Bool} {eb : Int} (hva : allV vs) (hok : dyOk sb lb eb) {k : Nat} (hk : k < vs.length) :
    (dg (cZ (dvA vs k - dval sb lb eb)).natAbs).length ≤ 100000 ∧ (dg (cZ (dvB vs k + dval sb lb eb)).natAbs).length ≤ 100000 := by
  obtain ⟨y, h1, h2, _⟩ := xFat (allV_XV hva k hk).1 (allV_XV hva k hk).2 (X_ok (y := (sb, lb, eb)) hok) (by omega) (by omega)
  have c1 := X_can h1
  have c2 := X_can h2
  have e : dval (sb, lb, eb).1 (sb, lb, eb).2.1 (sb, lb, eb).2.2 = dval sb lb eb := rfl
  rw [e] at c1 c2
  omega

end Tryz
end Go.Proofs
