/- FlSqrt: both sides answer alike. -/
import Derived.Test.YtcbagjglchpagaaDoorFK13
import Derived.Test.YtcbagjglchpagaaDoorFK11
import Derived.Test.YtcbagjglchpagaaDoorFK12
import Derived.Test.YtcbagjglchpagaaDoorFM61
import Derived.Test.YtcbagjglchpagaaDoorFM62
import Derived.Test.YtcbagjglchpagaaDoorFPeTq
namespace Go.Proofs
open Go Go.Pe Go.Dg
namespace Tryd
set_option linter.unusedSimpArgs false
set_option linter.unusedVariables false
variable {P : Program} {gl : List (Nat × Obj)}

theorem flSqrt_both {k1 m1 e1 mode : Int} {s1 : Bool} :
    ∃ (k m e fl : Int) (s : Bool), (∀ (P' : Program) (C' : Cx P' gl), FS P' gl 7 [.agg [I k1, B s1, I m1, I e1], I mode] (· = .tup [.agg [I k, B s, I m, I e], I fl])) ∧
      (∀ (P' : Program) (C' : Cx P' gl), FS P' gl 9 [.agg [I k1, B s1, I m1, I e1], I mode] (· = .tup [.agg [I k, B s, I m, I e], I fl])) := by
  obtain ⟨b1, hb1⟩ := bool_of (flOk k1 s1 m1 e1)
  obtain ⟨b2, hb2⟩ : ∃ b, b = (decide (0 ≤ mode) && decide (mode ≤ 4)) := ⟨_, rfl⟩
  obtain ⟨ok, hk⟩ : ∃ b, b = (b1 && b2) := ⟨_, rfl⟩
  obtain ⟨c1, hc1⟩ : ∃ c, c = (decide (k1 = 3) || decide (k1 = 0)) := ⟨_, rfl⟩
  have hok : ok = true ↔ flOk k1 s1 m1 e1 ∧ 0 ≤ mode ∧ mode ≤ 4 := by
    rw [hk, Bool.and_eq_true, hb1, hb2, Bool.and_eq_true, decide_eq_true_eq, decide_eq_true_eq]
  have okS := fun (P' : Program) (C' : Cx P' gl) => specFlOk_fs C' hb1
  have mdS := fun (P' : Program) (C' : Cx P' gl) => l4mode_fs C' hb2
  have okI := fun (P' : Program) (C' : Cx P' gl) => areFloats_fs C' (ys := [(k1, s1, m1, e1)]) (p := [.agg [I k1, B s1, I m1, I e1]]) (n := mode) (b := ok) rfl
    (by rw [hok]; unfold allF okF; simp only [List.mem_cons, List.not_mem_nil, or_false, forall_eq]; exact ⟨fun ⟨x, y⟩ => ⟨y, x⟩, fun ⟨x, y⟩ => ⟨y, x⟩⟩) (by show 1 ≤ 2000000; decide)
  have mkC : ∀ (k m e fl : Int) (s : Bool) (h1 : ok = false → k = 3 ∧ s = false ∧ m = 0 ∧ e = 0 ∧ fl = 16) (h2 : ok = true → c1 = true → k = k1 ∧ s = s1 ∧ m = m1 ∧ e = e1 ∧ fl = 0) (h3 : ok = true → c1 = false → s1 = true → k = 3 ∧ s = false ∧ m = 0 ∧ e = 0 ∧ fl = 16)
      (h4 : ok = true → c1 = false → s1 = false → k1 = 2 → k = k1 ∧ s = s1 ∧ m = m1 ∧ e = e1 ∧ fl = 0) (h7 : ¬(ok = true ∧ c1 = false ∧ s1 = false ∧ k1 ≠ 2)),
      (∀ (P' : Program) (C' : Cx P' gl), FS P' gl 7 [.agg [I k1, B s1, I m1, I e1], I mode] (· = .tup [.agg [I k, B s, I m, I e], I fl])) ∧
      (∀ (P' : Program) (C' : Cx P' gl), FS P' gl 9 [.agg [I k1, B s1, I m1, I e1], I mode] (· = .tup [.agg [I k, B s, I m, I e], I fl])) := by
    intro k m e fl s h1 h2 h3 h4 h7
    constructor
    · intro P' C'
      exact specFlSqrt_walk C' (T2 := 0) (T1 := 0) (lw := 0) (ea := 0) (g := 0) (u1 := false) (u := false) (p1 := []) (p := []) okS mdS hk hc1 h1 h2 h3 h4 (fun a b c d => absurd ⟨a, b, c, d⟩ h7)
    · intro P' C'
      exact implFlSqrt_walk C' (lw := 0) (g := 0) (u := false) (p := []) (T1 := 0) (T2 := 0) (ea := 0) (u1 := false) (p1 := []) okI hc1 h1 h2 h3 h4 (fun a b c d => absurd ⟨a, b, c, d⟩ h7)
  by_cases o' : ok = false
  · have o : ¬ok = true := by rw [o']; decide
    exact ⟨3, 0, 0, 16, false, mkC 3 0 0 16 false (fun _ => ⟨rfl, rfl, rfl, rfl, rfl⟩) (fun h => absurd h o) (fun h => absurd h o) (fun h => absurd h o) (fun h => o h.1)⟩
  have o : ok = true := by cases ok <;> first | rfl | exact absurd rfl o'
  have no : ok = false → False := fun h => by rw [o] at h; exact absurd h (by decide)
  by_cases g1 : c1 = true
  · exact ⟨k1, m1, e1, 0, s1, mkC k1 m1 e1 0 s1 (fun h => (no h).elim) (fun _ _ => ⟨rfl, rfl, rfl, rfl, rfl⟩) (fun _ h => absurd (h.symm.trans g1) (by decide)) (fun _ h => absurd (h.symm.trans g1) (by decide)) (fun h => absurd (h.2.1.symm.trans g1) (by decide))⟩
  by_cases g2 : s1 = true
  · exact ⟨3, 0, 0, 16, false, mkC 3 0 0 16 false (fun h => (no h).elim) (fun _ h => absurd h g1) (fun _ _ _ => ⟨rfl, rfl, rfl, rfl, rfl⟩) (fun _ _ h => absurd (h.symm.trans g2) (by decide)) (fun h => absurd (h.2.2.1.symm.trans g2) (by decide))⟩
  by_cases g3 : k1 = 2
  · exact ⟨k1, m1, e1, 0, s1, mkC k1 m1 e1 0 s1 (fun h => (no h).elim) (fun _ h => absurd h g1) (fun _ _ h => absurd h g2) (fun _ _ _ _ => ⟨rfl, rfl, rfl, rfl, rfl⟩) (fun h => h.2.2.2 g3)⟩
  clear mkC
  have hs1 : s1 = false := by cases s1 <;> first | rfl | exact absurd rfl g2
  obtain ⟨o1, hm0, hm1⟩ := hok.1 o
  have n1 : k1 ≠ 3 ∧ k1 ≠ 0 := by
    rw [hc1, Bool.or_eq_true, decide_eq_true_iff, decide_eq_true_iff] at g1; omega
  have q1 : k1 = 1 ∧ -1074 ≤ e1 ∧ e1 ≤ 971 ∧ 1 ≤ m1 ∧ m1 ≤ 9007199254740991 := by unfold flOk at o1; omega
  obtain ⟨rfl, x1, x2, x3, x4⟩ := q1
  obtain ⟨na, za, a, a1, a2, a3, a4, a5, a6, a7, a8, a9, a10, a11, a12, a13, a14, a15, a16, a17, a18⟩ := flNum (s := s1) x3 x4 x1 x2
  have ha0 : 0 ≤ cZ a := by
    rw [hs1, decide_eq_false_iff_not] at a10; omega
  obtain ⟨hh, hhe⟩ : ∃ h, h = (topD a).tdiv 2 := ⟨_, rfl⟩
  have h2 := tdiv_two (topD a)
  rw [← hhe] at h2
  obtain ⟨lw, hlw⟩ : ∃ t, t = hh - 57 := ⟨_, rfl⟩
  obtain ⟨T, hT⟩ : ∃ T, T = (topD a + 1) / 2 := ⟨_, rfl⟩
  obtain ⟨L, hL⟩ : ∃ L, L = max (T - 53) (-1074) := ⟨_, rfl⟩
  have hta := topD_ne a9
  have hkk : 0 ≤ cE a - 2 * (lw - 2) := by omega
  have hlT : lw ≤ T - 2 := by omega
  have hlL : lw ≤ L := by omega
  have hqT := sqrt_top a9 ha0 hkk hT hlT
  obtain ⟨r1, hq0, r2⟩ := sqrt_law2 mode hlL a9 ha0 hkk
  obtain ⟨q, hq⟩ : ∃ q, q = sqrtD a lw := ⟨_, rfl⟩
  rw [← hq] at hqT r1 hq0 r2
  obtain ⟨n, hn⟩ : ∃ n, n = na * 2 ^ (e1 - 2 * L).toNat := ⟨_, rfl⟩
  obtain ⟨n', hn'⟩ : ∃ n', n' = (cZ a).natAbs * 2 ^ (cE a - 2 * L).toNat := ⟨_, rfl⟩
  obtain ⟨sh, hsh⟩ : ∃ s, s = (-(e1 - 2 * L)).toNat := ⟨_, rfl⟩
  obtain ⟨sh', hsh'⟩ : ∃ s, s = (-(cE a - 2 * L)).toNat := ⟨_, rfl⟩
  obtain ⟨f1, f2, f3⟩ := rt_form (m := mode) (root_form (z := za) (e := e1) (L := L) (n := n) (n' := n') (s := sh) (s' := sh') a5 (by rw [hn, a6]) hsh (by rw [← a8]; exact hn') (by rw [← a8]; exact hsh'))
  obtain ⟨r, hr⟩ : ∃ r, r = rtN (n / 2 ^ sh) := ⟨_, rfl⟩
  obtain ⟨t, ht⟩ : ∃ t, t = rrt n sh r mode := ⟨_, rfl⟩
  have hx : roundD q L mode = mk ((t : Nat) : Int) L := by
    rw [r1, rootD, ← hn', ← hsh', ← f1, ← f2, ← hr, ← ht]
  have hqE : lw - 3 ≤ cE q ∧ 0 < cZ q := by
    have h := hq
    unfold sqrtD at h
    rw [if_neg a9] at h
    obtain ⟨w, hw⟩ : ∃ w : Nat, w = 2 * rtN (sqN a lw) + sqS a lw := ⟨_, rfl⟩
    rw [← hw] at h
    have hw0 : (w : Int) ≠ 0 := by
      intro h'
      rw [h', mk_zero] at h
      exact hq0 h
    obtain ⟨t', k', htk⟩ := odd_ex ((w : Int)).natAbs (by omega)
    obtain ⟨c1, c2, c3⟩ := make_law (e := lw - 3) htk
    rw [← h] at c2 c3
    have hz := cZ_odd hq0
    have hn : ¬ cZ q < 0 := by
      intro g
      rw [decide_eq_true g, eq_comm, decide_eq_true_iff] at c3
      omega
    refine ⟨by omega, ?_⟩
    omega
  have hqn := topD_ne hq0
  have hq1 : 1 ≤ bl (cZ q).natAbs := by
    have h1 := cZ_odd hq0
    have := bl_le 0 (cZ q).natAbs
    rw [Nat.pow_zero] at this
    omega
  have hlq : (dg (cZ q).natAbs).length ≤ 5 := dg_len_le 5 _ (Nat.lt_of_lt_of_le ((bl_le 80 _).1 (by omega)) (by decide))
  have hqs : false = decide (cZ q < 0) := by rw [eq_comm, decide_eq_false_iff_not]; omega
  obtain ⟨same, hsame⟩ : ∃ s, s = decide (q = 0 ∨ L ≤ cE q) := ⟨_, rfl⟩
  have hsm : same = decide (r * r * 2 ^ sh = n) := by
    rw [hsame, decide_eq_decide, f3, hr, f1, hn', hsh', ← r2]
    exact ⟨fun h => h.resolve_left hq0, .inr⟩
  obtain ⟨k, u, m, e, fl, hf⟩ := flR_ex false same T mode (roundD q L mode)
  obtain ⟨b1', b2'⟩ := round_bits (d := q) (L := L) (m := mode) hq0 (by rw [hL, hqT])
  obtain ⟨pa, hpa⟩ : ∃ p, p = intsL (dg (cZ a).natAbs) := ⟨_, rfl⟩
  obtain ⟨pq, hpq⟩ : ∃ p, p = intsL (dg (cZ q).natAbs) := ⟨_, rfl⟩
  have hlt : (dg t).length ≤ 900 := by
    have hnl := len_up na (e1 - 2 * L).toNat
    rw [← hn] at hnl
    have h1 : t ≤ n + 1 := by
      have h2 := rrt_le n sh r mode
      have h3 := rtN_le (n / 2 ^ sh)
      have h4 := Nat.div_le_self n (2 ^ sh)
      rw [← ht] at h2
      rw [← hr] at h3
      omega
    have h5 := dg_len_mono h1
    have h6 := Go.Pe.dg_len_add (x := (n : Int)) (y := 1) (K := 800) (by rw [Int.natAbs_natCast]; omega) (by show (dg 1).length ≤ _; have l1 : (dg 1).length ≤ 100 := dg_len 1 (by decide); omega)
    rw [show ((n : Int) + 1).natAbs = n + 1 by omega] at h6
    omega
  refine ⟨k, m, e, fl, false, fun P' C' => ?_, fun P' C' => ?_⟩
  · refine specFlSqrt_walk C' (T2 := 0) (T1 := topD a) (lw := lw) (ea := cE a) (g := cE q) (u1 := decide (cZ a < 0)) (u := false) (p1 := pa) (p := pq) okS mdS hk hc1
      (fun h => (no h).elim) (fun _ h => absurd h g1) (fun _ _ h => absurd h g2) (fun _ _ _ h => absurd h g3) (fun _ _ _ _ => ⟨?_, ?_, ?_, ?_, ?_⟩)
    · exact fun P' C' => l5dy_fs C' a1 a4 a2 a8 hpa rfl rfl (by omega) a3
    · exact fun P' C' => l4top_fs C' (z := cZ a) hpa (by rw [mk_canon]) (by omega) (by omega)
    · exact fun P' C' => l4sqrt_fs C' (d := a) (d' := q) ha0 rfl hpa rfl hq hqs hpq rfl (by omega) (by omega) (by omega)
    · exact fun P' C' => l5roundR_fs C' (d := q) hq0 hqs hpq rfl hqT.symm hL rfl hsame hf hm0 hm1 (by omega) (by omega) (by omega)
    · intro A hA
      subst hA
      have w1 : AR.std.quo .i64 (topD a) 2 = hh := by rw [hhe]; exact wrapi (by rw [← hhe]; omega) (by rw [← hhe]; omega)
      have w2 : AR.std.sub .i64 hh 53 = hh - 53 := wrapi (by omega) (by omega)
      have w3 : AR.std.sub .i64 (hh - 53) 4 = hh - 53 - 4 := wrapi (by omega) (by omega)
      rw [w1, w2, w3]; omega
  · refine implFlSqrt_walk C' (lw := 0) (g := 0) (u := false) (p := []) (T1 := topD a) (T2 := T) (ea := e1) (u1 := s1) (p1 := intsL (dg na)) okI hc1
      (fun h => (no h).elim) (fun _ h => absurd h g1) (fun _ _ h => absurd h g2) (fun _ _ _ h => absurd h g3) (fun _ _ _ _ => ⟨?_, ?_, ?_, ?_⟩)
    · exact fun P' C' => flExact_fs C' (z := 0) a1 rfl a2
    · exact fun P' C' => exactTop_fs C' (z := za) (by rw [a6]) (by rw [a8]) (by omega) (by rw [a6]; omega)
    · intro P' C'
      have q1 := fun (P' : Program) (C' : Cx P' gl) => sqrt1_fs C' (a := na) (n := n) (r := r) (t := t) (e := e1) (low := L) (m := mode) (s := s1) (ex := same) (p := intsL (dg na)) (q := intsL (dg t)) rfl (by omega) (by omega) (by omega) hn (by rw [← hsh]; exact hr) (by rw [← hsh]; exact ht) rfl (by rw [← hsh]; exact hsm)
      rw [hx] at hf b1' b2'
      exact floatOfR2_fs C' (z := ((t : Nat) : Int)) (x := mk ((t : Nat) : Int) L) (L := L) (T := T) (by omega) hL q1 (by rw [Int.natAbs_natCast]) (by rw [eq_comm, decide_eq_false_iff_not]; omega) rfl b1' (fun h => by have := b2' h; omega) (by rw [Int.natAbs_natCast]; omega) hf
    · intro A hA
      subst hA
      have w1 : AR.std.add .i64 (topD a) 1 = topD a + 1 := wrapi (by omega) (by omega)
      rw [w1, shr16 (by decide) (by decide), hT]
      rfl

end Tryd
end Go.Proofs
